/- THE ENGINE, 37: a run with fuel is a run without; functions by a table of answers. -/
import Derived.Test.YtoagnbpmoihojaaDoorSxLim
set_option linter.unusedSimpArgs false
set_option linter.unusedVariables false
namespace Go.Sx
variable {R : Type} {S : Sys}

theorem iter_loopL {room : Nat} {b : List AV → AH → Option Out} {k : Nat} {s : List AV} {H : AH} {o : Out} (h : iter room b k s H = some o) : loopL room b s H = some o := by
  obtain ⟨n0, hn⟩ := iter_tends (room := room) (bn := fun _ => b) (b := b) (fun s H o h => Evt.of fun _ => h) k s H o h
  exact limE_of ⟨k, fun n hk => hn n0 (Nat.le_refl _) n hk⟩

theorem iter_mono {room : Nat} {b b' : List AV → AH → Option Out} (hb : ∀ s H o, b s H = some o → b' s H = some o) : ∀ (k : Nat) {s : List AV} {H : AH} {o : Out}, iter room b k s H = some o → iter room b' k s H = some o
  | 0, s, H, o, h => by simp [iter] at h
  | k + 1, s, H, o, h => by
    simp only [iter] at h ⊢
    cases hd : b s H with
    | none => rw [hd] at h; simp at h
    | some q =>
      rw [hd] at h
      rw [hb _ _ _ hd]
      obtain ⟨e, s1, H1⟩ := q
      cases e with
      | normal => exact iter_mono hb k h
      | exit i => exact h
      | ret => exact h

theorem stepD_mono {c c' : Caller} (h : c.le c') {all : Array Oper} {o : Oper} {s : List AV} {H : AH} {p : List AV × AH} (hr : stepD S c all o s H = some p) : stepD S c' all o s H = some p := by
  unfold stepD at hr ⊢
  split at hr
  · obtain ⟨q, h1, h2⟩ := optK_inv2 hr
    rw [opK_mono h h1]; exact h2
  · exact hr
  · simp at hr

theorem runD_mono {c c' : Caller} (h : c.le c') {all : Array Oper} : ∀ (l : List Oper) {s : List AV} {H : AH} {p : List AV × AH}, runD S c all l s H = some p → runD S c' all l s H = some p
  | [], s, H, p, hr => hr
  | o :: l, s, H, p, hr => by
    simp only [runD] at hr ⊢
    obtain ⟨q, h1, h2⟩ := optK_inv2 hr
    rw [stepD_mono h h1, optK_some]
    exact runD_mono h l h2

theorem stepB_mono {c c' : Caller} (h : c.le c') {bi : Nat → Option Nat} {all : Array Oper} {o : Oper} {s : List AV} {H : AH} {p : List AV × AH} (hr : stepB bi S c all o s H = some p) : stepB bi S c' all o s H = some p := by
  unfold stepB at hr ⊢
  split at hr
  · obtain ⟨q, h1, h2⟩ := optK_inv2 hr
    have : opB bi S c' s H o = some q := by
      unfold opB at h1 ⊢
      split at h1
      · exact h1
      · exact opK_mono h h1
    rw [this]; exact h2
  · exact hr
  · simp at hr

theorem runB_mono {c c' : Caller} (h : c.le c') {bi : Nat → Option Nat} {all : Array Oper} : ∀ (l : List Oper) {s : List AV} {H : AH} {p : List AV × AH}, runB bi S c all l s H = some p → runB bi S c' all l s H = some p
  | [], s, H, p, hr => hr
  | o :: l, s, H, p, hr => by
    simp only [runB] at hr ⊢
    obtain ⟨q, h1, h2⟩ := optK_inv2 hr
    rw [stepB_mono h h1, optK_some]
    exact runB_mono h l h2

theorem leaveK_mono {id : Nat} {s : List AV} {H : AH} {K K' : Ex → List AV → AH → Option R} (hK : ∀ e s H r, K e s H = some r → K' e s H = some r) {r : R} (h : leaveK id s H K = some r) : leaveK id s H K' = some r := by
  unfold leaveK at h ⊢
  split at h
  · split at h
    · exact hK _ _ _ _ h
    · exact hK _ _ _ _ h
    · exact hK _ _ _ _ h
    · simp at h
  · simp at h

theorem denK_mono {c c' : Caller} (h : c.le c') {room n : Nat} : ∀ (code : Code) {R : Type} {s : List AV} {H : AH} {K K' : Ex → List AV → AH → Option R} {r : R}, (∀ e s H r, K e s H = some r → K' e s H = some r) →
    denK S c (fun b => iter room b n) code s H K = some r → denK S c' (loopL room) code s H K' = some r
  | .skip, R, s, H, K, K', r, hK, hr => hK _ _ _ _ hr
  | .region id ops draw, R, s, H, K, K', r, hK, hr => by
    simp only [denK] at hr ⊢
    split at hr
    · rename_i hd
      split at hr
      · rename_i hd2
        obtain ⟨q, h1, h2⟩ := optK_inv2 hr
        rw [if_pos hd, if_pos hd2, runB_mono h _ h1]; exact hK _ _ _ _ h2
      · simp at hr
    · rename_i hd
      rw [opsK_run] at hr
      obtain ⟨q, h1, h2⟩ := optK_inv2 hr
      rw [if_neg hd, opsK_run, runD_mono h _ h1]; exact hK _ _ _ _ h2
  | .seq a b, R, s, H, K, K', r, hK, hr => by
    simp only [denK] at hr ⊢
    refine denK_mono h a ?_ hr
    intro e s H r h'
    cases e with
    | normal => exact denK_mono h b hK h'
    | exit i => exact hK _ _ _ _ h'
    | ret => exact hK _ _ _ _ h'
  | .cond x a b, R, s, H, K, K', r, hK, hr => by
    simp only [denK] at hr ⊢
    split at hr
    · rename_i t ht
      cases t with
      | true => exact denK_mono h a hK hr
      | false => exact denK_mono h b hK hr
    · simp at hr
  | .block id x, R, s, H, K, K', r, hK, hr => by
    simp only [denK] at hr ⊢
    refine denK_mono h x ?_ hr
    intro e s H r h'
    cases e with
    | normal => exact hK _ _ _ _ h'
    | exit i =>
      simp only at h' ⊢
      split at h'
      · rename_i hi
        rw [if_pos hi]; exact hK _ _ _ _ h'
      · rename_i hi
        rw [if_neg hi]; exact hK _ _ _ _ h'
    | ret => exact hK _ _ _ _ h'
  | .loop x, R, s, H, K, K', r, hK, hr => by
    simp only [denK] at hr ⊢
    obtain ⟨o, h1, h2⟩ := optK_inv2 hr
    have := iter_loopL (iter_mono (b' := fun s H => denK S c' (loopL room) x s H retO) (fun s H o ho => denK_mono h x (fun e s H r h => h) ho) n h1)
    rw [this]
    exact hK _ _ _ _ h2
  | .scope x, R, s, H, K, K', r, hK, hr => by
    simp only [denK] at hr ⊢
    exact denK_mono h x hK hr
  | .exit id, R, s, H, K, K', r, hK, hr => hK _ _ _ _ hr
  | .ret, R, s, H, K, K', r, hK, hr => hK _ _ _ _ hr
  | .label l, R, s, H, K, K', r, hK, hr => hK _ _ _ _ hr
  | .rangeFunc g ps x y, R, s, H, K, K', r, hK, hr => by
    simp only [denK, rangeK] at hr ⊢
    split at hr
    · obtain ⟨p, h1, h2⟩ := optK_inv2 hr
      rw [h.fn _ _ _ _ h1]
      exact leaveK_mono hK h2
    · simp at hr
  | .goto l, R, s, H, K, K', r, hK, hr => by simp [denK] at hr
  | .refuse w, R, s, H, K, K', r, hK, hr => by simp [denK] at hr

theorem runK_mono {c c' : Caller} (h : c.le c') {room n : Nat} {fn : Func} {args : List AV} {H : AH} {r : AV × AH} (hr : runK S c (fun b => iter room b n) fn args H = some r) : runK S c' (loopL room) fn args H = some r := by
  unfold runK at hr ⊢
  split at hr
  · simp at hr
  · exact denK_mono h _ (fun e s H r h => h) hr

theorem enter_mono {c c' : Caller} (h : c.le c') {room n : Nat} {f : FuncId} {args : List AV} {H : AH} {r : AV × AH} (hr : enterF S c (fun b => iter room b n) f args H = some r) : enterF S c' (loopL room) f args H = some r := by
  unfold enterF at hr ⊢
  split at hr
  · exact hr
  · split at hr
    · simp at hr
    · split at hr
      · rename_i hp
        obtain ⟨ts, h1, h2⟩ := optK_inv2 hr
        obtain ⟨p, h3, h4⟩ := optK_inv2 h2
        rw [if_pos hp, h1, optK_some, runK_mono h h3, optK_some]; exact h4
      · rename_i hp
        obtain ⟨p, h3, h4⟩ := optK_inv2 hr
        rw [if_neg hp, runK_mono h h3, optK_some]; exact h4

/-- What follows a round's first part. -/
def roundK (S : Sys) (call : Caller) (lp : Looper) (y : Code) (id : Nat) (H : AH) (e : Ex) (s1 : List AV) (H1 : AH) : Option (AV × AH) := match e with
  | .normal => match H1.objs[id]? with
    | some (.loop s' ps' x' y' .ready) => denK S call lp y s1 { H1 with objs := H1.objs.set id (.loop s' ps' x' y' .busy) } fun e _ H2 => optK (setLoop H2 id (exLeft e)) fun H3 => some (trunc H (.bool e.stays, H3))
    | _ => none
  | _ => none

theorem yieldF_eq (S : Sys) (call : Caller) (lp : Looper) (id : Nat) (args : List AV) (H : AH) : yieldF S call lp id args H = match H.objs[id]? with
    | some (.loop s ps x y .ready) => if args.length = ps.length ∧ plainC x = true ∧ plainC y = true then denK S call lp x ((ps.zip args).foldl (fun s p => s.set p.1 p.2) s) H (roundK S call lp y id H) else none
    | _ => none := by
  unfold yieldF
  rfl

theorem yield_tends {cn : Nat → Caller} {c : Caller} (h : Tends cn c) {room id : Nat} {args : List AV} {H : AH} {r : AV × AH} (hr : yieldF S c (loopL room) id args H = some r) : Evt fun n => yieldF S (cn n) (fun b => iter room b n) id args H = some r := by
  simp only [yieldF_eq] at hr ⊢
  split at hr
  · rename_i s ps x y hob
    split at hr
    · rename_i hc
      have := denK_tends (cn := cn) h (room := room) _ (Kn := fun n => roundK S (cn n) (fun b => iter room b n) y id H) (fun e s1 H1 r h' => by
          unfold roundK at h' ⊢
          cases e with
          | normal =>
            simp only at h' ⊢
            split at h'
            · exact denK_tends h _ (fun e s H r h => Evt.of fun _ => h) h'
            · simp at h'
          | exit i => simp at h'
          | ret => simp at h') hr
      exact this.mono fun n hn => by rw [if_pos hc]; exact hn
    · simp at hr
  · simp at hr

theorem yield_mono {c c' : Caller} (h : c.le c') {room n id : Nat} {args : List AV} {H : AH} {r : AV × AH} (hr : yieldF S c (fun b => iter room b n) id args H = some r) : yieldF S c' (loopL room) id args H = some r := by
  simp only [yieldF_eq] at hr ⊢
  split at hr
  · rename_i s ps x y hob
    split at hr
    · rename_i hc
      rw [if_pos hc]
      refine denK_mono h _ ?_ hr
      intro e s1 H1 r h'
      unfold roundK at h' ⊢
      cases e with
      | normal =>
        simp only at h' ⊢
        split at h'
        · exact denK_mono h _ (fun e s H r h => h) h'
        · simp at h'
      | exit i => simp at h'
      | ret => simp at h'
    · simp at hr
  · simp at hr

theorem callL_yield {id : Nat} {args : List AV} {H : AH} {r : AV × AH} (h : yieldF S (callL S) (loopL S.room) id args H = some r) : (callL S).yield id args H = some r :=
  limE_of (Evt.succ ((yield_tends callL_tends h).mono fun n hn => hn))

/-- A run with fuel is a run without. -/
theorem callF_le : ∀ n, (callF S n).le (callL S)
  | 0 => ⟨by intro f args H r h; simp [callF] at h, by intro id args H r h; simp [callF] at h⟩
  | n + 1 => ⟨fun f args H r h => callL_enter (enter_mono (callF_le n) h), fun id args H r h => callL_yield (yield_mono (callF_le n) h)⟩

/-- A table of answers: each is the program's. -/
abbrev Table (S : Sys) (c : Caller) : Prop := c.le (callL S)

theorem Table.tends {c : Caller} (h : Table S c) : Tends (callF S) c :=
  ⟨fun f args H r hr => limE_some (h.fn f args H r hr), fun id args H r hr => limE_some (h.yield id args H r hr)⟩

theorem callL_table {c : Caller} (h : Table S c) {f : FuncId} {args : List AV} {H : AH} {r : AV × AH} (hr : enterF S c (loopL S.room) f args H = some r) : callL S f args H = some r :=
  limE_of (Evt.succ ((enter_tends (Table.tends h) hr).mono fun n hn => hn))

/-- A function that is called with trees. -/
theorem callL_pure {c : Caller} (hc : Table S c) {f : FuncId} {fn : Func} {args ts : List AV} {H H' : AH} {v v' : AV} (hext : S.ext f = none) (hF : S.F f = some fn) (hp : S.isPure f = true)
    (hres : resolveL H args = some ts) (hrun : runK S c (loopL S.room) fn ts ⟨[], []⟩ = some (v, H')) (hout : pureOut args v = some v') : callL S f args H = some (v', H) := by
  refine callL_table hc ?_
  unfold enterF
  rw [hext]
  simp only [hF]
  rw [if_pos hp, hres, optK_some, hrun, optK_some, hout, optK_some]

/-- What is not its own function but the library's. -/
theorem callL_ext {f : FuncId} {g : List AV → Option AV} {args ts : List AV} {H : AH} {v v' : AV} (hext : S.ext f = some g) (hres : resolveL H args = some ts) (hg : g ts = some v) (hout : pureOut args v = some v') : callL S f args H = some (v', H) := by
  refine callL_enter ?_
  unfold enterF
  rw [hext]
  simp only
  rw [hres, optK_some, hg, optK_some, hout, optK_some]

end Go.Sx

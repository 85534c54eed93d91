/- THE ENGINE, 36: without fuel. -/
import Derived.Test.YtoagnbpmoihojaaDoorSxFast3
set_option linter.unusedSimpArgs false
set_option linter.unusedVariables false
namespace Go.Sx
variable {R : Type} {S : Sys}

/-- From some number on. -/
def Evt (p : Nat → Prop) : Prop := ∃ n0, ∀ n, n0 ≤ n → p n
theorem Evt.of {p : Nat → Prop} (h : ∀ n, p n) : Evt p := ⟨0, fun n _ => h n⟩
theorem Evt.mono {p q : Nat → Prop} (hp : Evt p) (h : ∀ n, p n → q n) : Evt q := ⟨hp.choose, fun n hn => h n (hp.choose_spec n hn)⟩
theorem Evt.and {p q : Nat → Prop} (hp : Evt p) (hq : Evt q) : Evt fun n => p n ∧ q n := by
  obtain ⟨a, ha⟩ := hp
  obtain ⟨b, hb⟩ := hq
  exact ⟨max a b, fun n hn => ⟨ha n (by omega), hb n (by omega)⟩⟩
theorem Evt.two {p q r : Nat → Prop} (hp : Evt p) (hq : Evt q) (h : ∀ n, p n → q n → r n) : Evt r := (hp.and hq).mono fun n h' => h n h'.1 h'.2

open Classical in
/-- The answer that a row of answers comes to. -/
noncomputable def limE {A : Type} (g : Nat → Option A) : Option A := if h : ∃ a, Evt fun n => g n = some a then some h.choose else none

theorem limE_some {A : Type} {g : Nat → Option A} {a : A} (h : limE g = some a) : Evt fun n => g n = some a := by
  unfold limE at h
  split at h
  · rename_i hx
    obtain rfl := Option.some.inj h
    exact hx.choose_spec
  · simp at h

theorem limE_of {A : Type} {g : Nat → Option A} {a : A} (h : Evt fun n => g n = some a) : limE g = some a := by
  have hx : ∃ a, Evt fun n => g n = some a := ⟨a, h⟩
  unfold limE
  rw [dif_pos hx]
  obtain ⟨n1, h1⟩ := hx.choose_spec
  obtain ⟨n2, h2⟩ := h
  have e1 : g (max n1 n2) = _ := h1 (max n1 n2) (by omega)
  have e2 : g (max n1 n2) = _ := h2 (max n1 n2) (by omega)
  rw [e1] at e2
  exact e2

noncomputable def loopL (room : Nat) : Looper := fun b s H => limE fun n => iter room b n s H
noncomputable def callL (S : Sys) : Caller := ⟨fun f args H => limE fun n => callF S n f args H, fun id args H => limE fun n => (callF S n).yield id args H⟩

structure Tends (cn : Nat → Caller) (c : Caller) : Prop where
  fn : ∀ f args H r, c f args H = some r → Evt fun n => cn n f args H = some r
  yield : ∀ id args H r, c.yield id args H = some r → Evt fun n => (cn n).yield id args H = some r

theorem callL_tends : Tends (callF S) (callL S) := ⟨fun f args H r h => limE_some h, fun id args H r h => limE_some h⟩

theorem callFn_tends {cn : Nat → Caller} {c : Caller} (h : Tends cn c) {f : AV} {args : List AV} {H : AH} {r : AV × AH} (hr : callFn c f args H pairK = some r) : Evt fun n => callFn (cn n) f args H pairK = some r := by
  unfold callFn at hr ⊢
  split at hr
  · obtain ⟨p, h1, h2⟩ := optK_inv2 hr
    exact (h.fn _ _ _ _ h1).mono fun n hn => by simp only [hn, optK_some]; exact h2
  · obtain ⟨p, h1, h2⟩ := optK_inv2 hr
    exact (h.yield _ _ _ _ h1).mono fun n hn => by simp only [hn, optK_some]; exact h2
  · simp at hr

theorem opK_tends {cn : Nat → Caller} {c : Caller} (h : Tends cn c) {s : List AV} {H : AH} {o : Oper} {r : AV × AH} (hr : opK S c s H o pairK = some r) : Evt fun n => opK S (cn n) s H o pairK = some r := by
  obtain ⟨dst, op, type, pos, after, guard⟩ := o
  unfold opK at hr ⊢
  cases op <;> try exact Evt.of fun _ => hr
  case makeMap t0 r0 => cases r0 <;> exact Evt.of fun _ => hr
  case call c0 =>
    simp only at hr ⊢
    split at hr
    · exact callFn_tends h hr
    · exact Evt.of fun _ => hr
    · simp at hr

theorem stepD_tends {cn : Nat → Caller} {c : Caller} (h : Tends cn c) {all : Array Oper} {o : Oper} {s : List AV} {H : AH} {p : List AV × AH} (hr : stepD S c all o s H = some p) : Evt fun n => stepD S (cn n) all o s H = some p := by
  unfold stepD at hr ⊢
  split at hr
  · obtain ⟨q, h1, h2⟩ := optK_inv2 hr
    exact (opK_tends h h1).mono fun n hn => by rw [hn]; exact h2
  · exact Evt.of fun _ => hr
  · simp at hr

theorem runD_tends {cn : Nat → Caller} {c : Caller} (h : Tends cn c) {all : Array Oper} : ∀ (l : List Oper) {s : List AV} {H : AH} {p : List AV × AH}, runD S c all l s H = some p → Evt fun n => runD S (cn n) all l s H = some p
  | [], s, H, p, hr => Evt.of fun _ => hr
  | o :: l, s, H, p, hr => by
    simp only [runD] at hr ⊢
    obtain ⟨q, h1, h2⟩ := optK_inv2 hr
    exact (stepD_tends h h1).two (runD_tends h l h2) fun n e1 e2 => by rw [e1]; exact e2

theorem opB_tends {cn : Nat → Caller} {c : Caller} (h : Tends cn c) {bi : Nat → Option Nat} {s : List AV} {H : AH} {o : Oper} {r : AV × AH} (hr : opB bi S c s H o = some r) : Evt fun n => opB bi S (cn n) s H o = some r := by
  unfold opB at hr ⊢
  split at hr
  · exact Evt.of fun _ => hr
  · exact opK_tends h hr

theorem stepB_tends {cn : Nat → Caller} {c : Caller} (h : Tends cn c) {bi : Nat → Option Nat} {all : Array Oper} {o : Oper} {s : List AV} {H : AH} {p : List AV × AH} (hr : stepB bi S c all o s H = some p) : Evt fun n => stepB bi S (cn n) all o s H = some p := by
  unfold stepB at hr ⊢
  split at hr
  · obtain ⟨q, h1, h2⟩ := optK_inv2 hr
    exact (opB_tends h h1).mono fun n hn => by rw [hn]; exact h2
  · exact Evt.of fun _ => hr
  · simp at hr

theorem runB_tends {cn : Nat → Caller} {c : Caller} (h : Tends cn c) {bi : Nat → Option Nat} {all : Array Oper} : ∀ (l : List Oper) {s : List AV} {H : AH} {p : List AV × AH}, runB bi S c all l s H = some p → Evt fun n => runB bi S (cn n) all l s H = some p
  | [], s, H, p, hr => Evt.of fun _ => hr
  | o :: l, s, H, p, hr => by
    simp only [runB] at hr ⊢
    obtain ⟨q, h1, h2⟩ := optK_inv2 hr
    exact (stepB_tends h h1).two (runB_tends h l h2) fun n e1 e2 => by rw [e1]; exact e2

def KTends (Kn : Nat → Ex → List AV → AH → Option R) (K : Ex → List AV → AH → Option R) : Prop := ∀ e s H r, K e s H = some r → Evt fun n => Kn n e s H = some r

theorem leaveK_tends {id : Nat} {s : List AV} {H : AH} {Kn : Nat → Ex → List AV → AH → Option R} {K : Ex → List AV → AH → Option R} (hK : KTends Kn K) {r : R} (h : leaveK id s H K = some r) : Evt fun n => leaveK id s H (Kn n) = some r := by
  unfold leaveK at h ⊢
  split at h
  · split at h
    · exact hK _ _ _ _ h
    · exact hK _ _ _ _ h
    · exact hK _ _ _ _ h
    · simp at h
  · simp at h

theorem iter_tends {room : Nat} {bn : Nat → List AV → AH → Option Out} {b : List AV → AH → Option Out} (hb : ∀ s H o, b s H = some o → Evt fun n => bn n s H = some o) : ∀ (k : Nat) (s : List AV) (H : AH) (o : Out), iter room b k s H = some o → Evt fun n => ∀ j, k ≤ j → iter room (bn n) j s H = some o
  | 0, s, H, o, h => by simp [iter] at h
  | k + 1, s, H, o, h => by
    simp only [iter] at h
    cases hd : b s H with
    | none => rw [hd] at h; simp at h
    | some q =>
      obtain ⟨e, s1, H1⟩ := q
      rw [hd] at h
      have h1 := hb s H _ hd
      cases e with
      | normal =>
        simp only at h
        refine h1.two (iter_tends hb k _ _ o h) fun n e1 e2 j hj => ?_
        obtain ⟨j, rfl⟩ : ∃ m, j = m + 1 := ⟨j - 1, by omega⟩
        simp only [iter, e1]
        exact e2 j (by omega)
      | exit i =>
        refine h1.mono fun n e1 j hj => ?_
        obtain ⟨j, rfl⟩ : ∃ m, j = m + 1 := ⟨j - 1, by omega⟩
        simp only [iter, e1]
        exact h
      | ret =>
        refine h1.mono fun n e1 j hj => ?_
        obtain ⟨j, rfl⟩ : ∃ m, j = m + 1 := ⟨j - 1, by omega⟩
        simp only [iter, e1]
        exact h

theorem denK_tends {cn : Nat → Caller} {c : Caller} (h : Tends cn c) {room : Nat} : ∀ (code : Code) {R : Type} {s : List AV} {H : AH} {Kn : Nat → Ex → List AV → AH → Option R} {K : Ex → List AV → AH → Option R} {r : R}, KTends Kn K →
    denK S c (loopL room) code s H K = some r → Evt fun n => denK S (cn n) (fun b => iter room b n) code s H (Kn n) = some r
  | .skip, R, s, H, Kn, K, r, hK, hr => hK _ _ _ _ hr
  | .region id ops draw, R, s, H, Kn, K, r, hK, hr => by
    simp only [denK] at hr ⊢
    split at hr
    · rename_i hd
      split at hr
      · rename_i hd2
        obtain ⟨q, h1, h2⟩ := optK_inv2 hr
        exact (runB_tends h _ h1).two (hK _ _ _ _ h2) fun n e1 e2 => by rw [if_pos hd, if_pos hd2, e1]; exact e2
      · simp at hr
    · rename_i hd
      rw [opsK_run] at hr
      obtain ⟨q, h1, h2⟩ := optK_inv2 hr
      exact (runD_tends h _ h1).two (hK _ _ _ _ h2) fun n e1 e2 => by rw [if_neg hd, opsK_run, e1]; exact e2
  | .seq a b, R, s, H, Kn, K, r, hK, hr => by
    simp only [denK] at hr ⊢
    refine denK_tends h a (K := fun e s H => match e with | .normal => denK S c (loopL room) b s H K | e => K e s H) ?_ hr
    intro e s H r h'
    cases e with
    | normal => exact denK_tends h b hK h'
    | exit i => exact hK _ _ _ _ h'
    | ret => exact hK _ _ _ _ h'
  | .cond x a b, R, s, H, Kn, K, r, hK, hr => by
    simp only [denK] at hr ⊢
    split at hr
    · rename_i t ht
      cases t with
      | true => exact denK_tends h a hK hr
      | false => exact denK_tends h b hK hr
    · simp at hr
  | .block id x, R, s, H, Kn, K, r, hK, hr => by
    simp only [denK] at hr ⊢
    refine denK_tends h x (K := fun e s H => match e with | .exit i => if i = id then K .normal s H else K (.exit i) s H | e => K e s H) ?_ hr
    intro e s H r h'
    cases e with
    | normal => exact hK _ _ _ _ h'
    | exit i =>
      simp only at h' ⊢
      split at h'
      · rename_i hi
        exact (hK _ _ _ _ h').mono fun n hn => by rw [if_pos hi]; exact hn
      · rename_i hi
        exact (hK _ _ _ _ h').mono fun n hn => by rw [if_neg hi]; exact hn
    | ret => exact hK _ _ _ _ h'
  | .loop x, R, s, H, Kn, K, r, hK, hr => by
    simp only [denK] at hr ⊢
    obtain ⟨o, h1, h2⟩ := optK_inv2 hr
    obtain ⟨k, hk⟩ := limE_some h1
    have hit := iter_tends (bn := fun n s H => denK S (cn n) (fun b => iter room b n) x s H retO) (fun s H o ho => denK_tends h x (Kn := fun _ => retO) (fun e s H r h => Evt.of fun _ => h) ho) k s H o (hk k (Nat.le_refl _))
    obtain ⟨m, hm⟩ := hit
    have hev : Evt fun n => iter room (fun s H => denK S (cn n) (fun b => iter room b n) x s H retO) n s H = some o := ⟨max m k, fun n hn => hm n (by omega) n (by omega)⟩
    exact hev.two (hK _ _ _ _ h2) fun n e1 e2 => by rw [e1]; exact e2
  | .scope x, R, s, H, Kn, K, r, hK, hr => by
    simp only [denK] at hr ⊢
    exact denK_tends h x hK hr
  | .exit id, R, s, H, Kn, K, r, hK, hr => hK _ _ _ _ hr
  | .ret, R, s, H, Kn, K, r, hK, hr => hK _ _ _ _ hr
  | .label l, R, s, H, Kn, K, r, hK, hr => hK _ _ _ _ hr
  | .rangeFunc g ps x y, R, s, H, Kn, K, r, hK, hr => by
    simp only [denK, rangeK] at hr ⊢
    split at hr
    · obtain ⟨p, h1, h2⟩ := optK_inv2 hr
      exact (h.fn _ _ _ _ h1).two (leaveK_tends hK h2) fun n e1 e2 => by rw [e1]; exact e2
    · simp at hr
  | .goto l, R, s, H, Kn, K, r, hK, hr => by simp [denK] at hr
  | .refuse w, R, s, H, Kn, K, r, hK, hr => by simp [denK] at hr

theorem runK_tends {cn : Nat → Caller} {c : Caller} (h : Tends cn c) {room : Nat} {fn : Func} {args : List AV} {H : AH} {r : AV × AH} (hr : runK S c (loopL room) fn args H = some r) : Evt fun n => runK S (cn n) (fun b => iter room b n) fn args H = some r := by
  unfold runK at hr ⊢
  split at hr
  · simp at hr
  · exact denK_tends h _ (fun e s H r h => Evt.of fun _ => h) hr

theorem enter_tends {cn : Nat → Caller} {c : Caller} (h : Tends cn c) {room : Nat} {f : FuncId} {args : List AV} {H : AH} {r : AV × AH} (hr : enterF S c (loopL room) f args H = some r) : Evt fun n => enterF S (cn n) (fun b => iter room b n) f args H = some r := by
  unfold enterF at hr ⊢
  split at hr
  · exact Evt.of fun _ => hr
  · split at hr
    · simp at hr
    · split at hr
      · rename_i hp
        obtain ⟨ts, h1, h2⟩ := optK_inv2 hr
        obtain ⟨p, h3, h4⟩ := optK_inv2 h2
        exact (runK_tends h h3).mono fun n hn => by rw [if_pos hp, h1, optK_some, hn, optK_some]; exact h4
      · rename_i hp
        obtain ⟨p, h3, h4⟩ := optK_inv2 hr
        exact (runK_tends h h3).mono fun n hn => by rw [if_neg hp, hn, optK_some]; exact h4

theorem Evt.succ {p : Nat → Prop} (h : Evt fun n => p (n + 1)) : Evt p := by
  obtain ⟨n0, h⟩ := h
  refine ⟨n0 + 1, fun n hn => ?_⟩
  obtain ⟨m, rfl⟩ : ∃ m, n = m + 1 := ⟨n - 1, by omega⟩
  exact h m (by omega)

/-- A function's answer from its code's. -/
theorem callL_enter {f : FuncId} {args : List AV} {H : AH} {r : AV × AH} (h : enterF S (callL S) (loopL S.room) f args H = some r) : callL S f args H = some r :=
  limE_of (Evt.succ ((enter_tends callL_tends h).mono fun n hn => hn))

theorem callL_fuel {f : FuncId} {args : List AV} {H : AH} {r : AV × AH} (h : callL S f args H = some r) : ∃ n, callF S n f args H = some r := by
  obtain ⟨n, hn⟩ := limE_some h
  exact ⟨n, hn n (Nat.le_refl _)⟩

/-! ### Loops -/
theorem loopL_next {room : Nat} {b : List AV → AH → Option Out} {s s' : List AV} {H H' : AH} {o : Out} (h : b s H = some (.normal, s', H')) (hn : loopL room b (back room s H s' H').1 (back room s H s' H').2 = some o) : loopL room b s H = some o :=
  limE_of (Evt.succ ((limE_some hn).mono fun n hn => by simp only [iter, h]; exact hn))

theorem loopL_exit {room : Nat} {b : List AV → AH → Option Out} {s s' : List AV} {H H' : AH} {i : Nat} (h : b s H = some (.exit i, s', H')) : loopL room b s H = some (.exit i, outS room s s', H') :=
  limE_of (Evt.succ (Evt.of fun n => by simp only [iter, h]))

theorem loopL_ret {room : Nat} {b : List AV → AH → Option Out} {s s' : List AV} {H H' : AH} (h : b s H = some (.ret, s', H')) : loopL room b s H = some (.ret, outS room s s', H') :=
  limE_of (Evt.succ (Evt.of fun n => by simp only [iter, h]))

end Go.Sx

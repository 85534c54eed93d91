/- THE ENGINE, 35: the evaluator for the kernel: functions and calls. -/
import Derived.Test.YtoagnbpmoihojaaSxFast4
set_option linter.unusedSimpArgs false
set_option linter.unusedVariables false
namespace Go.Sx
variable {R : Type} {S : Sys}

noncomputable def fillE (args : List AV) : Nat → Tv → (Tv → R) → R :=
  List.rec (motive := fun _ => Nat → Tv → (Tv → R) → R) (fun _ t k => k t) (fun a _ ih i t k => forceV a fun a => t.setK a i fun t => ih (i + 1) t k) args

def layL : List AV → Nat → List AV → List AV
  | [], _, s => s
  | a :: r, i, s => layL r (i + 1) (s.set i a)

theorem fillE_sim {N : Nat} : ∀ (args : List AV) (i : Nat) (t : Tv) (s : List AV) (k : Tv → R), Rep N t s → ∃ t', fillE args i t k = k t' ∧ Rep N t' (layL args i s)
  | [], i, t, s, k, h => ⟨t, rfl, h⟩
  | a :: r, i, t, s, k, h => by
    obtain ⟨t', h1, h2⟩ := fillE_sim r (i + 1) (t.set a i) (s.set i a) k (h.set i a)
    refine ⟨t', ?_, h2⟩
    show (forceV a fun a => t.setK a i fun t => fillE r (i + 1) t k) = _
    rw [forceV_eq, Tv.setK_eq]; exact h1

theorem layL_eq : ∀ (args pre post : List AV), args.length ≤ post.length → layL args pre.length (pre ++ post) = pre ++ (args ++ post.drop args.length)
  | [], pre, post, _ => by simp [layL]
  | a :: r, pre, [], h => by simp at h
  | a :: r, pre, p :: post, h => by
    simp only [layL]
    have e : (pre ++ p :: post).set pre.length a = (pre ++ [a]) ++ post := by
      rw [List.set_append_right _ _ (Nat.le_refl _)]; simp
    rw [e]
    have := layL_eq r (pre ++ [a]) post (by simpa using h)
    simp only [List.length_append, List.length_singleton] at this
    rw [this]
    simp

def depthOf (n : Nat) : Nat := match Nat.blt n 30 with | true => 5 | false => match Nat.blt n 126 with | true => 7 | false => 9

noncomputable def oneE (S : Sys) (N : Nat) (t : Tv) (H : AH) (r : ResultVar) : Option AV := match r with
  | .tmp i => some (slot N t i)
  | .cell a ty => match S.T ty with
    | some i => loadK H i (slot N t a) some
    | none => none

noncomputable def resE (S : Sys) (N : Nat) (t : Tv) (H : AH) (rs : List ResultVar) : Option (List AV) :=
  List.rec (motive := fun _ => Option (List AV)) (some []) (fun r _ ih => match oneE S N t H r with | some v => forceV v fun v => (match ih with | some vs => some (v :: vs) | none => none) | none => none) rs

noncomputable def finE (S : Sys) (N : Nat) (rs : List ResultVar) (o : OutE) : OutV := match o with
  | some (.exit _, _, _) => none
  | some (_, t, H) => (match resE S N t H rs with | some vs => some (bundle vs, H) | none => none)
  | none => none

noncomputable def bodyE (S : Sys) (call : Caller) (fuel N : Nat) (c : Code) (rs : List ResultVar) (H : AH) (t : Tv) : OutV := finE S N rs (denE S call fuel N c t H)

noncomputable def runE (S : Sys) (call : Caller) (fuel : Nat) (fn : Func) (args : List AV) (H : AH) : OutV := match fn.body with
  | none => none
  | some c => match Nat.ble args.length fn.ntmps && Nat.blt (fn.ntmps + 1) (2 ^ depthOf fn.ntmps) with
    | true => fillE args 0 (Tv.full (depthOf fn.ntmps)) (bodyE S call fuel fn.ntmps c fn.results.toList H)
    | false => none

theorem resE_sim {N : Nat} {t : Tv} {s : List AV} {H : AH} (hr : Rep N t s) : ∀ (rs : List ResultVar) (vs : List AV), resE S N t H rs = some vs → ∀ (acc : List AV) {R : Type} (K : List AV → Option R), resultsK S s H rs acc K = K (acc ++ vs)
  | [], vs, h, acc, R, K => by
    have h' : some [] = some vs := h
    simp only [Option.some.injEq] at h'
    subst h'
    simp [resultsK]
  | r :: rs, vs, h, acc, R, K => by
    have h' : (match oneE S N t H r with | some v => forceV v fun v => (match resE S N t H rs with | some vs => some (v :: vs) | none => none) | none => none) = some vs := h
    split at h'
    · rename_i v hv
      rw [forceV_eq] at h'
      split at h'
      · rename_i us hus
        simp only [Option.some.injEq] at h'
        subst h'
        have ih := resE_sim hr rs us hus
        simp only [resultsK]
        have h1 : ∀ {R : Type} (K : AV → Option R), oneResult S s H r K = K v := by
          intro R K
          unfold oneE at hv
          cases r with
          | tmp i =>
            simp only [Option.some.injEq] at hv
            rw [slot_eq hr] at hv
            simp only [oneResult, hv]
          | cell a ty =>
            simp only at hv
            split at hv
            · rename_i i hi
              rw [slot_eq hr] at hv
              simp only [oneResult, hi]
              rw [loadK_nat, hv]; rfl
            · simp at hv
        rw [h1, ih]
        simp
      · simp at h'
    · simp at h'

theorem finE_sim {call call' : Caller} (hle : call.le call') {fuel N : Nat} {c : Code} {t : Tv} {s : List AV} {H : AH} {rs : List ResultVar} {r : AV × AH} (hr : Rep N t s) (h : finE S N rs (denE S call fuel N c t H) = some r) :
    (denK S call' (fun b => iter S.room b fuel) c s H fun e s H => match e with | .exit _ => none | _ => resultsK S s H rs [] fun vs => some (bundle vs, H)) = some r := by
  unfold finE at h
  split at h
  · simp at h
  · rename_i e t' H' hne hd
    obtain ⟨s', h1, h2⟩ := denE_sim hle fuel N c t s H e t' H' hr hd
    rw [h2]
    split at h
    · rename_i vs hvs
      have := resE_sim h1 rs vs hvs
      cases e with
      | exit i => exact absurd rfl (hne i)
      | normal => simp only; rw [this]; simpa using h
      | ret => simp only; rw [this]; simpa using h
    · simp at h
  · simp at h

theorem runE_sim {call call' : Caller} (hle : call.le call') {fuel : Nat} {fn : Func} {args : List AV} {H : AH} {r : AV × AH} (h : runE S call fuel fn args H = some r) : runK S call' (fun b => iter S.room b fuel) fn args H = some r := by
  unfold runE at h
  unfold runK
  split at h
  · simp at h
  · rename_i c hc
    split at h
    · rename_i hb
      simp only [Bool.and_eq_true] at hb
      have hlen := Nat.le_of_ble_eq_true hb.1
      have hd : fn.ntmps + 1 < 2 ^ depthOf fn.ntmps := Nat.le_of_ble_eq_true hb.2
      have hrep : Rep fn.ntmps (Tv.full (depthOf fn.ntmps)) (List.replicate fn.ntmps .top) := by
        refine ⟨by simp, fun i hi => ⟨Tv.full_has _ _ (by omega), ?_⟩⟩
        rw [Tv.full_get]
        simp [List.getD, hi]
      obtain ⟨t', h1, h2⟩ := fillE_sim args 0 _ _ (bodyE S call fuel fn.ntmps c fn.results.toList H) hrep
      rw [h1] at h
      have e : layL args 0 (List.replicate fn.ntmps .top) = args ++ List.replicate (fn.ntmps - args.length) .top := by
        have := layL_eq args [] (List.replicate fn.ntmps .top) (by simpa using hlen)
        simpa using this
      rw [e] at h2
      simp only [hc]
      exact finE_sim hle h2 h
    · simp at h

noncomputable def truncE (H : AH) (p : AV × AH) : AV × AH := trunc H p

noncomputable def pureE (args : List AV) (H : AH) (o : OutV) : OutV := match o with
  | some p => (match pureOut args p.1 with | some v => some (v, H) | none => none)
  | none => none
noncomputable def extE (args ts : List AV) (H : AH) (g : List AV → Option AV) : OutV := match g ts with
  | some u => (match pureOut args u with | some v => some (v, H) | none => none)
  | none => none
noncomputable def keepE (H : AH) (o : OutV) : OutV := match o with
  | some p => some (trunc H p)
  | none => none
noncomputable def onE (o : Option (List AV)) (k : List AV → OutV) : OutV := match o with | some ts => k ts | none => none

noncomputable def enterE (S : Sys) (call : Caller) (fuel : Nat) (f : FuncId) (args : List AV) (H : AH) : OutV := match S.ext f with
  | some g => onE (resolveL H args) fun ts => extE args ts H g
  | none => match S.F f with
    | none => none
    | some fn => match S.isPure f with
      | true => onE (resolveL H args) fun ts => pureE args H (runE S call fuel fn ts ⟨[], []⟩)
      | false => keepE H (runE S call fuel fn args H)

theorem enterE_sim {call call' : Caller} (hle : call.le call') {fuel : Nat} {f : FuncId} {args : List AV} {H : AH} {r : AV × AH} (h : enterE S call fuel f args H = some r) : enterF S call' (fun b => iter S.room b fuel) f args H = some r := by
  unfold enterE at h
  unfold enterF
  split at h
  · rename_i g hg
    simp only [hg]
    unfold onE at h
    split at h
    · rename_i ts hts
      rw [hts, optK_some]
      simp only at h
      unfold extE at h
      split at h
      · rename_i u hu
        rw [hu, optK_some]
        split at h
        · rename_i v hv; rw [hv, optK_some]; exact h
        · simp at h
      · simp at h
    · simp at h
  · rename_i hg
    simp only [hg]
    split at h
    · simp at h
    · rename_i fn hfn
      simp only [hfn]
      split at h
      · rename_i hp
        rw [if_pos hp]
        unfold onE at h
        split at h
        · rename_i ts hts
          rw [hts, optK_some]
          simp only at h
          unfold pureE at h
          split at h
          · rename_i p hrun
            rw [runE_sim hle hrun, optK_some]
            split at h
            · rename_i v hv; rw [hv, optK_some]; exact h
            · simp at h
          · simp at h
        · simp at h
      · rename_i hp
        rw [if_neg (by rw [hp]; simp)]
        unfold keepE at h
        split at h
        · rename_i p hrun
          rw [runE_sim hle hrun, optK_some]; exact h
        · simp at h

noncomputable def yendE (id : Nat) (H : AH) (o : OutE) : OutV := match o with
  | some (e, _, H2) => (match setLoop H2 id (exLeft e) with | some H3 => some (trunc H (.bool e.stays, H3)) | none => none)
  | none => none
noncomputable def ymidE (S : Sys) (call : Caller) (fuel N id : Nat) (y : Code) (H : AH) (o : OutE) : OutV := match o with
  | some (.normal, t1, H1) => (match H1.objs[id]? with
    | some (.loop s' ps' x' y' .ready) => yendE id H (denE S call fuel N y t1 { H1 with objs := H1.objs.set id (.loop s' ps' x' y' .busy) })
    | _ => none)
  | _ => none
noncomputable def yieldE (S : Sys) (call : Caller) (fuel : Nat) (id : Nat) (args : List AV) (H : AH) : OutV := match H.objs[id]? with
  | some (.loop s ps x y .ready) => (match Nat.beq args.length ps.length && (plainC x && (plainC y && Nat.blt (s.length + 1) (2 ^ depthOf s.length))) with
    | true => fillE ((ps.zip args).foldl (fun s p => s.set p.1 p.2) s) 0 (Tv.full (depthOf s.length)) fun t => ymidE S call fuel s.length id y H (denE S call fuel s.length x t H)
    | false => none)
  | _ => none

theorem foldset_length : ∀ (l : List (Nat × AV)) (s : List AV), (l.foldl (fun s p => s.set p.1 p.2) s).length = s.length
  | [], s => rfl
  | p :: l, s => by simp [foldset_length l]

theorem yieldE_sim {call call' : Caller} (hle : call.le call') {fuel id : Nat} {args : List AV} {H : AH} {r : AV × AH} (h : yieldE S call fuel id args H = some r) : yieldF S call' (fun b => iter S.room b fuel) id args H = some r := by
  unfold yieldE at h
  unfold yieldF
  split at h
  · rename_i s ps x y hob
    simp only [hob]
    split at h
    · rename_i hb
      simp only [Bool.and_eq_true] at hb
      obtain ⟨h1, h2, h3, h4⟩ := hb
      rw [if_pos ⟨Nat.eq_of_beq_eq_true h1, h2, h3⟩]
      have hd : s.length + 1 < 2 ^ depthOf s.length := Nat.le_of_ble_eq_true h4
      have hrep : Rep s.length (Tv.full (depthOf s.length)) (List.replicate s.length .top) := by
        refine ⟨by simp, fun i hi => ⟨Tv.full_has _ _ (by omega), ?_⟩⟩
        rw [Tv.full_get]
        simp [List.getD, hi]
      generalize hz : (ps.zip args).foldl (fun s p => s.set p.1 p.2) s = z at h ⊢
      have hzl : z.length = s.length := by rw [← hz]; exact foldset_length _ _
      obtain ⟨t', k1, k2⟩ := fillE_sim z 0 _ _ (fun t => ymidE S call fuel s.length id y H (denE S call fuel s.length x t H)) hrep
      rw [k1] at h
      have e : layL z 0 (List.replicate s.length .top) = z := by
        have := layL_eq z [] (List.replicate s.length .top) (by simp [hzl])
        simpa [hzl] using this
      rw [e] at k2
      unfold ymidE at h
      split at h
      · rename_i t1 H1 hx
        obtain ⟨s1, m1, m2⟩ := denE_sim hle fuel s.length x t' z H _ _ _ k2 hx
        rw [m2]
        simp only
        split at h
        · rename_i s' ps' x' y' hob1
          simp only [hob1]
          unfold yendE at h
          split at h
          · rename_i e2 t2 H2 hy
            obtain ⟨s2, n1, n2⟩ := denE_sim hle fuel s.length y t1 s1 _ _ _ _ m1 hy
            rw [n2]
            split at h
            · rename_i H3 hH3
              simp only [hH3, optK_some]; exact h
            · simp at h
          · simp at h
        · simp at h
      · simp at h
    · simp at h
  · simp at h

noncomputable def callE (S : Sys) : Nat → Caller
  | 0 => ⟨fun _ _ _ => none, fun _ _ _ => none⟩
  | n + 1 => ⟨enterE S (callE S n) n, yieldE S (callE S n) n⟩

theorem callE_le : ∀ n, (callE S n).le (callF S n)
  | 0 => ⟨fun _ _ _ _ h => by simp [callE] at h, fun _ _ _ _ h => by simp [callE] at h⟩
  | n + 1 => ⟨fun f args H r h => enterE_sim (callE_le n) h, fun id args H r h => yieldE_sim (callE_le n) h⟩

/-- Does a run answer true? -/
def tellsTrue (o : OutV) : Bool := match o with
  | some (.bool b, _) => b
  | _ => false

theorem tells_true {n : Nat} {f : FuncId} {args : List AV} {H : AH} (h : tellsTrue (callE S n f args H) = true) : ∃ H', callF S n f args H = some (.bool true, H') := by
  unfold tellsTrue at h
  split at h
  · rename_i b H' hc
    subst h
    exact ⟨H', (callE_le n).fn _ _ _ _ hc⟩
  · simp at h

end Go.Sx

/- THE ENGINE, 31: the same, for the kernel: small terms, slots in a tree, values worked out as they are made. -/
import Derived.Test.YtoagnbpmoihojaaDoorSxDraw2
set_option linter.unusedSimpArgs false
set_option linter.unusedVariables false
namespace Go.Sx
variable {R : Type}

/-! ### Slots -/
inductive Tv where
  | nil
  | node (l : Tv) (v : AV) (r : Tv)

noncomputable def Tv.get (t : Tv) : Nat → AV :=
  Tv.rec (motive := fun _ => Nat → AV) (fun _ => .top) (fun _ v _ gl gr n => Nat.casesOn n v fun m => Bool.casesOn (Nat.beq (m % 2) 0) (gr (m / 2)) (gl (m / 2))) t

noncomputable def Tv.setK (t : Tv) (v : AV) : Nat → (Tv → R) → R :=
  Tv.rec (motive := fun _ => Nat → (Tv → R) → R) (fun _ k => k .nil)
    (fun l u r sl sr n k => Nat.casesOn n (k (.node l v r)) fun m => Bool.casesOn (Nat.beq (m % 2) 0) (sr (m / 2) fun r' => k (.node l u r')) (sl (m / 2) fun l' => k (.node l' u r))) t

def Tv.full : Nat → Tv
  | 0 => .nil
  | d + 1 => .node (Tv.full d) .top (Tv.full d)

inductive Tv.Has : Tv → Nat → Prop
  | root (l v r) : Has (.node l v r) 0
  | left (l v r m) (h : Has l (m / 2)) (e : m % 2 = 0) : Has (.node l v r) (m + 1)
  | right (l v r m) (h : Has r (m / 2)) (e : m % 2 ≠ 0) : Has (.node l v r) (m + 1)

theorem Tv.get_root (l r : Tv) (v : AV) : (Tv.node l v r).get 0 = v := rfl
theorem Tv.get_left (l r : Tv) (v : AV) (m : Nat) (h : m % 2 = 0) : (Tv.node l v r).get (m + 1) = l.get (m / 2) := by
  show Bool.casesOn (motive := fun _ => AV) (Nat.beq (m % 2) 0) (r.get (m / 2)) (l.get (m / 2)) = _
  rw [h]; rfl
theorem Tv.get_right (l r : Tv) (v : AV) (m : Nat) (h : m % 2 ≠ 0) : (Tv.node l v r).get (m + 1) = r.get (m / 2) := by
  show Bool.casesOn (motive := fun _ => AV) (Nat.beq (m % 2) 0) (r.get (m / 2)) (l.get (m / 2)) = _
  have : Nat.beq (m % 2) 0 = false := by
    cases hb : Nat.beq (m % 2) 0 with
    | false => rfl
    | true => exact absurd (Nat.eq_of_beq_eq_true hb) h
  rw [this]

def Tv.set (v : AV) : Tv → Nat → Tv
  | .nil, _ => .nil
  | .node l u r, 0 => .node l v r
  | .node l u r, m + 1 => if m % 2 = 0 then .node (l.set v (m / 2)) u r else .node l u (r.set v (m / 2))

theorem Tv.setK_eq (v : AV) : ∀ (t : Tv) (n : Nat) (k : Tv → R), t.setK v n k = k (t.set v n)
  | .nil, n, k => rfl
  | .node l u r, 0, k => rfl
  | .node l u r, m + 1, k => by
    show Bool.casesOn (motive := fun _ => R) (Nat.beq (m % 2) 0) (r.setK v (m / 2) fun r' => k (.node l u r')) (l.setK v (m / 2) fun l' => k (.node l' u r)) = _
    by_cases h : m % 2 = 0
    · rw [h]
      simp only [Tv.set, h, if_true]
      exact Tv.setK_eq v l (m / 2) _
    · have hb : Nat.beq (m % 2) 0 = false := by
        cases hb : Nat.beq (m % 2) 0 with
        | false => rfl
        | true => exact absurd (Nat.eq_of_beq_eq_true hb) h
      rw [hb]
      simp only [Tv.set, h, if_false]
      exact Tv.setK_eq v r (m / 2) _

theorem Tv.get_set_same (v : AV) : ∀ {t : Tv} {n : Nat}, t.Has n → (t.set v n).get n = v
  | _, _, .root l u r => rfl
  | _, _, .left l u r m h e => by
    simp only [Tv.set, e, if_true, Tv.get_left _ _ _ _ e]
    exact Tv.get_set_same v h
  | _, _, .right l u r m h e => by
    simp only [Tv.set, e, if_false, Tv.get_right _ _ _ _ e]
    exact Tv.get_set_same v h

theorem Tv.get_set_ne (v : AV) : ∀ (t : Tv) (n i : Nat), n ≠ i → (t.set v n).get i = t.get i
  | .nil, n, i, _ => rfl
  | .node l u r, 0, i + 1, _ => by
    simp only [Tv.set]
    by_cases h : i % 2 = 0
    · rw [Tv.get_left _ _ _ _ h, Tv.get_left _ _ _ _ h]
    · rw [Tv.get_right _ _ _ _ h, Tv.get_right _ _ _ _ h]
  | .node l u r, 0, 0, h => absurd rfl h
  | .node l u r, n + 1, 0, _ => by
    simp only [Tv.set]
    split <;> rfl
  | .node l u r, n + 1, i + 1, hne => by
    simp only [Tv.set]
    by_cases hn : n % 2 = 0 <;> by_cases hi : i % 2 = 0 <;> simp only [hn, if_true, if_false]
    · rw [Tv.get_left _ _ _ _ hi, Tv.get_left _ _ _ _ hi]
      exact Tv.get_set_ne v l _ _ (by omega)
    · rw [Tv.get_right _ _ _ _ hi, Tv.get_right _ _ _ _ hi]
    · rw [Tv.get_left _ _ _ _ hi, Tv.get_left _ _ _ _ hi]
    · rw [Tv.get_right _ _ _ _ hi, Tv.get_right _ _ _ _ hi]
      exact Tv.get_set_ne v r _ _ (by omega)

theorem Tv.has_set (v : AV) : ∀ (t : Tv) (n i : Nat), t.Has i → (t.set v n).Has i
  | .nil, n, i, h => h
  | .node l u r, 0, i, h => by
    cases h with
    | root => exact .root ..
    | left _ _ _ m h e => exact .left _ _ _ m h e
    | right _ _ _ m h e => exact .right _ _ _ m h e
  | .node l u r, n + 1, i, h => by
    simp only [Tv.set]
    split
    · cases h with
      | root => exact .root ..
      | left _ _ _ m h e => exact .left _ _ _ m (Tv.has_set v l _ _ h) e
      | right _ _ _ m h e => exact .right _ _ _ m h e
    · cases h with
      | root => exact .root ..
      | left _ _ _ m h e => exact .left _ _ _ m h e
      | right _ _ _ m h e => exact .right _ _ _ m (Tv.has_set v r _ _ h) e

theorem Tv.full_has : ∀ (d n : Nat), n + 1 < 2 ^ d → (Tv.full d).Has n
  | 0, n, h => by simp at h
  | d + 1, 0, _ => .root ..
  | d + 1, m + 1, h => by
    have : m / 2 + 1 < 2 ^ d := by rw [Nat.pow_succ] at h; omega
    by_cases e : m % 2 = 0
    · exact .left _ _ _ m (Tv.full_has d _ this) e
    · exact .right _ _ _ m (Tv.full_has d _ this) e

theorem Tv.full_get : ∀ (d n : Nat), (Tv.full d).get n = .top
  | 0, n => rfl
  | d + 1, 0 => rfl
  | d + 1, m + 1 => by
    by_cases e : m % 2 = 0
    · exact (Tv.get_left _ _ _ _ e).trans (Tv.full_get d _)
    · exact (Tv.get_right _ _ _ _ e).trans (Tv.full_get d _)

/-- The tree's slots are the row's. -/
def Rep (N : Nat) (t : Tv) (s : List AV) : Prop := s.length = N ∧ ∀ i, i < N → t.Has i ∧ t.get i = s.getD i .top

theorem Rep.set {N : Nat} {t : Tv} {s : List AV} (h : Rep N t s) (d : Nat) (v : AV) : Rep N (t.set v d) (s.set d v) := by
  refine ⟨by simpa using h.1, fun i hi => ⟨Tv.has_set v t d i (h.2 i hi).1, ?_⟩⟩
  by_cases e : d = i
  · subst e
    rw [Tv.get_set_same v (h.2 d hi).1]
    simp [List.getD, List.getElem?_set, h.1, hi]
  · rw [Tv.get_set_ne v t d i e, (h.2 i hi).2]
    simp [List.getD, List.getElem?_set, e]

/-! ### Values worked out -/
noncomputable def forceI (n : Int) (k : Int → R) : R := Int.rec (fun m => force m fun m => k (.ofNat m)) (fun m => force m fun m => k (.negSucc m)) n
theorem force_k {A : Type} (n : Nat) (k : Nat → A) : force n k = k n := by cases n <;> rfl
theorem forceI_eq (n : Int) (k : Int → R) : forceI n k = k n := by
  cases n with
  | ofNat m => exact force_k m fun m => k (.ofNat m)
  | negSucc m => exact force_k m fun m => k (.negSucc m)

noncomputable def forceV (v : AV) (k : AV → R) : R :=
  match v with
  | .int kd n => forceI n fun n => k (.int kd n)
  | v => k v
theorem forceV_eq (v : AV) (k : AV → R) : forceV v k = k v := by
  cases v with
  | int kd n => exact forceI_eq n fun n => k (.int kd n)
  | _ => rfl

noncomputable def forceL {A : Type} (l : List A) (k : List A → R) : R := List.rec (motive := fun _ => (List A → R) → R) (fun k => k []) (fun a _ ih k => ih fun r => k (a :: r)) l k
theorem forceL_eq {A : Type} : ∀ (l : List A) (k : List A → R), forceL l k = k l
  | [], k => rfl
  | a :: l, k => forceL_eq l fun r => k (a :: r)

noncomputable def forceH (H : AH) (k : AH → R) : R := forceL H.objs fun os => forceL H.toks fun ts => k ⟨os, ts⟩
theorem forceH_eq (H : AH) (k : AH → R) : forceH H k = k H := by unfold forceH; rw [forceL_eq, forceL_eq]

end Go.Sx

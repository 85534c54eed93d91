/- THE ENGINE, 31: the same, for the kernel: small terms, slots in a tree, values worked out as they are made. -/
import Derived.Test.YtoagnbpmoihojaaEf
set_option linter.unusedSimpArgs false
set_option linter.unusedVariables false
namespace Go.Sx
variable {R : Type}

/-! ### Slots -/
inductive Tv where
  | nil
  | node (l : Tv) (v : AV) (r : Tv)

noncomputable def Tv.get (t : Tv) : Nat → AV :=
  Tv.rec (motive := fun _ => Nat → AV) (fun _ => .top) (fun _ v _ gl gr n => Nat.casesOn n v fun m => Bool.casesOn (Nat.beq (m % 2) 0) (gr (m / 2)) (gl (m / 2))) t

inductive Tv.Has : Tv → Nat → Prop
  | root (l v r) : Has (.node l v r) 0
  | left (l v r m) (h : Has l (m / 2)) (e : m % 2 = 0) : Has (.node l v r) (m + 1)
  | right (l v r m) (h : Has r (m / 2)) (e : m % 2 ≠ 0) : Has (.node l v r) (m + 1)

theorem Tv.get_left (l r : Tv) (v : AV) (m : Nat) (h : m % 2 = 0) : (Tv.node l v r).get (m + 1) = l.get (m / 2) := by
  show Bool.casesOn (motive := fun _ => AV) (Nat.beq (m % 2) 0) (r.get (m / 2)) (l.get (m / 2)) = _
  rw [h]; rfl
theorem Tv.get_right (l r : Tv) (v : AV) (m : Nat) (h : m % 2 ≠ 0) : (Tv.node l v r).get (m + 1) = r.get (m / 2) := by
  show Bool.casesOn (motive := fun _ => AV) (Nat.beq (m % 2) 0) (r.get (m / 2)) (l.get (m / 2)) = _
  have : Nat.beq (m % 2) 0 = false := by
    cases hb : Nat.beq (m % 2) 0 with
    | false => rfl
    | true => exact absurd (Nat.eq_of_beq_eq_true hb) h
  rw [this]

def Tv.set (v : AV) : Tv → Nat → Tv
  | .nil, _ => .nil
  | .node l u r, 0 => .node l v r
  | .node l u r, m + 1 => if m % 2 = 0 then .node (l.set v (m / 2)) u r else .node l u (r.set v (m / 2))

theorem Tv.get_set_same (v : AV) : ∀ {t : Tv} {n : Nat}, t.Has n → (t.set v n).get n = v
  | _, _, .root l u r => rfl
  | _, _, .left l u r m h e => by
    simp only [Tv.set, e, if_true, Tv.get_left _ _ _ _ e]
    exact Tv.get_set_same v h
  | _, _, .right l u r m h e => by
    simp only [Tv.set, e, if_false, Tv.get_right _ _ _ _ e]
    exact Tv.get_set_same v h

theorem Tv.get_set_ne (v : AV) : ∀ (t : Tv) (n i : Nat), n ≠ i → (t.set v n).get i = t.get i
  | .nil, n, i, _ => rfl
  | .node l u r, 0, i + 1, _ => by
    simp only [Tv.set]
    by_cases h : i % 2 = 0
    · rw [Tv.get_left _ _ _ _ h, Tv.get_left _ _ _ _ h]
    · rw [Tv.get_right _ _ _ _ h, Tv.get_right _ _ _ _ h]
  | .node l u r, 0, 0, h => absurd rfl h
  | .node l u r, n + 1, 0, _ => by
    simp only [Tv.set]
    split <;> rfl
  | .node l u r, n + 1, i + 1, hne => by
    simp only [Tv.set]
    by_cases hn : n % 2 = 0 <;> by_cases hi : i % 2 = 0 <;> simp only [hn, if_true, if_false]
    · rw [Tv.get_left _ _ _ _ hi, Tv.get_left _ _ _ _ hi]
      exact Tv.get_set_ne v l _ _ (by omega)
    · rw [Tv.get_right _ _ _ _ hi, Tv.get_right _ _ _ _ hi]
    · rw [Tv.get_left _ _ _ _ hi, Tv.get_left _ _ _ _ hi]
    · rw [Tv.get_right _ _ _ _ hi, Tv.get_right _ _ _ _ hi]
      exact Tv.get_set_ne v r _ _ (by omega)

theorem Tv.has_set (v : AV) : ∀ (t : Tv) (n i : Nat), t.Has i → (t.set v n).Has i
  | .nil, n, i, h => h
  | .node l u r, 0, i, h => by
    cases h with
    | root => exact .root ..
    | left _ _ _ m h e => exact .left _ _ _ m h e
    | right _ _ _ m h e => exact .right _ _ _ m h e
  | .node l u r, n + 1, i, h => by
    simp only [Tv.set]
    split
    · cases h with
      | root => exact .root ..
      | left _ _ _ m h e => exact .left _ _ _ m (Tv.has_set v l _ _ h) e
      | right _ _ _ m h e => exact .right _ _ _ m h e
    · cases h with
      | root => exact .root ..
      | left _ _ _ m h e => exact .left _ _ _ m h e
      | right _ _ _ m h e => exact .right _ _ _ m (Tv.has_set v r _ _ h) e

/-- The tree's slots are the row's. -/
def Rep (N : Nat) (t : Tv) (s : List AV) : Prop := s.length = N ∧ ∀ i, i < N → t.Has i ∧ t.get i = s.getD i .top

theorem Rep.set {N : Nat} {t : Tv} {s : List AV} (h : Rep N t s) (d : Nat) (v : AV) : Rep N (t.set v d) (s.set d v) := by
  refine ⟨by simpa using h.1, fun i hi => ⟨Tv.has_set v t d i (h.2 i hi).1, ?_⟩⟩
  by_cases e : d = i
  · subst e
    rw [Tv.get_set_same v (h.2 d hi).1]
    simp [List.getD, List.getElem?_set, h.1, hi]
  · rw [Tv.get_set_ne v t d i e, (h.2 i hi).2]
    simp [List.getD, List.getElem?_set, e]

/-! ### Values worked out -/
end Go.Sx

/- THE ENGINE, 32: the evaluator for the kernel. Each operation's work is a constant of its own, so that little is copied as it is unfolded. -/
set_option linter.unusedSimpArgs false
set_option linter.unusedVariables false
namespace Go.Sx

end Go.Sx

/- THE ENGINE, 33: the evaluator for the kernel: code, functions, calls; what it answers is what the engine answers. -/
set_option linter.unusedSimpArgs false
set_option linter.unusedVariables false
namespace Go.Sx
variable {R : Type} {S : Sys}

structure Caller.le (c c' : Caller) : Prop where
  fn : ∀ f args H r, c f args H = some r → c' f args H = some r
  yield : ∀ id args H r, c.yield id args H = some r → c'.yield id args H = some r

theorem callFn_mono {c c' : Caller} (h : c.le c') {f : AV} {args : List AV} {H : AH} {r : AV × AH} (hr : callFn c f args H pairK = some r) : callFn c' f args H pairK = some r := by
  unfold callFn at hr ⊢
  split at hr
  · obtain ⟨p, h1, h2⟩ := optK_inv2 hr
    simp only [h.fn _ _ _ _ h1, optK_some]; exact h2
  · obtain ⟨p, h1, h2⟩ := optK_inv2 hr
    simp only [h.yield _ _ _ _ h1, optK_some]; exact h2
  · simp at hr

theorem opK_mono {c c' : Caller} (h : c.le c') {s : List AV} {H : AH} {o : Oper} {r : AV × AH} (hr : opK S c s H o pairK = some r) : opK S c' s H o pairK = some r := by
  obtain ⟨dst, op, type, pos, after, guard⟩ := o
  unfold opK at hr ⊢
  cases op <;> try exact hr
  case makeMap t0 r0 => cases r0 <;> exact hr
  case call c0 =>
    simp only at hr ⊢
    split at hr
    · exact callFn_mono h hr
    · exact hr
    · simp at hr

/-! ### Slots -/
/-! ### Regions -/
end Go.Sx

/- THE ENGINE, 34: the evaluator for the kernel: code, functions, calls. -/
set_option linter.unusedSimpArgs false
set_option linter.unusedVariables false
namespace Go.Sx
variable {R : Type} {S : Sys}

end Go.Sx

/- THE ENGINE, 35: the evaluator for the kernel: functions and calls. -/
set_option linter.unusedSimpArgs false
set_option linter.unusedVariables false
namespace Go.Sx
variable {R : Type} {S : Sys}

end Go.Sx

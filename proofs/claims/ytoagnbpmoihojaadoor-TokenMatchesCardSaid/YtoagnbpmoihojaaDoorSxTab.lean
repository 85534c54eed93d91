/- THE ENGINE, 29: tables of a program's types and functions, and their check. -/
import Derived.Test.YtoagnbpmoihojaaDoorSxCall
set_option linter.unusedSimpArgs false
set_option linter.unusedVariables false
namespace Go.Sx

inductive Tr (A : Type) where
  | nil
  | node (k : Nat) (v : A) (l r : Tr A)

def Tr.get {A : Type} : Tr A → Nat → Option A
  | .nil, _ => none
  | .node k v l r, n => match Nat.beq n k with
    | true => some v
    | false => match Nat.ble n k with
      | true => l.get n
      | false => r.get n

def Tr.AllP {A : Type} (p : Nat → A → Prop) : Tr A → Prop
  | .nil => True
  | .node k v l r => p k v ∧ l.AllP p ∧ r.AllP p

def Tr.all {A : Type} (p : Nat → A → Bool) : Tr A → Bool
  | .nil => true
  | .node k v l r => p k v && (l.all p && r.all p)

theorem Tr.get_allP {A : Type} {p : Nat → A → Prop} : ∀ (t : Tr A), t.AllP p → ∀ n v, t.get n = some v → p n v
  | .nil, _, n, v, h => by simp [Tr.get] at h
  | .node k v l r, ha, n, u, h => by
    simp only [Tr.get] at h
    split at h
    · rename_i hk
      have := Nat.eq_of_beq_eq_true hk
      subst this
      obtain rfl := Option.some.inj h
      exact ha.1
    · split at h
      · exact Tr.get_allP l ha.2.1 n u h
      · exact Tr.get_allP r ha.2.2 n u h

theorem Tr.all_allP {A : Type} {p : Nat → A → Bool} : ∀ (t : Tr A), t.all p = true → t.AllP fun n v => p n v = true
  | .nil, _ => trivial
  | .node k v l r, h => by
    simp only [Tr.all, Bool.and_eq_true] at h
    exact ⟨h.1, Tr.all_allP l h.2.1, Tr.all_allP r h.2.2⟩

/-- Zero values, the same. -/
def sameZ : AV → AV → Bool
  | .bool a, .bool b => a == b
  | .int k a, .int k' b => decide (k = k') && a == b
  | .str a, .str b => a == b
  | .nilptr, .nilptr => true
  | .nils, .nils => true
  | .nilmap, .nilmap => true
  | .nilfunc, .nilfunc => true
  | .niliface, .niliface => true
  | _, _ => false

def sameZL : List AV → List AV → Bool
  | [], [] => true
  | a :: x, b :: y => sameZ a b && sameZL x y
  | _, _ => false

def sameZero : AV → AV → Bool
  | .agg x, .agg y => sameZL x y
  | x, y => sameZ x y

theorem sameZ_eq {a b : AV} (h : sameZ a b = true) : a = b := by
  cases a <;> cases b <;> simp_all [sameZ]

theorem sameZL_eq : ∀ {x y : List AV}, sameZL x y = true → x = y
  | [], [], _ => rfl
  | a :: x, b :: y, h => by
    simp only [sameZL, Bool.and_eq_true] at h
    rw [sameZ_eq h.1, sameZL_eq h.2]
  | [], _ :: _, h => by simp [sameZL] at h
  | _ :: _, [], h => by simp [sameZL] at h

theorem sameZero_eq {a b : AV} (h : sameZero a b = true) : a = b := by
  unfold sameZero at h
  split at h
  · rw [sameZL_eq h]
  · exact sameZ_eq h

def sameFs : List (Nat × TypeId) → List Field → Bool
  | [], [] => true
  | a :: x, b :: y => Nat.beq a.1 b.offset && (Nat.beq a.2 b.type && sameFs x y)
  | _, _ => false

theorem sameFs_eq : ∀ {x : List (Nat × TypeId)} {y : List Field}, sameFs x y = true → (y.map fun f => (f.offset, f.type)) = x
  | [], [], _ => rfl
  | a :: x, b :: y, h => by
    simp only [sameFs, Bool.and_eq_true] at h
    have h1 := Nat.eq_of_beq_eq_true h.1
    have h2 := Nat.eq_of_beq_eq_true h.2.1
    rw [List.map_cons, sameFs_eq h.2.2, ← h1, ← h2]
  | [], _ :: _, h => by simp [sameFs] at h
  | _ :: _, [], h => by simp [sameFs] at h

def kindB (P : Program) (t : TypeId) (k : TK) : Bool :=
  match P.underlying t with
  | some d => match k, d with
    | .bool, .bool => true
    | .int k, .int k' => decide (k = k')
    | .string, .string => true
    | .ptr, .pointer _ => true
    | .func, .func _ _ _ => true
    | .iface, .interface _ => true
    | .struct fs, .struct fields => sameFs fs fields.toList && fields.toList.all (fun f => f.name != "_") && fields.toList.all (fun f => (P.info? f.type).isSome)
    | .array n e, .array n' e' => Nat.beq n n' && Nat.beq e e'
    | .slice e, .slice e' => Nat.beq e e'
    | .map k e, .map k' e' => Nat.beq k k' && Nat.beq e e'
    | _, _ => false
  | none => false

theorem kindB_ok {P : Program} {t : TypeId} {k : TK} (h : kindB P t k = true) : kindOK P t k := by
  unfold kindB at h
  split at h
  · rename_i d hd
    split at h
    case h_1 => exact hd
    case h_2 => simp only [decide_eq_true_eq] at h; subst h; exact hd
    case h_3 => exact hd
    case h_4 => exact ⟨_, hd⟩
    case h_5 => exact ⟨_, _, _, hd⟩
    case h_6 => exact ⟨_, hd⟩
    case h_7 =>
      simp only [Bool.and_eq_true] at h
      exact ⟨_, hd, sameFs_eq h.1.1, h.1.2, h.2⟩
    case h_8 =>
      simp only [Bool.and_eq_true] at h
      obtain rfl := Nat.eq_of_beq_eq_true h.1
      obtain rfl := Nat.eq_of_beq_eq_true h.2
      exact hd
    case h_9 => obtain rfl := Nat.eq_of_beq_eq_true h; exact hd
    case h_10 =>
      simp only [Bool.and_eq_true] at h
      obtain rfl := Nat.eq_of_beq_eq_true h.1
      obtain rfl := Nat.eq_of_beq_eq_true h.2
      exact hd
    case h_11 => simp at h
  · simp at h

def AV.isAggV : AV → Bool
  | .agg _ => true
  | _ => false

def typeB (P : Program) (t : TypeId) (i : TI) : Bool :=
  (match P.info? t with
   | some x => Nat.beq x.size i.size && (Nat.beq x.bytes i.bytes && match x.zero with
     | some z => sameZero i.zero (ofValue z) && i.zero.solid
     | none => false)
   | none => false) &&
  kindB P t i.k && (!i.cmp || (!P.eqGuardType P.depth t && !P.stoodInHeld t)) && (i.isAgg == i.zero.isAggV) && (i.isAgg || Nat.beq i.size 1)

theorem typeB_ok {P : Program} {t : TypeId} {i : TI} (h : typeB P t i = true) : TypeOK P t i := by
  simp only [typeB, Bool.and_eq_true] at h
  obtain ⟨⟨⟨⟨h1, h2⟩, h3⟩, h4⟩, h5⟩ := h
  refine ⟨?_, kindB_ok h2, ?_, ?_, ?_⟩
  · split at h1
    · rename_i x hx
      simp only [Bool.and_eq_true] at h1
      obtain ⟨e1, e2, h1⟩ := h1
      split at h1
      · rename_i z hz
        simp only [Bool.and_eq_true] at h1
        exact ⟨x, z, hx, Nat.eq_of_beq_eq_true e1, Nat.eq_of_beq_eq_true e2, hz, sameZero_eq h1.1, h1.2⟩
      · simp at h1
    · simp at h1
  · intro hc
    rw [hc] at h3
    simpa using h3
  · have : i.isAgg = i.zero.isAggV := by simpa using h4
    rw [this]
    constructor
    · intro h
      cases hz : i.zero with
      | agg cs => exact ⟨cs, rfl⟩
      | _ => rw [hz] at h; simp [AV.isAggV] at h
    · rintro ⟨cs, hz⟩; rw [hz]; rfl
  · intro ha
    rw [ha] at h5
    exact Nat.eq_of_beq_eq_true (by simpa using h5)

/-- A program's abstract system: tables. -/
def tabS (types : Tr TI) (funcs : Tr Func) (globs : Tr AV) (pure : Tr Unit) (objs : Tr Unit) (ext : FuncId → Option (List AV → Option AV)) (room : Nat) (fixed : List (Nat × Array Value) := []) : Sys where
  T := types.get
  F := funcs.get
  G := fun n => (globs.get n).getD .top
  isPure := fun f => (pure.get f).isSome
  ext := ext
  objT := fun t => (objs.get t).isSome
  room := room
  fixed := fixed

def globB (v : AV) : Bool := match v with
  | .rop (.bool _) | .rop (.int _ _) | .rop (.str _) => true
  | _ => false

theorem tab_ok {P : Program} {types : Tr TI} {funcs : Tr Func} {globs : Tr AV} {pure objs : Tr Unit} {ext : FuncId → Option (List AV → Option AV)} {room : Nat} {fixed : List (Nat × Array Value)}
    (ht : types.all (typeB P) = true) (hf : funcs.AllP fun f fn => P.funcs[f]? = some fn ∧ fn.body.isSome = true ∧ fn.name ≠ "runtime.NumGoroutine") (hg : globs.AllP fun _ v => erase v = v ∧ below 0 0 v = true) : SysOK (tabS types funcs globs pure objs ext room fixed) P where
  type := fun t i h => typeB_ok (types.get_allP (types.all_allP ht) t i h)
  func := fun f fn h => funcs.get_allP hf f fn h
  glob := by
    intro n
    show erase ((globs.get n).getD .top) = (globs.get n).getD .top ∧ below 0 0 ((globs.get n).getD .top) = true
    cases h : globs.get n with
    | none => exact ⟨rfl, rfl⟩
    | some v => exact globs.get_allP hg n v h

end Go.Sx

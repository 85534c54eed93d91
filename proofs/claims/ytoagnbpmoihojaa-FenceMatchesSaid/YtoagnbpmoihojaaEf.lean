/- THE ENGINE, 24: an operation's answer does not hang on what follows. -/
import Derived.Test.YtoagnbpmoihojaaEa
import Derived.Test.YtoagnbpmoihojaaEe
set_option linter.unusedSimpArgs false
set_option linter.unusedVariables false
namespace Go.Sx
variable {R : Type}

theorem partK_nat (i : TI) (cs : List AV) (off : Nat) (K : AV → Option R) : partK i cs off K = optK (partK i cs off some) K := by
  unfold partK; repeat' (first | rfl | split)
theorem shiftK_nat (l : Bool) (k : IntKind) (a b : Int) (K : AV → Option R) : shiftK l k a b K = optK (shiftK l k a b some) K := by
  unfold shiftK; repeat' (first | rfl | split)
theorem intK_nat (op : BinOp) (k : IntKind) (a b : Int) (K : AV → Option R) : intK op k a b K = optK (intK op k a b some) K := by
  cases op <;> unfold intK <;> repeat' (first | rfl | split)
theorem strK_nat (op : BinOp) (a b : List UInt8) (K : AV → Option R) : strK op a b K = optK (strK op a b some) K := by
  cases op <;> unfold strK <;> repeat' (first | rfl | split)
theorem binK_nat (T : TypeId → Option TI) (op : BinOp) (t : TypeId) (x y : AV) (K : AV → Option R) : binK T op t x y K = optK (binK T op t x y some) K := by
  unfold binK; repeat' (first | rfl | exact shiftK_nat _ _ _ _ _ | exact intK_nat _ _ _ _ _ | exact strK_nat _ _ _ _ | split)
theorem unK_nat (op : UnOp) (x : AV) (K : AV → Option R) : unK op x K = optK (unK op x some) K := by
  unfold unK; repeat' (first | rfl | split)
theorem loadK_nat (H : AH) (i : TI) (a : AV) (K : AV → Option R) : loadK H i a K = optK (loadK H i a some) K := by
  unfold loadK; repeat' (first | rfl | exact partK_nat _ _ _ _ | split)
theorem storeK_nat (H : AH) (i : TI) (a v : AV) (K : AH → Option R) : storeK H i a v K = optK (storeK H i a v some) K := by
  unfold storeK; repeat' (first | rfl | split)
theorem optK_optK {A B : Type} (o : Option A) (f : A → Option B) (g : B → Option R) : optK (optK o f) g = optK o fun a => optK (f a) g := by
  cases o <;> rfl
theorem optK_congr {A : Type} {o : Option A} {f g : A → Option R} (h : ∀ a, f a = g a) : optK o f = optK o g := by
  cases o with
  | none => rfl
  | some a => exact h a
theorem fieldAddrK_nat (i : TI) (T : TypeId → Option TI) (a : AV) (f : Nat) (K : AV → Option R) : fieldAddrK i T a f K = optK (fieldAddrK i T a f some) K := by
  unfold fieldAddrK
  repeat' (first | rfl | (rw [partK_nat, partK_nat (K := fun v => some (AV.rop v)), optK_optK]; rfl) | split)
theorem fieldK_nat (i : TI) (T : TypeId → Option TI) (a : AV) (f : Nat) (K : AV → Option R) : fieldK i T a f K = optK (fieldK i T a f some) K := by
  unfold fieldK; repeat' (first | rfl | exact partK_nat _ _ _ _ | split)
theorem asIntK_nat (v : AV) {B : Type} (K : IntKind → Int → Option B) (K' : B → Option R) : optK (asIntK v K) K' = asIntK v fun k n => optK (K k n) K' := by
  unfold asIntK; split <;> rfl
theorem asIntK_congr {v : AV} {K K' : IntKind → Int → Option R} (h : ∀ k n, K k n = K' k n) : asIntK v K = asIntK v K' := by
  unfold asIntK; split
  · exact h _ _
  · rfl
theorem indexAddrK_nat (i : TI) (T : TypeId → Option TI) (x ix : AV) (K : AV → Option R) : indexAddrK i T x ix K = optK (indexAddrK i T x ix some) K := by
  unfold indexAddrK
  rw [asIntK_nat]
  refine asIntK_congr fun k n => ?_
  repeat' (first | rfl | (rw [partK_nat, partK_nat (K := fun v => some (AV.rop v)), optK_optK]; rfl) | split)
theorem indexK_nat (i : TI) (T : TypeId → Option TI) (x ix : AV) (K : AV → Option R) : indexK i T x ix K = optK (indexK i T x ix some) K := by
  unfold indexK
  rw [asIntK_nat]
  refine asIntK_congr fun k n => ?_
  repeat' (first | rfl | exact partK_nat _ _ _ _ | split)
theorem boundK_nat (v : AV) (y : Nat) {B : Type} (K : Nat → Option B) (K' : B → Option R) : optK (boundK v y K) K' = boundK v y fun n => optK (K n) K' := by
  unfold boundK
  rw [asIntK_nat]
  refine asIntK_congr fun k n => ?_
  split <;> rfl
theorem optBoundK_nat (v : Option AV) (y d : Nat) {B : Type} (K : Nat → Option B) (K' : B → Option R) : optK (optBoundK v y d K) K' = optBoundK v y d fun n => optK (K n) K' := by
  cases v with
  | none => rfl
  | some v => exact boundK_nat v y K K'
theorem optK_ite {A : Type} (c : Prop) [Decidable c] (a b : Option A) (K : A → Option R) : optK (if c then a else b) K = if c then optK a K else optK b K := by split <;> rfl
theorem optK_some {A : Type} (a : A) (K : A → Option R) : optK (some a) K = K a := rfl
theorem optK_none {A : Type} (K : A → Option R) : optK (none : Option A) K = none := rfl
theorem sliceK_nat (i : TI) (T : TypeId → Option TI) (x : AV) (lo hi mx : Option AV) (K : AV → Option R) : sliceK i T x lo hi mx K = optK (sliceK i T x lo hi mx some) K := by
  unfold sliceK
  repeat' (first | rfl | (simp only [optBoundK_nat, boundK_nat, optK_ite, optK_some, optK_none]; done) | split)
theorem buildK_nat (i : TI) (T : TypeId → Option TI) (ps : List (Nat × AV)) (K : AV → Option R) : buildK i T ps K = optK (buildK i T ps some) K := by
  unfold buildK; repeat' (first | rfl | split)
abbrev pairK : AV → AH → Option (AV × AH) := fun v H => some (v, H)
theorem buildSliceK_nat (S : Sys) (H : AH) (i : TI) (n : Nat) (ps : List (Nat × AV)) (K : AV → AH → Option R) : buildSliceK S H i n ps K = optK (buildSliceK S H i n ps pairK) fun p => K p.1 p.2 := by
  unfold buildSliceK newK; repeat' (first | rfl | split)
theorem makeSliceK_nat (S : Sys) (H : AH) (i : TI) (l c : AV) (K : AV → AH → Option R) : makeSliceK S H i l c K = optK (makeSliceK S H i l c pairK) fun p => K p.1 p.2 := by
  unfold makeSliceK newK
  split
  · split
    · rfl
    · rw [asIntK_nat]
      refine asIntK_congr fun k n => ?_
      rw [asIntK_nat]
      refine asIntK_congr fun k n => ?_
      repeat' (first | rfl | split)
  · rfl
theorem appendK_nat (S : Sys) (H : AH) (ts : Array TypeId) (s x : AV) (K : AV → AH → Option R) : appendK S H ts s x K = optK (appendK S H ts s x pairK) fun p => K p.1 p.2 := by
  unfold appendK newK; repeat' (first | rfl | split)
theorem copyK_nat (S : Sys) (H : AH) (ts : Array TypeId) (d x : AV) (K : AV → AH → Option R) : copyK S H ts d x K = optK (copyK S H ts d x pairK) fun p => K p.1 p.2 := by
  unfold copyK; repeat' (first | rfl | split)
theorem lenK_nat (S : Sys) (H : AH) (ts : Array TypeId) (x : AV) (K : AV → Option R) : lenK S H ts x K = optK (lenK S H ts x some) K := by
  unfold lenK; repeat' (first | rfl | split)
theorem lookupK_nat (S : Sys) (H : AH) (i : TI) (x ix : AV) (ok : Bool) (K : AV → Option R) : lookupK S H i x ix ok K = optK (lookupK S H i x ix ok some) K := by
  unfold lookupK; repeat' (first | rfl | split)
theorem mapUpdateK_nat (S : Sys) (H : AH) (i : TI) (m k v : AV) (K : AH → Option R) : mapUpdateK S H i m k v K = optK (mapUpdateK S H i m k v some) K := by
  unfold mapUpdateK; repeat' (first | rfl | split)
theorem minmaxK_nat (mx : Bool) : ∀ (us : List AV) (u : AV) (K : AV → Option R), minmaxK mx u us K = optK (minmaxK mx u us some) K
  | [], u, K => by cases u <;> rfl
  | v :: us, u, K => by
    cases u <;> try rfl
    cases v <;> try rfl
    simp only [minmaxK]
    exact minmaxK_nat mx us _ K
theorem builtinK_nat (S : Sys) (H : AH) (b : Builtin) (ts : Array TypeId) (xs : List AV) (K : AV → AH → Option R) : builtinK S H b ts xs K = optK (builtinK S H b ts xs pairK) fun p => K p.1 p.2 := by
  unfold builtinK
  split
  · rw [lenK_nat, lenK_nat (K := fun v => pairK v H), optK_optK]; rfl
  · exact appendK_nat _ _ _ _ _ _
  · exact copyK_nat _ _ _ _ _ _
  · rw [minmaxK_nat, minmaxK_nat (K := fun v => pairK v H), optK_optK]; rfl
  · rw [minmaxK_nat, minmaxK_nat (K := fun v => pairK v H), optK_optK]; rfl
  · rfl
theorem callFn_nat (call : Caller) (f : AV) (args : List AV) (H : AH) (K : AV → AH → Option R) : callFn call f args H K = optK (callFn call f args H pairK) fun p => K p.1 p.2 := by
  unfold callFn
  split
  · rw [optK_optK]; rfl
  · rw [optK_optK]; rfl
  · rfl
theorem br_nat {A : Type} (b : Bool) (f g : Unit → Option A) (K : A → Option R) : optK (br b f g) K = br b (fun _ => optK (f ()) K) (fun _ => optK (g ()) K) := by cases b <;> rfl

theorem textK_nat (i j : TI) (T : TypeId → Option TI) (v : AV) (K : AV → Option R) : textK i j T v K = optK (textK i j T v some) K := by
  unfold textK
  repeat' (first | rfl | split)
theorem convK_nat (S : Sys) (H : AH) (a b : TypeId) (v : AV) (K : AV → AH → Option R) : convK S H a b v K = optK (convK S H a b v pairK) fun p => K p.1 p.2 := by
  unfold convK
  repeat' (first | rfl | (rw [textK_nat, textK_nat (K := fun v => pairK v H), optK_optK]; rfl) | split)
theorem rangeStrK_nat (H : AH) (i : TI) (v : AV) (K : AV → AH → Option R) : rangeStrK H i v K = optK (rangeStrK H i v pairK) fun p => K p.1 p.2 := by
  unfold rangeStrK
  repeat' (first | rfl | split)
theorem nextK_nat (H : AH) (v : AV) (isS : Bool) (K : AV → AH → Option R) : nextK H v isS K = optK (nextK H v isS pairK) fun p => K p.1 p.2 := by
  unfold nextK
  repeat' (first | rfl | split)

theorem opK_nat (S : Sys) (call : Caller) (s : List AV) (H : AH) (o : Oper) (K : AV → AH → Option R) : opK S call s H o K = optK (opK S call s H o pairK) fun p => K p.1 p.2 := by
  obtain ⟨dst, op, type, pos, after, guard⟩ := o
  unfold opK
  cases op <;> simp only [newK]
  all_goals repeat' (first
    | rfl
    | (rw [br_nat]; rfl)
    | exact buildSliceK_nat _ _ _ _ _ _
    | exact makeSliceK_nat _ _ _ _ _ _
    | exact convK_nat _ _ _ _ _ _
    | exact rangeStrK_nat _ _ _ _
    | exact nextK_nat _ _ _ _
    | exact callFn_nat _ _ _ _ _
    | exact builtinK_nat _ _ _ _ _ _
    | (rw [buildK_nat, buildK_nat (K := fun v => pairK v H), optK_optK]; rfl)
    | (rw [loadK_nat, loadK_nat (K := fun v => pairK v H), optK_optK]; rfl)
    | (rw [storeK_nat, storeK_nat (K := fun H => pairK .top H), optK_optK]; rfl)
    | (rw [binK_nat, binK_nat (K := fun v => pairK v H), optK_optK]; rfl)
    | (rw [unK_nat, unK_nat (K := fun v => pairK v H), optK_optK]; rfl)
    | (rw [sliceK_nat, sliceK_nat (K := fun v => pairK v H), optK_optK]; rfl)
    | (rw [fieldAddrK_nat, fieldAddrK_nat (K := fun v => pairK v H), optK_optK]; rfl)
    | (rw [fieldK_nat, fieldK_nat (K := fun v => pairK v H), optK_optK]; rfl)
    | (rw [indexAddrK_nat, indexAddrK_nat (K := fun v => pairK v H), optK_optK]; rfl)
    | (rw [indexK_nat, indexK_nat (K := fun v => pairK v H), optK_optK]; rfl)
    | (rw [lookupK_nat, lookupK_nat (K := fun v => pairK v H), optK_optK]; rfl)
    | (rw [mapUpdateK_nat, mapUpdateK_nat (K := fun H => pairK .top H), optK_optK]; rfl)
    | split)

end Go.Sx

/- THE ENGINE, 25: two operations that do not clash may change places. -/
set_option linter.unusedSimpArgs false
set_option linter.unusedVariables false
namespace Go.Sx
variable {R : Type} {S : Sys} {call : Caller}

theorem ev_congr {G : Nat → AV} {s1 s2 : List AV} {x : Operand} (h : ∀ t, x = .tmp t → s1[t]? = s2[t]?) : ev G s1 x = ev G s2 x := by
  cases x with
  | tmp t => simp only [ev, List.getD, h t rfl]
  | _ => rfl

theorem map_ev {G : Nat → AV} {s1 s2 : List AV} {l : List Operand} (h : ∀ x, x ∈ l → ev G s1 x = ev G s2 x) : l.map (ev G s1) = l.map (ev G s2) := List.map_congr_left h

/-- What an operation reads. -/
theorem opK_congr {s1 s2 : List AV} {H : AH} {o : Oper} {K : AV → AH → Option R} (h : ∀ x, x ∈ o.op.operands.toList → ev S.G s1 x = ev S.G s2 x) : opK S call s1 H o K = opK S call s2 H o K := by
  obtain ⟨dst, op, type, pos, after, guard⟩ := o
  simp only at h
  unfold opK
  cases op <;> simp only [Op.operands, Array.toList_append, List.mem_append, List.mem_cons, List.not_mem_nil, or_false, forall_eq_or_imp, forall_eq, List.mem_map] at h ⊢
  all_goals try rfl
  all_goals try (simp only [h]; done)
  case build t ps =>
    have e : (ps.toList.map fun p => (p.1, ev S.G s1 p.2)) = ps.toList.map fun p => (p.1, ev S.G s2 p.2) := List.map_congr_left fun p hp => by rw [h p.2 ⟨p, hp, rfl⟩]
    rw [e]
  case buildSlice t n ps =>
    have e : (ps.toList.map fun p => (p.1, ev S.G s1 p.2)) = ps.toList.map fun p => (p.1, ev S.G s2 p.2) := List.map_congr_left fun p hp => by rw [h p.2 ⟨p, hp, rfl⟩]
    rw [e]
  case makeFunc fn as bs => rw [map_ev fun x hx => h x (.inl hx), map_ev fun x hx => h x (.inr hx)]
  case makeMap t r => cases r <;> rfl
  case slice t x lo hi mx =>
    have e : ∀ o : Option Operand, (∀ x, o = some x → ev S.G s1 x = ev S.G s2 x) → o.map (ev S.G s1) = o.map (ev S.G s2) := by
      intro o ho
      cases o with
      | none => rfl
      | some x => simp [ho x rfl]
    rw [h x (.inl (.inl (.inl rfl))), e lo (fun x hx => h x (by subst hx; simp)), e hi (fun x hx => h x (by subst hx; simp)), e mx (fun x hx => h x (by subst hx; simp))]
  case call c =>
    have hargs : ∀ x, x ∈ c.args.toList → ev S.G s1 x = ev S.G s2 x := fun x hx => h x (by unfold Call.operands; simp only [Array.toList_append, List.mem_append]; exact .inr hx)
    rw [map_ev hargs]
    split
    · rename_i f hf
      rw [h f (by unfold Call.operands; rw [hf]; simp)]
    · rfl
    · rfl

theorem convK_still {H H2 : AH} {a b : TypeId} {v : AV} : convK S H a b v pairK = optK (convK S H2 a b v pairK) fun p => some (p.1, H) := by
  unfold convK
  repeat' (first | rfl | (rw [textK_nat, textK_nat (K := fun v => pairK v H2), optK_optK]; rfl) | split)

/-- An operation that does not ask of the objects. -/
theorem opK_still {s : List AV} {H H2 : AH} {o : Oper} (h : touches o = false) : opK S call s H o pairK = optK (opK S call s H2 o pairK) fun p => some (p.1, H) := by
  obtain ⟨dst, op, type, pos, after, guard⟩ := o
  unfold opK
  cases op <;> simp only [touches] at h ⊢ <;> try (simp at h; done)
  case call c =>
    split
    · simp_all
    · rename_i b hb
      rw [hb] at h
      unfold builtinK
      cases b <;> try (simp at h; done)
      all_goals
        split <;> first
          | contradiction
          | rfl
          | (rw [minmaxK_nat, minmaxK_nat (K := fun v => pairK v H2), optK_optK]; rfl)
    · rfl
  all_goals repeat' (first
    | rfl
    | exact convK_still
    | (rw [br_nat]; rfl)
    | (rw [buildK_nat, buildK_nat (K := fun v => pairK v H2), optK_optK]; rfl)
    | (rw [binK_nat, binK_nat (K := fun v => pairK v H2), optK_optK]; rfl)
    | (rw [unK_nat, unK_nat (K := fun v => pairK v H2), optK_optK]; rfl)
    | (rw [sliceK_nat, sliceK_nat (K := fun v => pairK v H2), optK_optK]; rfl)
    | (rw [fieldAddrK_nat, fieldAddrK_nat (K := fun v => pairK v H2), optK_optK]; rfl)
    | (rw [fieldK_nat, fieldK_nat (K := fun v => pairK v H2), optK_optK]; rfl)
    | (rw [indexAddrK_nat, indexAddrK_nat (K := fun v => pairK v H2), optK_optK]; rfl)
    | (rw [indexK_nat, indexK_nat (K := fun v => pairK v H2), optK_optK]; rfl)
    | split)

/-- Calls with trees leave the objects alone. -/
def CallStill (S : Sys) (call : Caller) : Prop := ∀ f args H v H', S.isPure f = true → call f args H = some (v, H') → H' = H

theorem opt_pair {o : Option AV} {H : AH} {v : AV} {H' : AH} (h : optK o (fun v => pairK v H) = some (v, H')) : H' = H := by
  cases o with
  | none => simp [optK] at h
  | some a => simp [optK] at h; exact h.2.symm

theorem opK_quiet (hc : CallStill S call) {s : List AV} {H : AH} {o : Oper} (h : changes S o = false) {v : AV} {H' : AH} (hr : opK S call s H o pairK = some (v, H')) : H' = H := by
  by_cases ht : touches o = false
  · have := opK_still (S := S) (call := call) (s := s) (H := H) (H2 := H) ht
    rw [hr] at this
    simp [optK] at this
    exact this
  · obtain ⟨dst, op, type, pos, after, guard⟩ := o
    unfold opK at hr
    cases op <;> simp only [touches, changes] at h ht hr <;> try (simp at h; done)
    all_goals try (exact absurd trivial ht)
    case buildSlice t n ps =>
      split at hr
      · rename_i i hi
        rw [hi] at h
        simp only at h
        unfold buildSliceK at hr
        split at hr
        · rename_i e hik
          rw [hik] at h
          simp only at h
          split at hr
          · simp at hr
          · split at hr
            · split at hr
              · split at hr
                · rw [if_neg (by rw [h]; simp)] at hr
                  simp at hr; exact hr.2.symm
                · simp at hr
              · simp at hr
            · simp at hr
        · simp at hr
      · simp at hr
    case load t a =>
      split at hr
      · rw [loadK_nat] at hr; exact opt_pair hr
      · simp at hr
    case lookup t x ix ok =>
      split at hr
      · rw [lookupK_nat] at hr; exact opt_pair hr
      · simp at hr
    case call c =>
      split at hr
      · rename_i f hf
        rw [hf] at h
        unfold callFn at hr
        split at hr
        · rename_i fid first caps hfv
          cases f with
          | func g =>
            simp only [Bool.not_eq_false'] at h
            simp only [ev, AV.func.injEq, Fn.func.injEq] at hfv
            obtain ⟨rfl, rfl, rfl⟩ := hfv
            obtain ⟨p, hp, hr⟩ : ∃ p, call g (([] ++ List.map (ev S.G s) c.args.toList) ++ []) H = some p ∧ pairK p.1 p.2 = some (v, H') := by
              generalize call g (([] ++ List.map (ev S.G s) c.args.toList) ++ []) H = q at hr
              cases q with
              | none => simp [optK] at hr
              | some p => exact ⟨p, rfl, hr⟩
            simp at hr
            obtain ⟨rfl, rfl⟩ := hr
            exact hc g _ H p.1 p.2 h hp
          | _ => simp at h
        · rename_i id hfv
          cases f with
          | func g => simp [ev] at hfv
          | _ => simp at h
        · simp at hr
      · rename_i b hb
        rw [hb] at h
        cases b <;> try (simp at h; done)
        all_goals
          unfold builtinK at hr
          split at hr
          all_goals first
            | (simp at hr; done)
            | (rw [lenK_nat] at hr; exact opt_pair hr)
            | (rw [minmaxK_nat] at hr; exact opt_pair hr)
            | contradiction
            | skip
      · simp at hr

end Go.Sx

/- THE ENGINE, 26: a region whose order is drawn: the moves. -/
set_option linter.unusedSimpArgs false
set_option linter.unusedVariables false
namespace Go.Sx
variable {R : Type} {S : Sys} {call : Caller}

def stepD (S : Sys) (call : Caller) (all : Array Oper) (o : Oper) (s : List AV) (H : AH) : Option (List AV × AH) :=
  match wantD all o s with
  | some true => optK (opK S call s H o pairK) fun p => some (putD o.dst s p.1, p.2)
  | some false => some (putD o.dst s (.tuple []), H)
  | none => none

def runD (S : Sys) (call : Caller) (all : Array Oper) : List Oper → List AV → AH → Option (List AV × AH)
  | [], s, H => some (s, H)
  | o :: r, s, H => optK (stepD S call all o s H) fun p => runD S call all r p.1 p.2

theorem set_same {s : List AV} {d : Nat} {v : AV} (h : s[d]? = some v) : s.set d v = s := by
  apply List.ext_getElem?
  intro i
  rw [List.getElem?_set]
  split
  · rename_i e; subst e
    split
    · exact h.symm
    · rename_i hn; exact (List.getElem?_eq_none (by omega)).symm
  · rfl

theorem opsK_run {all : Array Oper} : ∀ (l : List Oper) (s : List AV) (H : AH) (K : List AV → AH → Option R), opsK S call all l s H K = optK (runD S call all l s H) fun p => K p.1 p.2
  | [], s, H, K => rfl
  | o :: r, s, H, K => by
    simp only [opsK, runD, stepD, wantD]
    cases hg : o.guard with
    | none =>
      simp only
      rw [opK_nat]
      simp only [optK_optK, optK_some]
      exact optK_congr fun p => opsK_run r _ _ K
    | some g =>
      obtain ⟨j, want⟩ := g
      simp only
      cases (all[j]?).bind (·.dst) with
      | none => rfl
      | some d =>
        simp only
        cases hd : s[d]? with
        | none => rfl
        | some v =>
          cases v with
          | bool t =>
            cases t <;> cases want <;> simp only [br, set_same hd, opsK_run r, if_true, Bool.false_eq_true, if_false, beq_self_eq_true, BEq.rfl, optK_some] <;> try rfl
            all_goals
              rw [opK_nat]
              simp only [optK_optK, optK_some]
              try rfl
          | tuple vs => cases vs with
            | nil => simp only [optK_some, opsK_run r]
            | cons => rfl
          | _ => rfl

theorem get_put {s : List AV} {dst : Option Nat} {v : AV} {t : Nat} (h : ∀ d, dst = some d → d ≠ t) : (putD dst s v)[t]? = s[t]? := by
  cases dst with
  | none => rfl
  | some d => simp [putD, List.getElem?_set_ne (h d rfl)]

theorem want_put {all : Array Oper} {o : Oper} {s : List AV} {dst : Option Nat} {v : AV} (h : ∀ d, dst = some d → d ∉ usesT all o) : wantD all o (putD dst s v) = wantD all o s := by
  unfold wantD
  cases hg : o.guard with
  | none => rfl
  | some g =>
    obtain ⟨j, want⟩ := g
    simp only
    cases hb : (all[j]?).bind (·.dst) with
    | none => rfl
    | some d =>
      simp only
      rw [get_put]
      intro d' hd' e
      subst e
      exact h d' hd' (by simp [usesT, hg, hb])

theorem op_put {all : Array Oper} {o : Oper} {s : List AV} {H : AH} {dst : Option Nat} {v : AV} (h : ∀ d, dst = some d → d ∉ usesT all o) {K : AV → AH → Option R} : opK S call (putD dst s v) H o K = opK S call s H o K := by
  refine opK_congr fun x hx => ev_congr fun t ht => ?_
  subst ht
  exact get_put fun d hd e => h d hd (by subst e; exact List.mem_append_left _ (List.mem_filterMap.2 ⟨.tmp d, hx, rfl⟩))

theorem put_comm {s : List AV} {x y : Option Nat} {u v : AV} (h : ∀ d, x = some d → y ≠ some d) : putD y (putD x s u) v = putD x (putD y s v) u := by
  cases x with
  | none => rfl
  | some d => cases y with
    | none => rfl
    | some e => exact List.set_comm _ _ (fun e' => h d rfl (e' ▸ rfl))

theorem changes_touches {o : Oper} (h : touches o = false) : changes S o = false := by
  obtain ⟨dst, op, type, pos, after, guard⟩ := o
  cases op <;> simp only [touches, changes] at h ⊢ <;> try (simp at h; done)
  split at h <;> simp_all

theorem clash_spec {all : Array Oper} {a b : Oper} (h : clash S all a b = false) :
    (touches a = true → changes S b = false) ∧ (changes S a = true → touches b = false) ∧ (∀ d, a.dst = some d → d ∉ usesT all b) ∧ (∀ d, a.dst = some d → b.dst ≠ some d) ∧ (∀ d, b.dst = some d → d ∉ usesT all a) := by
  unfold clash at h
  simp only [Bool.or_eq_false_iff, Bool.and_eq_false_iff] at h
  obtain ⟨⟨⟨h1, h2⟩, h3⟩, h4⟩ := h
  refine ⟨fun e => ?_, fun e => ?_, fun d hd => ?_, fun d hd => ?_, fun d hd => ?_⟩
  · simpa [e] using h1
  · simpa [e] using h2
  · rw [hd] at h3; simp at h3; exact h3.1
  · rw [hd] at h3; simp at h3; exact h3.2
  · rw [hd] at h4; simp at h4; exact h4

/-- Two operations that do not clash, on one row: the objects. -/
theorem swap_op (hc : CallStill S call) {all : Array Oper} {a b : Oper} (hcl : clash S all a b = false) {s : List AV} {H H1 H2 : AH} {u v : AV} (h1 : opK S call s H a pairK = some (u, H1)) (h2 : opK S call s H1 b pairK = some (v, H2)) :
    ∃ H1', opK S call s H b pairK = some (v, H1') ∧ opK S call s H1' a pairK = some (u, H2) := by
  obtain ⟨c1, c2, -, -, -⟩ := clash_spec hcl
  cases ha : touches a with
  | false =>
    have e1 := opK_quiet hc (changes_touches ha) h1
    subst e1
    refine ⟨H2, h2, ?_⟩
    rw [opK_still ha (H2 := H1), h1]
    rfl
  | true =>
    cases hb : touches b with
    | false =>
      have e2 := opK_quiet hc (changes_touches hb) h2
      subst e2
      refine ⟨H, ?_, h1⟩
      rw [opK_still hb (H2 := H2), h2]
      rfl
    | true =>
      have e2 := opK_quiet hc (c1 ha) h2
      cases hca : changes S a with
      | true => rw [c2 hca] at hb; exact absurd hb (by simp)
      | false =>
        have e1 := opK_quiet hc hca h1
        subst e1; subst e2
        exact ⟨_, h2, h1⟩

theorem optK_inv2 {A : Type} {o : Option A} {f : A → Option R} {r : R} (h : optK o f = some r) : ∃ x, o = some x ∧ f x = some r := by
  cases o with
  | none => simp [optK] at h
  | some x => exact ⟨x, rfl, h⟩

theorem swap (hc : CallStill S call) {all : Array Oper} {a b : Oper} (hcl : clash S all a b = false) {s : List AV} {H : AH} {p q : List AV × AH} (h1 : stepD S call all a s H = some p) (h2 : stepD S call all b p.1 p.2 = some q) :
    ∃ p', stepD S call all b s H = some p' ∧ stepD S call all a p'.1 p'.2 = some q := by
  obtain ⟨-, -, d1, d2, d3⟩ := clash_spec hcl
  have d2' : ∀ d, b.dst = some d → a.dst ≠ some d := fun d hb ha => d2 d ha hb
  unfold stepD at h1
  split at h1
  · rename_i hw
    obtain ⟨⟨u, H1⟩, g1, e⟩ := optK_inv2 h1
    simp only [Option.some.injEq] at e
    subst e
    simp only at h2
    unfold stepD at h2
    rw [want_put d1] at h2
    split at h2
    · rename_i hv
      obtain ⟨⟨v, H2⟩, g2, e⟩ := optK_inv2 h2
      rw [op_put d1] at g2
      simp only [Option.some.injEq] at e
      subst e
      obtain ⟨H1', k1, k2⟩ := swap_op hc hcl g1 g2
      refine ⟨(putD b.dst s v, H1'), by simp [stepD, hv, k1, optK], ?_⟩
      simp only [stepD, want_put d3, hw, op_put d3, k2, optK]
      rw [put_comm d2']
    · rename_i hv
      simp only [Option.some.injEq] at h2
      subst h2
      refine ⟨(putD b.dst s (.tuple []), H), by simp [stepD, hv], ?_⟩
      simp only [stepD, want_put d3, hw, op_put d3, g1, optK]
      rw [put_comm d2']
    · simp at h2
  · rename_i hw
    simp only [Option.some.injEq] at h1
    subst h1
    simp only at h2
    unfold stepD at h2
    rw [want_put d1] at h2
    split at h2
    · rename_i hv
      obtain ⟨⟨v, H2⟩, g2, e⟩ := optK_inv2 h2
      rw [op_put d1] at g2
      simp only [Option.some.injEq] at e
      subst e
      refine ⟨(putD b.dst s v, H2), by simp [stepD, hv, g2, optK], ?_⟩
      simp only [stepD, want_put d3, hw]
      rw [put_comm d2']
    · rename_i hv
      simp only [Option.some.injEq] at h2
      subst h2
      refine ⟨(putD b.dst s (.tuple []), H), by simp [stepD, hv], ?_⟩
      simp only [stepD, want_put d3, hw]
      rw [put_comm d2']
    · simp at h2
  · simp at h1

theorem front (hc : CallStill S call) {all : Array Oper} {b : Oper} {post : List Oper} {r : List AV × AH} : ∀ (pre : List Oper), (∀ a, a ∈ pre → clash S all a b = false) → ∀ {s : List AV} {H : AH}, runD S call all (pre ++ b :: post) s H = some r → runD S call all (b :: (pre ++ post)) s H = some r
  | [], _, s, H, h => h
  | a :: pre, hp, s, H, h => by
    simp only [List.cons_append, runD] at h
    obtain ⟨p, h1, h⟩ := optK_inv2 h
    have ih := front hc pre (fun a ha => hp a (List.mem_cons_of_mem _ ha)) h
    simp only [runD] at ih
    obtain ⟨q, h2, h3⟩ := optK_inv2 ih
    obtain ⟨p', k1, k2⟩ := swap hc (hp a (List.mem_cons_self ..)) h1 h2
    simp only [List.cons_append, runD, k1, optK_some, k2, h3]

end Go.Sx

/- THE ENGINE, 27: a region whose order is drawn. -/
set_option linter.unusedSimpArgs false
set_option linter.unusedVariables false
namespace Go.Sx
variable {R : Type} {S : Sys} {call : Caller} {P : Program}

theorem force_eq {A : Type} (n : Nat) (k : Nat → A) : force n k = k n := by cases n <;> rfl

theorem mask_bit {acc : List Nat} {k : Nat} : ∀ {es : List Edge}, (maskOf acc es).testBit k = true → ∃ e, e ∈ es ∧ Region.binds .any e = true ∧ (e.on = k ∨ (acc.getD e.on 0).testBit k = true)
  | [], h => by simp [maskOf] at h
  | e :: r, h => by
    simp only [maskOf] at h
    split at h
    · rename_i hb
      rw [Nat.testBit_or, Nat.testBit_or, Bool.or_eq_true, Bool.or_eq_true] at h
      rcases h with (h | h) | h
      · rw [Nat.testBit_two_pow] at h
        exact ⟨e, List.mem_cons_self .., hb, .inl (by simpa using h)⟩
      · exact ⟨e, List.mem_cons_self .., hb, .inr h⟩
      · obtain ⟨e', h1, h2⟩ := mask_bit h
        exact ⟨e', List.mem_cons_of_mem _ h1, h2⟩
    · obtain ⟨e', h1, h2⟩ := mask_bit h
      exact ⟨e', List.mem_cons_of_mem _ h1, h2⟩

/-- What the check says of one operation. -/
def Good (cl : Oper → Oper → Bool) (all : List Oper) (M : List Nat) (i : Nat) (o : Oper) : Prop :=
  (∀ e, e ∈ o.after.toList → Region.binds .any e = true → e.on < i) ∧
  (∀ k, k < i → (M.getD i 0).testBit k = true ∨ ∃ a, all[k]? = some a ∧ cl a o = false) ∧
  (∀ k, (M.getD i 0).testBit k = true → ∃ e, e ∈ o.after.toList ∧ Region.binds .any e = true ∧ (e.on = k ∨ (M.getD e.on 0).testBit k = true))

theorem drawGo_spec {cl : Oper → Oper → Bool} : ∀ (r : List Oper) (n : Nat) (seen : List Oper) (acc : List Nat), drawGo cl r n seen acc = true → seen.length = n → acc.length = n →
    ∃ M : List Nat, (∀ i, i < n → M.getD i 0 = acc.getD i 0) ∧ ∀ i o, r[i]? = some o → Good cl (seen ++ r) M (n + i) o
  | [], n, seen, acc, _, _, _ => ⟨acc, fun _ _ => rfl, fun i o h => by simp at h⟩
  | o :: r, n, seen, acc, h, hs, ha => by
    simp only [drawGo, force_eq, Bool.and_eq_true] at h
    obtain ⟨⟨⟨h1, -⟩, h2⟩, h3⟩ := h
    obtain ⟨M, m1, m2⟩ := drawGo_spec r (n + 1) (seen ++ [o]) (acc ++ [maskOf acc o.after.toList]) h3 (by simp [hs]) (by simp [ha])
    have hn : M.getD n 0 = maskOf acc o.after.toList := by
      rw [m1 n (Nat.lt_succ_self n)]
      simp [List.getD, List.getElem?_append_right, ha]
    have hk : ∀ i, i < n → M.getD i 0 = acc.getD i 0 := by
      intro i hi
      rw [m1 i (Nat.lt_succ_of_lt hi)]
      simp [List.getD, List.getElem?_append_left, ha, hi]
    have hb : ∀ e, e ∈ o.after.toList → Region.binds .any e = true → e.on < n := by
      intro e he hb
      have := List.all_eq_true.1 h1 e he
      simpa [hb] using this
    refine ⟨M, hk, ?_⟩
    intro i o' hi
    cases i with
    | zero =>
      simp only [List.getElem?_cons_zero, Option.some.injEq] at hi
      subst hi
      refine ⟨hb, ?_, ?_⟩
      · intro k hk'
        simp only [Nat.add_zero] at hk' ⊢
        have := List.all_eq_true.1 h2 k (List.mem_range.2 hk')
        rw [Bool.or_eq_true] at this
        rcases this with h | h
        · left; rw [hn]; exact h
        · right
          split at h
          · rename_i a hka
            exact ⟨a, by rw [List.getElem?_append_left (by omega)]; exact hka, by simpa using h⟩
          · simp at h
      · intro k hk'
        simp only [Nat.add_zero] at hk' ⊢
        rw [hn] at hk'
        obtain ⟨e, e1, e2, e3⟩ := mask_bit hk'
        refine ⟨e, e1, e2, ?_⟩
        rw [hk e.on (hb e e1 e2)]
        exact e3
    | succ i =>
      have := m2 i o' (by simpa using hi)
      rw [List.append_assoc] at this
      have e : n + (i + 1) = n + 1 + i := by omega
      rw [e]
      exact this

theorem draw_good {cl : Oper → Oper → Bool} {ops : Array Oper} (h : drawGo cl ops.toList 0 [] [] = true) : ∃ M, ∀ i o, ops[i]? = some o → Good cl ops.toList M i o := by
  obtain ⟨M, -, h2⟩ := drawGo_spec ops.toList 0 [] [] h rfl rfl
  refine ⟨M, fun i o ho => ?_⟩
  have := h2 i o (by simpa using ho)
  simpa using this

/-- Those listed have their forerunners listed. -/
def Closed (ops : Array Oper) (listed : Array Bool) : Prop := ∀ j o, ops[j]? = some o → listed.getD j false = true → ∀ e, e ∈ o.after → Region.binds .any e = true → listed.getD e.on false = true

theorem reach {cl : Oper → Oper → Bool} {ops : Array Oper} {M : List Nat} (hM : ∀ i o, ops[i]? = some o → Good cl ops.toList M i o) {listed : Array Bool} (hc : Closed ops listed) (hsz : listed.size = ops.size) : ∀ (i : Nat) (o : Oper), ops[i]? = some o →
    (∀ e, e ∈ o.after → Region.binds .any e = true → listed.getD e.on false = true) → ∀ k, (M.getD i 0).testBit k = true → listed.getD k false = true := by
  intro i
  induction i using Nat.strongRecOn with
  | _ i ih =>
    intro o ho hall k hk
    obtain ⟨g1, g2, g3⟩ := hM i o ho
    obtain ⟨e, e1, e2, e3⟩ := g3 k hk
    have e1' : e ∈ o.after := by simpa using e1
    rcases e3 with rfl | e3
    · exact hall e e1' e2
    · have hl := hall e e1' e2
      have hlt := g1 e e1 e2
      have hlt2 : e.on < ops.size := Nat.lt_trans hlt (Array.getElem?_eq_some_iff.1 ho).1
      exact ih e.on hlt ops[e.on] (by simp [hlt2]) (hc e.on _ (by simp [hlt2]) hl) k e3

theorem getD_lists {listed : Array Bool} {k : Nat} (h : k < listed.size) : listed.getD k true = listed.getD k false := by
  simp [Array.getD, h]

structure Left (ops : Array Oper) (listed : Array Bool) (rest : List Nat) : Prop where
  size : listed.size = ops.size
  mem : ∀ k, k ∈ rest ↔ k < ops.size ∧ listed.getD k false = false
  asc : rest.Pairwise (· < ·)
  closed : Closed ops listed

def pick (ops : Array Oper) (rest : List Nat) : List Oper := rest.filterMap fun i => ops[i]?

theorem any_sound (ro : Option Nat) (hS : SysOK S P) (hcall : CallOK S P call) (hst : CallStill S call) {ops : Array Oper} (hd : drawOK S ops = true) {K : List AV → AH → Option R} {r : R} (Q : Exit → Act → World → Prop) {E0 : GE} (hQ : ∀ s' H' a' E', K s' H' = some r → E0.le E' → Rel S H' E' → ARel E' s' a' → Q .normal a' E'.w) :
    ∀ (n : Nat) (listed : Array Bool) (rest : List Nat), rest.length = n → Left ops listed rest → ∀ {s : List AV} {H : AH} {E : GE} {a : Act}, opsK S call ops (pick ops rest) s H K = some r → E0.le E → Rel S H E → ARel E s a → wpAnyIn (WR ro) 0 P .any ops Q n listed a E.w := by
  obtain ⟨M, hM⟩ := draw_good hd
  intro n
  induction n with
  | zero =>
    intro listed rest hn hl s H E a h hle hr ha
    obtain rfl := List.length_eq_zero_iff.1 hn
    refine ⟨?_, hQ s H a E h hle hr ha⟩
    apply List.eq_nil_iff_forall_not_mem.2
    intro j hj
    obtain ⟨j1, o, j2, -⟩ := mem_ready.1 hj
    have hlt := (Array.getElem?_eq_some_iff.1 j2).1
    have := (hl.mem j).2 ⟨hlt, by rw [← getD_lists (hl.size ▸ hlt)]; exact j1⟩
    simp at this
  | succ n ih =>
    intro listed rest hn hl s H E a h hle hr ha
    refine ⟨?_, ?_⟩
    · intro hnil
      exfalso
      cases rest with
      | nil => simp at hn
      | cons k rest =>
        have hk := (hl.mem k).1 (List.mem_cons_self ..)
        have : k ∈ Region.ready .any ops listed := by
          refine mem_ready.2 ⟨by rw [getD_lists (hl.size ▸ hk.1)]; exact hk.2, ops[k], by simp [hk.1], ?_⟩
          intro e he hb
          have hlt := (hM k ops[k] (by simp [hk.1])).1 e (by simpa using he) hb
          cases hx : listed.getD e.on false with
          | true => rfl
          | false =>
            have := (hl.mem e.on).2 ⟨Nat.lt_trans hlt hk.1, hx⟩
            rcases List.mem_cons.1 this with h1 | h1
            · omega
            · have := List.rel_of_pairwise_cons hl.asc h1; omega
        rw [hnil] at this
        simp at this
    · intro i hi
      obtain ⟨i1, o, i2, i3⟩ := mem_ready.1 hi
      have hlt := (Array.getElem?_eq_some_iff.1 i2).1
      have hmem := (hl.mem i).2 ⟨hlt, by rw [← getD_lists (hl.size ▸ hlt)]; exact i1⟩
      obtain ⟨pre, post, rfl⟩ := List.append_of_mem hmem
      have hasc := List.pairwise_append.1 hl.asc
      have hpre : ∀ k, k ∈ pre → k < i := fun k hk => hasc.2.2 k hk i (List.mem_cons_self ..)
      have hpost : ∀ k, k ∈ post → i < k := fun k hk => List.rel_of_pairwise_cons hasc.2.1 hk
      have hcl : ∀ a, a ∈ pick ops pre → clash S ops a o = false := by
        intro a' ha'
        obtain ⟨k, hk, hka⟩ := List.mem_filterMap.1 ha'
        rcases (hM i o i2).2.1 k (hpre k hk) with h1 | ⟨a2, h1, h2⟩
        · have := reach hM hl.closed hl.size i o i2 i3 k h1
          have h3 := ((hl.mem k).1 (List.mem_append_left _ hk)).2
          rw [this] at h3; simp at h3
        · have : a2 = a' := by
            have : ops[k]? = some a2 := by simpa using h1
            rw [hka] at this; exact (Option.some.inj this).symm
          subst this
          exact h2
      have hpick : pick ops (pre ++ i :: post) = pick ops pre ++ o :: pick ops post := by
        simp [pick, i2]
      have hpick2 : pick ops (pre ++ post) = pick ops pre ++ pick ops post := by simp [pick]
      have hrun : opsK S call ops (o :: pick ops (pre ++ post)) s H K = some r := by
        rw [hpick, opsK_run] at h
        obtain ⟨p, h1, h2⟩ := optK_inv2 h
        rw [opsK_run, hpick2, front hst _ hcl h1]
        exact h2
      have hl' : Left ops (listed.setIfInBounds i true) (pre ++ post) := by
        refine ⟨by simp [hl.size], ?_, ?_, ?_⟩
        · intro k
          by_cases e : i = k
          · subst e
            constructor
            · intro hk
              rcases List.mem_append.1 hk with h1 | h1
              · exact absurd (hpre i h1) (by omega)
              · exact absurd (hpost i h1) (by omega)
            · rintro ⟨-, h1⟩
              simp [hl.size, hlt] at h1
          · rw [getD_set_ne false e, ← hl.mem k]
            simp [Ne.symm e]
        · rw [List.pairwise_append]
          exact ⟨hasc.1, (List.pairwise_cons.1 hasc.2.1).2, fun x hx y hy => Nat.lt_trans (hpre x hx) (hpost y hy)⟩
        · intro j o' hj hjl e he hb
          by_cases e' : i = j
          · subst e'
            rw [i2] at hj
            obtain rfl := Option.some.inj hj
            exact getD_set_true (i3 e he hb)
          · rw [getD_set_ne false e'] at hjl
            exact getD_set_true (hl.closed j o' hj hjl e he hb)
      have h1 := step_sound ro hS hcall hrun hr ha (wpAnyIn (WR ro) 0 P .any ops Q n (listed.setIfInBounds i true)) Q (fun s' H' a' E' h1 h2 h3 h4 => ih _ (pre ++ post) (by simp at hn ⊢; omega) hl' h1 (hle.trans h2) h3 h4)
      unfold wpOpIn
      simp only [i2]
      split at h1
      · rename_i hw; rw [if_pos hw]; exact h1
      · rename_i hw; rw [if_neg hw]; exact ⟨fun _ _ => trivial, h1⟩

end Go.Sx

/- THE ENGINE, 27b: regions whose order is drawn, with objects that are made in no certain order. -/
set_option linter.unusedSimpArgs false
set_option linter.unusedVariables false
namespace Go.Sx
variable {R : Type} {S : Sys} {P : Program} {call : Caller}

/-- Calls with trees ask of no object that is not there. -/
def CallMild (S : Sys) (call : Caller) : Prop := ∀ f args (H : AH) v H' id X, S.isPure f = true → H.objs[id]? = some (.dead false) → call f args H = some (v, H') → call f args { H with objs := H.objs.set id X } = some (v, { H with objs := H.objs.set id X })

theorem mild_changes {o : Oper} (h : mild S o = true) : changes S o = false := by
  unfold mild at h
  rw [Bool.or_eq_true] at h
  rcases h with h | h
  · exact changes_touches (by simpa using h)
  · obtain ⟨dst, op, type, pos, after, guard⟩ := o
    cases op <;> simp only at h <;> try (simp at h; done)
    · simp [changes]
    · rename_i c
      unfold changes
      simp only
      split at h
      · rename_i f hf
        rw [hf]; simp [h]
      · simp at h

theorem mild_set (hm : CallMild S call) {o : Oper} (h : mild S o = true) {s : List AV} {H H1 : AH} {u : AV} (hr : opK S call s H o pairK = some (u, H1)) {id : Nat} (hid : H.objs[id]? = some (.dead false)) (X : AObj) :
    opK S call s { H with objs := H.objs.set id X } o pairK = some (u, { H with objs := H.objs.set id X }) := by
  unfold mild at h
  rw [Bool.or_eq_true] at h
  rcases h with h | h
  · rw [opK_still (H2 := H) (by simpa using h), hr]
    rfl
  · obtain ⟨dst, op, type, pos, after, guard⟩ := o
    cases op <;> simp only at h <;> try (simp at h; done)
    · rename_i t a
      simp only [opK] at hr ⊢
      split at hr
      · rename_i i hi
        generalize ev S.G s a = av at hr ⊢
        unfold loadK at hr ⊢
        split at hr
        · split at hr
          · split at hr
            · rename_i hc
              simp only [if_pos hc]
              simp only [pairK, Option.some.injEq, Prod.mk.injEq] at hr ⊢
              exact ⟨hr.1, trivial⟩
            · simp at hr
          · simp at hr
          · simp at hr
          · simp only [pairK, Option.some.injEq, Prod.mk.injEq] at hr ⊢
            simp_all
        · rename_i j off
          split at hr
          · rename_i cs hcs
            have hne : id ≠ j := by
              intro e; subst e
              rw [hid] at hcs; simp at hcs
            simp only [List.getElem?_set_ne hne, hcs]
            rw [partK_nat] at hr ⊢
            cases hp : partK i cs off some with
            | none => rw [hp] at hr; simp [optK] at hr
            | some v =>
              rw [hp] at hr
              simp only [optK_some, pairK, Option.some.injEq, Prod.mk.injEq] at hr ⊢
              exact ⟨hr.1, trivial⟩
          · rename_i u cs hcs
            have hne : id ≠ j := by
              intro e; subst e
              rw [hid] at hcs; simp at hcs
            simp only [List.getElem?_set_ne hne, hcs]
            rw [partK_nat] at hr ⊢
            cases hp : partK i cs off some with
            | none => rw [hp] at hr; simp [optK] at hr
            | some v =>
              rw [hp] at hr
              simp only [optK_some, pairK, Option.some.injEq, Prod.mk.injEq] at hr ⊢
              exact ⟨hr.1, trivial⟩
          · simp at hr
        · simp at hr
      · simp at hr
    · rename_i c
      split at h
      · rename_i f hf
        simp only [opK, hf, ev, callFn] at hr ⊢
        obtain ⟨p, h1, h2⟩ := optK_inv2 hr
        simp only [pairK, Option.some.injEq, Prod.mk.injEq] at h2
        rw [hm _ _ _ p.1 p.2 id X h hid h1]
        simp only [optK_some, pairK, h2.1]
      · simp at h

theorem slots_spec {all : Array Oper} {a b : Oper} (h : slotsClash all a b = false) : (∀ d, a.dst = some d → d ∉ usesT all b) ∧ (∀ d, a.dst = some d → b.dst ≠ some d) ∧ (∀ d, b.dst = some d → d ∉ usesT all a) := by
  unfold slotsClash at h
  simp only [Bool.or_eq_false_iff] at h
  obtain ⟨h3, h4⟩ := h
  refine ⟨fun d hd => ?_, fun d hd => ?_, fun d hd => ?_⟩
  · rw [hd] at h3; simp at h3; exact h3.1
  · rw [hd] at h3; simp at h3; exact h3.2
  · rw [hd] at h4; simp at h4; exact h4

theorem clashB_slots {bi : Nat → Option Nat} {all : Array Oper} {a b : Oper} (h : clashB bi S all a b = false) : (∀ d, a.dst = some d → d ∉ usesT all b) ∧ (∀ d, a.dst = some d → b.dst ≠ some d) ∧ (∀ d, b.dst = some d → d ∉ usesT all a) := by
  unfold clashB at h
  split at h
  · exact slots_spec h
  · exact slots_spec (by simp at h; exact h.2)
  · exact slots_spec (by simp at h; exact h.2)
  · exact (clash_spec h).2.2

theorem birth_inv {H H' : AH} {t : TypeId} {id : Nat} {v : AV} (h : birthK S H t id = some (v, H')) : ∃ X, v = .ptr id 0 ∧ H.objs[id]? = some (.dead false) ∧ H' = { H with objs := H.objs.set id X } ∧ X ≠ .dead false ∧ ∀ H2 : AH, H2.objs[id]? = some (.dead false) → birthK S H2 t id = some (.ptr id 0, { H2 with objs := H2.objs.set id X }) := by
  unfold birthK at h
  split at h
  · rename_i i hi
    split at h
    · rename_i hz
      split at h
      · rename_i hid
        simp only [Option.some.injEq, Prod.mk.injEq] at h
        exact ⟨_, h.1.symm, hid, h.2.symm, by simp, fun H2 h2 => by unfold birthK; simp only [hi, if_pos hz, h2]⟩
      · simp at h
    · simp at h
  · simp at h

theorem opB_none {bi : Nat → Option Nat} {s : List AV} {H : AH} {o : Oper} (h : bornAt bi o = none) : opB bi S call s H o = opK S call s H o pairK := by
  unfold opB
  rw [h]

theorem opB_some {bi : Nat → Option Nat} {s : List AV} {H : AH} {o : Oper} {p : TypeId × Nat} (h : bornAt bi o = some p) : opB bi S call s H o = birthK S H p.1 p.2 := by
  unfold opB
  rw [h]

/-- Two operations that do not clash: the objects. -/
theorem swap_opB (hc : CallStill S call) (hm : CallMild S call) {bi : Nat → Option Nat} {all : Array Oper} {a b : Oper} (hcl : clashB bi S all a b = false) {s : List AV} {H H1 H2 : AH} {u v : AV} (h1 : opB bi S call s H a = some (u, H1)) (h2 : opB bi S call s H1 b = some (v, H2)) :
    ∃ H1', opB bi S call s H b = some (v, H1') ∧ opB bi S call s H1' a = some (u, H2) := by
  unfold clashB isBirth at hcl
  cases hb : bornAt bi b with
  | some q =>
    rw [opB_some hb] at h2 ⊢
    obtain ⟨X, rfl, g1, rfl, g2, g3⟩ := birth_inv h2
    cases ha : bornAt bi a with
    | some p =>
      rw [opB_some ha] at h1
      obtain ⟨Y, rfl, k1, rfl, k2, k3⟩ := birth_inv h1
      have hlt : p.2 < H.objs.length := by
        rcases Nat.lt_or_ge p.2 H.objs.length with h' | h'
        · exact h'
        · simp [List.getElem?_eq_none h'] at k1
      have hne : p.2 ≠ q.2 := by
        intro e
        simp only [e] at g1 hlt
        rw [← e] at g1
        rw [e] at g1
        simp only [List.getElem?_set_self hlt, Option.some.injEq] at g1
        exact k2 g1
      simp only [List.getElem?_set_ne hne] at g1
      refine ⟨_, g3 H g1, ?_⟩
      rw [opB_some ha, k3 _ (by simp only [List.getElem?_set_ne (Ne.symm hne)]; exact k1)]
      simp only [Option.some.injEq, Prod.mk.injEq, AH.mk.injEq, and_true, true_and]
      exact List.set_comm _ _ (Ne.symm hne)
    | none =>
      rw [hb, ha] at hcl
      simp only [Option.isSome_some, Option.isSome_none, Bool.or_eq_false_iff, Bool.not_eq_false'] at hcl
      rw [opB_none ha] at h1
      have e1 := opK_quiet hc (mild_changes hcl.1) h1
      subst e1
      exact ⟨_, g3 _ g1, by rw [opB_none ha]; exact mild_set hm hcl.1 h1 g1 X⟩
  | none =>
    rw [opB_none hb] at h2 ⊢
    cases ha : bornAt bi a with
    | some p =>
      rw [hb, ha] at hcl
      simp only [Option.isSome_some, Option.isSome_none, Bool.or_eq_false_iff] at hcl
      have e2 := opK_quiet hc (changes_touches hcl.1) h2
      subst e2
      refine ⟨H, ?_, h1⟩
      rw [opK_still hcl.1 (H2 := H2), h2]
      rfl
    | none =>
      rw [hb, ha] at hcl
      simp only [Option.isSome_none] at hcl
      rw [opB_none ha] at h1
      obtain ⟨H1', k1, k2⟩ := swap_op hc hcl h1 h2
      exact ⟨H1', k1, by rw [opB_none ha]; exact k2⟩

theorem opB_put {bi : Nat → Option Nat} {all : Array Oper} {o : Oper} {s : List AV} {H : AH} {dst : Option Nat} {v : AV} (h : ∀ d, dst = some d → d ∉ usesT all o) : opB bi S call (putD dst s v) H o = opB bi S call s H o := by
  unfold opB
  split
  · rfl
  · exact op_put h

theorem swapB (hc : CallStill S call) (hm : CallMild S call) {bi : Nat → Option Nat} {all : Array Oper} {a b : Oper} (hcl : clashB bi S all a b = false) {s : List AV} {H : AH} {p q : List AV × AH} (h1 : stepB bi S call all a s H = some p) (h2 : stepB bi S call all b p.1 p.2 = some q) :
    ∃ p', stepB bi S call all b s H = some p' ∧ stepB bi S call all a p'.1 p'.2 = some q := by
  obtain ⟨d1, d2, d3⟩ := clashB_slots hcl
  have d2' : ∀ d, b.dst = some d → a.dst ≠ some d := fun d hb ha => d2 d ha hb
  unfold stepB at h1
  split at h1
  · rename_i hw
    obtain ⟨⟨u, H1⟩, g1, e⟩ := optK_inv2 h1
    simp only [Option.some.injEq] at e
    subst e
    simp only at h2
    unfold stepB at h2
    rw [want_put d1] at h2
    split at h2
    · rename_i hv
      obtain ⟨⟨v, H2⟩, g2, e⟩ := optK_inv2 h2
      rw [opB_put d1] at g2
      simp only [Option.some.injEq] at e
      subst e
      obtain ⟨H1', k1, k2⟩ := swap_opB hc hm hcl g1 g2
      refine ⟨(putD b.dst s v, H1'), by simp [stepB, hv, k1, optK], ?_⟩
      simp only [stepB, want_put d3, hw, opB_put d3, k2, optK]
      rw [put_comm d2']
    · rename_i hv
      simp only [Option.some.injEq] at h2
      subst h2
      refine ⟨(putD b.dst s (.tuple []), H), by simp [stepB, hv], ?_⟩
      simp only [stepB, want_put d3, hw, opB_put d3, g1, optK]
      rw [put_comm d2']
    · simp at h2
  · rename_i hw
    simp only [Option.some.injEq] at h1
    subst h1
    simp only at h2
    unfold stepB at h2
    rw [want_put d1] at h2
    split at h2
    · rename_i hv
      obtain ⟨⟨v, H2⟩, g2, e⟩ := optK_inv2 h2
      rw [opB_put d1] at g2
      simp only [Option.some.injEq] at e
      subst e
      refine ⟨(putD b.dst s v, H2), by simp [stepB, hv, g2, optK], ?_⟩
      simp only [stepB, want_put d3, hw]
      rw [put_comm d2']
    · rename_i hv
      simp only [Option.some.injEq] at h2
      subst h2
      refine ⟨(putD b.dst s (.tuple []), H), by simp [stepB, hv], ?_⟩
      simp only [stepB, want_put d3, hw]
      rw [put_comm d2']
    · simp at h2
  · simp at h1

theorem frontB (hc : CallStill S call) (hm : CallMild S call) {bi : Nat → Option Nat} {all : Array Oper} {b : Oper} {post : List Oper} {r : List AV × AH} : ∀ (pre : List Oper), (∀ a, a ∈ pre → clashB bi S all a b = false) → ∀ {s : List AV} {H : AH}, runB bi S call all (pre ++ b :: post) s H = some r → runB bi S call all (b :: (pre ++ post)) s H = some r
  | [], _, s, H, h => h
  | a :: pre, hp, s, H, h => by
    simp only [List.cons_append, runB] at h
    obtain ⟨p, h1, h⟩ := optK_inv2 h
    have ih := frontB hc hm pre (fun a ha => hp a (List.mem_cons_of_mem _ ha)) h
    simp only [runB] at ih
    obtain ⟨q, h2, h3⟩ := optK_inv2 ih
    obtain ⟨p', k1, k2⟩ := swapB hc hm (hp a (List.mem_cons_self ..)) h1 h2
    simp only [List.cons_append, runB, k1, optK_some, k2, h3]

theorem opB_sound (ro : Option Nat) (hS : SysOK S P) (hcall : CallOK S P call) {bi : Nat → Option Nat} {H H' : AH} {E : GE} (hr : Rel S H E) {s : List AV} {a : Act} (ha : ARel E s a) {o : Oper} {v : AV} (h : opB bi S call s H o = some (v, H')) : GivesIn ro S P o a E v H' := by
  cases hb : bornAt bi o with
  | none =>
    rw [opB_none hb] at h
    obtain ⟨v', H'', h1, h2⟩ := op_sound ro hS hcall hr ha h
    simp only [pairK, Option.some.injEq, Prod.mk.injEq] at h1
    obtain ⟨rfl, rfl⟩ := h1
    exact h2
  | some p =>
    rw [opB_some hb] at h
    obtain ⟨dst, op, type, pos, after, guard⟩ := o
    unfold bornAt at hb
    split at hb
    · rename_i t d e1 e2
      simp only at e1
      subst e1
      split at hb
      · simp only [Option.some.injEq] at hb
        subst hb
        obtain ⟨E', h1, h2, h3, h4⟩ := birth_sound hS hr.h h
        exact gives_valueI (by simp [execOp, h1]) h2 (hr.mono h2 h3) h4
      · simp at hb
    · simp at hb

theorem stepB_sound (ro : Option Nat) (hS : SysOK S P) (hcall : CallOK S P call) {bi : Nat → Option Nat} {all : Array Oper} {o : Oper} {s : List AV} {H : AH} {p : List AV × AH} (h : stepB bi S call all o s H = some p)
    {E : GE} {a : Act} (hr : Rel S H E) (ha : ARel E s a) (next : Act → World → Prop) (Q : Exit → Act → World → Prop)
    (hn : ∀ a' E', E.le E' → Rel S p.2 E' → ARel E' p.1 a' → next a' E'.w) :
    (if Region.wanted o (yielded all a.tmps) = true then o.wpIn (WR ro) 0 P a E.w next Q else next (a.put o.dst undef) E.w) := by
  unfold stepB wantD at h
  have run : ∀ {s' : List AV}, ARel E s' a → (optK (opB bi S call s H o) fun p => some (putD o.dst s p.1, p.2)) = some p → o.wpIn (WR ro) 0 P a E.w next Q := by
    intro s' _ h
    obtain ⟨⟨v, H'⟩, h1, h2⟩ := optK_inv2 h
    simp only [Option.some.injEq] at h2
    subst h2
    exact opB_sound ro hS hcall hr ha h1 next Q (fun x E' hle hr' hv => hn _ E' hle hr' (put_rel (ha.mono hle) hv o.dst))
  cases hg : o.guard with
  | none =>
    rw [hg] at h
    rw [if_pos (by simp [Region.wanted, hg])]
    exact run ha h
  | some g =>
    obtain ⟨j, want⟩ := g
    rw [hg] at h
    simp only at h
    cases hd : (all[j]?).bind (·.dst) with
    | none => rw [hd] at h; simp at h
    | some d =>
      rw [hd] at h
      simp only at h
      split at h
      · rename_i hw
        split at hw
        · rename_i t ht
          simp only [Option.some.injEq] at hw
          have hy := yielded_of hd (tmp_bool ha ht)
          rw [if_pos (by simp only [Region.wanted, hg, hy]; simpa using hw)]
          exact run ha h
        · simp at hw
        · simp at hw
      · rename_i hw
        simp only [Option.some.injEq] at h
        subst h
        have hno : Region.wanted o (yielded all a.tmps) = false := by
          split at hw
          · rename_i t ht
            simp only [Option.some.injEq] at hw
            have hy := yielded_of hd (tmp_bool ha ht)
            simp only [Region.wanted, hg, hy]
            simpa using hw
          · rename_i ht
            have hy := yielded_undef hd (tmp_undef ha ht)
            simp [Region.wanted, hg, hy]
          · simp at hw
        rw [if_neg (by rw [hno]; simp)]
        exact hn _ E (GE.le.refl E) hr (put_rel ha (rel_undef E) o.dst)
      · simp at h

theorem any_soundB (ro : Option Nat) (hS : SysOK S P) (hcall : CallOK S P call) (hst : CallStill S call) (hm : CallMild S call) {bi : Nat → Option Nat} {ops : Array Oper} (hd : drawGo (clashB bi S ops) ops.toList 0 [] [] = true) {q : List AV × AH} (Q : Exit → Act → World → Prop) {E0 : GE} (hQ : ∀ a' E', E0.le E' → Rel S q.2 E' → ARel E' q.1 a' → Q .normal a' E'.w) :
    ∀ (n : Nat) (listed : Array Bool) (rest : List Nat), rest.length = n → Left ops listed rest → ∀ {s : List AV} {H : AH} {E : GE} {a : Act}, runB bi S call ops (pick ops rest) s H = some q → E0.le E → Rel S H E → ARel E s a → wpAnyIn (WR ro) 0 P .any ops Q n listed a E.w := by
  obtain ⟨M, hM⟩ := draw_good hd
  intro n
  induction n with
  | zero =>
    intro listed rest hn hl s H E a h hle hr ha
    obtain rfl := List.length_eq_zero_iff.1 hn
    have h' : some (s, H) = some q := h
    obtain rfl := Option.some.inj h'
    refine ⟨?_, hQ a E hle hr ha⟩
    apply List.eq_nil_iff_forall_not_mem.2
    intro j hj
    obtain ⟨j1, o, j2, -⟩ := mem_ready.1 hj
    have hlt := (Array.getElem?_eq_some_iff.1 j2).1
    have := (hl.mem j).2 ⟨hlt, by rw [← getD_lists (hl.size ▸ hlt)]; exact j1⟩
    simp at this
  | succ n ih =>
    intro listed rest hn hl s H E a h hle hr ha
    refine ⟨?_, ?_⟩
    · intro hnil
      exfalso
      cases rest with
      | nil => simp at hn
      | cons k rest =>
        have hk := (hl.mem k).1 (List.mem_cons_self ..)
        have : k ∈ Region.ready .any ops listed := by
          refine mem_ready.2 ⟨by rw [getD_lists (hl.size ▸ hk.1)]; exact hk.2, ops[k], by simp [hk.1], ?_⟩
          intro e he hb
          have hlt := (hM k ops[k] (by simp [hk.1])).1 e (by simpa using he) hb
          cases hx : listed.getD e.on false with
          | true => rfl
          | false =>
            have := (hl.mem e.on).2 ⟨Nat.lt_trans hlt hk.1, hx⟩
            rcases List.mem_cons.1 this with h1 | h1
            · omega
            · have := List.rel_of_pairwise_cons hl.asc h1; omega
        rw [hnil] at this
        simp at this
    · intro i hi
      obtain ⟨i1, o, i2, i3⟩ := mem_ready.1 hi
      have hlt := (Array.getElem?_eq_some_iff.1 i2).1
      have hmem := (hl.mem i).2 ⟨hlt, by rw [← getD_lists (hl.size ▸ hlt)]; exact i1⟩
      obtain ⟨pre, post, rfl⟩ := List.append_of_mem hmem
      have hasc := List.pairwise_append.1 hl.asc
      have hpre : ∀ k, k ∈ pre → k < i := fun k hk => hasc.2.2 k hk i (List.mem_cons_self ..)
      have hpost : ∀ k, k ∈ post → i < k := fun k hk => List.rel_of_pairwise_cons hasc.2.1 hk
      have hcl : ∀ a, a ∈ pick ops pre → clashB bi S ops a o = false := by
        intro a' ha'
        obtain ⟨k, hk, hka⟩ := List.mem_filterMap.1 ha'
        rcases (hM i o i2).2.1 k (hpre k hk) with h1 | ⟨a2, h1, h2⟩
        · have := reach hM hl.closed hl.size i o i2 i3 k h1
          have h3 := ((hl.mem k).1 (List.mem_append_left _ hk)).2
          rw [this] at h3; simp at h3
        · have : a2 = a' := by
            have : ops[k]? = some a2 := by simpa using h1
            rw [hka] at this; exact (Option.some.inj this).symm
          subst this
          exact h2
      have hpick : pick ops (pre ++ i :: post) = pick ops pre ++ o :: pick ops post := by
        simp [pick, i2]
      have hpick2 : pick ops (pre ++ post) = pick ops pre ++ pick ops post := by simp [pick]
      have hrun : runB bi S call ops (o :: pick ops (pre ++ post)) s H = some q := by
        rw [hpick] at h
        rw [hpick2]
        exact frontB hst hm _ hcl h
      simp only [runB] at hrun
      obtain ⟨p, g1, g2⟩ := optK_inv2 hrun
      have hl' : Left ops (listed.setIfInBounds i true) (pre ++ post) := by
        refine ⟨by simp [hl.size], ?_, ?_, ?_⟩
        · intro k
          by_cases e : i = k
          · subst e
            constructor
            · intro hk
              rcases List.mem_append.1 hk with h1 | h1
              · exact absurd (hpre i h1) (by omega)
              · exact absurd (hpost i h1) (by omega)
            · rintro ⟨-, h1⟩
              simp [hl.size, hlt] at h1
          · rw [getD_set_ne false e, ← hl.mem k]
            simp [Ne.symm e]
        · rw [List.pairwise_append]
          exact ⟨hasc.1, (List.pairwise_cons.1 hasc.2.1).2, fun x hx y hy => Nat.lt_trans (hpre x hx) (hpost y hy)⟩
        · intro j o' hj hjl e he hb
          by_cases e' : i = j
          · subst e'
            rw [i2] at hj
            obtain rfl := Option.some.inj hj
            exact getD_set_true (i3 e he hb)
          · rw [getD_set_ne false e'] at hjl
            exact getD_set_true (hl.closed j o' hj hjl e he hb)
      have h1 := stepB_sound ro hS hcall g1 hr ha (wpAnyIn (WR ro) 0 P .any ops Q n (listed.setIfInBounds i true)) Q (fun a' E' h2 h3 h4 => ih _ (pre ++ post) (by simp at hn ⊢; omega) hl' g2 (hle.trans h2) h3 h4)
      unfold wpOpIn
      simp only [i2]
      split at h1
      · rename_i hw; rw [if_pos hw]; exact h1
      · rename_i hw; rw [if_neg hw]; exact ⟨fun _ _ => trivial, h1⟩

theorem bornId_shift (k : Nat) : ∀ (l : List Nat) (n d : Nat), bornId (n + k) l d = (bornId n l d).map (· + k)
  | [], n, d => rfl
  | e :: r, n, d => by
    unfold bornId
    cases Nat.beq e d with
    | true => rfl
    | false =>
      simp only
      rw [show n + k + 1 = (n + 1) + k by omega]
      exact bornId_shift k r (n + 1) d

theorem isBirth_shift (k : Nat) (l : List Nat) (o : Oper) : isBirth (bornId (0 + k) l) o = isBirth (bornId 0 l) o := by
  unfold isBirth bornAt
  split
  · rename_i t d _ _
    rw [bornId_shift k l 0 d]
    cases bornId 0 l d <;> rfl
  · rfl

theorem clashB_shift (k : Nat) (l : List Nat) (ops : Array Oper) : clashB (bornId k l) S ops = clashB (bornId 0 l) S ops := by
  funext a b
  have e := isBirth_shift k l
  rw [Nat.zero_add] at e
  unfold clashB
  rw [e a, e b]

theorem resolveC_set {H : AH} {c v : AV} {id : Nat} (hid : H.objs[id]? = some (.dead false)) (X : AObj) (h : resolveC H c = some v) : resolveC { H with objs := H.objs.set id X } c = some v := by
  unfold resolveC at h ⊢
  split at h
  · rename_i j off len cap sz ag
    split at h
    · rename_i cs hcs
      have hne : id ≠ j := by
        intro e; subst e
        rw [hid] at hcs; simp at hcs
      simp only [List.getElem?_set_ne hne, hcs]
      exact h
    · simp at h
  · exact h

theorem resolveCs_set {H : AH} {id : Nat} (hid : H.objs[id]? = some (.dead false)) (X : AObj) : ∀ (cs vs : List AV), resolveCs H cs = some vs → resolveCs { H with objs := H.objs.set id X } cs = some vs
  | [], vs, h => h
  | c :: r, vs, h => by
    simp only [resolveCs] at h ⊢
    split at h
    · rename_i x xs h1 h2
      rw [resolveC_set hid X h1, resolveCs_set hid X r xs h2]
      exact h
    · simp at h

theorem resolve_set {H : AH} {c v : AV} {id : Nat} (hid : H.objs[id]? = some (.dead false)) (X : AObj) (h : resolve H c = some v) : resolve { H with objs := H.objs.set id X } c = some v := by
  unfold resolve at h ⊢
  split at h
  · split at h
    · rename_i xs h1
      rw [resolveCs_set hid X _ _ h1]
      exact h
    · simp at h
  · exact resolveC_set hid X h

theorem resolveL_set {H : AH} {id : Nat} (hid : H.objs[id]? = some (.dead false)) (X : AObj) : ∀ (cs vs : List AV), resolveL H cs = some vs → resolveL { H with objs := H.objs.set id X } cs = some vs
  | [], vs, h => h
  | c :: r, vs, h => by
    simp only [resolveL] at h ⊢
    split at h
    · rename_i x xs h1 h2
      rw [resolve_set hid X h1, resolveL_set hid X r xs h2]
      exact h
    · simp at h

end Go.Sx

/- THE ENGINE, 28: a program's calls. -/
set_option linter.unusedSimpArgs false
set_option linter.unusedVariables false
namespace Go.Sx
variable {S : Sys} {P : Program}

theorem draw_sound (hS : SysOK S P) (hm : P.follows .mixedOrders = true) {call : Caller} (hcall : CallOK S P call) (hst : CallStill S call) (hml : CallMild S call) : DrawSound S P call := by
  intro ro id ops R s H K r E a h hr ha
  refine wpIn_region_any hm ?_
  have hle : E.le (E.at { E.w with drawn := E.w.drawn + 1 }) := le_heap rfl rfl rfl rfl
  have hr' : Rel S H (E.at { E.w with drawn := E.w.drawn + 1 }) := hr.mono hle (hr.h.heap rfl rfl rfl rfl)
  have hl : Left ops (Array.replicate ops.size false) (List.range ops.size) := by
    refine ⟨by simp, ?_, List.pairwise_lt_range, ?_⟩
    · intro k
      rw [List.mem_range]
      constructor
      · intro hk; exact ⟨hk, by simp [Array.getD, hk]⟩
      · exact fun h => h.1
    · intro j o hj hjl
      have hlt := (Array.getElem?_eq_some_iff.1 hj).1
      simp [Array.getD, hlt] at hjl
  have hp : pick ops (List.range ops.size) = ops.toList := by
    obtain ⟨l⟩ := ops
    simp only [pick, List.size_toArray, List.getElem?_toArray]
    clear hl h
    induction l with
    | nil => rfl
    | cons o r ih =>
      rw [List.length_cons, List.range_succ_eq_map]
      simp only [List.filterMap_cons, List.getElem?_cons_zero, List.filterMap_map]
      rw [show ((fun i => (o :: r)[i]?) ∘ Nat.succ) = fun i => r[i]? from rfl, ih]
  rcases h with ⟨hd, h⟩ | ⟨hd, h⟩
  · have := any_sound ro hS hcall hst hd (K := K) (r := r) (Lands S (fun e s H => match e with | .normal => K s H | _ => none) r E) (E0 := E) (fun s' H' a' E' h1 h2 h3 h4 => ⟨.normal, s', H', E', h1, rfl, rfl, h2, h3, h4⟩) ops.size (Array.replicate ops.size false) (List.range ops.size) (by simp) hl (s := s) (H := H) (E := E.at { E.w with drawn := E.w.drawn + 1 }) (a := a) (by rw [hp]; exact h) hle hr' (ha.mono hle)
    exact this
  · obtain ⟨q, h1, h2⟩ := optK_inv2 h
    obtain ⟨r1, r2⟩ := reserve_sound hr'.h (birthsOf ops.toList).length
    have hr2 : Rel S (reserve H (birthsOf ops.toList).length) ((E.at { E.w with drawn := E.w.drawn + 1 }).reserved (birthsOf ops.toList).length) := hr'.mono r1 r2
    have hd' : drawGo (clashB (bornId H.objs.length (birthsOf ops.toList)) S ops) ops.toList 0 [] [] = true := by rw [clashB_shift]; exact hd
    exact any_soundB ro hS hcall hst hml hd' (q := q) (Lands S (fun e s H => match e with | .normal => K s H | _ => none) r E) (E0 := E) (fun a' E' h3 h4 h5 => ⟨.normal, q.1, q.2, E', h2, rfl, rfl, h3, h4, h5⟩) ops.size (Array.replicate ops.size false) (List.range ops.size) (by simp) hl (by rw [hp]; exact h1) (hle.trans r1) hr2 ((ha.mono hle).mono r1)

theorem enter_still {call : Caller} {lp : Looper} {y : Nat → List AV → AH → Option (AV × AH)} : CallStill S ⟨enterF S call lp, y⟩ := by
  intro f args H v H' hp h
  replace h : enterF S call lp f args H = some (v, H') := h
  unfold enterF at h
  split at h
  · obtain ⟨ts, -, h⟩ := optK_inv h
    obtain ⟨u, -, h⟩ := optK_inv h
    obtain ⟨v', -, h⟩ := optK_inv h
    simp only [Option.some.injEq, Prod.mk.injEq] at h
    exact h.2.symm
  · split at h
    · simp at h
    · rw [if_pos hp] at h
      obtain ⟨ts, -, h⟩ := optK_inv h
      obtain ⟨p, -, h⟩ := optK_inv h
      obtain ⟨v', -, h⟩ := optK_inv h
      simp only [Option.some.injEq, Prod.mk.injEq] at h
      exact h.2.symm

theorem enter_mild {call : Caller} {lp : Looper} {y : Nat → List AV → AH → Option (AV × AH)} : CallMild S ⟨enterF S call lp, y⟩ := by
  intro f args H v H' id X hp hid h
  replace h : enterF S call lp f args H = some (v, H') := h
  show enterF S call lp f args _ = _
  unfold enterF at h ⊢
  split at h
  · obtain ⟨ts, h1, h⟩ := optK_inv h
    obtain ⟨u, h2, h⟩ := optK_inv h
    obtain ⟨v', h3, h⟩ := optK_inv h
    simp only [Option.some.injEq, Prod.mk.injEq] at h
    rw [resolveL_set hid X _ _ h1, optK_some, h2, optK_some, h3, optK_some, h.1]
  · split at h
    · simp at h
    · rw [if_pos hp] at h
      obtain ⟨ts, h1, h⟩ := optK_inv h
      obtain ⟨p, h2, h⟩ := optK_inv h
      obtain ⟨v', h3, h⟩ := optK_inv h
      simp only [Option.some.injEq, Prod.mk.injEq] at h
      rw [if_pos hp, resolveL_set hid X _ _ h1, optK_some, h2, optK_some, h3, optK_some, h.1]

theorem callF_mild : ∀ n, CallMild S (callF S n)
  | 0 => by intro f args H v H' id X hp hid h; simp [callF] at h
  | n + 1 => enter_mild

theorem callF_still : ∀ n, CallStill S (callF S n)
  | 0 => by intro f args H v H' hp h; simp [callF] at h
  | n + 1 => enter_still

/-- THE ENGINE's THEOREM. -/
theorem call_sound (hS : SysOK S P) (hext : ExtOK S P) (hm : P.follows .mixedOrders = true) : ∀ n, CallOK S P (callF S n)
  | 0 => ⟨by intro f args H v H' h; simp [callF] at h, by intro id args H v H' h; simp [callF] at h⟩
  | n + 1 =>
    have ih := call_sound hS hext hm n
    have hd := draw_sound hS hm ih (callF_still n) (callF_mild n)
    ⟨enter_sound hS hext ih hd n, fun id args H v H' h E xs hr hx b hid hb => yield_sound hS ih hd n h hr hx hid hb⟩

#print axioms call_sound
end Go.Sx

/- THE ENGINE, 24: an operation's answer does not hang on what follows. -/
import Derived.Test.YtoagnbpmoihojaaDoorSxDen
set_option linter.unusedSimpArgs false
set_option linter.unusedVariables false
namespace Go.Sx
variable {R : Type}

theorem partK_nat (i : TI) (cs : List AV) (off : Nat) (K : AV → Option R) : partK i cs off K = optK (partK i cs off some) K := by
  unfold partK; repeat' (first | rfl | split)
theorem shiftK_nat (l : Bool) (k : IntKind) (a b : Int) (K : AV → Option R) : shiftK l k a b K = optK (shiftK l k a b some) K := by
  unfold shiftK; repeat' (first | rfl | split)
theorem intK_nat (op : BinOp) (k : IntKind) (a b : Int) (K : AV → Option R) : intK op k a b K = optK (intK op k a b some) K := by
  cases op <;> unfold intK <;> repeat' (first | rfl | split)
theorem strK_nat (op : BinOp) (a b : List UInt8) (K : AV → Option R) : strK op a b K = optK (strK op a b some) K := by
  cases op <;> unfold strK <;> repeat' (first | rfl | split)
theorem binK_nat (T : TypeId → Option TI) (op : BinOp) (t : TypeId) (x y : AV) (K : AV → Option R) : binK T op t x y K = optK (binK T op t x y some) K := by
  unfold binK; repeat' (first | rfl | exact shiftK_nat _ _ _ _ _ | exact intK_nat _ _ _ _ _ | exact strK_nat _ _ _ _ | split)
theorem unK_nat (op : UnOp) (x : AV) (K : AV → Option R) : unK op x K = optK (unK op x some) K := by
  unfold unK; repeat' (first | rfl | split)
theorem loadK_nat (H : AH) (i : TI) (a : AV) (K : AV → Option R) : loadK H i a K = optK (loadK H i a some) K := by
  unfold loadK; repeat' (first | rfl | exact partK_nat _ _ _ _ | split)
theorem storeK_nat (H : AH) (i : TI) (a v : AV) (K : AH → Option R) : storeK H i a v K = optK (storeK H i a v some) K := by
  unfold storeK; repeat' (first | rfl | split)
theorem optK_optK {A B : Type} (o : Option A) (f : A → Option B) (g : B → Option R) : optK (optK o f) g = optK o fun a => optK (f a) g := by
  cases o <;> rfl
theorem optK_congr {A : Type} {o : Option A} {f g : A → Option R} (h : ∀ a, f a = g a) : optK o f = optK o g := by
  cases o with
  | none => rfl
  | some a => exact h a
theorem fieldAddrK_nat (i : TI) (T : TypeId → Option TI) (a : AV) (f : Nat) (K : AV → Option R) : fieldAddrK i T a f K = optK (fieldAddrK i T a f some) K := by
  unfold fieldAddrK
  repeat' (first | rfl | (rw [partK_nat, partK_nat (K := fun v => some (AV.rop v)), optK_optK]; rfl) | split)
theorem fieldK_nat (i : TI) (T : TypeId → Option TI) (a : AV) (f : Nat) (K : AV → Option R) : fieldK i T a f K = optK (fieldK i T a f some) K := by
  unfold fieldK; repeat' (first | rfl | exact partK_nat _ _ _ _ | split)
theorem asIntK_nat (v : AV) {B : Type} (K : IntKind → Int → Option B) (K' : B → Option R) : optK (asIntK v K) K' = asIntK v fun k n => optK (K k n) K' := by
  unfold asIntK; split <;> rfl
theorem asIntK_congr {v : AV} {K K' : IntKind → Int → Option R} (h : ∀ k n, K k n = K' k n) : asIntK v K = asIntK v K' := by
  unfold asIntK; split
  · exact h _ _
  · rfl
theorem indexAddrK_nat (i : TI) (T : TypeId → Option TI) (x ix : AV) (K : AV → Option R) : indexAddrK i T x ix K = optK (indexAddrK i T x ix some) K := by
  unfold indexAddrK
  rw [asIntK_nat]
  refine asIntK_congr fun k n => ?_
  repeat' (first | rfl | (rw [partK_nat, partK_nat (K := fun v => some (AV.rop v)), optK_optK]; rfl) | split)
theorem indexK_nat (i : TI) (T : TypeId → Option TI) (x ix : AV) (K : AV → Option R) : indexK i T x ix K = optK (indexK i T x ix some) K := by
  unfold indexK
  rw [asIntK_nat]
  refine asIntK_congr fun k n => ?_
  repeat' (first | rfl | exact partK_nat _ _ _ _ | split)
theorem boundK_nat (v : AV) (y : Nat) {B : Type} (K : Nat → Option B) (K' : B → Option R) : optK (boundK v y K) K' = boundK v y fun n => optK (K n) K' := by
  unfold boundK
  rw [asIntK_nat]
  refine asIntK_congr fun k n => ?_
  split <;> rfl
theorem boundK_congr {v : AV} {y : Nat} {K K' : Nat → Option R} (h : ∀ n, K n = K' n) : boundK v y K = boundK v y K' := by
  have : K = K' := funext h
  rw [this]
theorem optBoundK_nat (v : Option AV) (y d : Nat) {B : Type} (K : Nat → Option B) (K' : B → Option R) : optK (optBoundK v y d K) K' = optBoundK v y d fun n => optK (K n) K' := by
  cases v with
  | none => rfl
  | some v => exact boundK_nat v y K K'
theorem optK_ite {A : Type} (c : Prop) [Decidable c] (a b : Option A) (K : A → Option R) : optK (if c then a else b) K = if c then optK a K else optK b K := by split <;> rfl
theorem optK_some {A : Type} (a : A) (K : A → Option R) : optK (some a) K = K a := rfl
theorem optK_none {A : Type} (K : A → Option R) : optK (none : Option A) K = none := rfl
theorem sliceK_nat (i : TI) (T : TypeId → Option TI) (x : AV) (lo hi mx : Option AV) (K : AV → Option R) : sliceK i T x lo hi mx K = optK (sliceK i T x lo hi mx some) K := by
  unfold sliceK
  repeat' (first | rfl | (simp only [optBoundK_nat, boundK_nat, optK_ite, optK_some, optK_none]; done) | split)
theorem buildK_nat (i : TI) (T : TypeId → Option TI) (ps : List (Nat × AV)) (K : AV → Option R) : buildK i T ps K = optK (buildK i T ps some) K := by
  unfold buildK; repeat' (first | rfl | split)
abbrev pairK : AV → AH → Option (AV × AH) := fun v H => some (v, H)
theorem buildSliceK_nat (S : Sys) (H : AH) (i : TI) (n : Nat) (ps : List (Nat × AV)) (K : AV → AH → Option R) : buildSliceK S H i n ps K = optK (buildSliceK S H i n ps pairK) fun p => K p.1 p.2 := by
  unfold buildSliceK newK; repeat' (first | rfl | split)
theorem makeSliceK_nat (S : Sys) (H : AH) (i : TI) (l c : AV) (K : AV → AH → Option R) : makeSliceK S H i l c K = optK (makeSliceK S H i l c pairK) fun p => K p.1 p.2 := by
  unfold makeSliceK newK
  split
  · split
    · rfl
    · rw [asIntK_nat]
      refine asIntK_congr fun k n => ?_
      rw [asIntK_nat]
      refine asIntK_congr fun k n => ?_
      repeat' (first | rfl | split)
  · rfl
theorem appendK_nat (S : Sys) (H : AH) (ts : Array TypeId) (s x : AV) (K : AV → AH → Option R) : appendK S H ts s x K = optK (appendK S H ts s x pairK) fun p => K p.1 p.2 := by
  unfold appendK newK; repeat' (first | rfl | split)
theorem copyK_nat (S : Sys) (H : AH) (ts : Array TypeId) (d x : AV) (K : AV → AH → Option R) : copyK S H ts d x K = optK (copyK S H ts d x pairK) fun p => K p.1 p.2 := by
  unfold copyK; repeat' (first | rfl | split)
theorem lenK_nat (S : Sys) (H : AH) (ts : Array TypeId) (x : AV) (K : AV → Option R) : lenK S H ts x K = optK (lenK S H ts x some) K := by
  unfold lenK; repeat' (first | rfl | split)
theorem lookupK_nat (S : Sys) (H : AH) (i : TI) (x ix : AV) (ok : Bool) (K : AV → Option R) : lookupK S H i x ix ok K = optK (lookupK S H i x ix ok some) K := by
  unfold lookupK; repeat' (first | rfl | split)
theorem mapUpdateK_nat (S : Sys) (H : AH) (i : TI) (m k v : AV) (K : AH → Option R) : mapUpdateK S H i m k v K = optK (mapUpdateK S H i m k v some) K := by
  unfold mapUpdateK; repeat' (first | rfl | split)
theorem minmaxK_nat (mx : Bool) : ∀ (us : List AV) (u : AV) (K : AV → Option R), minmaxK mx u us K = optK (minmaxK mx u us some) K
  | [], u, K => by cases u <;> rfl
  | v :: us, u, K => by
    cases u <;> try rfl
    cases v <;> try rfl
    simp only [minmaxK]
    exact minmaxK_nat mx us _ K
theorem builtinK_nat (S : Sys) (H : AH) (b : Builtin) (ts : Array TypeId) (xs : List AV) (K : AV → AH → Option R) : builtinK S H b ts xs K = optK (builtinK S H b ts xs pairK) fun p => K p.1 p.2 := by
  unfold builtinK
  split
  · rw [lenK_nat, lenK_nat (K := fun v => pairK v H), optK_optK]; rfl
  · exact appendK_nat _ _ _ _ _ _
  · exact copyK_nat _ _ _ _ _ _
  · rw [minmaxK_nat, minmaxK_nat (K := fun v => pairK v H), optK_optK]; rfl
  · rw [minmaxK_nat, minmaxK_nat (K := fun v => pairK v H), optK_optK]; rfl
  · rfl
theorem callFn_nat (call : Caller) (f : AV) (args : List AV) (H : AH) (K : AV → AH → Option R) : callFn call f args H K = optK (callFn call f args H pairK) fun p => K p.1 p.2 := by
  unfold callFn
  split
  · rw [optK_optK]; rfl
  · rw [optK_optK]; rfl
  · rfl
theorem br_nat {A : Type} (b : Bool) (f g : Unit → Option A) (K : A → Option R) : optK (br b f g) K = br b (fun _ => optK (f ()) K) (fun _ => optK (g ()) K) := by cases b <;> rfl

theorem textK_nat (i j : TI) (T : TypeId → Option TI) (v : AV) (K : AV → Option R) : textK i j T v K = optK (textK i j T v some) K := by
  unfold textK
  repeat' (first | rfl | split)
theorem convK_nat (S : Sys) (H : AH) (a b : TypeId) (v : AV) (K : AV → AH → Option R) : convK S H a b v K = optK (convK S H a b v pairK) fun p => K p.1 p.2 := by
  unfold convK
  repeat' (first | rfl | (rw [textK_nat, textK_nat (K := fun v => pairK v H), optK_optK]; rfl) | split)
theorem rangeStrK_nat (H : AH) (i : TI) (v : AV) (K : AV → AH → Option R) : rangeStrK H i v K = optK (rangeStrK H i v pairK) fun p => K p.1 p.2 := by
  unfold rangeStrK
  repeat' (first | rfl | split)
theorem nextK_nat (H : AH) (v : AV) (isS : Bool) (K : AV → AH → Option R) : nextK H v isS K = optK (nextK H v isS pairK) fun p => K p.1 p.2 := by
  unfold nextK
  repeat' (first | rfl | split)

theorem opK_nat (S : Sys) (call : Caller) (s : List AV) (H : AH) (o : Oper) (K : AV → AH → Option R) : opK S call s H o K = optK (opK S call s H o pairK) fun p => K p.1 p.2 := by
  obtain ⟨dst, op, type, pos, after, guard⟩ := o
  unfold opK
  cases op <;> simp only [newK]
  all_goals repeat' (first
    | rfl
    | (rw [br_nat]; rfl)
    | exact buildSliceK_nat _ _ _ _ _ _
    | exact makeSliceK_nat _ _ _ _ _ _
    | exact convK_nat _ _ _ _ _ _
    | exact rangeStrK_nat _ _ _ _
    | exact nextK_nat _ _ _ _
    | exact callFn_nat _ _ _ _ _
    | exact builtinK_nat _ _ _ _ _ _
    | (rw [buildK_nat, buildK_nat (K := fun v => pairK v H), optK_optK]; rfl)
    | (rw [loadK_nat, loadK_nat (K := fun v => pairK v H), optK_optK]; rfl)
    | (rw [storeK_nat, storeK_nat (K := fun H => pairK .top H), optK_optK]; rfl)
    | (rw [binK_nat, binK_nat (K := fun v => pairK v H), optK_optK]; rfl)
    | (rw [unK_nat, unK_nat (K := fun v => pairK v H), optK_optK]; rfl)
    | (rw [sliceK_nat, sliceK_nat (K := fun v => pairK v H), optK_optK]; rfl)
    | (rw [fieldAddrK_nat, fieldAddrK_nat (K := fun v => pairK v H), optK_optK]; rfl)
    | (rw [fieldK_nat, fieldK_nat (K := fun v => pairK v H), optK_optK]; rfl)
    | (rw [indexAddrK_nat, indexAddrK_nat (K := fun v => pairK v H), optK_optK]; rfl)
    | (rw [indexK_nat, indexK_nat (K := fun v => pairK v H), optK_optK]; rfl)
    | (rw [lookupK_nat, lookupK_nat (K := fun v => pairK v H), optK_optK]; rfl)
    | (rw [mapUpdateK_nat, mapUpdateK_nat (K := fun H => pairK .top H), optK_optK]; rfl)
    | split)

end Go.Sx

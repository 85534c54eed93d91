/- THE ENGINE, 24: an operation's answer does not hang on what follows. -/
import Derived.Test.YtedhpikmkoemhaaGreatEa
import Derived.Test.YtedhpikmkoemhaaGreatEc
import Derived.MapKept
import Derived.Lib.ConvBytes
import Derived.RangeFuncRecord
import Derived.Laws.BytesArg
import Derived.OrdersIn
import Derived.LoopNIn
import Derived.Scope
set_option linter.unusedSimpArgs false
set_option linter.unusedVariables false
namespace Go.Sx
variable {R : Type}

theorem partK_nat (i : TI) (cs : List AV) (off : Nat) (K : AV → Option R) : partK i cs off K = optK (partK i cs off some) K := by
  unfold partK; repeat' (first | rfl | split)
theorem shiftK_nat (l : Bool) (k : IntKind) (a b : Int) (K : AV → Option R) : shiftK l k a b K = optK (shiftK l k a b some) K := by
  unfold shiftK; repeat' (first | rfl | split)
theorem intK_nat (op : BinOp) (k : IntKind) (a b : Int) (K : AV → Option R) : intK op k a b K = optK (intK op k a b some) K := by
  cases op <;> unfold intK <;> repeat' (first | rfl | split)
theorem strK_nat (op : BinOp) (a b : List UInt8) (K : AV → Option R) : strK op a b K = optK (strK op a b some) K := by
  cases op <;> unfold strK <;> repeat' (first | rfl | split)
theorem binK_nat (T : TypeId → Option TI) (op : BinOp) (t : TypeId) (x y : AV) (K : AV → Option R) : binK T op t x y K = optK (binK T op t x y some) K := by
  unfold binK; repeat' (first | rfl | exact shiftK_nat _ _ _ _ _ | exact intK_nat _ _ _ _ _ | exact strK_nat _ _ _ _ | split)
theorem binN_nat (T : TypeId → Option TI) (op : BinOp) (t : TypeId) (xo yo : Operand) (x y : AV) (K : AV → Option R) : binN T op t xo yo x y K = optK (binN T op t xo yo x y some) K := by
  unfold binN
  split
  · cases op <;> rfl
  · exact binK_nat _ _ _ _ _ _
theorem unK_nat (op : UnOp) (x : AV) (K : AV → Option R) : unK op x K = optK (unK op x some) K := by
  unfold unK; repeat' (first | rfl | split)
theorem loadK_nat (H : AH) (i : TI) (a : AV) (K : AV → Option R) : loadK H i a K = optK (loadK H i a some) K := by
  unfold loadK; repeat' (first | rfl | exact partK_nat _ _ _ _ | split)
theorem storeK_nat (H : AH) (i : TI) (a v : AV) (K : AH → Option R) : storeK H i a v K = optK (storeK H i a v some) K := by
  unfold storeK; repeat' (first | rfl | split)
theorem optK_optK {A B : Type} (o : Option A) (f : A → Option B) (g : B → Option R) : optK (optK o f) g = optK o fun a => optK (f a) g := by
  cases o <;> rfl
theorem optK_congr {A : Type} {o : Option A} {f g : A → Option R} (h : ∀ a, f a = g a) : optK o f = optK o g := by
  cases o with
  | none => rfl
  | some a => exact h a
theorem fieldAddrK_nat (i : TI) (T : TypeId → Option TI) (a : AV) (f : Nat) (K : AV → Option R) : fieldAddrK i T a f K = optK (fieldAddrK i T a f some) K := by
  unfold fieldAddrK
  repeat' (first | rfl | (rw [partK_nat, partK_nat (K := fun v => some (AV.rop v)), optK_optK]; rfl) | split)
theorem fieldK_nat (i : TI) (T : TypeId → Option TI) (a : AV) (f : Nat) (K : AV → Option R) : fieldK i T a f K = optK (fieldK i T a f some) K := by
  unfold fieldK; repeat' (first | rfl | exact partK_nat _ _ _ _ | split)
theorem asIntK_nat (v : AV) {B : Type} (K : IntKind → Int → Option B) (K' : B → Option R) : optK (asIntK v K) K' = asIntK v fun k n => optK (K k n) K' := by
  unfold asIntK; split <;> rfl
theorem asIntK_congr {v : AV} {K K' : IntKind → Int → Option R} (h : ∀ k n, K k n = K' k n) : asIntK v K = asIntK v K' := by
  unfold asIntK; split
  · exact h _ _
  · rfl
theorem indexAddrK_nat (i : TI) (T : TypeId → Option TI) (x ix : AV) (K : AV → Option R) : indexAddrK i T x ix K = optK (indexAddrK i T x ix some) K := by
  unfold indexAddrK
  rw [asIntK_nat]
  refine asIntK_congr fun k n => ?_
  repeat' (first | rfl | (rw [partK_nat, partK_nat (K := fun v => some (AV.rop v)), optK_optK]; rfl) | split)
theorem indexK_nat (i : TI) (T : TypeId → Option TI) (x ix : AV) (K : AV → Option R) : indexK i T x ix K = optK (indexK i T x ix some) K := by
  unfold indexK
  rw [asIntK_nat]
  refine asIntK_congr fun k n => ?_
  repeat' (first | rfl | exact partK_nat _ _ _ _ | split)
theorem boundK_nat (v : AV) (y : Nat) {B : Type} (K : Nat → Option B) (K' : B → Option R) : optK (boundK v y K) K' = boundK v y fun n => optK (K n) K' := by
  unfold boundK
  rw [asIntK_nat]
  refine asIntK_congr fun k n => ?_
  split <;> rfl
theorem boundK_congr {v : AV} {y : Nat} {K K' : Nat → Option R} (h : ∀ n, K n = K' n) : boundK v y K = boundK v y K' := by
  have : K = K' := funext h
  rw [this]
theorem optBoundK_nat (v : Option AV) (y d : Nat) {B : Type} (K : Nat → Option B) (K' : B → Option R) : optK (optBoundK v y d K) K' = optBoundK v y d fun n => optK (K n) K' := by
  cases v with
  | none => rfl
  | some v => exact boundK_nat v y K K'
theorem optK_ite {A : Type} (c : Prop) [Decidable c] (a b : Option A) (K : A → Option R) : optK (if c then a else b) K = if c then optK a K else optK b K := by split <;> rfl
theorem optK_some {A : Type} (a : A) (K : A → Option R) : optK (some a) K = K a := rfl
theorem optK_none {A : Type} (K : A → Option R) : optK (none : Option A) K = none := rfl
theorem sliceK_nat (i : TI) (T : TypeId → Option TI) (x : AV) (lo hi mx : Option AV) (K : AV → Option R) : sliceK i T x lo hi mx K = optK (sliceK i T x lo hi mx some) K := by
  unfold sliceK
  repeat' (first | rfl | (simp only [optBoundK_nat, boundK_nat, optK_ite, optK_some, optK_none]; done) | split)
theorem buildK_nat (i : TI) (T : TypeId → Option TI) (ps : List (Nat × AV)) (K : AV → Option R) : buildK i T ps K = optK (buildK i T ps some) K := by
  unfold buildK; repeat' (first | rfl | split)
abbrev pairK : AV → AH → Option (AV × AH) := fun v H => some (v, H)
theorem buildSliceK_nat (S : Sys) (H : AH) (i : TI) (n : Nat) (ps : List (Nat × AV)) (K : AV → AH → Option R) : buildSliceK S H i n ps K = optK (buildSliceK S H i n ps pairK) fun p => K p.1 p.2 := by
  unfold buildSliceK newK; repeat' (first | rfl | split)
theorem makeSliceK_nat (S : Sys) (H : AH) (i : TI) (l c : AV) (K : AV → AH → Option R) : makeSliceK S H i l c K = optK (makeSliceK S H i l c pairK) fun p => K p.1 p.2 := by
  unfold makeSliceK newK
  split
  · split
    · rfl
    · rw [asIntK_nat]
      refine asIntK_congr fun k n => ?_
      rw [asIntK_nat]
      refine asIntK_congr fun k n => ?_
      repeat' (first | rfl | split)
  · rfl
theorem appendK_nat (S : Sys) (H : AH) (ts : Array TypeId) (s x : AV) (K : AV → AH → Option R) : appendK S H ts s x K = optK (appendK S H ts s x pairK) fun p => K p.1 p.2 := by
  unfold appendK newK; repeat' (first | rfl | split)
theorem copyK_nat (S : Sys) (H : AH) (ts : Array TypeId) (d x : AV) (K : AV → AH → Option R) : copyK S H ts d x K = optK (copyK S H ts d x pairK) fun p => K p.1 p.2 := by
  unfold copyK; repeat' (first | rfl | split)
theorem lenK_nat (S : Sys) (H : AH) (ts : Array TypeId) (x : AV) (K : AV → Option R) : lenK S H ts x K = optK (lenK S H ts x some) K := by
  unfold lenK; repeat' (first | rfl | split)
theorem lookupK_nat (S : Sys) (H : AH) (i : TI) (x ix : AV) (ok : Bool) (K : AV → Option R) : lookupK S H i x ix ok K = optK (lookupK S H i x ix ok some) K := by
  unfold lookupK; repeat' (first | rfl | split)
theorem mapUpdateK_nat (S : Sys) (H : AH) (i : TI) (m k v : AV) (K : AH → Option R) : mapUpdateK S H i m k v K = optK (mapUpdateK S H i m k v some) K := by
  unfold mapUpdateK; repeat' (first | rfl | split)
theorem minmaxK_nat (mx : Bool) : ∀ (us : List AV) (u : AV) (K : AV → Option R), minmaxK mx u us K = optK (minmaxK mx u us some) K
  | [], u, K => by cases u <;> rfl
  | v :: us, u, K => by
    cases u <;> try rfl
    cases v <;> try rfl
    simp only [minmaxK]
    exact minmaxK_nat mx us _ K
theorem entryK_nat (H : AH) (v : AV) (K : AV → Option R) : entryK H v K = optK (entryK H v some) K := by
  unfold entryK; repeat' (first | rfl | split)
theorem deleteK_nat (S : Sys) (H : AH) (ts : Array TypeId) (m k : AV) (K : AV → AH → Option R) : deleteK S H ts m k K = optK (deleteK S H ts m k pairK) fun p => K p.1 p.2 := by
  unfold deleteK; repeat' (first | rfl | split)
theorem clearK_nat (S : Sys) (H : AH) (ts : Array TypeId) (x : AV) (K : AV → AH → Option R) : clearK S H ts x K = optK (clearK S H ts x pairK) fun p => K p.1 p.2 := by
  unfold clearK; repeat' (first | rfl | split)
theorem builtinK_nat (S : Sys) (H : AH) (b : Builtin) (ts : Array TypeId) (xs : List AV) (K : AV → AH → Option R) : builtinK S H b ts xs K = optK (builtinK S H b ts xs pairK) fun p => K p.1 p.2 := by
  unfold builtinK
  split
  · rw [lenK_nat, lenK_nat (K := fun v => pairK v H), optK_optK]; rfl
  · exact appendK_nat _ _ _ _ _ _
  · exact copyK_nat _ _ _ _ _ _
  · rw [minmaxK_nat, minmaxK_nat (K := fun v => pairK v H), optK_optK]; rfl
  · rw [minmaxK_nat, minmaxK_nat (K := fun v => pairK v H), optK_optK]; rfl
  · exact deleteK_nat _ _ _ _ _ _
  · exact clearK_nat _ _ _ _ _
  · rfl
theorem callFn_nat (call : Caller) (f : AV) (args : List AV) (H : AH) (K : AV → AH → Option R) : callFn call f args H K = optK (callFn call f args H pairK) fun p => K p.1 p.2 := by
  unfold callFn
  split
  · rw [optK_optK]; rfl
  · rw [optK_optK]; rfl
  · rfl
theorem methK_nat (S : Sys) (call : Caller) (f : AV) (m : String) (args : List AV) (H : AH) (K : AV → AH → Option R) : methK S call f m args H K = optK (methK S call f m args H pairK) fun p => K p.1 p.2 := by
  unfold methK
  split
  · split
    · rw [optK_optK]; rfl
    · rfl
  · rfl
theorem assertK_nat (i : TI) (t : TypeId) (x : AV) (ok : Bool) (K : AV → Option R) : assertK i t x ok K = optK (assertK i t x ok some) K := by
  unfold assertK; repeat' (first | rfl | split)
theorem br_nat {A : Type} (b : Bool) (f g : Unit → Option A) (K : A → Option R) : optK (br b f g) K = br b (fun _ => optK (f ()) K) (fun _ => optK (g ()) K) := by cases b <;> rfl

theorem textK_nat (i j : TI) (T : TypeId → Option TI) (v : AV) (K : AV → Option R) : textK i j T v K = optK (textK i j T v some) K := by
  unfold textK
  repeat' (first | rfl | split)
theorem convK_nat (S : Sys) (H : AH) (a b : TypeId) (v : AV) (K : AV → AH → Option R) : convK S H a b v K = optK (convK S H a b v pairK) fun p => K p.1 p.2 := by
  unfold convK
  repeat' (first | rfl | (rw [textK_nat, textK_nat (K := fun v => pairK v H), optK_optK]; rfl) | split)
theorem rangeStrK_nat (H : AH) (i : TI) (v : AV) (K : AV → AH → Option R) : rangeStrK H i v K = optK (rangeStrK H i v pairK) fun p => K p.1 p.2 := by
  unfold rangeStrK
  repeat' (first | rfl | split)
theorem nextK_nat (H : AH) (v : AV) (isS : Bool) (K : AV → AH → Option R) : nextK H v isS K = optK (nextK H v isS pairK) fun p => K p.1 p.2 := by
  unfold nextK
  repeat' (first | rfl | split)

theorem opK_nat (S : Sys) (call : Caller) (s : List AV) (H : AH) (o : Oper) (K : AV → AH → Option R) : opK S call s H o K = optK (opK S call s H o pairK) fun p => K p.1 p.2 := by
  obtain ⟨dst, op, type, pos, after, guard⟩ := o
  unfold opK
  cases op <;> simp only [newK]
  all_goals repeat' (first
    | rfl
    | (rw [br_nat]; rfl)
    | exact buildSliceK_nat _ _ _ _ _ _
    | exact makeSliceK_nat _ _ _ _ _ _
    | exact convK_nat _ _ _ _ _ _
    | exact rangeStrK_nat _ _ _ _
    | exact nextK_nat _ _ _ _
    | (rw [entryK_nat, entryK_nat (K := fun v => pairK v H), optK_optK]; rfl)
    | exact callFn_nat _ _ _ _ _
    | exact methK_nat _ _ _ _ _ _ _
    | (rw [assertK_nat, assertK_nat (K := fun v => pairK v H), optK_optK]; rfl)
    | exact builtinK_nat _ _ _ _ _ _
    | (rw [buildK_nat, buildK_nat (K := fun v => pairK v H), optK_optK]; rfl)
    | (rw [loadK_nat, loadK_nat (K := fun v => pairK v H), optK_optK]; rfl)
    | (rw [storeK_nat, storeK_nat (K := fun H => pairK .top H), optK_optK]; rfl)
    | (rw [binN_nat, binN_nat (K := fun v => pairK v H), optK_optK]; rfl)
    | (rw [unK_nat, unK_nat (K := fun v => pairK v H), optK_optK]; rfl)
    | (rw [sliceK_nat, sliceK_nat (K := fun v => pairK v H), optK_optK]; rfl)
    | (rw [fieldAddrK_nat, fieldAddrK_nat (K := fun v => pairK v H), optK_optK]; rfl)
    | (rw [fieldK_nat, fieldK_nat (K := fun v => pairK v H), optK_optK]; rfl)
    | (rw [indexAddrK_nat, indexAddrK_nat (K := fun v => pairK v H), optK_optK]; rfl)
    | (rw [indexK_nat, indexK_nat (K := fun v => pairK v H), optK_optK]; rfl)
    | (rw [lookupK_nat, lookupK_nat (K := fun v => pairK v H), optK_optK]; rfl)
    | (rw [mapUpdateK_nat, mapUpdateK_nat (K := fun H => pairK .top H), optK_optK]; rfl)
    | split)

end Go.Sx

/- THE ENGINE, 17: maps. -/
set_option linter.unusedSimpArgs false
set_option linter.unusedVariables false
namespace Go.Sx
variable {S : Sys} {P : Program} {R : Type}

theorem partK_det {i : TI} {cs : List AV} {off : Nat} {K : AV → Option R} {r : R} (h : partK i cs off K = some r) : ∃ v, K v = some r ∧ ∀ {R' : Type} (K' : AV → Option R'), partK i cs off K' = K' v := by
  unfold partK at h
  split at h
  · rename_i h1
    split at h
    · rename_i h2
      exact ⟨_, h, fun K' => by unfold partK; rw [if_pos h1, if_pos h2]⟩
    · simp at h
  · rename_i h1
    split at h
    · rename_i v hv
      exact ⟨v, h, fun K' => by unfold partK; rw [if_neg h1, hv]⟩
    · simp at h

/-- A key that can be told can be asked for. -/
theorem checkFields (hS : SysOK S P) {E : GE} {n : Nat} {xs ys : List AV} {us : Array Value} (hx : VRel E (.agg xs) (.agg us)) (w : World) (em : Bool) (d : Nat)
    (ih : ∀ t u v b x, eqv S.T n t u v = some b → VRel E u x → (Instr.checkKey em d t x).run P w = .ok () w) :
    ∀ (fields : List Field) (b : Bool),
      (fields.map fun f => (f.offset, f.type)).foldr (fun f acc => match S.T f.2 with
            | none => none
            | some j => partK j xs f.1 fun a => partK j ys f.1 fun b => match eqv S.T n f.2 a b, acc with
              | some p, some q => some (p && q)
              | _, _ => none) (some true) = some b →
      (forIn fields PUnit.unit (fun f _ => if f.name ≠ "_" then (do
          let x ← part f.type us f.offset
          Instr.checkKey em d f.type x
          pure (ForInStep.yield PUnit.unit)) else pure (ForInStep.yield PUnit.unit)) : Sem PUnit).run P w = .ok PUnit.unit w
  | [], b, _ => by simp
  | f :: fs, b, h => by
    simp only [List.map_cons, List.foldr_cons] at h
    split at h
    · simp at h
    · rename_i j hj
      obtain ⟨a, x, ha, hax, hpx⟩ := part_sound (hS.type _ _ hj) hx h
      obtain ⟨v, hv1, hv2⟩ := partK_det ha
      split at hv1
      · rename_i p q hp hq
        have ih' := checkFields hS hx w em d ih fs q hq
        simp only [List.forIn_cons, Sem.run_bind, Sem.run_ite, hpx w, ih _ _ _ _ _ hp hax, Result.andThen_ok, Sem.run_pure]
        split <;> simpa using ih'
      · simp at hv1

theorem checkItems (hS : SysOK S P) {E : GE} {n : Nat} {xs ys : List AV} {us : Array Value} (hx : VRel E (.agg xs) (.agg us)) (w : World) (em : Bool) (d : Nat) {e : TypeId} {j : TI} (hj : S.T e = some j)
    (ih : ∀ t u v b x, eqv S.T n t u v = some b → VRel E u x → (Instr.checkKey em d t x).run P w = .ok () w) :
    ∀ (is : List Nat) (b : Bool),
      is.foldr (fun m acc => partK j xs (m * j.size) fun a => partK j ys (m * j.size) fun b => match eqv S.T n e a b, acc with
              | some p, some q => some (p && q)
              | _, _ => none) (some true) = some b →
      (forIn is PUnit.unit (fun i _ => do
        let s ← sizeOf e
        let x ← part e us (i * s)
        Instr.checkKey em d e x
        pure (ForInStep.yield PUnit.unit)) : Sem PUnit).run P w = .ok PUnit.unit w
  | [], b, _ => by simp
  | m :: is, b, h => by
    simp only [List.foldr_cons] at h
    obtain ⟨a, x, ha, hax, hpx⟩ := part_sound (hS.type _ _ hj) hx h
    obtain ⟨v, hv1, hv2⟩ := partK_det ha
    split at hv1
    · rename_i p q hp hq
      have ih' := checkItems hS hx w em d hj ih is q hq
      simp only [List.forIn_cons, Sem.run_bind, run_size' hS hj, hpx w, ih _ _ _ _ _ hp hax, Result.andThen_ok, Sem.run_pure]
      simpa using ih'
    · simp at hv1

theorem check_sound (hS : SysOK S P) (w : World) (em : Bool) : ∀ (n : Nat) (t : TypeId) (u v : AV) (b : Bool) (x : Value) (E : GE), eqv S.T n t u v = some b → VRel E u x → ∀ d, n ≤ d → (Instr.checkKey em d t x).run P w = .ok () w
  | 0, _, _, _, _, _, _, h, _ => by simp [eqv] at h
  | n + 1, t, u, v, b, x, E, h, hx => by
    intro d hd
    obtain ⟨d, rfl⟩ : ∃ m, d = m + 1 := ⟨d - 1, by omega⟩
    have ih := fun t u v b x (h : eqv S.T n t u v = some b) (hx : VRel E u x) => check_sound hS w em n t u v b x E h hx d (by omega)
    unfold eqv at h
    split at h
    · simp at h
    · rename_i i hi
      have hT := hS.type _ _ hi
      have hk := hT.kind
      split at h <;> (rename_i hik) <;> (try rw [hik] at hk) <;> (try simp only [kindOK] at hk)
      case h_20 =>
        split at h
        · obtain ⟨fields, hu, hf, hn, _⟩ := hk
          cases hx with
          | agg _ us h1 h2 h3 =>
          have := checkFields hS (E := E) (.agg _ us h1 h2 h3) w em d ih fields.toList b (by rw [hf]; exact h)
          simp only [Instr.checkKey, Sem.run_bind, run_underlying hu, Result.andThen_ok]
          rw [← Array.forIn_toList]
          rw [this]
          simp
        · simp at h
      case h_21 =>
        split at h
        · split at h
          · simp at h
          · rename_i j hj
            cases hx with
            | agg _ us h1 h2 h3 =>
            have := checkItems hS (E := E) (.agg _ us h1 h2 h3) w em d hj ih _ b h
            simp only [Instr.checkKey, Sem.run_bind, run_underlying hk, Result.andThen_ok]
            simp only [Std.Legacy.Range.forIn_eq_forIn_range', Std.Legacy.Range.size, Nat.sub_zero, Nat.add_one_sub_one, Nat.div_one]
            rw [← List.range_eq_range', this]
            simp
        · simp at h
      all_goals first
        | (exfalso; simp at h; done)
        | (obtain ⟨e, hk⟩ := hk; cases hx; simp [Instr.checkKey, run_underlying hk]; done)
        | (obtain ⟨a1, a2, a3, hk⟩ := hk; cases hx <;> (simp [Instr.checkKey, run_underlying hk]; done))
        | (cases hx; simp [Instr.checkKey, run_underlying hk]; done)
        | skip


/-- The entries of a map that an abstract map tells. -/
structure ERel (E : GE) (es : List (AV × AV)) (ms : List MapEntry) : Prop where
  len : es.length = ms.length
  key : ∀ (j : Nat) e m, es[j]? = some e → ms[j]? = some m → VRel E e.1 m.key
  val : ∀ (j : Nat) e m, es[j]? = some e → ms[j]? = some m → VRel E e.2 m.val

theorem ERel.tail {E : GE} {e : AV × AV} {es : List (AV × AV)} {m : MapEntry} {ms : List MapEntry} (h : ERel E (e :: es) (m :: ms)) : ERel E es ms :=
  ⟨by have := h.len; simpa using this, fun j a b h1 h2 => h.key (j + 1) a b (by simpa using h1) (by simpa using h2), fun j a b h1 h2 => h.val (j + 1) a b (by simpa using h1) (by simpa using h2)⟩

def plainKey (k : TK) (cmp : Bool) : Bool := match k with | .bool | .int _ | .string => true | .struct _ | .array _ _ => cmp | _ => false

/-- What is found. -/
def FRel (E : GE) (u : Option (Nat × AV)) (x : Option (Nat × Value)) : Prop := (u = none ∧ x = none) ∨ ∃ i v y, u = some (i, v) ∧ x = some (i, y) ∧ VRel E v y

theorem findAsking_sound (hS : SysOK S P) {E : GE} {kt : TypeId} {k : AV} {kx : Value} (hk : VRel E k kx) (w : World) : ∀ (es : List (AV × AV)) (ms : List MapEntry) (n : Nat) (u : Option (Nat × AV)), ERel E es ms → findK S.T kt k es n = some u →
    ∃ x, (Instr.findAsking kt kx ms n).run P w = .ok x w ∧ FRel E u x
  | [], ms, n, u, hr, h => by
    obtain rfl : ms = [] := by have := hr.len; simpa using this.symm
    simp only [findK, Option.some.injEq] at h
    subst h
    exact ⟨none, by simp [Instr.findAsking], .inl ⟨rfl, rfl⟩⟩
  | e :: es, ms, n, u, hr, h => by
    cases ms with
    | nil => have := hr.len; simp at this
    | cons m ms =>
    simp only [findK] at h
    have hke := hr.key 0 e m rfl rfl
    split at h
    · rename_i he
      simp only [Option.some.injEq] at h
      subst h
      have := eqv_sound hS w _ _ _ _ _ _ _ _ he hk hke 10000 (by simp [eqDepth])
      exact ⟨some (n, m.val), by simp [Instr.findAsking, Op.equal, Op.maxDepth, this], .inr ⟨n, e.2, m.val, rfl, rfl, hr.val 0 e m rfl rfl⟩⟩
    · rename_i he
      have := eqv_sound hS w _ _ _ _ _ _ _ _ he hk hke 10000 (by simp [eqDepth])
      obtain ⟨x, h1, h2⟩ := findAsking_sound hS hk w es ms (n + 1) u hr.tail h
      exact ⟨x, by simp [Instr.findAsking, Op.equal, Op.maxDepth, this, h1], h2⟩
    · simp at h

theorem findNow_sound (hS : SysOK S P) {E : GE} {kt : TypeId} {q : TI} (hq : S.T kt = some q) {d : TypeDesc} (hd : P.underlying kt = some d) {k : AV} {kx : Value} (hk : VRel E k kx) (hsc : q.k = .bool ∨ (∃ kk, q.k = .int kk) ∨ q.k = .string) :
    ∀ (es : List (AV × AV)) (ms : List MapEntry) (n : Nat) (u : Option (Nat × AV)), ERel E es ms → findK S.T kt k es n = some u → ∃ x, Instr.findNow d kx ms n = some x ∧ FRel E u x
  | [], ms, n, u, hr, h => by
    obtain rfl : ms = [] := by have := hr.len; simpa using this.symm
    simp only [findK, Option.some.injEq] at h
    subst h
    exact ⟨none, by simp [Instr.findNow], .inl ⟨rfl, rfl⟩⟩
  | e :: es, ms, n, u, hr, h => by
    cases ms with
    | nil => have := hr.len; simp at this
    | cons m ms =>
    simp only [findK] at h
    have hke := hr.key 0 e m rfl rfl
    have hkd := (hS.type _ _ hq).kind
    have hsame : ∀ b, eqv S.T eqDepth kt k e.1 = some b → Instr.sameNow d kx m.key = some b := by
      intro b hb
      unfold eqDepth at hb
      unfold eqv at hb
      rw [hq] at hb
      simp only at hb
      rcases hsc with hk' | ⟨kk, hk'⟩ | hk' <;> rw [hk'] at hb hkd <;> simp only [kindOK] at hkd <;> rw [hd] at hkd <;> obtain rfl := Option.some.inj hkd
      · split at hb <;> first | contradiction | (simp at hb; done) | skip
        · rename_i he1
          rw [rel_bool hk]
          rw [he1] at hke
          rw [rel_bool hke]
          simpa [Instr.sameNow] using hb
      · split at hb <;> first | contradiction | (simp at hb; done) | skip
        · rename_i he1
          rw [rel_int hk]
          rw [he1] at hke
          rw [rel_int hke]
          simpa [Instr.sameNow] using hb
      · split at hb <;> first | contradiction | (simp at hb; done) | skip
        · rename_i he1
          rw [rel_str hk]
          rw [he1] at hke
          rw [rel_str hke]
          simp only [Option.some.injEq] at hb
          subst hb
          simp only [Instr.sameNow, Option.some.injEq]
          rw [beq_toListBytes, ByteArray.toList_eq, ByteArray.toList_eq]
    split at h
    · rename_i he
      simp only [Option.some.injEq] at h
      subst h
      exact ⟨some (n, m.val), by simp [Instr.findNow, hsame _ he], .inr ⟨n, e.2, m.val, rfl, rfl, hr.val 0 e m rfl rfl⟩⟩
    · rename_i he
      obtain ⟨x, h1, h2⟩ := findNow_sound hS hq hd hk hsc es ms (n + 1) u hr.tail h
      exact ⟨x, by simp [Instr.findNow, hsame _ he, h1], h2⟩
    · simp at h


theorem findKey_sound (hS : SysOK S P) {E : GE} {kt : TypeId} {q : TI} (hq : S.T kt = some q) {k : AV} {kx : Value} (hk : VRel E k kx) (w : World)
    (hpl : keyable q = true) {es : List (AV × AV)} {ms : List MapEntry} {u : Option (Nat × AV)} (hr : ERel E es ms) (h : findK S.T kt k es 0 = some u) :
    ∃ x, (Instr.findKey kt kx ms).run P w = .ok x w ∧ FRel E u x := by
  have hkd := (hS.type _ _ hq).kind
  by_cases hsc : q.k = .bool ∨ (∃ kk, q.k = .int kk) ∨ q.k = .string
  · obtain ⟨d, hd⟩ : ∃ d, P.underlying kt = some d := by
      rcases hsc with hk' | ⟨kk, hk'⟩ | hk' <;> rw [hk'] at hkd <;> exact ⟨_, hkd⟩
    obtain ⟨x, h1, h2⟩ := findNow_sound hS hq hd hk hsc es ms 0 u hr h
    exact ⟨x, by simp [Instr.findKey, run_underlying hd, h1], h2⟩
  · have hagg : (∃ fs, P.underlying kt = some (.struct fs)) ∨ ∃ n e, P.underlying kt = some (.array n e) := by
      unfold keyable at hpl
      split at hpl
      · rename_i h'; exact absurd (.inl h') hsc
      · rename_i kk h'; exact absurd (.inr (.inl ⟨kk, h'⟩)) hsc
      · rename_i h'; exact absurd (.inr (.inr h')) hsc
      · rename_i fs h'; rw [h'] at hkd; obtain ⟨f, hf, _⟩ := hkd; exact .inl ⟨f, hf⟩
      · rename_i n e h'; rw [h'] at hkd; exact .inr ⟨n, e, hkd⟩
      · simp at hpl
    obtain ⟨x, h1, h2⟩ := findAsking_sound hS hk w es ms 0 u hr h
    cases ms with
    | nil =>
      simp only [Instr.findAsking, Sem.run_pure, Result.ok.injEq, and_true] at h1
      subst h1
      refine ⟨none, ?_, h2⟩
      rcases hagg with ⟨fs, hd⟩ | ⟨n, e, hd⟩ <;> simp [Instr.findKey, run_underlying hd, Instr.findNow]
    | cons m ms =>
      refine ⟨x, ?_, h2⟩
      rcases hagg with ⟨fs, hd⟩ | ⟨n, e, hd⟩ <;> simp [Instr.findKey, run_underlying hd, Instr.findNow, Instr.sameNow, h1]

theorem run_getObj {w : World} {b : Nat} {o : Obj} (h : w.heap[b]? = some o) (ho : ∀ c e f, o ≠ .cells c e f) : (getObj b).run P w = .ok o w := by
  unfold getObj
  simp only [Sem.run, h]
  all_goals (cases o <;> first | rfl | exact absurd rfl (ho _ _ _))

theorem lookup_sound (hS : SysOK S P) {H : AH} {E : GE} (hr : HRel H E) {t : TypeId} {i : TI} (hi : S.T t = some i) {u v : AV} {ok : Bool} {K : AV → Option R} {r : R} (h : lookupK S H i u v ok K = some r) {x y : Value} (hx : VRel E u x) (hy : VRel E v y) :
    ∃ v z, K v = some r ∧ VRel E v z ∧ (Instr.lookup t x y ok).run P E.w = .ok z E.w := by
  have hk := (hS.type _ _ hi).kind
  unfold lookupK at h
  split at h
  · rename_i kt et hik
    rw [hik] at hk
    have hu : P.underlying t = some (.map kt et) := hk
    split at h
    · rename_i j q hj hq
      obtain ⟨z, hz1, hz2, hz3⟩ := zero_rel (hS.type _ _ hj) E.w
      split at h
      · rename_i hpl
        split at h
        · simp at h
        · rename_i hself
          have hself' : ∃ b, eqv S.T eqDepth kt v v = some b := by
            cases he : eqv S.T eqDepth kt v v with
            | none => simp [he] at hself
            | some b => exact ⟨b, rfl⟩
          obtain ⟨b, hb⟩ := hself'
          have hchk : ∀ em, (Instr.checkKey em 10000 kt y).run P E.w = .ok () E.w := fun em => check_sound hS E.w em _ _ _ _ _ _ _ hb hy 10000 (by simp [eqDepth])
          split at h
          · rw [rel_nilmap hx]
            have hf : (Instr.findKey kt y []).run P E.w = .ok none E.w := by
              obtain ⟨x, h1, h2⟩ := findKey_sound hS hq hy E.w hpl (es := []) (ms := []) (u := none) ⟨rfl, by simp, by simp⟩ (by simp [findK])
              rcases h2 with ⟨_, rfl⟩ | ⟨i, v, y, e, _⟩
              · exact h1
              · simp at e
            cases ok
            · exact ⟨_, _, h, hz3 E, by simp [Instr.lookup, run_underlying hu, hchk, hf, hz1]⟩
            · refine ⟨_, .tuple #[z, .bool false], h, .tuple _ _ rfl ?_, by simp [Instr.lookup, run_underlying hu, hchk, hf, hz1]⟩
              intro i v x h1 h2
              match i with
              | 0 => simp at h1 h2; subst h1; subst h2; exact hz3 E
              | 1 => simp at h1 h2; subst h1; subst h2; exact .bool false
              | i + 2 => simp at h1
          · rename_i id
            split at h
            · rename_i es bs0 ck0 ho
              cases hx with
              | map _ b' hid hb' =>
              cases hr.obj _ _ ho with
              | map _ _ clock b2 ms hb2 hh hl hss hkk hvv =>
              rw [hb'] at hb2
              obtain rfl := Option.some.inj hb2
              have hg : (getObj b').run P E.w = .ok (.map ms ck0) E.w := run_getObj hh (by intro c e f; simp)
              have her : ERel E es ms.toList := ⟨by simpa using hl, fun j e m a d => hkk j e m a (by simpa using d), fun j e m a d => hvv j e m a (by simpa using d)⟩
              split at h
              · rename_i n v' hfk
                obtain ⟨x, h1, h2⟩ := findKey_sound hS hq hy E.w hpl her hfk
                rcases h2 with ⟨e, _⟩ | ⟨i, v0, y0, e, rfl, hv0⟩
                · simp at e
                · simp only [Option.some.injEq, Prod.mk.injEq] at e
                  obtain ⟨rfl, rfl⟩ := e
                  cases ok
                  · exact ⟨_, _, h, hv0, by simp [Instr.lookup, run_underlying hu, hg, hchk, h1]⟩
                  · refine ⟨_, .tuple #[y0, .bool true], h, .tuple _ _ rfl ?_, by simp [Instr.lookup, run_underlying hu, hg, hchk, h1]⟩
                    intro i v x h1 h2
                    match i with
                    | 0 => simp at h1 h2; subst h1; subst h2; exact hv0
                    | 1 => simp at h1 h2; subst h1; subst h2; exact .bool true
                    | i + 2 => simp at h1
              · rename_i hfk
                obtain ⟨x, h1, h2⟩ := findKey_sound hS hq hy E.w hpl her hfk
                rcases h2 with ⟨_, rfl⟩ | ⟨i, v0, y0, e, _⟩
                · cases ok
                  · exact ⟨_, _, h, hz3 E, by simp [Instr.lookup, run_underlying hu, hg, hchk, h1, hz1]⟩
                  · refine ⟨_, .tuple #[z, .bool false], h, .tuple _ _ rfl ?_, by simp [Instr.lookup, run_underlying hu, hg, hchk, h1, hz1]⟩
                    intro i v x h1 h2
                    match i with
                    | 0 => simp at h1 h2; subst h1; subst h2; exact hz3 E
                    | 1 => simp at h1 h2; subst h1; subst h2; exact .bool false
                    | i + 2 => simp at h1
                · simp at e
              · simp at h
            · simp at h
          · simp at h
      · simp at h
    · simp at h
  · simp at h


theorem sameS_sound {E : GE} {u v : AV} (h : sameS u v = true) {x y : Value} (hx : VRel E u x) (hy : VRel E v y) : x = y ∧ ∀ n, Instr.sameBits n x y = true := by
  unfold sameS at h
  split at h
  · rw [rel_int hx, rel_int hy]
    simp only [Bool.and_eq_true, decide_eq_true_eq, beq_iff_eq] at h
    obtain ⟨rfl, rfl⟩ := h
    exact ⟨rfl, fun n => by cases n <;> simp [Instr.sameBits]⟩
  · rw [rel_bool hx, rel_bool hy]
    simp only [beq_iff_eq] at h
    subst h
    exact ⟨rfl, fun n => by cases n <;> simp [Instr.sameBits]⟩
  · rw [rel_str hx, rel_str hy]
    simp only [beq_iff_eq] at h
    subst h
    exact ⟨rfl, fun n => by cases n <;> simp [Instr.sameBits, beq_toListBytes]⟩
  · simp at h

theorem sameL_sound {E : GE} : ∀ (us vs : List AV) (xs ys : List Value), sameL us vs = true → us.length = xs.length → vs.length = ys.length → (∀ (i : Nat) u x, us[i]? = some u → xs[i]? = some x → VRel E u x) → (∀ (i : Nat) v y, vs[i]? = some v → ys[i]? = some y → VRel E v y) →
    xs = ys ∧ ∀ n, ((xs.zip ys).all fun (x, y) => Instr.sameBits n x y) = true
  | [], [], xs, ys, _, h1, h2, _, _ => by
    obtain rfl : xs = [] := by simpa using h1.symm
    obtain rfl : ys = [] := by simpa using h2.symm
    exact ⟨rfl, by simp⟩
  | u :: us, v :: vs, xs, ys, h, h1, h2, hu, hv => by
    cases xs with
    | nil => simp at h1
    | cons x xs =>
    cases ys with
    | nil => simp at h2
    | cons y ys =>
    simp only [sameL, Bool.and_eq_true] at h
    obtain ⟨e1, e2⟩ := sameS_sound h.1 (hu 0 u x rfl rfl) (hv 0 v y rfl rfl)
    obtain ⟨e3, e4⟩ := sameL_sound us vs xs ys h.2 (by simpa using h1) (by simpa using h2) (fun i u x a b => hu (i + 1) u x (by simpa using a) (by simpa using b)) (fun i v y a b => hv (i + 1) v y (by simpa using a) (by simpa using b))
    exact ⟨by rw [e1, e3], fun n => by simp [e2 n]; simpa using e4 n⟩
  | [], _ :: _, _, _, h, _, _, _, _ => by simp [sameL] at h
  | _ :: _, [], _, _, h, _, _, _, _ => by simp [sameL] at h

theorem sameA_sound {E : GE} {u v : AV} (h : sameA u v = true) {x y : Value} (hx : VRel E u x) (hy : VRel E v y) : x = y ∧ Instr.sameBits 10000 x y = true := by
  unfold sameA at h
  split at h
  · cases hx with
    | agg _ xs h1 h2 h3 =>
    cases hy with
    | agg _ ys k1 k2 k3 =>
    obtain ⟨e1, e2⟩ := sameL_sound _ _ xs.toList ys.toList h (by simpa using h1) (by simpa using k1) (fun i u x a b => h2 i u x a (by simpa using b)) (fun i u x a b => k2 i u x a (by simpa using b))
    have e3 : xs = ys := by simpa using e1
    subst e3
    refine ⟨rfl, ?_⟩
    show (xs.size == xs.size && (xs.toList.zip xs.toList).all fun (x, y) => Instr.sameBits 9999 x y) = true
    rw [e2]; simp
  · exact ⟨(sameS_sound h hx hy).1, (sameS_sound h hx hy).2 _⟩

theorem write_map {H : AH} {E : GE} (hr : HRel H E) {id b : Nat} {es : List (AV × AV)} {bs : List Nat} {ck : Nat} (ho : H.objs[id]? = some (.map es bs ck)) (hb : E.ρ id = some b) {es' : List (AV × AV)} {bs' : List Nat} {ms' : Array MapEntry} {clock : Nat} (her : ERel E es' ms'.toList) (hbs : ms'.toList.map (·.born) = bs') :
    ∃ w', (setObj b (.map ms' clock)).run P E.w = .ok () w' ∧ E.le (E.at w') ∧ HRel { H with objs := H.objs.set id (.map es' bs' clock) } (E.at w') := by
  have hid := hr.idlt ho
  cases hr.obj _ _ ho with
  | map _ _ clock0 b2 ms hb2 hh hl hss hkk hvv =>
  rw [hb] at hb2
  obtain rfl := Option.some.inj hb2
  have hlt : b < E.w.heap.size := by
    rcases Nat.lt_or_ge b E.w.heap.size with h' | h'
    · exact h'
    · simp [Array.getElem?_eq_none h'] at hh
  have honly : Only b E.w { E.w with heap := E.w.heap.setIfInBounds b (.map ms' clock) } := by
    constructor <;> try rfl
    · simp
    · intro k hk
      simp only [Array.getElem?_setIfInBounds]
      rw [if_neg (by omega)]
  have hS : ∀ o, ¬ E.S b o := by
    intro o hS
    have := hr.set b o hS
    simp [World.cell?, hh] at this
  have hle := le_write (.inl ⟨id, hid, hb⟩) hS honly
  refine ⟨_, ?_, hr.write ho rfl hid hb hS honly (.map es' bs' clock b ms' hb ?_ (by have := her.len; simpa using this) hbs ?_ ?_)⟩
  · simp [setObj, Sem.run, hh]
  · show (E.w.heap.setIfInBounds b _)[b]? = _
    simp [Array.getElem?_setIfInBounds, hlt]
  · intro j e m h1 h2
    exact (her.key j e m h1 (by simpa using h2)).mono hle
  · intro j e m h1 h2
    exact (her.val j e m h1 (by simpa using h2)).mono hle

theorem findK_index {T : TypeId → Option TI} {kt : TypeId} {k : AV} : ∀ (es : List (AV × AV)) (n i : Nat) (v : AV), findK T kt k es n = some (some (i, v)) → n ≤ i ∧ i < n + es.length
  | [], n, i, v, h => by simp [findK] at h
  | e :: es, n, i, v, h => by
    simp only [findK] at h
    split at h
    · simp only [Option.some.injEq, Prod.mk.injEq] at h
      simp; omega
    · have := findK_index es (n + 1) i v h
      simp; omega
    · simp at h

theorem mapUpdate_sound (hS : SysOK S P) {H : AH} {E : GE} (hr : HRel H E) {t : TypeId} {i : TI} (hi : S.T t = some i) {m k v : AV} {K : AH → Option R} {r : R} (h : mapUpdateK S H i m k v K = some r) {mx kx vx : Value} (hm : VRel E m mx) (hk : VRel E k kx) (hv : VRel E v vx) :
    ∃ H' w', K H' = some r ∧ (Instr.mapUpdate t mx kx vx).run P E.w = .ok () w' ∧ E.le (E.at w') ∧ HRel H' (E.at w') := by
  have hkd := (hS.type _ _ hi).kind
  unfold mapUpdateK at h
  split at h
  · rename_i kt et hik
    rw [hik] at hkd
    have hu : P.underlying t = some (.map kt et) := hkd
    split at h
    · rename_i q hq
      split at h
      · rename_i hpl
        split at h
        · simp at h
        · rename_i hself
          have hself' : ∃ b, eqv S.T eqDepth kt k k = some b := by
            cases he : eqv S.T eqDepth kt k k with
            | none => simp [he] at hself
            | some b => exact ⟨b, rfl⟩
          obtain ⟨b, hb⟩ := hself'
          have hchk : ∀ em, (Instr.checkKey em 10000 kt kx).run P E.w = .ok () E.w := fun em => check_sound hS E.w em _ _ _ _ _ _ _ hb hk 10000 (by simp [eqDepth])
          split at h
          · rename_i id
            split at h
            · rename_i es bs0 ck0 ho
              cases hm with
              | map _ b' hid hb' =>
              have hob := hr.obj _ _ ho
              cases hob with
              | map _ _ clock b2 ms hb2 hh hl hss hkk hvv =>
              rw [hb'] at hb2
              obtain rfl := Option.some.inj hb2
              have hg : (getObj b').run P E.w = .ok (.map ms ck0) E.w := run_getObj hh (by intro c e f; simp)
              have her : ERel E es ms.toList := ⟨by simpa using hl, fun j e m a d => hkk j e m a (by simpa using d), fun j e m a d => hvv j e m a (by simpa using d)⟩
              split at h
              · rename_i n v' hfk
                have hidx := findK_index es 0 n v' hfk
                split at h
                · rename_i e he
                  split at h
                  · rename_i hsame
                    obtain ⟨x, h1, h2⟩ := findKey_sound hS hq hk E.w hpl her hfk
                    rcases h2 with ⟨e', _⟩ | ⟨j, v0, y0, e', rfl, hv0⟩
                    · simp at e'
                    · simp only [Option.some.injEq, Prod.mk.injEq] at e'
                      obtain ⟨rfl, rfl⟩ := e'
                      have hlt : n < ms.size := by omega
                      have hmn : ms[n]? = some ms[n] := by simp [hlt]
                      obtain ⟨s1, s2⟩ := sameA_sound hsame (hkk n e ms[n] he hmn) hk
                      have hbits : Instr.sameBits 10000 ms[n].key kx = true := s2
                      have her' : ERel E (es.set n (e.1, v)) (ms.modify n fun m => { m with key := kx, val := vx }).toList := by
                        refine ⟨by simpa using hl, ?_, ?_⟩
                        · intro j a m h1 h2
                          simp only [List.getElem?_set, Array.getElem?_toList, Array.getElem?_modify] at h1 h2
                          by_cases e1 : n = j
                          · subst e1
                            rw [if_pos rfl, if_pos (by omega)] at h1
                            rw [if_pos rfl, hmn] at h2
                            simp only [Option.some.injEq, Option.map_some] at h1 h2
                            subst h1; subst h2
                            have := hkk n e ms[n] he hmn
                            rw [s1] at this; exact this
                          · rw [if_neg e1] at h1 h2
                            exact hkk j a m h1 h2
                        · intro j a m h1 h2
                          simp only [List.getElem?_set, Array.getElem?_toList, Array.getElem?_modify] at h1 h2
                          by_cases e1 : n = j
                          · subst e1
                            rw [if_pos rfl, if_pos (by omega)] at h1
                            rw [if_pos rfl, hmn] at h2
                            simp only [Option.some.injEq, Option.map_some] at h1 h2
                            subst h1; subst h2
                            exact hv
                          · rw [if_neg e1] at h1 h2
                            exact hvv j a m h1 h2
                      obtain ⟨w', w1, w2, w3⟩ := write_map (P := P) hr ho hb' (clock := ck0) her' (bs' := bs0) (by
                        rw [← hss]
                        apply List.ext_getElem?
                        intro j
                        simp only [List.getElem?_map, Array.getElem?_toList, Array.getElem?_modify]
                        by_cases e1 : n = j
                        · subst e1; rw [if_pos rfl, hmn]; rfl
                        · rw [if_neg e1])
                      refine ⟨_, w', h, ?_, w2, w3⟩
                      simp [Instr.mapUpdate, run_underlying hu, hg, hchk, h1, hlt, Instr.keyThatStays, hbits, w1]
                  · simp at h
                · simp at h
              · rename_i hfk
                obtain ⟨x, h1, h2⟩ := findKey_sound hS hq hk E.w hpl her hfk
                rcases h2 with ⟨_, rfl⟩ | ⟨j, v0, y0, e', _⟩
                · have her' : ERel E (es ++ [(k, v)]) (ms.push { key := kx, val := vx, born := ck0 }).toList := by
                    refine ⟨by simp [hl], ?_, ?_⟩
                    · intro j a m h1 h2
                      rw [Array.toList_push] at h2
                      by_cases e1 : j < es.length
                      · rw [List.getElem?_append_left e1] at h1
                        rw [List.getElem?_append_left (by simp; omega)] at h2
                        exact her.key j a m h1 h2
                      · rw [List.getElem?_append_right (by omega)] at h1
                        rw [List.getElem?_append_right (by simp; omega)] at h2
                        simp only [Array.length_toList, ← hl] at h2
                        cases hj : j - es.length with
                        | zero => rw [hj] at h1 h2; simp at h1 h2; subst h1; subst h2; exact hk
                        | succ j' => rw [hj] at h1; simp at h1
                    · intro j a m h1 h2
                      rw [Array.toList_push] at h2
                      by_cases e1 : j < es.length
                      · rw [List.getElem?_append_left e1] at h1
                        rw [List.getElem?_append_left (by simp; omega)] at h2
                        exact her.val j a m h1 h2
                      · rw [List.getElem?_append_right (by omega)] at h1
                        rw [List.getElem?_append_right (by simp; omega)] at h2
                        simp only [Array.length_toList, ← hl] at h2
                        cases hj : j - es.length with
                        | zero => rw [hj] at h1 h2; simp at h1 h2; subst h1; subst h2; exact hv
                        | succ j' => rw [hj] at h1; simp at h1
                  obtain ⟨w', w1, w2, w3⟩ := write_map (P := P) hr ho hb' (clock := ck0 + 1) her' (bs' := bs0 ++ [ck0]) (by rw [← hss]; simp)
                  exact ⟨_, w', h, by simp [Instr.mapUpdate, run_underlying hu, hg, hchk, h1, w1], w2, w3⟩
                · simp at e'
              · simp at h
            · simp at h
          · simp at h
      · simp at h
    · simp at h
  · simp at h

theorem map_erase_idx {A B : Type} (f : A → B) : ∀ (l : List A) (n : Nat), (l.eraseIdx n).map f = (l.map f).eraseIdx n
  | [], n => by simp
  | a :: l, 0 => by simp
  | a :: l, n + 1 => by simp [map_erase_idx f l n]

theorem findK_some {T : TypeId → Option TI} {kt : TypeId} {k : AV} {es : List (AV × AV)} {n : Nat} {v : AV} (h : findK T kt k es 0 = some (some (n, v))) : n < es.length := by
  have := findK_index es 0 n v h
  omega

theorem delete_sound (hS : SysOK S P) {H : AH} {E : GE} (hr : HRel H E) {ts : Array TypeId} {ty : TypeId} {m k : AV} {K : AV → AH → Option R} {r : R} (h : deleteK S H ts m k K = some r) {mx kx : Value} (hm : VRel E m mx) (hk : VRel E k kx) :
    ∃ v H' w' y, K v H' = some r ∧ (Builtin.delete_ ts ty #[mx, kx]).run P E.w = .ok y w' ∧ E.le (E.at w') ∧ HRel H' (E.at w') ∧ VRel (E.at w') v y := by
  have hnil : ∀ E' : GE, VRel E' (.tuple []) (.tuple #[]) := fun E' => .tuple _ _ rfl (by simp)
  unfold deleteK at h
  split at h
  · simp at h
  rename_i t ht
  split at h
  · simp at h
  rename_i i hi
  have hkd := (hS.type _ _ hi).kind
  split at h
  · rename_i kt et hik
    rw [hik] at hkd
    have hu : P.underlying t = some (.map kt et) := hkd
    split at h
    · rename_i q hq
      split at h
      · rename_i hpl
        split at h
        · simp at h
        · rename_i hself
          have hself' : ∃ b, eqv S.T eqDepth kt k k = some b := by
            cases he : eqv S.T eqDepth kt k k with
            | none => simp [he] at hself
            | some b => exact ⟨b, rfl⟩
          obtain ⟨b, hb⟩ := hself'
          have hchk : ∀ em, (Instr.checkKey em 10000 kt kx).run P E.w = .ok () E.w := fun em => check_sound hS E.w em _ _ _ _ _ _ _ hb hk 10000 (by simp [eqDepth])
          split at h
          · rw [rel_nilmap hm]
            exact ⟨_, _, E.w, _, h, by simp [Builtin.delete_, ht, run_underlying hu, hchk], GE.le.refl _, hr, hnil _⟩
          · rename_i id
            split at h
            · rename_i es bs0 ck0 ho
              cases hm with
              | map _ b' hid hb' =>
              have hob := hr.obj _ _ ho
              cases hob with
              | map _ _ clock b2 ms hb2 hh hl hss hkk hvv =>
              rw [hb'] at hb2
              obtain rfl := Option.some.inj hb2
              have hg : (getObj b').run P E.w = .ok (.map ms ck0) E.w := run_getObj hh (by intro c e f; simp)
              have her : ERel E es ms.toList := ⟨by simpa using hl, fun j e m a d => hkk j e m a (by simpa using d), fun j e m a d => hvv j e m a (by simpa using d)⟩
              split at h
              · rename_i n v' hfk
                have hidx := findK_some hfk
                obtain ⟨x, h1, h2⟩ := findKey_sound hS hq hk E.w hpl her hfk
                rcases h2 with ⟨e', _⟩ | ⟨j, v0, y0, e', rfl, hv0⟩
                · simp at e'
                · simp only [Option.some.injEq, Prod.mk.injEq] at e'
                  obtain ⟨rfl, rfl⟩ := e'
                  have hlt : n < ms.size := by omega
                  have hto : (ms.eraseIdxIfInBounds n).toList = ms.toList.eraseIdx n := by simp [Array.eraseIdxIfInBounds, hlt]
                  have her' : ERel E (es.eraseIdx n) (ms.eraseIdxIfInBounds n).toList := by
                    rw [hto]
                    refine ⟨by simp [List.length_eraseIdx, hl], ?_, ?_⟩
                    · intro j a m h1 h2
                      rw [List.getElem?_eraseIdx] at h1 h2
                      split at h1
                      · rename_i hj; rw [if_pos hj] at h2; exact her.key _ a m h1 h2
                      · rename_i hj; rw [if_neg hj] at h2; exact her.key _ a m h1 h2
                    · intro j a m h1 h2
                      rw [List.getElem?_eraseIdx] at h1 h2
                      split at h1
                      · rename_i hj; rw [if_pos hj] at h2; exact her.val _ a m h1 h2
                      · rename_i hj; rw [if_neg hj] at h2; exact her.val _ a m h1 h2
                  obtain ⟨w', w1, w2, w3⟩ := write_map (P := P) hr ho hb' (clock := ck0) her' (bs' := bs0.eraseIdx n) (by rw [hto, ← hss, map_erase_idx])
                  exact ⟨_, _, w', _, h, by simp [Builtin.delete_, ht, run_underlying hu, hg, hchk, h1, w1], w2, w3, hnil _⟩
              · rename_i hfk
                obtain ⟨x, h1, h2⟩ := findKey_sound hS hq hk E.w hpl her hfk
                rcases h2 with ⟨_, rfl⟩ | ⟨j, v0, y0, e', _⟩
                · obtain ⟨w', w1, w2, w3⟩ := write_map (P := P) hr ho hb' (clock := ck0) her hss
                  exact ⟨_, _, w', _, h, by simp [Builtin.delete_, ht, run_underlying hu, hg, hchk, h1, w1], w2, w3, hnil _⟩
                · simp at e'
              · simp at h
            · simp at h
          · simp at h
      · simp at h
    · simp at h
  · simp at h

theorem clear_sound (hS : SysOK S P) {H : AH} {E : GE} (hr : HRel H E) {ts : Array TypeId} {ty : TypeId} {x : AV} {K : AV → AH → Option R} {r : R} (h : clearK S H ts x K = some r) {xx : Value} (hx : VRel E x xx) :
    ∃ v H' w' y, K v H' = some r ∧ (Builtin.clear_ ts ty #[xx]).run P E.w = .ok y w' ∧ E.le (E.at w') ∧ HRel H' (E.at w') ∧ VRel (E.at w') v y := by
  have hnil : ∀ E' : GE, VRel E' (.tuple []) (.tuple #[]) := fun E' => .tuple _ _ rfl (by simp)
  unfold clearK at h
  split at h
  · simp at h
  rename_i t ht
  split at h
  · simp at h
  rename_i i hi
  have hkd := (hS.type _ _ hi).kind
  obtain ⟨d, hu⟩ : ∃ d, P.underlying t = some d := by
    cases hik : i.k <;> rw [hik] at hkd <;> simp only [kindOK] at hkd <;> first | exact ⟨_, hkd⟩ | (obtain ⟨e, hk⟩ := hkd; exact ⟨_, hk⟩) | (obtain ⟨a, b, c, hk⟩ := hkd; exact ⟨_, hk⟩) | (obtain ⟨f, hk, _⟩ := hkd; exact ⟨_, hk⟩)
  split at h
  · rw [rel_nilmap hx]
    exact ⟨_, _, E.w, _, h, by simp [Builtin.clear_, ht, run_underlying hu], GE.le.refl _, hr, hnil _⟩
  · rename_i kt et id hik
    split at h
    · rename_i es bs0 ck0 ho
      cases hx with
      | map _ b' hid hb' =>
      have hob := hr.obj _ _ ho
      cases hob with
      | map _ _ clock b2 ms hb2 hh hl hss hkk hvv =>
      rw [hb'] at hb2
      obtain rfl := Option.some.inj hb2
      have hg : (getObj b').run P E.w = .ok (.map ms ck0) E.w := run_getObj hh (by intro c e f; simp)
      have her : ERel E [] (#[] : Array MapEntry).toList := ⟨rfl, by simp, by simp⟩
      obtain ⟨w', w1, w2, w3⟩ := write_map (P := P) hr ho hb' (clock := ck0) her (bs' := []) rfl
      refine ⟨_, _, w', _, h, ?_, w2, w3, hnil _⟩
      simp [Builtin.clear_, ht, run_underlying hu, hg, w1]
    · simp at h
  · rw [rel_nils hx]
    exact ⟨_, _, E.w, _, h, by simp [Builtin.clear_, ht, run_underlying hu], GE.le.refl _, hr, hnil _⟩
  · cases hx with
    | inl _ _ _ _ a cap g h1 h2 h3 h4 h5 h6 =>
    exact ⟨_, _, E.w, _, h, by simp [Builtin.clear_, ht, run_underlying hu], GE.le.refl _, hr, hnil _⟩
  · rename_i e id off len cap sz ag hik
    rw [hik] at hkd
    have hu' : P.underlying t = some (.slice e) := hkd
    split at h
    · simp at h
    rename_i j hj
    split at h
    · rename_i cs ho
      cases hx with
      | sl _ _ _ _ _ _ b c hid hb hlc hcap hag =>
      split at h
      · rename_i h0
        subst h0
        exact ⟨_, _, E.w, _, h, by simp [Builtin.clear_, ht, run_underlying hu], GE.le.refl _, hr, hnil _⟩
      · rename_i h0
        split at h
        · rename_i hc
          obtain ⟨hin, rfl, hz0, hs0⟩ := hc
          have hpos : 0 < j.size := Nat.pos_of_ne_zero hs0
          obtain ⟨z, hz1, hz2, hz3⟩ := zero_rel (hS.type _ _ hj) E.w
          have hzc := cells_crel (hz3 E) hz2
          have hini := zeros_crel hzc hz0 hpos len
          have hzs : z.cells.size = j.size := by have := hzc.len; simp at this; omega
          have hfl : (flat (List.replicate len j.zero)).length = len * j.size := by
            have hsz : ∀ u, u ∈ List.replicate len j.zero → u.cells.length = j.size := fun u hu => by rw [List.eq_of_mem_replicate hu]; exact hz0
            rw [flat_length _ hsz]; simp
          obtain ⟨w', s1, s2, s3⟩ := write_cells (P := P) hr ho hb hini (off := off) (by rw [hfl]; exact hin)
          refine ⟨_, _, w', _, h, ?_, s2, s3, hnil _⟩
          have hzz : (Builtin.zeroCells z.cells len).toList = ((Array.range (len * j.size)).map (z.cells[· % z.cells.size]!)).toList := by rw [Builtin.zeroCells, hzs]
          rw [← hzz] at s1
          cases len with
          | zero => exact absurd rfl h0
          | succ len => simp [Builtin.clear_, ht, run_underlying hu', hz1, s1]
        · simp at h
    · simp at h
  · simp at h

end Go.Sx

/- THE ENGINE, 18: an operation. -/
set_option linter.unusedSimpArgs false
set_option linter.unusedVariables false
namespace Go.Sx
variable {S : Sys} {P : Program} {R : Type}

/-- With every cell that there is taken as settled. -/
def GE.all (E : GE) : GE := { E with S := fun b o => (E.w.cell? ⟨b, o, none⟩).isSome = true }

theorem all_rel {H : AH} {E : GE} (hr : HRel H E) {v : AV} {x : Value} (hv : VRel E v x) : VRel E.all v x := by
  have hS : ∀ b o, E.S b o → E.all.S b o := fun b o h => hr.set b o h
  induction hv with
  | top v => exact .top v
  | bool b => exact .bool b
  | int k n => exact .int k n
  | str s => exact .str s
  | ptr id off b hid h => exact .ptr id off b hid h
  | nilptr => exact .nilptr
  | rop v a x hx hr ih => exact .rop v a x (fun j hj => ⟨(hx j hj).1, (hx j hj).2.1, hS _ _ (hx j hj).2.2⟩) ih
  | nils => exact .nils
  | inl f p sz xs a cap x hsz hx hr hcap hf hp ih =>
    refine .inl f p sz xs a cap x hsz (fun i j hi hj => ⟨(hx i j hi hj).1, (hx i j hi hj).2.1, hS _ _ (hx i j hi hj).2.2⟩) ih hcap hf ?_
    cases p with
    | unk => trivial
    | zero => exact hp
    | tok t g => exact hp
  | sl id off len cap sz ag b c hid h hl hc hag hcp => exact .sl id off len cap sz ag b c hid h hl hc hag hcp
  | map id b hid h => exact .map id b hid h
  | nilmap => exact .nilmap
  | func fn as bs xs ys hfn h1 _ h3 _ ih2 ih4 => exact .func fn as bs xs ys hfn h1 ih2 h3 ih4
  | yield id b hid h => exact .yield id b hid h
  | nilfunc => exact .nilfunc
  | iface t v x _ ih => exact .iface t v x ih
  | niliface => exact .niliface
  | agg cs xs h1 _ h3 ih => exact .agg cs xs h1 ih h3
  | tuple vs xs h1 _ ih => exact .tuple vs xs h1 ih

theorem resolve_sl {H : AH} {E : GE} (hr : HRel H E) {id off len : Nat} {cap : Option Nat} {sz : Nat} {ag : Bool} {cs : List AV} (ho : H.objs[id]? = some (.cells cs)) (hlen : off + len * sz ≤ cs.length) {x : Value} (hx : VRel E (.sl id off len cap sz ag) x) :
    VRel E.all (.inl false .unk sz (chunks sz ag len (cs.drop off))) x := by
  cases hx with
  | sl _ _ _ _ _ _ b c hid hb hlc hcap hag =>
  cases hr.obj _ _ ho with
  | cells _ b' arr el hb' hh hl hc h1 hS' =>
  rw [hb] at hb'
  obtain rfl := Option.some.inj hb'
  have hplain : ∀ c, c ∈ cs.drop off → c.cells = [c] := by
    intro d hd
    have hd' := List.mem_of_mem_drop hd
    obtain ⟨m, hm⟩ := List.getElem?_of_mem hd'
    have hlt' : m < arr.size := by
      rcases Nat.lt_or_ge m cs.length with h' | h'
      · omega
      · simp [List.getElem?_eq_none h'] at hm
    exact cell_plain (hc m d arr[m] hm (by simp [hlt'])) (h1 m _ (by simp [hlt']))
  obtain ⟨c1, c2, c3⟩ := chunks_spec (ag := ag) hag len (cs.drop off) (by simp; omega) hplain
  have key : VRel E.all (.inl false .unk sz (chunks sz ag len (cs.drop off))) (.slice (some ⟨b, off, none⟩) (chunks sz ag len (cs.drop off)).length c) := by
    refine .inl false .unk sz _ _ c (fun i j => arr.getD (off + (i * sz + j)) undef) c3 ?_ ?_ (by rw [c2]; exact hlc) (by simp) trivial
    · intro i j hi hj
      rw [c2] at hi
      have : (i + 1) * sz ≤ len * sz := Nat.mul_le_mul_right _ hi
      rw [Nat.add_mul] at this
      have hlt : off + (i * sz + j) < arr.size := by omega
      have hcell : E.w.cell? ⟨b, off + (i * sz + j), none⟩ = some arr[off + (i * sz + j)] := by rw [obj_cell hh]; simp [hlt]
      rw [Addr.add_lit]
      simp only [Array.getD, hlt, dite_true]
      exact ⟨hcell, h1 (off + (i * sz + j)) _ (by simp [hlt]), by show (E.w.cell? _).isSome = true; rw [hcell]; rfl⟩
    · intro i v j d hi hj
      have hf := flat_get _ c3 i v j d hi hj
      rw [c1, List.getElem?_take] at hf
      split at hf
      · rw [List.getElem?_drop] at hf
        have hlt : off + (i * sz + j) < arr.size := by
          rcases Nat.lt_or_ge (off + (i * sz + j)) cs.length with h' | h'
          · omega
          · simp [List.getElem?_eq_none h'] at hf
        simp only [Array.getD, hlt, dite_true]
        exact all_rel hr (hc _ _ _ hf (by simp [hlt]))
      · simp at hf
  rw [c2] at key
  exact key

theorem resolveC_rel {H : AH} {E : GE} (hr : HRel H E) {v u : AV} (h : resolveC H v = some u) {x : Value} (hx : VRel E v x) : VRel E.all u x := by
  unfold resolveC at h
  split at h
  · split at h
    · rename_i cs ho
      split at h
      · rename_i hl
        simp only [Option.some.injEq] at h
        subst h
        exact resolve_sl hr ho hl hx
      · simp at h
    · simp at h
  · simp only [Option.some.injEq] at h
    subst h
    exact all_rel hr hx


/-- Calls that are known. -/
def FnOK (S : Sys) (P : Program) (call : Caller) : Prop :=
  ∀ f args H v H', call f args H = some (v, H') → (∃ fn, P.funcs[f]? = some fn ∧ fn.body.isSome = true ∧ fn.name ≠ "runtime.NumGoroutine") ∧
    ∀ E xs, Rel S H E → VRelL E args xs → Calls P f xs E.w fun e w' => ∃ x E', e = .returned x ∧ E'.w = w' ∧ E.le E' ∧ Rel S H' E' ∧ VRel E' v x

/-- A round's temporaries. -/
def Loop.roundTmps (r : Loop) (xs : Array Value) : Array Value := (r.params.zip xs).foldl (fun tmps (p : Tmp × Value) => tmps.setIfInBounds p.1 p.2) r.tmps

/-- Rounds that are known. -/
def YieldOK (S : Sys) (P : Program) (call : Caller) : Prop :=
  ∀ id args H v H', call.yield id args H = some (v, H') → ∀ E xs, Rel S H E → VRelL E args xs → ∀ b, id < E.nid → E.ρ id = some b →
    ∃ r, E.w.heap[b]? = some (.loop r) ∧ xs.size = r.params.size ∧
      RoundIn Fence.wide 0 P b r.fn (Loop.roundTmps r xs) r.assign r.body E.w fun e w' => ∃ x E', e = .returned x ∧ E'.w = w' ∧ E.le E' ∧ Rel S H' E' ∧ VRel E' v x

/-- How a call ends. -/
def EndOK (S : Sys) (E : GE) (r : Res) (e : Ending) (w' : World) : Prop := match r with
  | .val v H' => ∃ x E', e = .returned x ∧ E'.w = w' ∧ E.le E' ∧ Rel S H' E' ∧ VRel E' v x
  | .pan v H' => ∃ x E', e = .panicked [{ v := x, recovered := false }] ∧ E'.w = w' ∧ E.le E' ∧ Rel S H' E' ∧ VRel E' v x

structure CallOK (S : Sys) (P : Program) (call : Caller) : Prop where
  res : ∀ f args H r, call.res f args H = some r → (∃ fn, P.funcs[f]? = some fn ∧ fn.body.isSome = true ∧ fn.name ≠ "runtime.NumGoroutine") ∧
    ∀ E xs, Rel S H E → VRelL E args xs → Calls P f xs E.w (EndOK S E r)
  yield : YieldOK S P call

theorem Caller.fn_res {c : Caller} {f : FuncId} {args : List AV} {H : AH} {v : AV} {H' : AH} (h : c.fn f args H = some (v, H')) : c.res f args H = some (.val v H') := by
  unfold Caller.fn at h
  cases hr : c.res f args H with
  | none => rw [hr] at h; simp [optK] at h
  | some r =>
    rw [hr] at h
    cases r with
    | val u G =>
      simp only [optK, Res.valOf, Option.some.injEq, Prod.mk.injEq] at h
      rw [h.1, h.2]
    | pan u G => simp [optK, Res.valOf] at h
theorem Caller.pan_res {c : Caller} {f : FuncId} {args : List AV} {H : AH} {v : AV} {H' : AH} (h : c.pan f args H = some (v, H')) : c.res f args H = some (.pan v H') := by
  unfold Caller.pan at h
  cases hr : c.res f args H with
  | none => rw [hr] at h; simp [optK] at h
  | some r =>
    rw [hr] at h
    cases r with
    | pan u G =>
      simp only [optK, Res.panOf, Option.some.injEq, Prod.mk.injEq] at h
      rw [h.1, h.2]
    | val u G => simp [optK, Res.panOf] at h

theorem CallOK.fn {call : Caller} (hc : CallOK S P call) : FnOK S P call := fun f args H v H' h => hc.res f args H _ (Caller.fn_res h)

/-- Where an operation may stand: in a function's own frame, or in a round. -/
def WR (ro : Option Nat) : Fence := { Fence.wide with round := ro }

/-- What an operation comes to. -/
def GivesIn (ro : Option Nat) (S : Sys) (P : Program) (o : Oper) (a : Act) (E : GE) (v : AV) (H' : AH) : Prop :=
  ∀ (next : Act → World → Prop) (Q : Exit → Act → World → Prop), (∀ x E', E.le E' → Rel S H' E' → VRel E' v x → next (a.put o.dst x) E'.w) → o.wpIn (WR ro) 0 P a E.w next Q

theorem callsIn_WR {ro : Option Nat} {n : Nat} {f : FuncId} {args : Array Value} {w : World} {Q : Ending → World → Prop} (h : Calls P f args w Q) : CallsIn (WR ro) n P f args w Q := callsIn_wide.2 h
theorem rowsIn_WR {ro : Option Nat} {n : Nat} {row : String} {args : Array Value} {w : World} {Q : Value → World → Prop} (h : Rows P row args w Q) : RowsIn (WR ro) n P row args w Q :=
  fun c cs _ => let ⟨v, w', r, s⟩ := h c cs; ⟨v, w', r, stepsIn_wide.2 s⟩

theorem Oper.in_of_wp {ro : Option Nat} {o : Oper} {a : Act} {w : World} {next : Act → World → Prop} {Q : Exit → Act → World → Prop} (hd : ∀ c, o.op ≠ .defer c) (h : o.wp P a w next Q) : o.wpIn (WR ro) 0 P a w next Q := by
  refine ⟨fun _ _ => trivial, ?_⟩
  rw [Oper.semAt_eq _ _ _ hd]
  unfold Oper.wp at h
  generalize (execOp a.eval o).run P w = r at h
  cases r with
  | ok n w' =>
    cases n <;> simp only [Oper.upon] at h <;> simp only [Oper.uponIn] <;> first
      | exact h
      | exact ⟨fun hd => by simp [WR, Fence.wide] at hd, callsIn_WR h⟩
      | exact ⟨fun hd => by simp [WR, Fence.wide] at hd, rowsIn_WR h⟩
      | exact h.elim
  | halt x w' => cases x <;> simp only [Oper.upon] at h <;> simp only [Oper.uponIn] <;> exact h

theorem Gives.inn {ro : Option Nat} {o : Oper} {a : Act} {E : GE} {v : AV} {H' : AH} (h : Gives S P o a E v H') (hd : ∀ c, o.op ≠ .defer c) : GivesIn ro S P o a E v H' := fun next Q hn => Oper.in_of_wp hd (h next Q hn)

theorem gives_valueI {ro : Option Nat} {o : Oper} {a : Act} {E E' : GE} {v : AV} {H' : AH} {x : Value} (hx : (execOp a.eval o).run P E.w = .ok (.value x) E'.w) (hle : E.le E') (hr : Rel S H' E') (hv : VRel E' v x) (hd : ∀ c, o.op ≠ .defer c := by intro c; simp) :
    GivesIn ro S P o a E v H' := (gives_value hx hle hr hv).inn hd
theorem gives_pureI {ro : Option Nat} {o : Oper} {a : Act} {E : GE} {v : AV} {H : AH} {x : Value} (hx : (execOp a.eval o).run P E.w = .ok (.value x) E.w) (hr : Rel S H E) (hv : VRel E v x) (hd : ∀ c, o.op ≠ .defer c := by intro c; simp) :
    GivesIn ro S P o a E v H := (gives_pure hx hr hv).inn hd
theorem gives_skipI {ro : Option Nat} {o : Oper} {a : Act} {E E' : GE} {H' : AH} (hx : (execOp a.eval o).run P E.w = .ok .skip E'.w) (hle : E.le E') (hr : Rel S H' E') (hd : ∀ c, o.op ≠ .defer c := by intro c; simp) : GivesIn ro S P o a E .top H' := (gives_skip hx hle hr).inn hd

theorem vrelL_map {H : AH} {E : GE} {s : List AV} {a : Act} (hr : Rel S H E) (ha : ARel E s a) (ops : Array Operand) : VRelL E (ops.toList.map (ev S.G s)) (ops.map a.eval) := by
  refine ⟨by simp, ?_⟩
  intro i v x hv hx
  simp only [List.getElem?_map, Array.getElem?_toList, Array.getElem?_map, Option.map_eq_some_iff] at hv hx
  obtain ⟨o, ho, rfl⟩ := hv
  obtain ⟨o', ho', rfl⟩ := hx
  rw [ho] at ho'
  obtain rfl := Option.some.inj ho'
  exact ev_rel hr ha o

theorem vrelL_append {E : GE} {us vs : List AV} {xs ys : Array Value} (h1 : VRelL E us xs) (h2 : VRelL E vs ys) : VRelL E (us ++ vs) (xs ++ ys) := by
  have e := h1.1
  refine ⟨by simp [h1.1, h2.1], ?_⟩
  intro i v x hv hx
  by_cases hi : i < us.length
  · rw [List.getElem?_append_left hi] at hv
    rw [Array.getElem?_append_left (by omega)] at hx
    exact h1.2 i v x hv hx
  · rw [List.getElem?_append_right (by omega)] at hv
    rw [Array.getElem?_append_right (by omega)] at hx
    rw [← e] at hx
    exact h2.2 _ v x hv hx

theorem parts_rel {H : AH} {E : GE} {s : List AV} {a : Act} (hr : Rel S H E) (ha : ARel E s a) : ∀ (ps : List (Nat × Operand)), ((ps.map fun p => (p.1, ev S.G s p.2)).all fun p => p.2.solid) = true →
    PRel E (ps.map fun p => (p.1, ev S.G s p.2)) (ps.map fun p => (p.1, a.eval p.2))
  | [], _ => .nil
  | p :: ps, h => by
    simp only [List.map_cons, List.all_cons, Bool.and_eq_true] at h
    exact .cons _ _ _ _ _ (ev_rel hr ha p.2) h.1 (parts_rel hr ha ps h.2)

theorem orel_map {H : AH} {E : GE} {s : List AV} {a : Act} (hr : Rel S H E) (ha : ARel E s a) (o : Option Operand) : ORelV E (o.map (ev S.G s)) (o.map a.eval) := by
  cases o with
  | none => exact .inl ⟨rfl, rfl⟩
  | some x => exact .inr ⟨_, _, rfl, rfl, ev_rel hr ha x⟩

theorem gives_call {call : Caller} (hcall : CallOK S P call) {H : AH} {E : GE} (hr : Rel S H E) {f : FuncId} {args : List AV} {xs : Array Value} (hx : VRelL E args xs) {v : AV} {H' : AH} (h : call f args H = some (v, H')) {o : Oper} {a : Act}
    (hrun : (execOp a.eval o).run P E.w = (callFunc f xs).run P E.w) : Gives S P o a E v H' := by
  obtain ⟨⟨fn, h1, h2, h3⟩, h4⟩ := hcall.fn f args H v H' h
  intro next Q hn
  unfold Oper.wp
  have hb : ¬ fn.body = none := by
    intro e
    rw [e] at h2; simp at h2
  have hcf : (callFunc f xs).run P E.w = .ok (.enter f xs) E.w := by
    simp [callFunc, h1, h3, hb]
  rw [hrun, hcf, Oper.upon_enter]
  refine (h4 E xs hr hx).mono ?_
  rintro e w' ⟨x, E', rfl, rfl, hle, hr', hv⟩
  exact hn x E' hle hr' hv

theorem underlying_some {t : TypeId} {i : TI} (hT : TypeOK P t i) : ∃ d, P.underlying t = some d ∧ (i.k ≠ .iface → ∀ ms, d ≠ .interface ms) := by
  have hk := hT.kind
  cases hi : i.k <;> rw [hi] at hk <;> simp only [kindOK] at hk
  · exact ⟨_, hk, by simp⟩
  · exact ⟨_, hk, by simp⟩
  · exact ⟨_, hk, by simp⟩
  · obtain ⟨e, hk⟩ := hk; exact ⟨_, hk, by simp⟩
  · obtain ⟨a, b, c, hk⟩ := hk; exact ⟨_, hk, by simp⟩
  · obtain ⟨ms, hk⟩ := hk; exact ⟨_, hk, by simp⟩
  · obtain ⟨f, hk, _⟩ := hk; exact ⟨_, hk, by simp⟩
  · exact ⟨_, hk, by simp⟩
  · exact ⟨_, hk, by simp⟩
  · exact ⟨_, hk, by simp⟩

theorem arr1 {E : GE} {u : AV} {xs : Array Value} (h : VRelL E [u] xs) : ∃ x, xs = #[x] ∧ VRel E u x := by
  obtain ⟨l⟩ := xs
  obtain ⟨h1, h2⟩ := h
  match l with
  | [] => simp at h1
  | [x] => exact ⟨x, rfl, h2 0 u x rfl rfl⟩
  | x :: y :: l => simp at h1
theorem arr2 {E : GE} {u v : AV} {xs : Array Value} (h : VRelL E [u, v] xs) : ∃ x y, xs = #[x, y] ∧ VRel E u x ∧ VRel E v y := by
  obtain ⟨l⟩ := xs
  obtain ⟨h1, h2⟩ := h
  match l with
  | [] => simp at h1
  | [x] => simp at h1
  | [x, y] => exact ⟨x, y, rfl, h2 0 u x rfl rfl, h2 1 v y rfl rfl⟩
  | x :: y :: z :: l => simp at h1
theorem arrN {E : GE} {u : AV} {us : List AV} {xs : Array Value} (h : VRelL E (u :: us) xs) : ∃ x l, xs = (x :: l).toArray ∧ VRel E u x ∧ us.length = l.length ∧ ∀ (i : Nat) v y, us[i]? = some v → l[i]? = some y → VRel E v y := by
  obtain ⟨l⟩ := xs
  obtain ⟨h1, h2⟩ := h
  match l with
  | [] => simp at h1
  | x :: l => exact ⟨x, l, rfl, h2 0 u x rfl rfl, by simpa using h1, fun i v y a b => h2 (i + 1) v y (by simpa using a) (by simpa using b)⟩

theorem gives_yield {ro : Option Nat} {call : Caller} (hcall : CallOK S P call) {H : AH} {E : GE} (hr : Rel S H E) {id b : Nat} (hid : id < E.nid) (hb : E.ρ id = some b) {args : List AV} {xs : Array Value} (hx : VRelL E args xs) {v : AV} {H' : AH} (h : call.yield id args H = some (v, H')) {o : Oper} {a : Act} (hd : ∀ c, o.op ≠ .defer c)
    (hrun : (execOp a.eval o).run P E.w = (Instr.yield b xs).run P E.w) : GivesIn ro S P o a E v H' := by
  intro next Q hn
  obtain ⟨r, h1, h2, h3⟩ := hcall.yield id args H v H' h E xs hr hx b hid hb
  refine ⟨fun _ _ => trivial, ?_⟩
  rw [Oper.semAt_eq _ _ _ hd, hrun, run_yield h1 h2, Oper.uponIn_round]
  refine ⟨fun hd => by simp [WR, Fence.wide] at hd, ?_⟩
  refine RoundIn.mono (F := Fence.wide) h3 ?_
  rintro e w' ⟨x, E', rfl, rfl, hle, hr', hv⟩
  exact hn x E' hle hr' hv

theorem bytes_list {E : GE} : ∀ (xs : List AV) (b : List UInt8) (f : Nat → Value), bytesOf xs = some b → (∀ i v, xs[i]? = some v → VRel E v (f i)) → ∃ ns : List Int, b = ns.map (fun n => UInt8.ofNat n.toNat) ∧ ns.length = xs.length ∧ ∀ i, i < xs.length → f i = .int .u8 (ns.getD i 0)
  | [], b, f, h, _ => by
    simp only [bytesOf, Option.some.injEq] at h
    subst h
    exact ⟨[], rfl, rfl, fun i hi => absurd hi (Nat.not_lt_zero _)⟩
  | v :: r, b, f, h, hf => by
    simp only [bytesOf] at h
    split at h
    · rename_i n bs h1
      simp only [Option.some.injEq] at h
      subst h
      obtain ⟨ns, h2, h3, h4⟩ := bytes_list r bs (fun i => f (i + 1)) h1 (fun i v hv => hf (i + 1) v (by simpa using hv))
      refine ⟨n :: ns, by simp [h2], by simp [h3], ?_⟩
      intro i hi
      cases i with
      | zero => simpa using rel_int (hf 0 _ rfl)
      | succ i => simpa using h4 i (by simpa using hi)
    · simp at h

/-- What a row of settled cells with a mark of its own makes of the state. -/
theorem rowM_rel {H : AH} {E : GE} (hr : HRel H E) {arr : Array Value} {el : TypeId} {mk : Nat × Nat} {n : Nat} (hn : n ≤ arr.size) : HRel H (E.row (.cells arr el mk) n none) := by
  have hle := row_le hr (.cells arr el mk) n none
  have hidlt : ∀ i b, i < E.nid → E.ρ i = some b → b < E.w.heap.size := fun i b hi hb => hr.lt b (.inl ⟨i, hi, hb⟩)
  have hSl := hr.Slt
  constructor
  · exact hr.nid
  · exact hr.nt
  · intro id o ho
    have hid := hr.idlt ho
    refine (hr.obj id o ho).mono hle hid (fun b hb => alloc_block _ _ _ (hidlt id b hid hb)) ?_
    intro b o' hb hS
    rcases hS with h | ⟨h, _⟩
    · exact h
    · have := hidlt id b hid hb; omega
  · exact hr.inj
  · intro t g sz u p ht hp
    obtain ⟨b, e, ce, c, rfl, g2, g3, g4, g5, g6⟩ := hr.tok t g sz u p ht hp
    have hb := hr.lt b (.inr ⟨t, g, _, hr.tlt ht, hp, rfl⟩)
    refine ⟨b, e, ce, c, rfl, (alloc_block _ _ _ hb).trans g2, g3, g4, g5, ?_⟩
    intro o ho hS
    rcases hS with h | ⟨h, _⟩
    · exact g6 o ho h
    · omega
  · exact hr.late
  · exact hr.tsep
  · exact hr.tinj
  · exact hr.tbase
  · intro b o hS
    rcases hS with h | ⟨rfl, h⟩
    · have := hr.set b o h
      rwa [← cell_of_block (w' := (E.row (.cells arr el mk) n none).w) (alloc_block _ _ _ (hSl _ _ h))] at this
    · have : (E.row (.cells arr el mk) n none).w.cell? ⟨E.w.heap.size, o, none⟩ = arr[o]? := obj_cell (E := E.row (.cells arr el mk) n none) (alloc_get _ _)
      rw [this]
      simp; omega
  · intro b hb
    rw [row_w, alloc_size]
    have := hr.lt b hb
    omega
  · exact Nat.le_trans hr.hbase hle.size

theorem bytesWorld_row (w : World) (e : TypeId) (s : ByteArray) : Lib.bytesWorld w e s = w.drew.alloc (.cells (Lib.bytesCells w e s) e ((Lib.bytesCells w e s).size, (Lib.bytesCells w e s).size + 1)) := by
  have h : (Lib.bytesWorld w e s).heap = (w.drew.alloc (.cells (Lib.bytesCells w e s) e ((Lib.bytesCells w e s).size, (Lib.bytesCells w e s).size + 1))).heap := by
    apply Array.ext_getElem?
    intro i
    rcases Nat.lt_trichotomy i w.heap.size with h | h | h
    · rw [Lib.bytesWorld_at_old w e s i h]
      exact (alloc_block w.drew _ _ h).symm
    · subst h
      rw [Lib.bytesWorld_at_new]
      exact (alloc_get w.drew _).symm
    · rw [Array.getElem?_eq_none, Array.getElem?_eq_none]
      · show (w.heap.push _).size ≤ i
        simp; omega
      · rw [Lib.bytesWorld_size]; omega
  have e1 : Lib.bytesWorld w e s = { w.drew with heap := (Lib.bytesWorld w e s).heap } := rfl
  rw [e1, h]
  rfl

/-- A text's bytes in new memory. -/
theorem strBytes_sound {H : AH} {E : GE} (hr : HRel H E) {src dst e : TypeId} {b : List UInt8} (hs : P.underlying src = some .string) (hd : P.underlying dst = some (.slice e)) (he : P.underlying e = some (.int .u8)) :
    ∃ E' y, (convert src dst (.string ⟨b.toArray⟩)).run P E.w = .ok y E'.w ∧ E.le E' ∧ HRel H E' ∧ VRel E' (.inl true .unk 1 (byteA b)) y := by
  have hdr := hr.heap (w' := E.w.drew) rfl rfl rfl rfl
  have hdl := le_heap (E := E) (w' := E.w.drew) rfl rfl rfl rfl
  have hcap := grownCap_ge E.w b.length 0 e
  have hsz : (⟨b.toArray⟩ : ByteArray).size = b.length := by simp [ByteArray.size]
  generalize hcs : Lib.bytesCells E.w e ⟨b.toArray⟩ = cs
  have hlen : cs.size = grownCap E.w b.length 0 e := by
    rw [← hcs]
    simp [Lib.bytesCells, hsz]
    omega
  have hcell : ∀ j, j < b.length → cs[j]? = some (.int .u8 (b.getD j 0).toNat) := by
    intro j hj
    rw [← hcs]
    simp [Lib.bytesCells, Array.getElem?_append, List.getD, hj]
  have hle2 := row_le hdr (.cells cs e (cs.size, cs.size + 1)) b.length none
  have hrel2 := rowM_rel hdr (arr := cs) (el := e) (mk := (cs.size, cs.size + 1)) (n := b.length) (by omega)
  have hw : Lib.bytesWorld E.w e ⟨b.toArray⟩ = ((E.at E.w.drew).row (.cells cs e (cs.size, cs.size + 1)) b.length none).w := by
    rw [bytesWorld_row, hcs]; rfl
  refine ⟨(E.at E.w.drew).row (.cells cs e (cs.size, cs.size + 1)) b.length none, .slice (some ⟨E.w.heap.size, 0, none⟩) (byteA b).length (grownCap E.w b.length 0 e), ?_, hdl.trans hle2, hrel2, ?_⟩
  · rw [Lib.run_convert_string_bytes E.w src dst e _ hs hd he, ← hw, hsz]
    simp [byteA]
  · refine .inl true .unk 1 (byteA b) _ _ (fun i _ => .int .u8 (b.getD i 0).toNat) ?_ ?_ ?_ (by simpa [byteA] using hcap) (fun _ => hr.hbase) trivial
    · intro v hv
      obtain ⟨c, _, rfl⟩ := List.mem_map.1 hv
      rfl
    · intro i j hi hj
      have hi' : i < b.length := by simpa [byteA] using hi
      have hj0 : j = 0 := by omega
      subst hj0
      refine ⟨?_, rfl, .inr ⟨rfl, by simpa using hi'⟩⟩
      rw [Addr.add_lit]
      simp only [Nat.mul_one, Nat.add_zero, Nat.zero_add]
      refine (obj_cell (E := (E.at E.w.drew).row (.cells cs e (cs.size, cs.size + 1)) b.length none) (b := E.w.heap.size) (alloc_get _ _)).trans ?_
      exact hcell i hi'
    · intro i v j c hi hj
      have hv : ∃ u, b[i]? = some u ∧ v = .int .u8 u.toNat := by
        simp only [byteA, List.getElem?_map, Option.map_eq_some_iff] at hi
        obtain ⟨u, h1, h2⟩ := hi
        exact ⟨u, h1, h2.symm⟩
      obtain ⟨u, h1, rfl⟩ := hv
      cases j with
      | zero =>
        simp only [AV.cells, List.getElem?_cons_zero, Option.some.injEq] at hj
        subst hj
        have : b.getD i 0 = u := by simp [List.getD, h1]
        simp only [this]
        exact .int _ _
      | succ j => simp [AV.cells] at hj

theorem text_sound (hS : SysOK S P) {E : GE} {t1 t2 : TypeId} {i j : TI} (hi : S.T t1 = some i) (hj : S.T t2 = some j) {v : AV} {K : AV → Option R} {r : R} (h : textK i j S.T v K = some r) {x : Value} (hx : VRel E v x) :
    ∃ u y, K (.str u) = some r ∧ VRel E (.str u) y ∧ (convert t1 t2 x).run P E.w = .ok y E.w := by
  unfold textK at h
  have k1 := (hS.type _ _ hi).kind
  have k2 := (hS.type _ _ hj).kind
  split at h
  · rename_i e hik hjk
    rw [hik] at k1; rw [hjk] at k2
    have u1 : P.underlying t1 = some (.slice e) := k1
    have u2 : P.underlying t2 = some .string := k2
    split at h
    · rename_i q hq
      have k3 := (hS.type _ _ hq).kind
      split at h
      · rename_i hqk
        rw [hqk] at k3
        have u3 : P.underlying e = some (.int .u8) := k3
        split at h
        · have := rel_nils hx
          subst this
          refine ⟨_, _, h, .str [], ?_⟩
          rw [run_convert_bytes_string E.w t1 t2 e _ _ _ u1 u3 u2]
          simp [Conv.bytesToString, ByteArray.empty, ByteArray.emptyWithCapacity]
          rfl
        · rename_i f p sz xs
          split at h
          · rename_i hsz
            subst hsz
            split at h
            · rename_i b hb
              cases hx with
              | inl _ _ _ _ a cap g h1 h2 h3 h4 h5 h6 =>
                have hone : ∀ (i : Nat) v, xs[i]? = some v → v.cells = [v] := by
                  intro i v hv
                  have hl := h1 v (List.mem_of_getElem? hv)
                  have hlt : i < xs.length := by
                    rcases Nat.lt_or_ge i xs.length with h' | h'
                    · exact h'
                    · simp [List.getElem?_eq_none h'] at hv
                  have key : ∀ (l : List AV) (bs : List UInt8), bytesOf l = some bs → ∀ v, v ∈ l → v.cells = [v] := by
                    intro l
                    induction l with
                    | nil => intro bs _ v hv; simp at hv
                    | cons u l ih =>
                      intro bs hbs v hv
                      simp only [bytesOf] at hbs
                      split at hbs
                      · rename_i hl
                        rcases List.mem_cons.1 hv with rfl | hv
                        · rfl
                        · exact ih _ hl v hv
                      · simp at hbs
                  exact key xs b hb v (List.mem_of_getElem? hv)
                obtain ⟨ns, e1, e2, e3⟩ := bytes_list (E := E) xs b (fun i => g i 0) hb (fun i v hv => h3 i v 0 v hv (by rw [hone i v hv]; rfl))
                have hload := run_loadCells (P := P) E.w a xs.length (fun m => g m 0) (fun m hm => by simpa using (h2 m 0 hm Nat.one_pos).1)
                have hmap : ((List.range xs.length).map fun m => g m 0) = ns.map (Value.int .u8) := by
                  apply List.ext_getElem
                  · simp [e2]
                  · intro m q1 q2
                    simp only [List.length_map, List.length_range] at q1
                    have q3 : m < ns.length := by omega
                    simp [e3 m q1, List.getD, q3]
                rw [hmap] at hload
                refine ⟨_, _, h, .str b, ?_⟩
                rw [run_convert_bytes_string E.w t1 t2 e _ _ _ u1 u3 u2, run_bytesToString E.w a _ cap ns hload, foldl_push_bytes, e1]
                simp [ByteArray.empty, ByteArray.emptyWithCapacity]
                rfl
            · simp at h
          · simp at h
        · simp at h
      · simp at h
    · simp at h
  · simp at h

theorem rangeStr_sound (hS : SysOK S P) {H : AH} {E : GE} (hr : HRel H E) {t : TypeId} {i : TI} (hi : S.T t = some i) {v : AV} {K : AV → AH → Option R} {r : R} (h : rangeStrK H i v K = some r) {x : Value} (hx : VRel E v x) :
    ∃ u H' E' y, K u H' = some r ∧ E.le E' ∧ HRel H' E' ∧ VRel E' u y ∧ (Instr.range t x).run P E.w = .ok y E'.w := by
  unfold rangeStrK at h
  have k1 := (hS.type _ _ hi).kind
  split at h
  · rename_i s hik
    rw [hik] at k1
    have u1 : P.underlying t = some .string := k1
    have hx2 := rel_str hx
    subst hx2
    simp only [newK] at h
    have ho : ORel (E.new (.stringIter ⟨s.toArray⟩ 0)) E.nid (.siter s 0) := .siter s 0 E.w.heap.size (by simp [GE.new]) (alloc_get _ _)
    obtain ⟨h1, h2⟩ := hr.new ho
    refine ⟨_, _, E.new (.stringIter ⟨s.toArray⟩ 0), .pointer (some ⟨E.w.heap.size, 0, none⟩), h, h1, h2, .ptr _ _ _ ?_ ?_, ?_⟩
    · rw [← hr.nid]; exact Nat.lt_succ_self _
    · rw [← hr.nid]; simp [GE.new]
    · simp [Instr.range, run_underlying u1]; rfl
  · rename_i kt et hik
    rw [hik] at k1
    have u1 : P.underlying t = some (.map kt et) := k1
    rw [rel_nilmap hx]
    simp only [newK] at h
    have ho : ORel (E.new (.mapIter none 0 #[] 0)) E.nid (.miter none 0 [] 0) := .miter0 E.w.heap.size (by simp [GE.new]) (alloc_get _ _)
    obtain ⟨h1, h2⟩ := hr.new ho
    refine ⟨_, _, E.new (.mapIter none 0 #[] 0), .pointer (some ⟨E.w.heap.size, 0, none⟩), h, h1, h2, .ptr _ _ _ ?_ ?_, ?_⟩
    · rw [← hr.nid]; exact Nat.lt_succ_self _
    · rw [← hr.nid]; simp [GE.new]
    · simp [Instr.range, run_underlying u1]; rfl
  · rename_i kt et m hik
    rw [hik] at k1
    have u1 : P.underlying t = some (.map kt et) := k1
    split at h
    · rename_i es bs ck ho
      cases hx with
      | map _ b hid hb =>
      have hob := hr.obj _ _ ho
      cases hob with
      | map _ _ clock b2 ms hb2 hh hl hss hkk hvv =>
      rw [hb] at hb2
      obtain rfl := Option.some.inj hb2
      have hg : (getObj b).run P E.w = .ok (.map ms ck) E.w := run_getObj hh (by intro c e f; simp)
      simp only [newK] at h
      have ho : ORel (E.new (.mapIter (some b) ck #[] ck)) E.nid (.miter (some m) ck [] ck) := .miter m ck [] ck E.w.heap.size b (Nat.lt_succ_of_lt hid) (by simp only [GE.new]; rw [if_neg (by omega)]; exact hb) (by simp [GE.new]) (alloc_get _ _)
      obtain ⟨h1, h2⟩ := hr.new ho
      refine ⟨_, _, E.new (.mapIter (some b) ck #[] ck), .pointer (some ⟨E.w.heap.size, 0, none⟩), h, h1, h2, .ptr _ _ _ ?_ ?_, ?_⟩
      · rw [← hr.nid]; exact Nat.lt_succ_self _
      · rw [← hr.nid]; simp [GE.new]
      · simp [Instr.range, run_underlying u1, hg]; rfl
    · simp at h
  · simp at h

theorem left_rel {E : GE} (seen : List Nat) : ∀ (es : List (AV × AV)) (L : List MapEntry), es.length = L.length → (∀ (j : Nat) e m, es[j]? = some e → L[j]? = some m → VRel E e.1 m.key) → (∀ (j : Nat) e m, es[j]? = some e → L[j]? = some m → VRel E e.2 m.val) →
    (leftOf seen es (L.map (·.born))).length = (L.filter fun m => !seen.contains m.born).length ∧
    ∀ (j : Nat) x m, (leftOf seen es (L.map (·.born)))[j]? = some x → (L.filter fun m => !seen.contains m.born)[j]? = some m → VRel E x.1 m.key ∧ VRel E x.2.1 m.val ∧ x.2.2 = m.born
  | [], L, hl, _, _ => by
    obtain rfl : L = [] := by simpa using hl.symm
    simp [leftOf]
  | e :: es, [], hl, _, _ => by simp at hl
  | e :: es, m :: L, hl, hk, hv => by
    obtain ⟨i1, i2⟩ := left_rel seen es L (by simpa using hl) (fun j e m a b => hk (j + 1) e m (by simpa using a) (by simpa using b)) (fun j e m a b => hv (j + 1) e m (by simpa using a) (by simpa using b))
    simp only [List.map_cons, leftOf, List.filter_cons]
    cases hc : seen.contains m.born with
    | true =>
      simp only [Bool.not_true, Bool.false_eq_true, if_false]
      exact ⟨i1, i2⟩
    | false =>
      simp only [Bool.not_false, if_true]
      refine ⟨by simp [i1], ?_⟩
      intro j x m' h1 h2
      cases j with
      | zero =>
        simp at h1 h2
        subst h1; subst h2
        exact ⟨hk 0 e m rfl rfl, hv 0 e m rfl rfl, rfl⟩
      | succ j => exact i2 j x m' (by simpa using h1) (by simpa using h2)

theorem entry_rel {E : GE} (stamp : Nat) : ∀ (es : List (AV × AV)) (L : List MapEntry) (x : AV × AV), es.length = L.length → (∀ (j : Nat) e m, es[j]? = some e → L[j]? = some m → VRel E e.1 m.key) → (∀ (j : Nat) e m, es[j]? = some e → L[j]? = some m → VRel E e.2 m.val) →
    entryOf (some stamp) es (L.map (·.born)) = some x → ∃ m, L.find? (fun m => m.born == stamp) = some m ∧ VRel E x.1 m.key ∧ VRel E x.2 m.val
  | [], L, x, hl, _, _, h => by
    obtain rfl : L = [] := by simpa using hl.symm
    simp [entryOf] at h
  | e :: es, [], x, hl, _, _, h => by simp at hl
  | e :: es, m :: L, x, hl, hk, hv, h => by
    simp only [List.map_cons, entryOf] at h
    split at h
    · rename_i hb
      simp only [Option.some.injEq] at h
      subst h
      refine ⟨m, ?_, hk 0 e m rfl rfl, hv 0 e m rfl rfl⟩
      have : m.born = stamp := Nat.eq_of_beq_eq_true hb
      simp [this]
    · rename_i hb
      obtain ⟨m', h1, h2⟩ := entry_rel stamp es L x (by simpa using hl) (fun j e m a b => hk (j + 1) e m (by simpa using a) (by simpa using b)) (fun j e m a b => hv (j + 1) e m (by simpa using a) (by simpa using b)) h
      refine ⟨m', ?_, h2⟩
      have : ¬ m.born = stamp := fun e => by subst e; simp at hb
      simp [this, h1]

theorem run_choose1 (w : World) {n : Nat} (hn : n ≤ 1) : (choose (.mapNext n)).run P w = .ok 0 w := by
  simp [choose, Sem.run, Question.forced, hn]

theorem next_sound {H : AH} {E : GE} (hr : HRel H E) {v : AV} {isS : Bool} {K : AV → AH → Option R} {r : R} (h : nextK H v isS K = some r) {x : Value} (hx : VRel E v x) (ty : TypeId) :
    ∃ u H' w' y, K u H' = some r ∧ E.le (E.at w') ∧ HRel H' (E.at w') ∧ VRel (E.at w') u y ∧ (Instr.next x isS ty).run P E.w = .ok y w' := by
  unfold nextK at h
  split at h
  · rename_i id
    cases hx with
    | ptr _ _ b hid hb =>
    split at h
    · rename_i s pos ho
      cases hr.obj _ _ ho with
      | siter _ _ b2 hb2 hh =>
      rw [hb] at hb2
      obtain rfl := Option.some.inj hb2
      have hget : (getObj b).run P E.w = .ok (.stringIter ⟨s.toArray⟩ pos) E.w := run_getObj hh (by intro c e f; simp)
      have hsz : (⟨s.toArray⟩ : ByteArray).size = s.length := by simp [ByteArray.size]
      split at h
      · rename_i hlt
        have hltb : b < E.w.heap.size := heap_lt hh
        have honly : Only b E.w { E.w with heap := E.w.heap.setIfInBounds b (.stringIter ⟨s.toArray⟩ (pos + (stepRune s pos).2)) } := by
          constructor <;> try rfl
          · simp
          · intro k hk
            simp only [Array.getElem?_setIfInBounds]
            rw [if_neg (by omega)]
        have hS : ∀ o, ¬ E.S b o := by
          intro o hS
          have := hr.set b o hS
          simp [World.cell?, hh] at this
        have hle := le_write (.inl ⟨id, hid, hb⟩) hS honly
        refine ⟨_, _, _, .tuple #[.bool true, .int .i64 pos, .int .i32 (stepRune s pos).1], h, hle, (hr.write ho rfl hid hb hS honly (.siter _ _ b hb ?_)).2, .tuple _ _ rfl ?_, ?_⟩
        · show (E.w.heap.setIfInBounds b _)[b]? = _
          simp [Array.getElem?_setIfInBounds, hltb]
        · intro i v x hv hx
          rcases i with _ | _ | _ | i
          · simp at hv hx; subst hv; subst hx; exact .bool _
          · simp at hv hx; subst hv; subst hx; exact .int _ _
          · simp at hv hx; subst hv; subst hx; exact .int _ _
          · simp at hv
        · have hset : (setObj b (.stringIter ⟨s.toArray⟩ (pos + (stepRune s pos).2))).run P E.w = .ok () { E.w with heap := E.w.heap.setIfInBounds b (.stringIter ⟨s.toArray⟩ (pos + (stepRune s pos).2)) } := by
            simp [setObj, Sem.run, hh]
          simp only [Instr.next, Sem.run_bind, hget, Result.andThen_ok, hsz, if_pos hlt]
          simp only [stepRune] at hset ⊢
          simp only [Sem.run_bind, hset, Result.andThen_ok, Sem.run_pure, goInt]
      · rename_i hlt
        refine ⟨_, _, E.w, .tuple #[.bool false], h, GE.le.refl _, hr, .tuple _ _ rfl ?_, ?_⟩
        · intro i v x hv hx
          rcases i with _ | i
          · simp at hv hx; subst hv; subst hx; exact .bool _
          · simp at hv
        · simp only [Instr.next, Sem.run_bind, hget, Result.andThen_ok, hsz, if_neg hlt, Sem.run_pure]
    · simp at h
  · rename_i id
    have hover : VRel (E.at E.w) (.tuple [.bool false]) (.tuple #[.bool false]) := .tuple _ _ rfl (by
      intro i v x hv hx
      rcases i with _ | i
      · simp at hv hx; subst hv; subst hx; exact .bool _
      · simp at hv)
    cases hx with
    | ptr _ _ b hid hb =>
    split at h
    · rename_i s0 n0 l0 ho
      have hob := hr.obj _ _ ho
      cases hob with
      | miter0 b2 hb2 hh =>
      rw [hb] at hb2
      obtain rfl := Option.some.inj hb2
      have hget : (getObj b).run P E.w = .ok (.mapIter none 0 #[] 0) E.w := run_getObj hh (by intro c e f; simp)
      exact ⟨_, _, E.w, .tuple #[.bool false], h, GE.le.refl _, hr, hover, by simp [Instr.next, hget]⟩
    · rename_i m since seen last ho
      have hob := hr.obj _ _ ho
      cases hob with
      | miter _ _ _ _ b2 k hm hk hb2 hh =>
      rw [hb] at hb2
      obtain rfl := Option.some.inj hb2
      have hget : (getObj b).run P E.w = .ok (.mapIter (some k) since seen.toArray last) E.w := run_getObj hh (by intro c e f; simp)
      split at h
      · rename_i es bs ck hom
        have hobm := hr.obj _ _ hom
        cases hobm with
        | map _ _ _ b3 ms hb3 hhm hl hss hkk hvv =>
        rw [hk] at hb3
        obtain rfl := Option.some.inj hb3
        have hgm : (getObj k).run P E.w = .ok (.map ms ck) E.w := run_getObj hhm (by intro c e f; simp)
        split at h
        · simp at h
        rename_i hst
        have hnst : (!seen.toArray.isEmpty && !ms.isEmpty && ms.all (fun e => decide (e.born ≥ last))) = false := by
          have hst' : stale es bs seen last = false := by simpa using hst
          unfold stale at hst'
          have e1 : seen.toArray.isEmpty = seen.isEmpty := by cases seen <;> rfl
          have e2 : ms.isEmpty = es.isEmpty := by
            cases es with
            | nil => simp at hl; simp [Array.isEmpty, ← hl]
            | cons e es => simp at hl; simp [Array.isEmpty, ← hl]
          have e3 : ms.all (fun e => decide (e.born ≥ last)) = bs.all fun b => Nat.ble last b := by
            rw [← hss, ← Array.all_toList, List.all_map]
            congr 1
            funext e
            simp only [Function.comp_apply, ge_iff_le]
            cases hle : Nat.ble last e.born with
            | true => simpa using Nat.le_of_ble_eq_true hle
            | false =>
              have : ¬ last ≤ e.born := fun hc => by rw [Nat.ble_eq_true_of_le hc] at hle; cases hle
              simpa using this
          rw [e1, e2, e3]; exact hst'
        have hleft : ms.toList.filter (fun e => !seen.toArray.contains e.born) = ms.toList.filter (fun e => !seen.contains e.born) := by simp
        obtain ⟨g1, g2⟩ := left_rel (E := E) seen es ms.toList (by simpa using hl) (fun j e m a d => hkk j e m a (by simpa using d)) (fun j e m a d => hvv j e m a (by simpa using d))
        rw [hss] at g1 g2
        have hfilt : ms.filter (fun e => !seen.toArray.contains e.born) = (ms.toList.filter fun e => !seen.contains e.born).toArray := by
          apply Array.toList_inj.1
          rw [Array.toList_filter]; simp
        generalize hF : (ms.toList.filter fun e => !seen.contains e.born) = F at g1 g2 hfilt
        split at h
        · rename_i hlo
          rw [hlo] at g1
          obtain rfl : F = [] := by simpa using g1.symm
          refine ⟨_, _, E.w, .tuple #[.bool false], h, GE.le.refl _, hr, hover, ?_⟩
          simp only [Instr.next, Sem.run_bind, hget, Result.andThen_ok, hgm, hnst, Bool.false_eq_true, if_false, Sem.run_pure, hfilt]
          simp [show (Question.mapNext 1).forced = true from rfl]
        · rename_i y hlo
          rw [hlo] at g1 g2
          obtain ⟨me, rfl⟩ : ∃ me, F = [me] := by
            cases F with
            | nil => simp at g1
            | cons me F => cases F with
              | nil => exact ⟨me, rfl⟩
              | cons => simp at g1
          obtain ⟨r1, r2, r3⟩ := g2 0 y me rfl rfl
          split at h
          · rename_i hsi
            rw [r3] at hsi
            have hltb : b < E.w.heap.size := heap_lt hh
            have honly : Only b E.w { E.w with heap := E.w.heap.setIfInBounds b (.mapIter (some k) since (seen.toArray.push me.born) ck) } := by
              constructor <;> try rfl
              · simp
              · intro k hk
                simp only [Array.getElem?_setIfInBounds]
                rw [if_neg (by omega)]
            have hS : ∀ o, ¬ E.S b o := by
              intro o hS
              have := hr.set b o hS
              simp [World.cell?, hh] at this
            have hle := le_write (.inl ⟨id, hid, hb⟩) hS honly
            refine ⟨_, _, _, .tuple #[.bool true, me.key, me.val], h, hle, (hr.write ho rfl hid hb hS honly (.miter m since (seen ++ [y.2.2]) ck b k hm hk hb ?_)).2, .tuple _ _ rfl ?_, ?_⟩
            · show (E.w.heap.setIfInBounds b _)[b]? = _
              simp [Array.getElem?_setIfInBounds, hltb, r3]
            · intro i v x hv hx
              rcases i with _ | _ | _ | i
              · simp at hv hx; subst hv; subst hx; exact .bool _
              · simp at hv hx; subst hv; subst hx; exact r1.mono hle
              · simp at hv hx; subst hv; subst hx; exact r2.mono hle
              · simp at hv
            · have hset : (setObj b (.mapIter (some k) since (seen.toArray.push me.born) ck)).run P E.w = .ok () { E.w with heap := E.w.heap.setIfInBounds b (.mapIter (some k) since (seen.toArray.push me.born) ck) } := by
                simp [setObj, Sem.run, hh]
              have hno : ¬ since ≤ me.born := by omega
              simp only [Instr.next, Sem.run_bind, hget, Result.andThen_ok, hgm, hnst, Bool.false_eq_true, if_false, Sem.run_pure, hfilt]
              simp [show (Question.mapNext 1).forced = true from rfl, hsi, hno]
              have hset' := hset
              simp only [List.push_toArray] at hset'
              rw [hset']; rfl
          · simp at h
        · simp at h
      · simp at h
    · simp at h
  · simp at h

theorem entry_sound {H : AH} {E : GE} (hr : HRel H E) {v : AV} {K : AV → Option R} {r : R} (h : entryK H v K = some r) {x : Value} (hx : VRel E v x) :
    ∃ u y, K u = some r ∧ VRel E u y ∧ (Instr.entry x).run P E.w = .ok y E.w := by
  unfold entryK at h
  split at h
  · rename_i id
    cases hx with
    | ptr _ _ b hid hb =>
    split at h
    · rename_i m since seen last ho
      have hob := hr.obj _ _ ho
      cases hob with
      | miter _ _ _ _ b2 k hm hk hb2 hh =>
      rw [hb] at hb2
      obtain rfl := Option.some.inj hb2
      have hget : (getObj b).run P E.w = .ok (.mapIter (some k) since seen.toArray last) E.w := run_getObj hh (by intro c e f; simp)
      split at h
      · rename_i es bs ck hom
        have hobm := hr.obj _ _ hom
        cases hobm with
        | map _ _ _ b3 ms hb3 hhm hl hss hkk hvv =>
        rw [hk] at hb3
        obtain rfl := Option.some.inj hb3
        have hgm : (getObj k).run P E.w = .ok (.map ms ck) E.w := run_getObj hhm (by intro c e f; simp)
        split at h
        · rename_i hck
          subst hck
          split at h
          · rename_i e he
            cases hs : seen.getLast? with
            | none => rw [hs] at he; cases es <;> cases bs <;> simp [entryOf] at he
            | some st =>
              rw [hs, ← hss] at he
              obtain ⟨me, q1, q2, q3⟩ := entry_rel (E := E) st es ms.toList e (by simpa using hl) (fun j e m a d => hkk j e m a (by simpa using d)) (fun j e m a d => hvv j e m a (by simpa using d)) he
              have hback : seen.toArray.back? = some st := by simp [hs]
              have hfind : ms.find? (fun e => e.born == st) = some me := by rw [← Array.find?_toList]; exact q1
              refine ⟨_, .tuple #[me.key, me.val], h, .tuple _ _ rfl ?_, ?_⟩
              · intro i v x hv hx
                rcases i with _ | _ | i
                · simp at hv hx; subst hv; subst hx; exact q2
                · simp at hv hx; subst hv; subst hx; exact q3
                · simp at hv
              · simp [Instr.entry, hget, hback, hgm, hfind]
          · simp at h
        · simp at h
      · simp at h
    · simp at h
  · simp at h

theorem assert_sound {E : GE} {t : TypeId} {i : TI} (hT : TypeOK P t i) {v : AV} {x : Value} (hx : VRel E v x) {xt : TypeId} {ok : Bool} {K : AV → Option R} {r : R} (h : assertK i t v ok K = some r) :
    ∃ u y, K u = some r ∧ VRel E u y ∧ (Instr.typeAssert x xt t ok).run P E.w = .ok y E.w := by
  obtain ⟨d, hd, hdi⟩ := underlying_some hT
  obtain ⟨z, hz1, hz2, hz3⟩ := zero_rel hT E.w
  have pair (a b : AV) (x y : Value) (ha : VRel E a x) (hb : VRel E b y) : VRel E (.tuple [a, b]) (.tuple #[x, y]) := .tuple _ _ rfl fun i u w hu hw => by
    match i with
    | 0 => simp at hu hw; subst hu; subst hw; exact ha
    | 1 => simp at hu hw; subst hu; subst hw; exact hb
    | i + 2 => simp at hu
  unfold assertK at h
  split at h
  · simp at h
  rename_i hne
  have hni := hdi hne
  split at h
  · cases hx
    split at h
    · refine ⟨_, .tuple #[z, .bool false], h, pair _ _ _ _ (hz3 E) (.bool _), ?_⟩
      cases d <;> first | exact absurd rfl (hni _) | simp [Instr.typeAssert, run_underlying hd, hz1]
    · simp at h
  · rename_i u w
    cases hx with
    | iface _ _ y hy =>
    split at h
    · rename_i e
      obtain rfl := Nat.eq_of_beq_eq_true e
      refine ⟨_, .tuple #[y, .bool true], h, pair _ _ _ _ hy (.bool _), ?_⟩
      cases d <;> first | exact absurd rfl (hni _) | simp [Instr.typeAssert, run_underlying hd]
    · rename_i e
      obtain rfl := Nat.eq_of_beq_eq_true e
      refine ⟨_, y, h, hy, ?_⟩
      cases d <;> first | exact absurd rfl (hni _) | simp [Instr.typeAssert, run_underlying hd]
    · rename_i e
      have hut : u ≠ t := Nat.ne_of_beq_eq_false e
      refine ⟨_, .tuple #[z, .bool false], h, pair _ _ _ _ (hz3 E) (.bool _), ?_⟩
      cases d <;> first | exact absurd rfl (hni _) | simp [Instr.typeAssert, run_underlying hd, hz1, hut]
    · simp at h
  · simp at h

theorem op_sound (ro : Option Nat) (hS : SysOK S P) {call : Caller} (hcall : CallOK S P call) {H : AH} {E : GE} (hr : Rel S H E) {s : List AV} {a : Act} (ha : ARel E s a) {o : Oper} {K : AV → AH → Option R} {r : R} (h : opK S call s H o K = some r) :
    ∃ v H', K v H' = some r ∧ GivesIn ro S P o a E v H' := by
  have hev := fun x => ev_rel hr ha x
  obtain ⟨dst, op, type, pos, after, guard⟩ := o
  unfold opK at h
  cases op <;> simp only at h <;> try (simp at h; done)
  case move x => exact ⟨_, _, h, gives_pureI (x := a.eval x) (by simp [execOp]) hr (hev x)⟩
  case assign x => exact ⟨_, _, h, gives_pureI (x := a.eval x) (by simp [execOp]) hr (hev x)⟩
  case pick c x y =>
    split at h
    · rename_i t ht
      have hc := hev c
      rw [ht] at hc
      have hc' := rel_bool hc
      rcases br_some h with ⟨rfl, h⟩ | ⟨rfl, h⟩
      · exact ⟨_, _, h, gives_pureI (x := a.eval x) (by simp [execOp, hc', asBool]) hr (hev x)⟩
      · exact ⟨_, _, h, gives_pureI (x := a.eval y) (by simp [execOp, hc', asBool]) hr (hev y)⟩
    · simp at h
  case alloc t =>
    split at h
    · rename_i i hi
      split at h
      · obtain ⟨E', h1, h2, h3, h4⟩ := alloc_sound hS hr.h hi
        exact ⟨_, _, h, gives_valueI (by simp [execOp, h1]) h2 (hr.mono h2 h3) h4⟩
      · simp at h
    · simp at h
  case box t x =>
    split at h
    · rename_i hs
      obtain ⟨E', h1, h2, h3, h4⟩ := box_sound (P := P) hr.h (hev x) hs t
      exact ⟨_, _, h, gives_valueI (by simp [execOp, h1]) h2 (hr.mono h2 h3) h4⟩
    · simp at h
  case build t ps =>
    split at h
    · rename_i i hi
      split at h
      · rename_i hs
        obtain ⟨v, y, h1, h2, h3⟩ := build_sound hS (E := E) hi (us := ps.toList.map fun p => (p.1, ev S.G s p.2)) (xs := ps.map fun p => (p.1, a.eval p.2)) (by simpa using parts_rel hr ha ps.toList hs) h E.w
        refine ⟨_, _, h1, gives_pureI (x := y) ?_ hr h2⟩
        have : (Instr.build t (ps.map fun (i, x) => (i, a.eval x))).run P E.w = .ok y E.w := h3
        simp only [execOp, Sem.run_bind, this, Result.andThen_ok, Sem.run_pure]
      · simp at h
    · simp at h
  case buildSlice t n ps =>
    split at h
    · rename_i i hi
      obtain ⟨v, H', E', y, h1, h2, h3, h4, h5⟩ := buildSlice_sound hS hr.h hi (us := ps.toList.map fun p => (p.1, ev S.G s p.2)) (xs := ps.map fun p => (p.1, a.eval p.2)) (fun hs => by simpa using parts_rel hr ha ps.toList hs) h
      refine ⟨_, _, h1, gives_valueI (x := y) (E' := E') ?_ h2 (hr.mono h2 h3) h4⟩
      have : (Instr.buildSlice t n (ps.map fun (i, x) => (i, a.eval x))).run P E.w = .ok y E'.w := h5
      simp only [execOp, Sem.run_bind, this, Result.andThen_ok, Sem.run_pure]
    · simp at h
  case load t x =>
    split at h
    · rename_i i hi
      obtain ⟨v, y, h1, h2, h3⟩ := load_sound hS hr.h hi h (hev x)
      exact ⟨_, _, h1, gives_pureI (by simp [execOp, h3]) hr h2⟩
    · simp at h
  case store t x y =>
    split at h
    · rename_i i hi
      split at h
      · rename_i hs
        obtain ⟨H', w', h1, h2, h3, h4⟩ := store_sound hS hr.h hi h (hev x) (hev y) hs
        exact ⟨_, _, h1, gives_skipI (E' := E.at w') (by simp [execOp, h2]; rfl) h3 (hr.mono h3 h4)⟩
      · simp at h
    · simp at h
  case nilCheck x =>
    have hx := hev x
    split at h
    · rename_i id off hx'
      rw [hx'] at hx
      obtain ⟨ad, had⟩ : ∃ ad, a.eval x = .pointer (some ad) := by
        generalize a.eval x = X at hx ⊢
        cases hx; exact ⟨_, rfl⟩
      exact ⟨_, _, h, gives_pureI (x := a.eval x) (by simp [execOp, had]) hr hx⟩
    · rename_i v hx'
      rw [hx'] at hx
      obtain ⟨ad, had⟩ : ∃ ad, a.eval x = .pointer (some ad) := by
        generalize a.eval x = X at hx ⊢
        cases hx; exact ⟨_, rfl⟩
      exact ⟨_, _, h, gives_pureI (x := a.eval x) (by simp [execOp, had]) hr hx⟩
    · simp at h
  case binOp op t x y yt =>
    obtain ⟨v, z, h1, h2, h3, h4⟩ := binN_sound hS h (hev x) (hev y) E.w
    exact ⟨_, _, h1, gives_pureI (x := z) (by simp only [execOp, Sem.run_bind, h3, h4, Result.andThen_ok, Sem.run_pure]) hr (h2 E)⟩
  case unOp op t x =>
    obtain ⟨v, z, h1, h2, h3⟩ := un_sound (P := P) h (hev x) E.w
    exact ⟨_, _, h1, gives_pureI (x := z) (by simp only [execOp, Sem.run_bind, h3, Result.andThen_ok, Sem.run_pure]) hr (h2 E)⟩
  case convert t1 t2 x =>
    have hx := hev x
    unfold convK at h
    split at h
    · rename_i i j hi hj
      split at h
      · rename_i k n hx'
        rw [hx'] at hx
        have hx2 := rel_int hx
        obtain ⟨d, hd, _⟩ := underlying_some (hS.type _ _ hi)
        have hk := (hS.type _ _ hj).kind
        split at h
        · rename_i k' hjk
          rw [hjk] at hk
          have hk' : P.underlying t2 = some (.int k') := hk
          exact ⟨_, _, h, gives_pureI (x := .int k' (k'.wrap n)) (by simp [execOp, convert, run_underlying hd, run_underlying hk', hx2, Conv.intToInt]) hr (.int _ _)⟩
        · rename_i hjk
          rw [hjk] at hk
          have hk' : P.underlying t2 = some .string := hk
          split at h
          · rename_i hn
            have he : Utf8.encode n = ⟨#[UInt8.ofNat n.toNat]⟩ := by
              unfold Utf8.encode
              have hv : Utf8.valid n = true := by simp [Utf8.valid]; omega
              simp only [hv, if_true]
              rw [if_pos (by omega)]
            exact ⟨_, _, h, gives_pureI (x := .string (Utf8.encode n)) (by simp [execOp, convert, run_underlying hd, run_underlying hk', hx2, Conv.intToString]) hr (by rw [he]; exact .str _)⟩
          · simp at h
        · simp at h
      · rename_i b hx'
        rw [hx'] at hx
        have hx2 := rel_str hx
        obtain ⟨d, hd, _⟩ := underlying_some (hS.type _ _ hi)
        have hk := (hS.type _ _ hj).kind
        split at h
        · rename_i hik hjk
          rw [hjk] at hk
          have hk' : P.underlying t2 = some .string := hk
          exact ⟨_, _, h, gives_pureI (x := .string ⟨b.toArray⟩) (by simp [execOp, convert, run_underlying hd, run_underlying hk', hx2]) hr (.str _)⟩
        · rename_i e hik hjk
          split at h
          · rename_i q hq
            split at h
            · rename_i hqk
              have k1 := (hS.type _ _ hi).kind
              have k3 := (hS.type _ _ hq).kind
              rw [hik] at k1; rw [hjk] at hk; rw [hqk] at k3
              obtain ⟨E', y, h1, h2, h3, h4⟩ := strBytes_sound (P := P) (src := t1) (dst := t2) (e := e) (b := b) hr.h k1 hk k3
              refine ⟨_, _, h, gives_valueI (x := y) (E' := E') ?_ h2 (hr.mono h2 h3) h4⟩
              simp only [execOp, Sem.run_bind, hx2, h1, Result.andThen_ok, Sem.run_pure]
            · simp at h
          · simp at h
        · simp at h
      · split at h
        rotate_left
        · simp at h
        rename_i u0 hu0
        obtain ⟨b, y, h1, h2, h3⟩ := text_sound (E := E.all) hS hi hj h (resolveC_rel hr.h hu0 hx)
        obtain ⟨h2, h3⟩ : VRel E (.str b) y ∧ (convert t1 t2 (a.eval x)).run P E.w = .ok y E.w := ⟨by rw [rel_str h2]; exact .str _, h3⟩
        exact ⟨_, _, h1, gives_pureI (x := y) (by simp only [execOp, Sem.run_bind, h3, Result.andThen_ok, Sem.run_pure]) hr h2⟩
    · simp at h
  case range t x =>
    split at h
    · rename_i i hi
      obtain ⟨v, H', E', z, h1, h2, h3, h4, h5⟩ := rangeStr_sound hS hr.h hi h (hev x)
      exact ⟨_, _, h1, gives_valueI (x := z) (E' := E') (by simp only [execOp, Sem.run_bind, h5, Result.andThen_ok, Sem.run_pure]) h2 (hr.mono h2 h3) h4⟩
    · simp at h
  case next x isS =>
    obtain ⟨v, H', w', z, h1, h2, h3, h4, h5⟩ := next_sound (P := P) hr.h h (hev x) type
    exact ⟨_, _, h1, gives_valueI (x := z) (E' := E.at w') (by simp only [execOp, Sem.run_bind, h5, Result.andThen_ok, Sem.run_pure]; rfl) h2 (hr.mono h2 h3) h4⟩
  case entry x =>
    obtain ⟨u, y, h1, h2, h3⟩ := entry_sound (P := P) hr.h h (hev x)
    exact ⟨_, _, h1, gives_pureI (x := y) (by simp only [execOp, Sem.run_bind, h3, Result.andThen_ok, Sem.run_pure]) hr h2⟩
  case makeInterface t x =>
    split at h
    · rename_i i hi
      obtain ⟨d, hd, hdi⟩ := underlying_some (hS.type _ _ hi)
      have hrun : i.k ≠ .iface → (Instr.makeInterface t (a.eval x)).run P E.w = .ok (.iface t (a.eval x)) E.w := by
        intro hne
        have := hdi hne
        cases d <;> first | (simp [Instr.makeInterface, run_underlying hd]; done) | exact absurd rfl (this _)
      split at h
      · simp at h
      · rename_i hne
        exact ⟨_, _, h, gives_pureI (x := .iface t (a.eval x)) (by simp only [execOp, Sem.run_bind, hrun hne, Result.andThen_ok, Sem.run_pure]) hr (.iface t _ _ (hev x))⟩
    · simp at h
  case makeFunc fn as bs =>
    split at h
    · rename_i f
      have h1 := vrelL_map hr ha as
      have h2 := vrelL_map hr ha bs
      exact ⟨_, _, h, gives_pureI (x := .func (.func f) (as.map a.eval) (bs.map a.eval)) (by simp [execOp, Instr.makeFunc]) hr (.func (.func f) _ _ _ _ (by simp) h1.1 h1.2 h2.1 h2.2)⟩
    · simp at h
  case makeMap t res =>
    cases res with
    | some _ => simp at h
    | none =>
      simp only [newK] at h
      have ho : ORel (E.new (.map #[] 0)) E.nid (.map [] [] 0) := by
        refine .map [] [] 0 E.w.heap.size #[] (by simp [GE.new]) (alloc_get _ _) rfl rfl ?_ ?_
        · intro j e m h1; simp at h1
        · intro j e m h1; simp at h1
      obtain ⟨h1, h2⟩ := hr.h.new ho
      refine ⟨_, _, h, gives_valueI (x := .map (some E.w.heap.size)) (E' := E.new (.map #[] 0)) (by simp [execOp, Instr.makeMap]; rfl) h1 (hr.mono h1 h2) (.map _ _ ?_ ?_)⟩
      · rw [← hr.h.nid]; exact Nat.lt_succ_self _
      · rw [← hr.h.nid]; simp [GE.new]
  case makeSlice t x y =>
    split at h
    · rename_i i hi
      obtain ⟨v, H', E', z, h1, h2, h3, h4, h5⟩ := makeSlice_sound hS hr.h hi h (hev x) (hev y)
      exact ⟨_, _, h1, gives_valueI (x := z) (E' := E') (by simp only [execOp, Sem.run_bind, h5, Result.andThen_ok, Sem.run_pure]) h2 (hr.mono h2 h3) h4⟩
    · simp at h
  case slice t x lo hi' mx =>
    split at h
    · rename_i i hi
      obtain ⟨v, z, h1, h2, h3⟩ := slice_sound (P := P) hS (E := E) hi h (hev x) (orel_map hr ha lo) (orel_map hr ha hi') (orel_map hr ha mx) E.w
      exact ⟨_, _, h1, gives_pureI (x := z) (by simp only [execOp, Sem.run_bind, h3, Result.andThen_ok, Sem.run_pure]) hr h2⟩
    · simp at h
  case fieldAddr t x f =>
    split at h
    · rename_i i hi
      obtain ⟨v, z, h1, h2, h3⟩ := fieldAddr_sound (P := P) hS (E := E) hi h (hev x)
      exact ⟨_, _, h1, gives_pureI (x := z) (by simp only [execOp, Sem.run_bind, h3, Result.andThen_ok, Sem.run_pure]) hr h2⟩
    · simp at h
  case field t x f =>
    split at h
    · rename_i i hi
      obtain ⟨v, z, h1, h2, h3⟩ := field_sound (P := P) hS (E := E) hi h (hev x) E.w
      exact ⟨_, _, h1, gives_pureI (x := z) (by simp only [execOp, Sem.run_bind, h3, Result.andThen_ok, Sem.run_pure]) hr h2⟩
    · simp at h
  case indexAddr t x y =>
    split at h
    · rename_i i hi
      obtain ⟨v, z, h1, h2, h3⟩ := indexAddr_sound (P := P) hS (E := E) hi h (hev x) (hev y) E.w
      exact ⟨_, _, h1, gives_pureI (x := z) (by simp only [execOp, Sem.run_bind, h3, Result.andThen_ok, Sem.run_pure]) hr h2⟩
    · simp at h
  case index t x y =>
    split at h
    · rename_i i hi
      obtain ⟨v, z, h1, h2, h3⟩ := index_sound (P := P) hS (E := E) hi h (hev x) (hev y) E.w
      exact ⟨_, _, h1, gives_pureI (x := z) (by simp only [execOp, Sem.run_bind, h3, Result.andThen_ok, Sem.run_pure]) hr h2⟩
    · simp at h
  case lookup t x y ok =>
    split at h
    · rename_i i hi
      obtain ⟨v, z, h1, h2, h3⟩ := lookup_sound hS hr.h hi h (hev x) (hev y)
      exact ⟨_, _, h1, gives_pureI (x := z) (by simp only [execOp, Sem.run_bind, h3, Result.andThen_ok, Sem.run_pure]) hr h2⟩
    · simp at h
  case mapUpdate t m k x =>
    split at h
    · rename_i i hi
      obtain ⟨H', w', h1, h2, h3, h4⟩ := mapUpdate_sound hS hr.h hi h (hev m) (hev k) (hev x)
      exact ⟨_, _, h1, gives_skipI (E' := E.at w') (by simp only [execOp, Sem.run_bind, h2, Result.andThen_ok, Sem.run_pure]; rfl) h3 (hr.mono h3 h4)⟩
    · simp at h
  case insert t m k x =>
    split at h
    · rename_i i hi
      obtain ⟨H', w', h1, h2, h3, h4⟩ := mapUpdate_sound hS hr.h hi h (hev m) (hev k) (hev x)
      exact ⟨_, _, h1, gives_skipI (E' := E.at w') (by simp only [execOp, Sem.run_bind, h2, Result.andThen_ok, Sem.run_pure]; rfl) h3 (hr.mono h3 h4)⟩
    · simp at h
  case extract x ix =>
    have hx := hev x
    split at h
    · rename_i vs hx'
      rw [hx'] at hx
      split at h
      · rename_i v hv
        generalize hX : a.eval x = X at hx
        cases hx with
        | tuple _ xs h1 h2 =>
        have hlt : ix < vs.length := by
          rcases Nat.lt_or_ge ix vs.length with h' | h'
          · exact h'
          · simp [List.getElem?_eq_none h'] at hv
        have hx2 : xs[ix]? = some (xs[ix]'(h1 ▸ hlt)) := by simp [h1 ▸ hlt]
        exact ⟨_, _, h, gives_pureI (x := xs[ix]'(h1 ▸ hlt)) (by simp [execOp, hX, Instr.extract, hx2]) hr (h2 ix v _ hv hx2)⟩
      · simp at h
    · simp at h
  case call c =>
    have hargs := vrelL_map hr ha c.args
    split at h
    · rename_i f hcal
      have hf := hev f
      unfold callFn at h
      split at h
      · rename_i fid first caps hfv
        rw [hfv] at hf
        obtain ⟨p, hp, h⟩ := optK_inv h
        generalize hX : a.eval f = X at hf
        cases hf with
        | func _ _ _ xs ys hfn h1 h2 h3 h4 =>
          have hx := vrelL_append (vrelL_append (E := E) ⟨h1, h2⟩ hargs) (vs := caps) (ys := ys) ⟨h3, h4⟩
          refine ⟨_, _, h, (gives_call hcall hr hx hp ?_).inn (by intro c; simp)⟩
          simp [execOp, Go.resolve, hcal, Deferred.ofValue, hX, invoke]
      · rename_i id hfv
        rw [hfv] at hf
        obtain ⟨p, hp, h⟩ := optK_inv h
        generalize hX : a.eval f = X at hf
        cases hf with
        | func _ _ _ xs ys hfn h1 h2 h3 h4 => exact absurd rfl (hfn id)
        | yield _ b hid hb =>
          refine ⟨_, _, h, gives_yield hcall hr hid hb hargs hp (by intro c; simp) ?_⟩
          simp [execOp, Go.resolve, hcal, Deferred.ofValue, hX, invoke]
      · simp at h
    · rename_i b hcal
      unfold builtinK at h
      have hrun : ∀ (s : Sem Value) (y : Value) (w' : World), s.run P E.w = .ok y w' → (do pure (.value (← s)) : Sem Next).run P E.w = .ok (.value y) w' := by
        intro s y w' hs
        simp only [Sem.run_bind, hs, Result.andThen_ok, Sem.run_pure]
      split at h
      · rename_i x hxs
        rw [hxs] at hargs
        obtain ⟨x1, e1, hx1⟩ := arr1 hargs
        obtain ⟨v, y, h1, h2, h3⟩ := len_sound hS (P := P) hr.h (ty := type) h hx1
        refine ⟨_, _, h1, gives_pureI (x := y) ?_ hr h2⟩
        have hr1 := hrun _ _ _ h3
        simpa [execOp, Go.resolve, hcal, invoke, builtin, e1] using hr1
      · rename_i x1 x2 hxs
        rw [hxs] at hargs
        obtain ⟨y1, y2, e1, hx1, hx2⟩ := arr2 hargs
        obtain ⟨v, H', E', y, h1, h2, h3, h4, h5⟩ := append_sound hS (P := P) hr.h (ty := type) h hx1 hx2
        refine ⟨_, _, h1, gives_valueI (x := y) (E' := E') ?_ h2 (hr.mono h2 h3) h4⟩
        have hr1 := hrun _ _ _ h5
        simpa [execOp, Go.resolve, hcal, invoke, builtin, e1] using hr1
      · rename_i x1 x2 hxs
        rw [hxs] at hargs
        obtain ⟨y1, y2, e1, hx1, hx2⟩ := arr2 hargs
        obtain ⟨v, H', E', y, h1, h2, h3, h4, h5⟩ := copy_sound hS (P := P) hr.h (ty := type) h hx1 hx2
        refine ⟨_, _, h1, gives_valueI (x := y) (E' := E') ?_ h2 (hr.mono h2 h3) h4⟩
        have hr1 := hrun _ _ _ h5
        simpa [execOp, Go.resolve, hcal, invoke, builtin, e1] using hr1
      · rename_i x1 us hxs
        rw [hxs] at hargs
        obtain ⟨y1, l, e1, hx1, hl, hus⟩ := arrN hargs
        obtain ⟨v, y, h1, h2, h3⟩ := minmax_sound (P := P) (mx := true) _ _ _ _ _ l h hx1 hl hus E.w
        refine ⟨_, _, h1, gives_pureI (x := y) ?_ hr (h2 E)⟩
        have hr1 := hrun (Builtin.max_ c.argTypes type (y1 :: l).toArray) y E.w (by simpa [Builtin.max_] using h3)
        simpa [execOp, Go.resolve, hcal, invoke, builtin, e1] using hr1
      · rename_i x1 us hxs
        rw [hxs] at hargs
        obtain ⟨y1, l, e1, hx1, hl, hus⟩ := arrN hargs
        obtain ⟨v, y, h1, h2, h3⟩ := minmax_sound (P := P) (mx := false) _ _ _ _ _ l h hx1 hl hus E.w
        refine ⟨_, _, h1, gives_pureI (x := y) ?_ hr (h2 E)⟩
        have hr1 := hrun (Builtin.min_ c.argTypes type (y1 :: l).toArray) y E.w (by simpa [Builtin.min_] using h3)
        simpa [execOp, Go.resolve, hcal, invoke, builtin, e1] using hr1
      · rename_i x1 x2 hxs
        rw [hxs] at hargs
        obtain ⟨y1, y2, e1, hx1, hx2⟩ := arr2 hargs
        obtain ⟨v, H', w', y, h1, h2, h3, h4, h5⟩ := delete_sound hS (P := P) hr.h (ty := type) h hx1 hx2
        refine ⟨_, _, h1, gives_valueI (x := y) (E' := E.at w') ?_ h3 (hr.mono h3 h4) h5⟩
        have hr1 := hrun _ _ _ h2
        show _ = Result.ok (Next.value y) w'
        simpa [execOp, Go.resolve, hcal, invoke, builtin, e1] using hr1
      · rename_i x1 hxs
        rw [hxs] at hargs
        obtain ⟨y1, e1, hx1⟩ := arr1 hargs
        obtain ⟨v, H', w', y, h1, h2, h3, h4, h5⟩ := clear_sound hS (P := P) hr.h (ty := type) h hx1
        refine ⟨_, _, h1, gives_valueI (x := y) (E' := E.at w') ?_ h3 (hr.mono h3 h4) h5⟩
        have hr1 := hrun _ _ _ h2
        show _ = Result.ok (Next.value y) w'
        simpa [execOp, Go.resolve, hcal, invoke, builtin, e1] using hr1
      · simp at h
    · rename_i r m hcal
      have hf := hev r
      unfold methK at h
      split at h
      · rename_i t v hfv
        rw [hfv] at hf
        split at h
        · rename_i g hg
          obtain ⟨p, hp, h⟩ := optK_inv h
          generalize hX : a.eval r = X at hf
          cases hf with
          | iface _ _ x hx =>
            have h0 : VRelL E [v] #[x] := ⟨rfl, fun i u y hu hy => by
              cases i with
              | zero => simp at hu hy; subst hu; subst hy; exact hx
              | succ i => simp at hu⟩
            have hxs := vrelL_append h0 hargs
            refine ⟨_, _, h, (gives_call hcall hr hxs hp ?_).inn (by intro c; simp)⟩
            have e0 : ∀ ys : Array Value, (#[Value.iface t x] ++ ys)[0]? = some (.iface t x) := fun ys => by
              rw [← Array.getElem?_toList, Array.toList_append]
              rfl
            have e1 : ∀ ys : Array Value, (#[Value.iface t x] ++ ys).extract 1 (#[Value.iface t x] ++ ys).size = ys := fun ys => by
              apply Array.toList_inj.1
              simp [Array.toList_extract, List.extract]
            simp only [execOp, Go.resolve, hcal, hX, invoke, callMethod, Sem.run_bind, Sem.run_pure, Result.andThen_ok, e0, e1, run_program, hS.meth t m g hg x]
        · simp at h
      · simp at h
  case typeAssert x xt t ok =>
    split at h
    · rename_i i hi
      obtain ⟨v, y, h1, h2, h3⟩ := assert_sound (hS.type _ _ hi) (hev x) (xt := xt) h
      exact ⟨_, _, h1, gives_pureI (x := y) (by simp only [execOp, Sem.run_bind, h3, Result.andThen_ok, Sem.run_pure]) hr h2⟩
    · simp at h

/-- What an operation that panics comes to. -/
def PansIn (ro : Option Nat) (S : Sys) (P : Program) (o : Oper) (a : Act) (E : GE) (v : AV) (H' : AH) : Prop :=
  ∀ (next : Act → World → Prop) (Q : Exit → Act → World → Prop), (∀ x E', E.le E' → Rel S H' E' → VRel E' v x → Q (.panic [{ v := x, recovered := false }]) a E'.w) → o.wpIn (WR ro) 0 P a E.w next Q

theorem pans_call {ro : Option Nat} {call : Caller} (hcall : CallOK S P call) {H : AH} {E : GE} (hr : Rel S H E) {f : FuncId} {args : List AV} {xs : Array Value} (hx : VRelL E args xs) {v : AV} {H' : AH} (h : call.pan f args H = some (v, H')) {o : Oper} {a : Act} (hd : ∀ c, o.op ≠ .defer c)
    (hrun : (execOp a.eval o).run P E.w = (callFunc f xs).run P E.w) : PansIn ro S P o a E v H' := by
  obtain ⟨⟨fn, h1, h2, h3⟩, h4⟩ := hcall.res f args H _ (Caller.pan_res h)
  intro next Q hn
  refine Oper.in_of_wp hd ?_
  unfold Oper.wp
  have hb : ¬ fn.body = none := by
    intro e
    rw [e] at h2; simp at h2
  have hcf : (callFunc f xs).run P E.w = .ok (.enter f xs) E.w := by
    simp [callFunc, h1, h3, hb]
  rw [hrun, hcf, Oper.upon_enter]
  refine (h4 E xs hr hx).mono ?_
  rintro e w' ⟨x, E', rfl, rfl, hle, hr', hv⟩
  exact hn x E' hle hr' hv

theorem pan_sound (ro : Option Nat) (hS : SysOK S P) {call : Caller} (hcall : CallOK S P call) {H : AH} {E : GE} (hr : Rel S H E) {s : List AV} {a : Act} (ha : ARel E s a) {o : Oper} {p : AV × AH} (h : panOf S call s H o = some p) : PansIn ro S P o a E p.1 p.2 := by
  have hev := fun x => ev_rel hr ha x
  obtain ⟨dst, op, type, pos, after, guard⟩ := o
  unfold panOf at h
  cases op <;> simp only at h <;> try (simp at h; done)
  case panic x =>
    have hx := hev x
    split at h
    · rename_i t v hv
      rw [hv] at hx
      simp only [Option.some.injEq] at h
      subst h
      generalize hX : a.eval x = X at hx
      have hx0 := hx
      cases hx with
      | iface _ _ y hy =>
      intro next Q hn
      refine Oper.in_of_wp (by intro c; simp) ?_
      unfold Oper.wp
      have hrun : (execOp a.eval ⟨dst, .panic x, type, pos, after, guard⟩).run P E.w = .halt (.panic (.iface t y)) E.w := by
        simp [execOp, hX, Instr.panic, goPanic]
      rw [hrun, Oper.upon_panic]
      exact hn _ E (GE.le.refl E) hr hx0
    · simp at h
  case call c =>
    have hargs := vrelL_map hr ha c.args
    split at h
    · rename_i f hcal
      have hf := hev f
      split at h
      · rename_i fid first caps hfv
        rw [hfv] at hf
        generalize hX : a.eval f = X at hf
        cases hf with
        | func _ _ _ xs ys hfn h1 h2 h3 h4 =>
          have hx := vrelL_append (vrelL_append (E := E) ⟨h1, h2⟩ hargs) (vs := caps) (ys := ys) ⟨h3, h4⟩
          refine pans_call hcall hr hx h (by intro c; simp) ?_
          simp [execOp, Go.resolve, hcal, Deferred.ofValue, hX, invoke]
      · simp at h
    · rename_i r m hcal
      have hf := hev r
      split at h
      · rename_i t v hfv
        rw [hfv] at hf
        split at h
        · rename_i g hg
          generalize hX : a.eval r = X at hf
          cases hf with
          | iface _ _ x hx =>
            have h0 : VRelL E [v] #[x] := ⟨rfl, fun i u y hu hy => by
              cases i with
              | zero => simp at hu hy; subst hu; subst hy; exact hx
              | succ i => simp at hu⟩
            have hxs := vrelL_append h0 hargs
            refine pans_call hcall hr hxs h (by intro c; simp) ?_
            have e0 : ∀ ys : Array Value, (#[Value.iface t x] ++ ys)[0]? = some (.iface t x) := fun ys => by
              rw [← Array.getElem?_toList, Array.toList_append]
              rfl
            have e1 : ∀ ys : Array Value, (#[Value.iface t x] ++ ys).extract 1 (#[Value.iface t x] ++ ys).size = ys := fun ys => by
              apply Array.toList_inj.1
              simp [Array.toList_extract, List.extract]
            simp only [execOp, Go.resolve, hcal, hX, invoke, callMethod, Sem.run_bind, Sem.run_pure, Result.andThen_ok, e0, e1, run_program, hS.meth t m g hg x]
        · simp at h
      · simp at h
    · simp at h
end Go.Sx

/- THE ENGINE, 19: a region in the order of the text. -/
set_option linter.unusedSimpArgs false
set_option linter.unusedVariables false
namespace Go.Sx
variable {S : Sys} {P : Program} {R : Type}

theorem ARel.refine {E : GE} {s : List AV} {a : Act} (ha : ARel E s a) {d : Nat} {v : AV} {x : Value} (hx : a.tmps[d]? = some x) (hv : VRel E v x) : ARel E (s.set d v) a := by
  refine ⟨⟨by simpa using ha.tmps.1, ?_⟩, ha.defers⟩
  intro i u y hu hy
  simp only [List.getElem?_set] at hu
  by_cases e : d = i
  · subst e
    rw [if_pos rfl] at hu
    split at hu
    · simp only [Option.some.injEq] at hu
      subst hu
      rw [hx] at hy
      obtain rfl := Option.some.inj hy
      exact hv
    · simp at hu
  · rw [if_neg e] at hu
    exact ha.tmps.2 i u y hu hy

theorem tmp_bool {E : GE} {s : List AV} {a : Act} (ha : ARel E s a) {d : Nat} {t : Bool} (h : s[d]? = some (.bool t)) : a.tmps[d]? = some (.bool t) := by
  have hlt : d < s.length := by
    rcases Nat.lt_or_ge d s.length with h' | h'
    · exact h'
    · simp [List.getElem?_eq_none h'] at h
  have hlt' : d < a.tmps.size := ha.tmps.1 ▸ hlt
  have := ha.tmps.2 d _ a.tmps[d] h (by simp [hlt'])
  have e := rel_bool this
  simp [hlt', e]

theorem yielded_of {ops : Array Oper} {a : Act} {j d : Nat} {t : Bool} (hd : (ops[j]?).bind (·.dst) = some d) (h : a.tmps[d]? = some (.bool t)) : yielded ops a.tmps j = some t := by
  unfold yielded
  rw [hd]
  simp [h]

theorem rel_undef (E : GE) : VRel E (.tuple []) undef := .tuple [] #[] rfl (by simp)

theorem tmp_undef {E : GE} {s : List AV} {a : Act} (ha : ARel E s a) {d : Nat} (h : s[d]? = some (.tuple [])) : a.tmps[d]? = some (.tuple #[]) := by
  have hlt : d < s.length := by
    rcases Nat.lt_or_ge d s.length with h' | h'
    · exact h'
    · simp [List.getElem?_eq_none h'] at h
  have hlt' : d < a.tmps.size := ha.tmps.1 ▸ hlt
  have := ha.tmps.2 d _ a.tmps[d] h (by simp [hlt'])
  generalize hx : a.tmps[d] = x at this
  cases this with
  | tuple _ xs h1 _ =>
    have : xs = #[] := by
      obtain ⟨l⟩ := xs
      cases l with
      | nil => rfl
      | cons => simp at h1
    subst this
    simp [hlt', hx]

theorem yielded_undef {ops : Array Oper} {a : Act} {j d : Nat} (hd : (ops[j]?).bind (·.dst) = some d) (h : a.tmps[d]? = some (.tuple #[])) : yielded ops a.tmps j = none := by
  unfold yielded
  rw [hd]
  simp [h]

/-- An operation, or what stands in its place where its guard bars it. -/
theorem step_sound (ro : Option Nat) (hS : SysOK S P) {call : Caller} (hcall : CallOK S P call) {all : Array Oper} {o : Oper} {rest : List Oper} {s : List AV} {H : AH} {K : List AV → AH → Option R} {r : R} (h : opsK S call all (o :: rest) s H K = some r)
    {E : GE} {a : Act} (hr : Rel S H E) (ha : ARel E s a) (next : Act → World → Prop) (Q : Exit → Act → World → Prop)
    (hn : ∀ s' H' a' E', opsK S call all rest s' H' K = some r → E.le E' → Rel S H' E' → ARel E' s' a' → next a' E'.w) :
    (if Region.wanted o (yielded all a.tmps) = true then o.wpIn (WR ro) 0 P a E.w next Q else next (a.put o.dst undef) E.w) := by
  simp only [opsK] at h
  split at h
  · rename_i hg
    obtain ⟨v, H', h1, h2⟩ := op_sound ro hS hcall hr ha h
    rw [if_pos (by simp [Region.wanted, hg])]
    exact h2 next Q (fun x E' hle hr' hv => hn _ _ _ E' h1 hle hr' (put_rel (ha.mono hle) hv o.dst))
  · rename_i j want hg
    split at h
    · simp at h
    · rename_i d hd
      split at h
      · rename_i t ht
        have hb := tmp_bool ha ht
        have hy := yielded_of hd hb
        have h' := br_some h
        clear h
        rcases h' with ⟨rfl, h⟩ | ⟨rfl, h⟩
        · have ha' : ARel E (s.set d (.bool true)) a := ha.refine hb (.bool true)
          split at h
          · rename_i hw
            obtain ⟨v, H', h1, h2⟩ := op_sound ro hS hcall hr ha' h
            rw [if_pos (by simp [Region.wanted, hg, hy, hw])]
            exact h2 next Q (fun x E' hle hr' hv => hn _ _ _ E' h1 hle hr' (put_rel (ha'.mono hle) hv o.dst))
          · rename_i hw
            rw [if_neg (by simp [Region.wanted, hg, hy, hw])]
            exact hn _ _ _ E h (GE.le.refl E) hr (put_rel ha' (rel_undef E) o.dst)
        · have ha' : ARel E (s.set d (.bool false)) a := ha.refine hb (.bool false)
          split at h
          · rename_i hw
            rw [if_neg (by simp [Region.wanted, hg, hy, hw])]
            exact hn _ _ _ E h (GE.le.refl E) hr (put_rel ha' (rel_undef E) o.dst)
          · rename_i hw
            obtain ⟨v, H', h1, h2⟩ := op_sound ro hS hcall hr ha' h
            rw [if_pos (by simp [Region.wanted, hg, hy, hw])]
            exact h2 next Q (fun x E' hle hr' hv => hn _ _ _ E' h1 hle hr' (put_rel (ha'.mono hle) hv o.dst))
      · rename_i ht
        have hy := yielded_undef hd (tmp_undef ha ht)
        rw [if_neg (by simp [Region.wanted, hg, hy])]
        exact hn _ _ _ E h (GE.le.refl E) hr (put_rel ha (rel_undef E) o.dst)
      · simp at h

theorem ops_sound (ro : Option Nat) (hS : SysOK S P) {call : Caller} (hcall : CallOK S P call) {all : Array Oper} {K : List AV → AH → Option R} {r : R} (Q : Exit → Act → World → Prop) {E0 : GE} (hQ : ∀ s' H' a' E', K s' H' = some r → E0.le E' → Rel S H' E' → ARel E' s' a' → Q .normal a' E'.w) :
    ∀ (rest : List Oper) (i : Nat), all.toList.drop i = rest → ∀ {s : List AV} {H : AH} {E : GE} {a : Act}, opsK S call all rest s H K = some r → E0.le E → Rel S H E → ARel E s a → wpOpsIn (WR ro) 0 P all Q (List.range' i rest.length) a E.w
  | [], i, _, s, H, E, a, h, hle, hr, ha => hQ s H a E h hle hr ha
  | o :: rest, i, hd, s, H, E, a, h, hle, hr, ha => by
    have ho : all[i]? = some o := by
      have : (all.toList.drop i)[0]? = some o := by rw [hd]; rfl
      simpa using this
    have hd' : all.toList.drop (i + 1) = rest := by
      have : (all.toList.drop i).drop 1 = rest := by rw [hd]; rfl
      rwa [List.drop_drop] at this
    have h1 := step_sound ro hS hcall h hr ha (wpOpsIn (WR ro) 0 P all Q (List.range' (i + 1) rest.length)) Q (fun s' H' a' E' h1 h2 h3 h4 => ops_sound ro hS hcall Q hQ rest (i + 1) hd' h1 (hle.trans h2) h3 h4)
    show wpOpsIn (WR ro) 0 P all Q (i :: List.range' (i + 1) rest.length) a E.w
    simp only [wpOpsIn, ho]
    split at h1
    · rename_i hw; rw [if_pos hw]; exact h1
    · rename_i hw; rw [if_neg hw]; exact ⟨fun _ _ => trivial, h1⟩


/-! ### With operations that panic -/

/-- How code is left, in the machine. -/
inductive ExR (E : GE) : Ex → Exit → Prop
  | normal : ExR E .normal .normal
  | exit (id : Nat) : ExR E (.exit id) (.exit id)
  | ret : ExR E .ret .ret
  | goto (l : Nat) : ExR E (.goto l) (.goto l)
  | panic (v : AV) (x : Value) (h : VRel E v x) : ExR E (.panic v) (.panic [{ v := x, recovered := false }])

theorem stepX_sound (ro : Option Nat) (hS : SysOK S P) {call : Caller} (hcall : CallOK S P call) {all : Array Oper} {o : Oper} {s : List AV} {H : AH} {ex : Ex} {s1 : List AV} {H1 : AH} (h : stepX S call all o s H = some (ex, s1, H1))
    {E : GE} {a : Act} (hr : Rel S H E) (ha : ARel E s a) (next : Act → World → Prop) (Q : Exit → Act → World → Prop)
    (hn : ex = .normal → ∀ a' E', E.le E' → Rel S H1 E' → ARel E' s1 a' → next a' E'.w)
    (hp : ∀ v, ex = .panic v → ∀ x E', E.le E' → Rel S H1 E' → VRel E' v x → ARel E' s1 a → Q (.panic [{ v := x, recovered := false }]) a E'.w) :
    (if Region.wanted o (yielded all a.tmps) = true then o.wpIn (WR ro) 0 P a E.w next Q else next (a.put o.dst undef) E.w) := by
  unfold stepX wantD at h
  have go : (match panOf S call s H o with
      | some p => some (Ex.panic p.1, s, p.2)
      | none => opK S call s H o fun v H => some (Ex.normal, putD o.dst s v, H)) = some (ex, s1, H1) → o.wpIn (WR ro) 0 P a E.w next Q := by
    intro h
    split at h
    · rename_i p hpo
      simp only [Option.some.injEq, Prod.mk.injEq] at h
      obtain ⟨rfl, rfl, rfl⟩ := h
      exact pan_sound ro hS hcall hr ha hpo next Q fun x E' hle hr' hv => hp _ rfl x E' hle hr' hv (ha.mono hle)
    · obtain ⟨v, H', h1, h2⟩ := op_sound ro hS hcall hr ha h
      simp only [Option.some.injEq, Prod.mk.injEq] at h1
      obtain ⟨rfl, rfl, rfl⟩ := h1
      exact h2 next Q (fun x E' hle hr' hv => hn rfl _ E' hle hr' (put_rel (ha.mono hle) hv o.dst))
  cases hg : o.guard with
  | none =>
    rw [hg] at h
    rw [if_pos (by simp [Region.wanted, hg])]
    exact go h
  | some g =>
    obtain ⟨j, want⟩ := g
    rw [hg] at h
    simp only at h
    cases hd : (all[j]?).bind (·.dst) with
    | none => rw [hd] at h; simp at h
    | some d =>
      rw [hd] at h
      simp only at h
      split at h
      · rename_i hw
        split at hw
        · rename_i t ht
          simp only [Option.some.injEq] at hw
          have hy := yielded_of hd (tmp_bool ha ht)
          rw [if_pos (by simp only [Region.wanted, hg, hy]; simpa using hw)]
          exact go h
        · simp at hw
        · simp at hw
      · rename_i hw
        simp only [Option.some.injEq, Prod.mk.injEq] at h
        obtain ⟨rfl, rfl, rfl⟩ := h
        have hno : Region.wanted o (yielded all a.tmps) = false := by
          split at hw
          · rename_i t ht
            simp only [Option.some.injEq] at hw
            have hy := yielded_of hd (tmp_bool ha ht)
            simp only [Region.wanted, hg, hy]
            simpa using hw
          · rename_i ht
            have hy := yielded_undef hd (tmp_undef ha ht)
            simp [Region.wanted, hg, hy]
          · simp at hw
        rw [if_neg (by rw [hno]; simp)]
        exact hn rfl _ E (GE.le.refl E) hr (put_rel ha (rel_undef E) o.dst)
      · simp at h

theorem stepX_ex {call : Caller} {all : Array Oper} {o : Oper} {s : List AV} {H : AH} {q : Out} (h : stepX S call all o s H = some q) : q.1 = .normal ∨ ∃ v, q.1 = .panic v := by
  unfold stepX at h
  split at h
  · split at h
    · simp only [Option.some.injEq] at h; subst h; exact .inr ⟨_, rfl⟩
    · rw [opK_nat] at h
      obtain ⟨p, -, e⟩ := optK_inv h
      simp only [Option.some.injEq] at e
      exact .inl (by rw [← e])
  · simp only [Option.some.injEq] at h; subst h; exact .inl rfl
  · simp at h

theorem runX_sound (ro : Option Nat) (hS : SysOK S P) {call : Caller} (hcall : CallOK S P call) {all : Array Oper} {ex : Ex} {s1 : List AV} {H1 : AH} (Q : Exit → Act → World → Prop) {E0 : GE}
    (hQ : ex = .normal → ∀ a' E', E0.le E' → Rel S H1 E' → ARel E' s1 a' → Q .normal a' E'.w)
    (hP : ∀ v, ex = .panic v → ∀ a' x E', E0.le E' → Rel S H1 E' → VRel E' v x → ARel E' s1 a' → Q (.panic [{ v := x, recovered := false }]) a' E'.w) :
    ∀ (rest : List Oper) (i : Nat), all.toList.drop i = rest → ∀ {s : List AV} {H : AH} {E : GE} {a : Act}, runX S call all rest s H = some (ex, s1, H1) → E0.le E → Rel S H E → ARel E s a → wpOpsIn (WR ro) 0 P all Q (List.range' i rest.length) a E.w
  | [], i, _, s, H, E, a, h, hle, hr, ha => by
    simp only [runX, Option.some.injEq, Prod.mk.injEq] at h
    obtain ⟨rfl, rfl, rfl⟩ := h
    exact hQ rfl a E hle hr ha
  | o :: rest, i, hd, s, H, E, a, h, hle, hr, ha => by
    have ho : all[i]? = some o := by
      have : (all.toList.drop i)[0]? = some o := by rw [hd]; rfl
      simpa using this
    have hd' : all.toList.drop (i + 1) = rest := by
      have : (all.toList.drop i).drop 1 = rest := by rw [hd]; rfl
      rwa [List.drop_drop] at this
    have h1 : (if Region.wanted o (yielded all a.tmps) = true then o.wpIn (WR ro) 0 P a E.w (wpOpsIn (WR ro) 0 P all Q (List.range' (i + 1) rest.length)) Q else wpOpsIn (WR ro) 0 P all Q (List.range' (i + 1) rest.length) (a.put o.dst undef) E.w) := by
      simp only [runX] at h
      cases hq : stepX S call all o s H with
      | none => rw [hq] at h; simp [thenX] at h
      | some q =>
        obtain ⟨qe, qs, qH⟩ := q
        rcases stepX_ex hq with e | ⟨v, e⟩
        · simp only at e
          subst e
          rw [hq] at h
          have h' : runX S call all rest qs qH = some (ex, s1, H1) := h
          refine stepX_sound ro hS hcall hq hr ha _ Q (fun _ a' E' h2 h3 h4 => runX_sound ro hS hcall Q hQ hP rest (i + 1) hd' h' (hle.trans h2) h3 h4) (fun v e => by simp at e)
        · simp only at e
          subst e
          rw [hq] at h
          simp only [thenX, Option.some.injEq, Prod.mk.injEq] at h
          obtain ⟨rfl, rfl, rfl⟩ := h
          refine stepX_sound ro hS hcall hq hr ha _ Q (fun e => by simp at e) (fun v' e x E' h2 h3 h4 h5 => ?_)
          exact hP v' e a x E' (hle.trans h2) h3 h4 h5
    show wpOpsIn (WR ro) 0 P all Q (i :: List.range' (i + 1) rest.length) a E.w
    simp only [wpOpsIn, ho]
    split at h1
    · rename_i hw; rw [if_pos hw]; exact h1
    · rename_i hw; rw [if_neg hw]; exact ⟨fun _ _ => trivial, h1⟩

theorem runX_ex {call : Caller} {all : Array Oper} : ∀ (l : List Oper) {s : List AV} {H : AH} {q : Out}, runX S call all l s H = some q → q.1 = .normal ∨ ∃ v, q.1 = .panic v
  | [], s, H, q, h => by
    simp only [runX, Option.some.injEq] at h
    subst h; exact .inl rfl
  | o :: l, s, H, q, h => by
    simp only [runX] at h
    cases hq : stepX S call all o s H with
    | none => rw [hq] at h; simp [thenX] at h
    | some p =>
      obtain ⟨pe, ps, pH⟩ := p
      rcases stepX_ex hq with e | ⟨v, e⟩
      · simp only at e
        subst e
        rw [hq] at h
        exact runX_ex l h
      · simp only at e
        subst e
        rw [hq] at h
        simp only [thenX, Option.some.injEq] at h
        subst h
        exact .inr ⟨v, rfl⟩

end Go.Sx

/- THE ENGINE, 20: what is forgotten. -/
set_option linter.unusedSimpArgs false
set_option linter.unusedVariables false
namespace Go.Sx
variable {S : Sys} {P : Program} {R : Type}

def GE.cut (E : GE) (n m : Nat) : GE := { E with nid := n, nt := m }

theorem belowL_get {n m : Nat} : ∀ (vs : List AV), belowL n m vs = true → ∀ (i : Nat) v, vs[i]? = some v → below n m v = true
  | [], _, i, v, h => by simp at h
  | u :: vs, h, 0, v, hv => by
    simp only [belowL, Bool.and_eq_true] at h
    simp only [List.getElem?_cons_zero, Option.some.injEq] at hv
    subst hv; exact h.1
  | u :: vs, h, i + 1, v, hv => by
    simp only [belowL, Bool.and_eq_true] at h
    exact belowL_get vs h.2 i v (by simpa using hv)

theorem below_cells {n m : Nat} {v : AV} (h : below n m v = true) : ∀ (i : Nat) c, v.cells[i]? = some c → below n m c = true := by
  intro i c hc
  by_cases ha : ∃ cs, v = .agg cs
  · obtain ⟨cs, rfl⟩ := ha
    simp only [below] at h
    exact belowL_get cs h i c hc
  · have hv : v.cells = [v] := by cases v <;> simp_all [AV.cells]
    rw [hv] at hc
    cases i with
    | zero => simp at hc; subst hc; exact h
    | succ i => simp at hc

theorem VRel.cut {E : GE} {n m : Nat} {v : AV} {x : Value} (hv : VRel E v x) (hb : Go.Sx.below n m v = true) : VRel (E.cut n m) v x := by
  revert hb
  induction hv with
  | top v => exact fun _ => .top v
  | bool b => exact fun _ => .bool b
  | int k n => exact fun _ => .int k n
  | str s => exact fun _ => .str s
  | ptr id off b hid h => intro hb; simp only [Go.Sx.below, decide_eq_true_eq] at hb; exact .ptr id off b hb h
  | nilptr => exact fun _ => .nilptr
  | rop v a x hx hr ih => intro hb; exact .rop v a x hx (fun j c hc => ih j c hc (below_cells (v := v) hb j c hc))
  | nils => exact fun _ => .nils
  | inl f p sz xs a cap x hsz hx hr hcap hf hp ih =>
    intro hb
    simp only [Go.Sx.below, Bool.and_eq_true] at hb
    refine .inl f p sz xs a cap x hsz hx (fun i v j c hi hc => ih i v j c hi hc (below_cells (belowL_get xs hb.2 i v hi) j c hc)) hcap hf ?_
    cases p with
    | unk => trivial
    | zero => exact hp
    | tok t g => exact ⟨show t < m by simpa using hb.1, hp.2.1, hp.2.2⟩
  | sl id off len cap sz ag b c hid h hl hc hag hcp => intro hb; simp only [Go.Sx.below, decide_eq_true_eq] at hb; exact .sl id off len cap sz ag b c hb h hl hc hag hcp
  | map id b hid h => intro hb; simp only [Go.Sx.below, decide_eq_true_eq] at hb; exact .map id b hb h
  | nilmap => exact fun _ => .nilmap
  | func fn as bs xs ys hfn h1 _ h3 _ ih2 ih4 =>
    intro hb
    have hb' : belowL n m as = true ∧ belowL n m bs = true := by
      unfold Go.Sx.below at hb
      split at hb <;> simp_all
    exact .func fn as bs xs ys hfn h1 (fun i v x a b => ih2 i v x a b (belowL_get as hb'.1 i v a)) h3 (fun i v x a b => ih4 i v x a b (belowL_get bs hb'.2 i v a))
  | yield id b hid h => intro hb; simp only [Go.Sx.below, Bool.and_eq_true, decide_eq_true_eq] at hb; exact .yield id b hb.1 h
  | nilfunc => exact fun _ => .nilfunc
  | iface t v x _ ih => intro hb; exact .iface t v x (ih hb)
  | niliface => exact fun _ => .niliface
  | agg cs xs h1 _ h3 ih => intro hb; exact .agg cs xs h1 (fun i v x a b => ih i v x a b (belowL_get cs hb i v a)) h3
  | tuple vs xs h1 _ ih => intro hb; exact .tuple vs xs h1 (fun i v x a b => ih i v x a b (belowL_get vs hb i v a))

theorem belowE_get {n m : Nat} : ∀ (es : List (AV × AV)), belowE n m es = true → ∀ (i : Nat) e, es[i]? = some e → below n m e.1 = true ∧ below n m e.2 = true
  | [], _, i, v, h => by simp at h
  | u :: vs, h, 0, v, hv => by
    simp only [belowE, Bool.and_eq_true] at h
    simp only [List.getElem?_cons_zero, Option.some.injEq] at hv
    subst hv; exact ⟨h.1, h.2.1⟩
  | u :: vs, h, i + 1, v, hv => by
    simp only [belowE, Bool.and_eq_true] at h
    exact belowE_get vs h.2.2 i v (by simpa using hv)

theorem belowO_get {n m : Nat} : ∀ (os : List AObj), belowO n m os = true → ∀ (i : Nat) o, os[i]? = some o → o.below n m = true
  | [], _, i, v, h => by simp at h
  | u :: vs, h, 0, v, hv => by
    simp only [belowO, Bool.and_eq_true] at h
    simp only [List.getElem?_cons_zero, Option.some.injEq] at hv
    subst hv; exact h.1
  | u :: vs, h, i + 1, v, hv => by
    simp only [belowO, Bool.and_eq_true] at h
    exact belowO_get vs h.2 i v (by simpa using hv)

theorem HRel.cut {H : AH} {E : GE} (h : HRel H E) {n m : Nat} (hn : n ≤ H.objs.length) (hm : m ≤ H.toks.length) (hb : belowO n m (H.objs.take n) = true) : HRel ⟨H.objs.take n, H.toks.take m⟩ (E.cut n m) := by
  have e1 := h.nid
  have e2 := h.nt
  have hown : ∀ b, (E.cut n m).owned b → E.owned b := by
    intro b hb
    rcases hb with ⟨id, hid, hρ⟩ | ⟨t, g, p, ht, hp, hpb⟩
    · exact .inl ⟨id, Nat.lt_of_lt_of_le (show _ < n from hid) (by omega), hρ⟩
    · exact .inr ⟨t, g, p, Nat.lt_of_lt_of_le (show _ < m from ht) (by omega), hp, hpb⟩
  have htk : ∀ (t : Nat) (p : Nat × Nat × TypeId), (H.toks.take m)[t]? = some p → H.toks[t]? = some p := by
    intro t p ht
    rw [List.getElem?_take] at ht
    split at ht
    · exact ht
    · simp at ht
  constructor
  · show n = _; simp; omega
  · show m = _; simp; omega
  · intro id o ho
    have hbel := belowO_get _ hb id o ho
    simp only [List.getElem?_take] at ho
    split at ho
    · cases h.obj id o ho with
      | cells cs b c el hb hh hl hc h1 hS' hcp =>
        simp only [AObj.below] at hbel
        exact .cells cs b c el hb hh hl (fun j v x a d => (hc j v x a d).cut (belowL_get cs hbel j v a)) h1 hS' hcp
      | miter0 b hb hh => exact .miter0 b hb hh
      | miter m' since seen last b k hm hk hb hh =>
        simp only [AObj.below, decide_eq_true_eq] at hbel
        exact .miter m' since seen last b k hbel hk hb hh
      | map es bs clock b ms hb hh hl hs hk hv =>
        simp only [AObj.below] at hbel
        exact .map es bs clock b ms hb hh hl hs (fun j e m a d => (hk j e m a d).cut (belowE_get es hbel j e a).1) (fun j e m a d => (hv j e m a d).cut (belowE_get es hbel j e a).2)
      | siter s pos b hb hh => exact .siter s pos b hb hh
      | loop s ps x y st b r hb hh h1 h2 h3 h4 h5 =>
        simp only [AObj.below] at hbel
        exact .loop s ps x y st b r hb hh ⟨h1.1, fun j v x a d => (h1.2 j v x a d).cut (belowL_get s hbel j v a)⟩ h2 h3 h4 h5
      | dead => exact .dead
      | tcells u cs b c hb hh hl hc h1 hS' =>
        simp only [AObj.below] at hbel
        exact .tcells u cs b c hb hh hl (fun j v x a d => (hc j v x a d).cut (belowL_get cs hbel j v a)) h1 hS'
      | unborn h0 h1 => exact .unborn h0 h1
    · simp at ho
  · intro i j b o1 o2 ho1 ho2
    simp only [List.getElem?_take] at ho1 ho2
    split at ho1
    · split at ho2
      · exact h.inj i j b o1 o2 ho1 ho2
      · simp at ho2
    · simp at ho1
  · intro t g sz u p ht hp
    exact h.tok t g sz u p (htk _ _ ht) hp
  · intro t g sz u g' ht
    exact h.late t g sz u g' (htk _ _ ht)
  · intro t g p id b ht hp hid
    exact h.tsep t g p id b (Nat.lt_of_lt_of_le (show _ < m from ht) (by omega)) hp (Nat.lt_of_lt_of_le (show _ < n from hid) (by omega))
  · intro t g p t' g' p' ht ht'
    exact h.tinj t g p t' g' p' (Nat.lt_of_lt_of_le (show _ < m from ht) (by omega)) (Nat.lt_of_lt_of_le (show _ < m from ht') (by omega))
  · intro t g p ht
    exact h.tbase t g p (Nat.lt_of_lt_of_le (show _ < m from ht) (by omega))
  · exact h.set
  · exact fun b hb => h.lt b (hown b hb)
  · exact h.hbase

theorem le_cut {E0 E : GE} (h : E0.le E) {n m : Nat} (hn : E0.nid ≤ n) (hm : E0.nt ≤ m) (hn' : n ≤ E.nid) (hm' : m ≤ E.nt) : E0.le (E.cut n m) where
  nid := hn
  ρ := h.ρ
  nt := hm
  τ := h.τ
  S := h.S
  cell := h.cell
  base := h.base
  cp := h.cp
  low := h.low
  snew := h.snew
  own := by
    intro b hb ho
    refine h.own b hb ?_
    rcases ho with ⟨id, hid, hρ⟩ | ⟨t, g, p, ht, hp, hpb⟩
    · exact .inl ⟨id, Nat.lt_of_lt_of_le hid hn', hρ⟩
    · exact .inr ⟨t, g, p, Nat.lt_of_lt_of_le ht hm', hp, hpb⟩
  os := h.os
  tape := h.tape
  output := h.output
  size := h.size
  block := h.block

theorem resetL_get : ∀ (s s' : List AV) (i : Nat) v, (resetL s s')[i]? = some v → s'[i]? = some v ∨ (v = .top ∧ (s'[i]?).isSome = true)
  | [], s', i, v, h => by simp [resetL, resetV] at h; exact .inl h
  | u :: s, [], i, v, h => by cases u <;> simp [resetL, resetV] at h
  | u :: s, w :: s', 0, v, h => by
    cases u <;> simp [resetL, resetV] at h ⊢ <;> first | exact .inl h | exact .inr h.symm | (subst h; simp)
  | u :: s, w :: s', i + 1, v, h => by
    have : (resetL s s')[i]? = some v := by cases u <;> simpa [resetL, resetV] using h
    simpa using resetL_get s s' i v this

theorem resetL_length : ∀ (s s' : List AV), (resetL s s').length = s'.length
  | [], s' => by simp [resetL, resetV]
  | u :: s, [] => by cases u <;> simp [resetL, resetV]
  | u :: s, w :: s' => by cases u <;> simp [resetL, resetV, resetL_length s s']

theorem ARel.reset {E : GE} {s s' : List AV} {a : Act} (h : ARel E s' a) : ARel E (resetL s s') a := by
  refine ⟨⟨by rw [resetL_length]; exact h.tmps.1, ?_⟩, h.defers⟩
  intro i v x hv hx
  rcases resetL_get s s' i v hv with h1 | ⟨rfl, _⟩
  · exact h.tmps.2 i v x h1 hx
  · exact .top _

theorem Marks.cut {E : GE} {n m : Nat} (hn : n ≤ E.nid) (hm : m ≤ E.nt) {ds : List Deferred} (h : Marks E ds) : Marks (E.cut n m) ds := by
  obtain ⟨h0, bs, h1, h2, h3⟩ := h
  refine ⟨h0, bs, h1, h2, fun b hb => ⟨(h3 b hb).1, (h3 b hb).2.1, fun ho => (h3 b hb).2.2 ?_⟩⟩
  rcases ho with ⟨id, hid, hρ⟩ | ⟨t, g, p, ht, hp, hpb⟩
  · exact .inl ⟨id, Nat.lt_of_lt_of_le hid hn, hρ⟩
  · exact .inr ⟨t, g, p, Nat.lt_of_lt_of_le ht hm, hp, hpb⟩

theorem ARel.cut {E : GE} {s : List AV} {a : Act} {n m : Nat} (hn : n ≤ E.nid) (hm : m ≤ E.nt) (h : ARel E s a) (hb : belowL n m s = true) : ARel (E.cut n m) s a :=
  ⟨⟨h.tmps.1, fun i v x hv hx => (h.tmps.2 i v x hv hx).cut (belowL_get s hb i v hv)⟩, h.defers.cut hn hm⟩

theorem ARel.cutS {E : GE} {s : List AV} {a : Act} {n m : Nat} (hn : n ≤ E.nid) (hm : m ≤ E.nt) (h : ARel E s a) : ARel (E.cut n m) (s.map (cutV n m)) a := by
  refine ⟨⟨by rw [List.length_map]; exact h.tmps.1, ?_⟩, h.defers.cut hn hm⟩
  intro i v x hv hx
  rw [List.getElem?_map] at hv
  obtain ⟨u, hu, rfl⟩ := Option.map_eq_some_iff.1 hv
  have := h.tmps.2 i u x hu hx
  unfold cutV
  cases hb : below n m u with
  | true => exact this.cut hb
  | false => exact .top _

theorem forget_sound {H H' : AH} {E E' : GE} {s' : List AV} {a' : Act} (hr : Rel S H E) (hle : E.le E') (hr' : Rel S H' E') (ha' : ARel E' s' a') :
    ∃ E2, E2.w = E'.w ∧ E.le E2 ∧ Rel S (forget H s' H').2 E2 ∧ ARel E2 (forget H s' H').1 a' := by
  unfold forget
  split
  · exact ⟨E', rfl, hle, hr', ha'⟩
  · split
    · rename_i hb
      have q1 := hle.nid
      have q2 := hle.nt
      have e1 := hr.h.nid
      have e2 := hr.h.nt
      have e3 := hr'.h.nid
      have e4 := hr'.h.nt
      have hle2 := le_cut hle (n := H.objs.length) (m := H'.toks.length) (by omega) (by omega) (by omega) (by omega)
      have h5 := hr'.h.cut (n := H.objs.length) (m := H'.toks.length) (by omega) (by omega) hb
      rw [List.take_length] at h5
      exact ⟨E'.cut H.objs.length H'.toks.length, rfl, hle2, hr.mono hle2 h5, ha'.cutS (by omega) (by omega)⟩
    · exact ⟨E', rfl, hle, hr', ha'⟩

/-- A round's end. -/
theorem back_sound (room : Nat) {H H' : AH} {E E' : GE} {s s' : List AV} {a' : Act} (hr : Rel S H E) (hle : E.le E') (hr' : Rel S H' E') (ha' : ARel E' s' a') :
    ∃ E2, E2.w = E'.w ∧ E.le E2 ∧ Rel S (back room s H s' H').2 E2 ∧ ARel E2 (back room s H s' H').1 a' := by
  unfold back
  split
  · exact ⟨E', rfl, hle, hr', ha'⟩
  split
  · exact ⟨E', rfl, hle, hr', ha'.reset⟩
  split
  · exact forget_sound hr hle hr' ha'.reset
  · exact forget_sound hr hle hr' ha'

theorem ARel.outS {E : GE} {s s' : List AV} {a : Act} (h : ARel E s' a) (room : Nat) : ARel E (outS room s s') a := by
  unfold Go.Sx.outS
  split
  · exact h.reset
  · exact h

theorem trunc_sound {H H' : AH} {E E' : GE} {v : AV} {x : Value} (hr : Rel S H E) (hle : E.le E') (hr' : Rel S H' E') (hv : VRel E' v x) :
    ∃ E2, E2.w = E'.w ∧ E.le E2 ∧ Rel S (trunc H (v, H')).2 E2 ∧ VRel E2 (trunc H (v, H')).1 x := by
  unfold trunc
  simp only
  split
  · exact ⟨E', rfl, hle, hr', hv⟩
  · split
    · rename_i hb
      simp only [Bool.and_eq_true] at hb
      have q1 := hle.nid
      have q2 := hle.nt
      have e1 := hr.h.nid
      have e2 := hr.h.nt
      have e3 := hr'.h.nid
      have e4 := hr'.h.nt
      have hle2 := le_cut hle (n := H.objs.length) (m := H.toks.length) (by omega) (by omega) (by omega) (by omega)
      exact ⟨E'.cut H.objs.length H.toks.length, rfl, hle2, hr.mono hle2 (hr'.h.cut (by omega) (by omega) hb.2), hv.cut hb.1⟩
    · exact ⟨E', rfl, hle, hr', hv⟩

end Go.Sx

/- THE ENGINE, 20b: memory beside the objects; the records of loops over functions. -/
set_option linter.unusedSimpArgs false
set_option linter.unusedVariables false
namespace Go.Sx
variable {S : Sys} {P : Program}

/-- Memory that is neither ours nor settled may turn. -/
theorem HRel.still {H : AH} {E : GE} (h : HRel H E) {w' : World} (hb : ∀ b, E.owned b ∨ (∃ o, E.S b o) → w'.heap[b]? = E.w.heap[b]?) (hs : E.w.heap.size ≤ w'.heap.size) : E.pre (E.at w') ∧ HRel H (E.at w') := by
  have hp : E.pre (E.at w') := ⟨Nat.le_refl _, fun _ _ _ h => h, Nat.le_refl _, fun _ _ _ _ h => h, fun _ _ h => h, fun b o hS => cell_of_block (hb b (.inr ⟨o, hS⟩)), rfl, fun _ _ => rfl⟩
  refine ⟨hp, ?_⟩
  constructor
  · exact h.nid
  · exact h.nt
  · intro id o hi
    exact (h.obj id o hi).pmono hp (h.idlt hi) (fun b hρ => hb b (.inl (.inl ⟨id, h.idlt hi, hρ⟩))) (fun _ _ _ h => h)
  · exact h.inj
  · intro t g sz u p ht' hp
    obtain ⟨k, e, ce, c, rfl, h2, h3⟩ := h.tok t g sz u p ht' hp
    exact ⟨k, e, ce, c, rfl, (hb k (.inl (.inr ⟨t, g, _, h.tlt ht', hp, rfl⟩))).trans h2, h3⟩
  · exact h.late
  · exact h.tsep
  · exact h.tinj
  · exact h.tbase
  · intro b o hS
    have := h.set b o hS
    show (w'.cell? _).isSome = true
    rw [cell_of_block (hb b (.inr ⟨o, hS⟩))]; exact this
  · intro b hb'
    exact Nat.lt_of_lt_of_le (h.lt b hb') hs
  · exact Nat.le_trans h.hbase hs

theorem Rel.pmono {H H' : AH} {E E' : GE} (hr : Rel S H E) (hp : E.pre E') (h' : HRel H' E') (hx : ∀ p, p ∈ S.fixed → Fixed E' p) : Rel S H' E' := ⟨h', fun n => (hr.g n).pmono hp, hx⟩
theorem Fixed.still {E : GE} {w' : World} (hb : ∀ b, E.owned b ∨ (∃ o, E.S b o) → w'.heap[b]? = E.w.heap[b]?) {p : Nat × Array Value} (h : Fixed E p) : Fixed (E.at w') p := by
  obtain ⟨⟨el, fr, h1⟩, h2, h3⟩ := h
  exact ⟨⟨el, fr, (hb _ (.inr h3)).trans h1⟩, h2, h3⟩

theorem le_alloc {H : AH} {E : GE} (h : HRel H E) (o : Obj) : E.le (E.at (E.w.alloc o)) where
  nid := Nat.le_refl _
  ρ := fun _ _ _ h => h
  nt := Nat.le_refl _
  τ := fun _ _ _ _ h => h
  S := fun _ _ h => h
  cell := fun b o' hS => cell_of_block (alloc_block _ _ _ (h.Slt b o' hS))
  base := rfl
  cp := fun _ _ => rfl
  low := rfl
  snew := fun _ _ h => .inl h
  own := fun _ _ h => h
  os := rfl
  tape := rfl
  output := rfl
  size := by show E.w.heap.size ≤ (E.w.heap.push o).size; simp
  block := fun b hb _ => alloc_block _ _ _ hb

theorem HRel.alloc {H : AH} {E : GE} (h : HRel H E) (o : Obj) : HRel H (E.at (E.w.alloc o)) :=
  (h.still (fun b hb => alloc_block _ _ _ (by rcases hb with hb | ⟨o', hb⟩; exact h.lt b hb; exact h.Slt b o' hb)) (by show E.w.heap.size ≤ (E.w.heap.push o).size; simp)).2

/-- Memory from E0's time on that is not ours may turn. -/
theorem le_still {H : AH} {E0 E : GE} (hr : HRel H E) (h : E0.le E) {b : Nat} (hb : E0.w.heap.size ≤ b) (hS : ∀ o, ¬ E.S b o) {w' : World} (hw : Only b E.w w') : E0.le (E.at w') where
  nid := h.nid
  ρ := h.ρ
  nt := h.nt
  τ := h.τ
  S := h.S
  cell := by
    intro k o hk
    have hk' := h.S k o hk
    have : k ≠ b := fun e => hS o (e ▸ hk')
    exact (cell_of_block (hw.block k this)).trans (h.cell k o hk)
  base := h.base
  cp := h.cp
  low := h.low
  snew := h.snew
  own := h.own
  os := hw.os.trans h.os
  tape := hw.tape.trans h.tape
  output := hw.output.trans h.output
  size := by show E0.w.heap.size ≤ w'.heap.size; rw [hw.size]; exact h.size
  block := by
    intro k hk hn
    have : k ≠ b := by omega
    exact (hw.block k this).trans (h.block k hk hn)

theorem only_put {w : World} {b : Nat} (o : Obj) : Only b w (w.putObj b o) := ⟨rfl, rfl, rfl, World.putObj_size, fun k hk => World.putObj_heap_other hk⟩

theorem no_settled {H : AH} {E : GE} (h : HRel H E) {b : Nat} {o : Obj} (ho : E.w.heap[b]? = some o) (hc : ∀ c el fr, o ≠ .cells c el fr) : ∀ k, ¬ E.S b k := by
  intro k hk
  have := h.set b k hk
  simp only [World.cell?, ho] at this
  cases o <;> simp at this
  exact hc _ _ _ rfl

/-- The state with another floor for marks. -/
def GE.lowed (E : GE) (n : Low) : GE := { E with low := n }
theorem pre_lowed (E : GE) (n : Low) : E.pre (E.lowed n) := ⟨Nat.le_refl _, fun _ _ _ h => h, Nat.le_refl _, fun _ _ _ _ h => h, fun _ _ h => h, fun _ _ _ => rfl, rfl, fun _ _ => rfl⟩
theorem HRel.lowed {H : AH} {E : GE} (h : HRel H E) (n : Low) : HRel H (E.lowed n) :=
  ⟨h.nid, h.nt, fun id o hi => (h.obj id o hi).pmono (pre_lowed E n) (h.idlt hi) (fun _ _ => rfl) (fun _ _ _ h => h), h.inj, h.tok, h.late, h.tsep, h.tinj, h.tbase, h.set, h.lt, h.hbase⟩
theorem Rel.lowed {H : AH} {E : GE} (h : Rel S H E) (n : Low) : Rel S H (E.lowed n) := h.pmono (pre_lowed E n) (h.h.lowed n) h.x
theorem le_lowed {E E' : GE} {n : Low} (h : (E.lowed n).le E') : E.le (E'.lowed E.low) where
  nid := h.nid
  ρ := h.ρ
  nt := h.nt
  τ := h.τ
  S := h.S
  cell := h.cell
  base := h.base
  cp := h.cp
  low := rfl
  snew := h.snew
  own := h.own
  os := h.os
  tape := h.tape
  output := h.output
  size := h.size
  block := h.block

theorem stepR_scope {b : Frame} {a : Act} {k : List Item} {cs : List Frame} {w : World} {c : Code} : step P (lone (b.atR a (.code (.scope c) :: k)) cs w) = .next (lone (b.atR a (.code c :: .inScope c :: k)) cs w) :=
  step_lone_go (by simp [stepG, stepG.exec, Frame.atR])
theorem stepR_inScope {b : Frame} {a : Act} {k : List Item} {cs : List Frame} {w : World} {c : Code} : step P (lone (b.atR a (.inScope c :: k)) cs w) = .next (lone (b.atR a k) cs w) :=
  step_lone_go (by simp [stepG, stepG.exec, Frame.atR])

theorem wpIn_scope_straight {F : Fence} {n : Nat} {Q : Exit → Act → World → Prop} {a : Act} {w : World} {c : Code} (h : c.wpIn F n P (Exit.noGoto Q) a w) : (Code.scope c).wpIn F n P Q a w := by
  intro b k cs hro hb hr
  obtain ⟨e, a₁, w₁, hq, harr⟩ := h b (.inScope c :: k) cs hro hb hr
  have s0 : StepsIn (Machine.fenced P F) P (lone (b.atR a (.code (.scope c) :: k)) cs w) (lone (b.atR a (.code c :: .inScope c :: k)) cs w) := .one (fenced_calm hb hr rfl) stepR_scope
  cases e with
  | normal => exact ⟨.normal, a₁, w₁, hq, StepsIn.trans s0 (StepsIn.trans harr (.one (fenced_calm hb hr rfl) stepR_inScope))⟩
  | exit id =>
    refine ⟨.exit id, a₁, w₁, hq, fun k' hk => StepsIn.trans s0 (harr.1 k' (by simp [exitTo, hk])), fun hro' hk => ?_⟩
    obtain ⟨k₁, h1, h2⟩ := harr.2 hro' (by simp [exitTo, hk])
    exact ⟨k₁, h1, StepsIn.trans s0 h2⟩
  | goto l => exact hq.elim
  | ret => exact ⟨_, a₁, w₁, hq, .of_steps s0 harr⟩
  | panic ch => exact ⟨_, a₁, w₁, hq, .of_steps s0 harr⟩
  | outgrown => exact ⟨_, a₁, w₁, hq, .of_steps s0 harr⟩

/-- A scope, with one jump to a label of its own. -/
theorem wpIn_scope_jump {F : Fence} {n : Nat} {Q Q1 : Exit → Act → World → Prop} {a : Act} {w : World} {c : Code} (h : c.wpIn F n P Q1 a w)
    (hq : ∀ e a1 w1, Q1 e a1 w1 → match e with | .goto l => ∃ rest, findLabel c l = some rest ∧ rest.wpIn F n P (Exit.noGoto Q) a1 w1 | e => Q e a1 w1) : (Code.scope c).wpIn F n P Q a w := by
  intro b k cs hro hb hr
  obtain ⟨e, a₁, w₁, hq1, harr⟩ := h b (.inScope c :: k) cs hro hb hr
  have s0 : StepsIn (Machine.fenced P F) P (lone (b.atR a (.code (.scope c) :: k)) cs w) (lone (b.atR a (.code c :: .inScope c :: k)) cs w) := .one (fenced_calm hb hr rfl) stepR_scope
  have hq2 := hq e a₁ w₁ hq1
  cases e with
  | normal => exact ⟨.normal, a₁, w₁, hq2, StepsIn.trans s0 (StepsIn.trans harr (.one (fenced_calm hb hr rfl) stepR_inScope))⟩
  | exit id =>
    refine ⟨.exit id, a₁, w₁, hq2, fun k' hk => StepsIn.trans s0 (harr.1 k' (by simp [exitTo, hk])), fun hro' hk => ?_⟩
    obtain ⟨k₁, h1, h2⟩ := harr.2 hro' (by simp [exitTo, hk])
    exact ⟨k₁, h1, StepsIn.trans s0 h2⟩
  | goto l =>
    obtain ⟨rest, hf, hrest⟩ := hq2
    have hg : gotoIn l (.inScope c :: k) = some (.code rest :: .inScope c :: k) := by simp [gotoIn, hf]
    have s1 := StepsIn.trans s0 (harr.1 _ hg)
    obtain ⟨e2, a2, w2, hq3, harr2⟩ := hrest b (.inScope c :: k) cs hro hb hr
    cases e2 with
    | normal => exact ⟨.normal, a2, w2, hq3, StepsIn.trans s1 (StepsIn.trans harr2 (.one (fenced_calm hb hr rfl) stepR_inScope))⟩
    | exit id =>
      refine ⟨.exit id, a2, w2, hq3, fun k' hk => StepsIn.trans s1 (harr2.1 k' (by simp [exitTo, hk])), fun hro' hk => ?_⟩
      obtain ⟨k₁, h1, h2⟩ := harr2.2 hro' (by simp [exitTo, hk])
      exact ⟨k₁, h1, StepsIn.trans s1 h2⟩
    | goto l' => exact hq3.elim
    | ret => exact ⟨_, a2, w2, hq3, .of_steps s1 harr2⟩
    | panic ch => exact ⟨_, a2, w2, hq3, .of_steps s1 harr2⟩
    | outgrown => exact ⟨_, a2, w2, hq3, .of_steps s1 harr2⟩
  | ret => exact ⟨_, a₁, w₁, hq2, .of_steps s0 harr⟩
  | panic ch => exact ⟨_, a₁, w₁, hq2, .of_steps s0 harr⟩
  | outgrown => exact ⟨_, a₁, w₁, hq2, .of_steps s0 harr⟩

end Go.Sx

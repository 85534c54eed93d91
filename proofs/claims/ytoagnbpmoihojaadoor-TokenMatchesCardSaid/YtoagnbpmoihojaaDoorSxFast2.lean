/- THE ENGINE, 32: the evaluator for the kernel. Each operation's work is a constant of its own, so that little is copied as it is unfolded. -/
import Derived.Test.YtoagnbpmoihojaaDoorSxFast
set_option linter.unusedSimpArgs false
set_option linter.unusedVariables false
namespace Go.Sx

abbrev OutV := Option (AV × AH)
abbrev Hd := Sys → Caller → (Operand → AV) → AH → OutV

noncomputable def hMove (x : Operand) : Hd := fun _ _ e H => some (e x, H)
noncomputable def hPick (c a b : Operand) : Hd := fun _ _ e H => match e c with
  | .bool t => br t (fun _ => pairK (e a) H) (fun _ => pairK (e b) H)
  | _ => none
noncomputable def tyE (S : Sys) (t : TypeId) (k : TI → OutV) : OutV := match S.T t with | some i => k i | none => none
noncomputable def newE (o : AObj) (H : AH) : OutV := forceL (H.objs ++ [o]) fun os => some (.ptr H.objs.length 0, { H with objs := os })
noncomputable def allocE (H : AH) (i : TI) : OutV := if i.zero.cells.length = i.size then newE (.cells i.zero.cells) H else none
noncomputable def hAlloc (t : TypeId) : Hd := fun S _ _ H => tyE S t (allocE H)
noncomputable def boxE (v : AV) (H : AH) : OutV := if v.solid then newE (.cells v.cells) H else none
noncomputable def hBox (x : Operand) : Hd := fun _ _ e H => boxE (e x) H
noncomputable def buildE (S : Sys) (ps : List (Nat × AV)) (H : AH) (i : TI) : OutV := if ps.all fun p => p.2.solid then buildK i S.T ps fun v => pairK v H else none
noncomputable def evPs (e : Operand → AV) (ps : Array (Nat × Operand)) : List (Nat × AV) := ps.toList.map fun p => (p.1, e p.2)
noncomputable def hBuild (t : TypeId) (ps : Array (Nat × Operand)) : Hd := fun S _ e H => tyE S t (buildE S (evPs e ps) H)
noncomputable def hBuildSlice (t : TypeId) (n : Nat) (ps : Array (Nat × Operand)) : Hd := fun S _ e H => tyE S t fun i => buildSliceK S H i n (evPs e ps) pairK
noncomputable def hLoad (t : TypeId) (a : Operand) : Hd := fun S _ e H => tyE S t fun i => loadK H i (e a) fun v => pairK v H
noncomputable def stE (H : AH) (a v : AV) (i : TI) : OutV := if v.solid then storeK H i a v fun H => forceH H fun H => some (.top, H) else none
noncomputable def hStore (t : TypeId) (a x : Operand) : Hd := fun S _ e H => tyE S t (stE H (e a) (e x))
noncomputable def hNil (x : Operand) : Hd := fun _ _ e H => match e x with
  | .ptr id off => some (.ptr id off, H)
  | .rop v => some (.rop v, H)
  | _ => none
noncomputable def hBin (op : BinOp) (t : TypeId) (x y : Operand) : Hd := fun S _ e H => binK S.T op t (e x) (e y) fun v => pairK v H
noncomputable def hUn (op : UnOp) (x : Operand) : Hd := fun _ _ e H => unK op (e x) fun v => pairK v H
noncomputable def hGen (o : Oper) : Hd := fun S call e H => none
noncomputable def hNone : Hd := fun _ _ _ _ => none
noncomputable def hFunc (fn : Fn) (a b : Array Operand) : Hd := fun _ _ e H => match fn with
  | .func f => some (.func (.func f) (a.toList.map e) (b.toList.map e), H)
  | _ => none
noncomputable def hConv (a b : TypeId) (x : Operand) : Hd := fun S _ e H => convK S H a b (e x) pairK
noncomputable def hRange (t : TypeId) (x : Operand) : Hd := fun S _ e H => tyE S t fun i => rangeStrK H i (e x) pairK
noncomputable def forceP (n : Nat) (c : Int) (k : Nat → Int → OutV) : OutV := force n fun n => forceI c fun c => k n c
noncomputable def hNext (x : Operand) (isS : Bool) : Hd := fun _ _ e H => nextK H (e x) isS pairK
noncomputable def hIface (t : TypeId) (x : Operand) : Hd := fun S _ e H => tyE S t fun i => match i.k with
    | .iface => none
    | _ => pairK (.iface t (e x)) H
noncomputable def hMap (r : Option Operand) : Hd := fun _ _ _ H => match r with
  | none => forceL (H.objs ++ [.map []]) fun os => some (.map H.objs.length, { H with objs := os })
  | _ => none
noncomputable def hMakeSlice (t : TypeId) (l c : Operand) : Hd := fun S _ e H => tyE S t fun i => makeSliceK S H i (e l) (e c) pairK
noncomputable def hSlice (t : TypeId) (x : Operand) (lo hi mx : Option Operand) : Hd := fun S _ e H => tyE S t fun i => sliceK i S.T (e x) (lo.map e) (hi.map e) (mx.map e) fun v => pairK v H
noncomputable def hFieldAddr (t : TypeId) (x : Operand) (f : Nat) : Hd := fun S _ e H => tyE S t fun i => fieldAddrK i S.T (e x) f fun v => pairK v H
noncomputable def hField (t : TypeId) (x : Operand) (f : Nat) : Hd := fun S _ e H => tyE S t fun i => fieldK i S.T (e x) f fun v => pairK v H
noncomputable def hIndexAddr (t : TypeId) (x ix : Operand) : Hd := fun S _ e H => tyE S t fun i => indexAddrK i S.T (e x) (e ix) fun v => pairK v H
noncomputable def hIndex (t : TypeId) (x ix : Operand) : Hd := fun S _ e H => tyE S t fun i => indexK i S.T (e x) (e ix) fun v => pairK v H
noncomputable def hLookup (t : TypeId) (x ix : Operand) (ok : Bool) : Hd := fun S _ e H => tyE S t fun i => lookupK S H i (e x) (e ix) ok fun v => pairK v H
noncomputable def hUpdate (t : TypeId) (m k x : Operand) : Hd := fun S _ e H => tyE S t fun i => mapUpdateK S H i (e m) (e k) (e x) fun H => forceH H fun H => some (.top, H)
noncomputable def hExtract (x : Operand) (ix : Nat) : Hd := fun _ _ e H => match e x with
    | .tuple vs => match vs[ix]? with
      | some v => some (v, H)
      | none => none
    | _ => none
noncomputable def hCall (c : Call) : Hd := fun S call e H => match c.callee with
    | .value f => callFn call (e f) (c.args.toList.map e) H pairK
    | .builtin b => builtinK S H b c.argTypes (c.args.toList.map e) pairK
    | .invoke _ _ => none

noncomputable def opE (op : Op) : Hd :=
  match op with
  | .move x | .assign x => hMove x
  | .pick c a b => hPick c a b
  | .alloc t => hAlloc t
  | .box _ x => hBox x
  | .build t ps => hBuild t ps
  | .buildSlice t n ps => hBuildSlice t n ps
  | .load t a => hLoad t a
  | .store t a x => hStore t a x
  | .nilCheck x => hNil x
  | .binOp op t x y _ => hBin op t x y
  | .unOp op _ x => hUn op x
  | .convert a b x => hConv a b x
  | .range t x => hRange t x
  | .next x isS => hNext x isS
  | .makeInterface t x => hIface t x
  | .makeFunc fn a b => hFunc fn a b
  | .makeMap _ r => hMap r
  | .makeSlice t l c => hMakeSlice t l c
  | .slice t x lo hi mx => hSlice t x lo hi mx
  | .fieldAddr t x f => hFieldAddr t x f
  | .field t x f => hField t x f
  | .indexAddr t x ix => hIndexAddr t x ix
  | .index t x ix => hIndex t x ix
  | .lookup t x ix ok => hLookup t x ix ok
  | .mapUpdate t m k x | .insert t m k x => hUpdate t m k x
  | .extract x ix => hExtract x ix
  | .call c => hCall c
  | _ => hNone

theorem opE_eq (S : Sys) (call : Caller) (s : List AV) (H : AH) (o : Oper) : opE o.op S call (ev S.G s) H = opK S call s H o pairK := by
  obtain ⟨dst, op, type, pos, after, guard⟩ := o
  unfold opK
  cases op <;> simp only [opE, hMove, hPick, hAlloc, hBox, hBuild, hBuildSlice, hLoad, hStore, hNil, hBin, hUn, hNone, hFunc, hConv, hRange, hNext, hIface, hMap, hMakeSlice, hSlice, hFieldAddr, hField, hIndexAddr, hIndex, hLookup, hUpdate, hExtract, hCall, tyE, allocE, newE, boxE, buildE, evPs, stE, forceL_eq, forceH_eq, newK] <;> try rfl
  case makeMap t r => cases r <;> rfl

end Go.Sx

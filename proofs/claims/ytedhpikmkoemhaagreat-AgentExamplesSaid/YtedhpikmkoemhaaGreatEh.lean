/- THE ENGINE, 31: the same, for the kernel: small terms, slots in a tree, values worked out as they are made. -/
import Derived.Test.YtedhpikmkoemhaaGreatEf
set_option linter.unusedSimpArgs false
set_option linter.unusedVariables false
namespace Go.Sx
variable {R : Type}

/-! ### Slots -/
inductive Tv where
  | nil
  | node (l : Tv) (v : AV) (r : Tv)

noncomputable def Tv.get (t : Tv) : Nat → AV :=
  Tv.rec (motive := fun _ => Nat → AV) (fun _ => .top) (fun _ v _ gl gr n => Nat.casesOn n v fun m => Bool.casesOn (Nat.beq (m % 2) 0) (gr (m / 2)) (gl (m / 2))) t

noncomputable def Tv.setK (t : Tv) (v : AV) : Nat → (Tv → R) → R :=
  Tv.rec (motive := fun _ => Nat → (Tv → R) → R) (fun _ k => k .nil)
    (fun l u r sl sr n k => Nat.casesOn n (k (.node l v r)) fun m => Bool.casesOn (Nat.beq (m % 2) 0) (sr (m / 2) fun r' => k (.node l u r')) (sl (m / 2) fun l' => k (.node l' u r))) t

def Tv.full : Nat → Tv
  | 0 => .nil
  | d + 1 => .node (Tv.full d) .top (Tv.full d)

inductive Tv.Has : Tv → Nat → Prop
  | root (l v r) : Has (.node l v r) 0
  | left (l v r m) (h : Has l (m / 2)) (e : m % 2 = 0) : Has (.node l v r) (m + 1)
  | right (l v r m) (h : Has r (m / 2)) (e : m % 2 ≠ 0) : Has (.node l v r) (m + 1)

theorem Tv.get_root (l r : Tv) (v : AV) : (Tv.node l v r).get 0 = v := rfl
theorem Tv.get_left (l r : Tv) (v : AV) (m : Nat) (h : m % 2 = 0) : (Tv.node l v r).get (m + 1) = l.get (m / 2) := by
  show Bool.casesOn (motive := fun _ => AV) (Nat.beq (m % 2) 0) (r.get (m / 2)) (l.get (m / 2)) = _
  rw [h]; rfl
theorem Tv.get_right (l r : Tv) (v : AV) (m : Nat) (h : m % 2 ≠ 0) : (Tv.node l v r).get (m + 1) = r.get (m / 2) := by
  show Bool.casesOn (motive := fun _ => AV) (Nat.beq (m % 2) 0) (r.get (m / 2)) (l.get (m / 2)) = _
  have : Nat.beq (m % 2) 0 = false := by
    cases hb : Nat.beq (m % 2) 0 with
    | false => rfl
    | true => exact absurd (Nat.eq_of_beq_eq_true hb) h
  rw [this]

def Tv.set (v : AV) : Tv → Nat → Tv
  | .nil, _ => .nil
  | .node l u r, 0 => .node l v r
  | .node l u r, m + 1 => if m % 2 = 0 then .node (l.set v (m / 2)) u r else .node l u (r.set v (m / 2))

theorem Tv.setK_eq (v : AV) : ∀ (t : Tv) (n : Nat) (k : Tv → R), t.setK v n k = k (t.set v n)
  | .nil, n, k => rfl
  | .node l u r, 0, k => rfl
  | .node l u r, m + 1, k => by
    show Bool.casesOn (motive := fun _ => R) (Nat.beq (m % 2) 0) (r.setK v (m / 2) fun r' => k (.node l u r')) (l.setK v (m / 2) fun l' => k (.node l' u r)) = _
    by_cases h : m % 2 = 0
    · rw [h]
      simp only [Tv.set, h, if_true]
      exact Tv.setK_eq v l (m / 2) _
    · have hb : Nat.beq (m % 2) 0 = false := by
        cases hb : Nat.beq (m % 2) 0 with
        | false => rfl
        | true => exact absurd (Nat.eq_of_beq_eq_true hb) h
      rw [hb]
      simp only [Tv.set, h, if_false]
      exact Tv.setK_eq v r (m / 2) _

theorem Tv.get_set_same (v : AV) : ∀ {t : Tv} {n : Nat}, t.Has n → (t.set v n).get n = v
  | _, _, .root l u r => rfl
  | _, _, .left l u r m h e => by
    simp only [Tv.set, e, if_true, Tv.get_left _ _ _ _ e]
    exact Tv.get_set_same v h
  | _, _, .right l u r m h e => by
    simp only [Tv.set, e, if_false, Tv.get_right _ _ _ _ e]
    exact Tv.get_set_same v h

theorem Tv.get_set_ne (v : AV) : ∀ (t : Tv) (n i : Nat), n ≠ i → (t.set v n).get i = t.get i
  | .nil, n, i, _ => rfl
  | .node l u r, 0, i + 1, _ => by
    simp only [Tv.set]
    by_cases h : i % 2 = 0
    · rw [Tv.get_left _ _ _ _ h, Tv.get_left _ _ _ _ h]
    · rw [Tv.get_right _ _ _ _ h, Tv.get_right _ _ _ _ h]
  | .node l u r, 0, 0, h => absurd rfl h
  | .node l u r, n + 1, 0, _ => by
    simp only [Tv.set]
    split <;> rfl
  | .node l u r, n + 1, i + 1, hne => by
    simp only [Tv.set]
    by_cases hn : n % 2 = 0 <;> by_cases hi : i % 2 = 0 <;> simp only [hn, if_true, if_false]
    · rw [Tv.get_left _ _ _ _ hi, Tv.get_left _ _ _ _ hi]
      exact Tv.get_set_ne v l _ _ (by omega)
    · rw [Tv.get_right _ _ _ _ hi, Tv.get_right _ _ _ _ hi]
    · rw [Tv.get_left _ _ _ _ hi, Tv.get_left _ _ _ _ hi]
    · rw [Tv.get_right _ _ _ _ hi, Tv.get_right _ _ _ _ hi]
      exact Tv.get_set_ne v r _ _ (by omega)

theorem Tv.has_set (v : AV) : ∀ (t : Tv) (n i : Nat), t.Has i → (t.set v n).Has i
  | .nil, n, i, h => h
  | .node l u r, 0, i, h => by
    cases h with
    | root => exact .root ..
    | left _ _ _ m h e => exact .left _ _ _ m h e
    | right _ _ _ m h e => exact .right _ _ _ m h e
  | .node l u r, n + 1, i, h => by
    simp only [Tv.set]
    split
    · cases h with
      | root => exact .root ..
      | left _ _ _ m h e => exact .left _ _ _ m (Tv.has_set v l _ _ h) e
      | right _ _ _ m h e => exact .right _ _ _ m h e
    · cases h with
      | root => exact .root ..
      | left _ _ _ m h e => exact .left _ _ _ m h e
      | right _ _ _ m h e => exact .right _ _ _ m (Tv.has_set v r _ _ h) e

theorem Tv.full_has : ∀ (d n : Nat), n + 1 < 2 ^ d → (Tv.full d).Has n
  | 0, n, h => by simp at h
  | d + 1, 0, _ => .root ..
  | d + 1, m + 1, h => by
    have : m / 2 + 1 < 2 ^ d := by rw [Nat.pow_succ] at h; omega
    by_cases e : m % 2 = 0
    · exact .left _ _ _ m (Tv.full_has d _ this) e
    · exact .right _ _ _ m (Tv.full_has d _ this) e

theorem Tv.full_get : ∀ (d n : Nat), (Tv.full d).get n = .top
  | 0, n => rfl
  | d + 1, 0 => rfl
  | d + 1, m + 1 => by
    by_cases e : m % 2 = 0
    · exact (Tv.get_left _ _ _ _ e).trans (Tv.full_get d _)
    · exact (Tv.get_right _ _ _ _ e).trans (Tv.full_get d _)

/-- The tree's slots are the row's. -/
def Rep (N : Nat) (t : Tv) (s : List AV) : Prop := s.length = N ∧ ∀ i, i < N → t.Has i ∧ t.get i = s.getD i .top

theorem Rep.set {N : Nat} {t : Tv} {s : List AV} (h : Rep N t s) (d : Nat) (v : AV) : Rep N (t.set v d) (s.set d v) := by
  refine ⟨by simpa using h.1, fun i hi => ⟨Tv.has_set v t d i (h.2 i hi).1, ?_⟩⟩
  by_cases e : d = i
  · subst e
    rw [Tv.get_set_same v (h.2 d hi).1]
    simp [List.getD, List.getElem?_set, h.1, hi]
  · rw [Tv.get_set_ne v t d i e, (h.2 i hi).2]
    simp [List.getD, List.getElem?_set, e]

/-! ### Values worked out -/
noncomputable def forceI (n : Int) (k : Int → R) : R := Int.rec (fun m => force m fun m => k (.ofNat m)) (fun m => force m fun m => k (.negSucc m)) n
theorem force_k {A : Type} (n : Nat) (k : Nat → A) : force n k = k n := by cases n <;> rfl
theorem forceI_eq (n : Int) (k : Int → R) : forceI n k = k n := by
  cases n with
  | ofNat m => exact force_k m fun m => k (.ofNat m)
  | negSucc m => exact force_k m fun m => k (.negSucc m)

noncomputable def forceV (v : AV) (k : AV → R) : R :=
  match v with
  | .int kd n => forceI n fun n => k (.int kd n)
  | v => k v
theorem forceV_eq (v : AV) (k : AV → R) : forceV v k = k v := by
  cases v with
  | int kd n => exact forceI_eq n fun n => k (.int kd n)
  | _ => rfl

noncomputable def forceL {A : Type} (l : List A) (k : List A → R) : R := List.rec (motive := fun _ => (List A → R) → R) (fun k => k []) (fun a _ ih k => ih fun r => k (a :: r)) l k
theorem forceL_eq {A : Type} : ∀ (l : List A) (k : List A → R), forceL l k = k l
  | [], k => rfl
  | a :: l, k => forceL_eq l fun r => k (a :: r)

noncomputable def forceH (H : AH) (k : AH → R) : R := forceL H.objs fun os => forceL H.toks fun ts => k ⟨os, ts⟩
theorem forceH_eq (H : AH) (k : AH → R) : forceH H k = k H := by unfold forceH; rw [forceL_eq, forceL_eq]

end Go.Sx

/- THE ENGINE, 32: the evaluator for the kernel. Each operation's work is a constant of its own, so that little is copied as it is unfolded. -/
set_option linter.unusedSimpArgs false
set_option linter.unusedVariables false
namespace Go.Sx

abbrev OutV := Option (AV × AH)
abbrev Hd := Sys → Caller → (Operand → AV) → AH → OutV

noncomputable def hMove (x : Operand) : Hd := fun _ _ e H => some (e x, H)
noncomputable def hPick (c a b : Operand) : Hd := fun _ _ e H => match e c with
  | .bool t => br t (fun _ => pairK (e a) H) (fun _ => pairK (e b) H)
  | _ => none
noncomputable def tyE (S : Sys) (t : TypeId) (k : TI → OutV) : OutV := match S.T t with | some i => k i | none => none
noncomputable def newE (o : AObj) (H : AH) : OutV := forceL (H.objs ++ [o]) fun os => some (.ptr H.objs.length 0, { H with objs := os })
noncomputable def allocE (S : Sys) (t : TypeId) (H : AH) (i : TI) : OutV := if i.zero.cells.length = i.size then newE (allocO S t i) H else none
noncomputable def hAlloc (t : TypeId) : Hd := fun S _ _ H => tyE S t (allocE S t H)
noncomputable def boxE (v : AV) (H : AH) : OutV := if v.solid then newE (.cells v.cells) H else none
noncomputable def hBox (x : Operand) : Hd := fun _ _ e H => boxE (e x) H
noncomputable def buildE (S : Sys) (ps : List (Nat × AV)) (H : AH) (i : TI) : OutV := if ps.all fun p => p.2.solid then buildK i S.T ps fun v => pairK v H else none
noncomputable def evPs (e : Operand → AV) (ps : Array (Nat × Operand)) : List (Nat × AV) := ps.toList.map fun p => (p.1, e p.2)
noncomputable def hBuild (t : TypeId) (ps : Array (Nat × Operand)) : Hd := fun S _ e H => tyE S t (buildE S (evPs e ps) H)
noncomputable def hBuildSlice (t : TypeId) (n : Nat) (ps : Array (Nat × Operand)) : Hd := fun S _ e H => tyE S t fun i => buildSliceK S H i n (evPs e ps) pairK
noncomputable def hLoad (t : TypeId) (a : Operand) : Hd := fun S _ e H => tyE S t fun i => loadK H i (e a) fun v => pairK v H
noncomputable def stE (H : AH) (a v : AV) (i : TI) : OutV := if v.solid then storeK H i a v fun H => forceH H fun H => some (.top, H) else none
noncomputable def hStore (t : TypeId) (a x : Operand) : Hd := fun S _ e H => tyE S t (stE H (e a) (e x))
noncomputable def hNil (x : Operand) : Hd := fun _ _ e H => match e x with
  | .ptr id off => some (.ptr id off, H)
  | .rop v => some (.rop v, H)
  | _ => none
noncomputable def hBin (op : BinOp) (t : TypeId) (x y : Operand) : Hd := fun S _ e H => binN S.T op t x y (e x) (e y) fun v => pairK v H
noncomputable def hUn (op : UnOp) (x : Operand) : Hd := fun _ _ e H => unK op (e x) fun v => pairK v H
noncomputable def hGen (o : Oper) : Hd := fun S call e H => none
noncomputable def hNone : Hd := fun _ _ _ _ => none
noncomputable def hFunc (fn : Fn) (a b : Array Operand) : Hd := fun _ _ e H => match fn with
  | .func f => some (.func (.func f) (a.toList.map e) (b.toList.map e), H)
  | _ => none
noncomputable def hConv (a b : TypeId) (x : Operand) : Hd := fun S _ e H => convK S H a b (e x) pairK
noncomputable def hRange (t : TypeId) (x : Operand) : Hd := fun S _ e H => tyE S t fun i => rangeStrK H i (e x) pairK
noncomputable def forceP (n : Nat) (c : Int) (k : Nat → Int → OutV) : OutV := force n fun n => forceI c fun c => k n c
noncomputable def hNext (x : Operand) (isS : Bool) : Hd := fun _ _ e H => nextK H (e x) isS pairK
noncomputable def hIface (t : TypeId) (x : Operand) : Hd := fun S _ e H => tyE S t fun i => match i.k with
    | .iface => none
    | _ => pairK (.iface t (e x)) H
noncomputable def hMap (r : Option Operand) : Hd := fun _ _ _ H => match r with
  | none => forceL (H.objs ++ [.map [] [] 0]) fun os => some (.map H.objs.length, { H with objs := os })
  | _ => none
noncomputable def hMakeSlice (t : TypeId) (l c : Operand) : Hd := fun S _ e H => tyE S t fun i => makeSliceK S H i (e l) (e c) pairK
noncomputable def hSlice (t : TypeId) (x : Operand) (lo hi mx : Option Operand) : Hd := fun S _ e H => tyE S t fun i => sliceK i S.T (e x) (lo.map e) (hi.map e) (mx.map e) fun v => pairK v H
noncomputable def hFieldAddr (t : TypeId) (x : Operand) (f : Nat) : Hd := fun S _ e H => tyE S t fun i => fieldAddrK i S.T (e x) f fun v => pairK v H
noncomputable def hField (t : TypeId) (x : Operand) (f : Nat) : Hd := fun S _ e H => tyE S t fun i => fieldK i S.T (e x) f fun v => pairK v H
noncomputable def hIndexAddr (t : TypeId) (x ix : Operand) : Hd := fun S _ e H => tyE S t fun i => indexAddrK i S.T (e x) (e ix) fun v => pairK v H
noncomputable def hIndex (t : TypeId) (x ix : Operand) : Hd := fun S _ e H => tyE S t fun i => indexK i S.T (e x) (e ix) fun v => pairK v H
noncomputable def hLookup (t : TypeId) (x ix : Operand) (ok : Bool) : Hd := fun S _ e H => tyE S t fun i => lookupK S H i (e x) (e ix) ok fun v => pairK v H
noncomputable def hUpdate (t : TypeId) (m k x : Operand) : Hd := fun S _ e H => tyE S t fun i => mapUpdateK S H i (e m) (e k) (e x) fun H => forceH H fun H => some (.top, H)
noncomputable def hExtract (x : Operand) (ix : Nat) : Hd := fun _ _ e H => match e x with
    | .tuple vs => match vs[ix]? with
      | some v => some (v, H)
      | none => none
    | _ => none
noncomputable def hCall (c : Call) : Hd := fun S call e H => match c.callee with
    | .value f => callFn call (e f) (c.args.toList.map e) H pairK
    | .builtin b => builtinK S H b c.argTypes (c.args.toList.map e) pairK
    | .invoke r m => methK S call (e r) m (c.args.toList.map e) H pairK
noncomputable def hEntry (x : Operand) : Hd := fun _ _ e H => entryK H (e x) fun v => pairK v H
noncomputable def hAssert (x : Operand) (t : TypeId) (ok : Bool) : Hd := fun S _ e H => tyE S t fun i => assertK i t (e x) ok fun v => pairK v H

noncomputable def opE (op : Op) : Hd :=
  match op with
  | .move x | .assign x => hMove x
  | .pick c a b => hPick c a b
  | .alloc t => hAlloc t
  | .box _ x => hBox x
  | .build t ps => hBuild t ps
  | .buildSlice t n ps => hBuildSlice t n ps
  | .load t a => hLoad t a
  | .store t a x => hStore t a x
  | .nilCheck x => hNil x
  | .binOp op t x y _ => hBin op t x y
  | .unOp op _ x => hUn op x
  | .convert a b x => hConv a b x
  | .range t x => hRange t x
  | .next x isS => hNext x isS
  | .entry x => hEntry x
  | .makeInterface t x => hIface t x
  | .makeFunc fn a b => hFunc fn a b
  | .makeMap _ r => hMap r
  | .makeSlice t l c => hMakeSlice t l c
  | .slice t x lo hi mx => hSlice t x lo hi mx
  | .fieldAddr t x f => hFieldAddr t x f
  | .field t x f => hField t x f
  | .indexAddr t x ix => hIndexAddr t x ix
  | .index t x ix => hIndex t x ix
  | .lookup t x ix ok => hLookup t x ix ok
  | .mapUpdate t m k x | .insert t m k x => hUpdate t m k x
  | .extract x ix => hExtract x ix
  | .call c => hCall c
  | .typeAssert x _ t ok => hAssert x t ok
  | _ => hNone

theorem opE_eq (S : Sys) (call : Caller) (s : List AV) (H : AH) (o : Oper) : opE o.op S call (ev S.G s) H = opK S call s H o pairK := by
  obtain ⟨dst, op, type, pos, after, guard⟩ := o
  unfold opK
  cases op <;> simp only [opE, hAssert, hEntry, hMove, hPick, hAlloc, hBox, hBuild, hBuildSlice, hLoad, hStore, hNil, hBin, hUn, hNone, hFunc, hConv, hRange, hNext, hIface, hMap, hMakeSlice, hSlice, hFieldAddr, hField, hIndexAddr, hIndex, hLookup, hUpdate, hExtract, hCall, tyE, allocE, newE, boxE, buildE, evPs, stE, forceL_eq, forceH_eq, newK] <;> try rfl
  case makeMap t r => cases r <;> rfl

/-! ### Calls, that may panic -/
noncomputable def toR (o : OutV) : Option Res := match o with | some p => some (.val p.1 p.2) | none => none
noncomputable def hPanic (x : Operand) (e : Operand → AV) (H : AH) : Option Res := match e x with
  | .iface t v => some (.pan (.iface t v) H)
  | _ => none
noncomputable def hValue (f : AV) (args : List AV) (call : Caller) (H : AH) : Option Res := match f with
  | .func (.func g) first caps => call.res g ((first ++ args) ++ caps) H
  | .func (.yield id) [] [] => toR (call.yield id args H)
  | _ => none
noncomputable def hInvoke (S : Sys) (f : AV) (m : String) (args : List AV) (call : Caller) (H : AH) : Option Res := match f with
  | .iface t v => (match S.meth t m with
    | some g => call.res g (v :: args) H
    | none => none)
  | _ => none
noncomputable def hCallR (c : Call) (S : Sys) (call : Caller) (e : Operand → AV) (H : AH) : Option Res := match c.callee with
  | .value f => hValue (e f) (c.args.toList.map e) call H
  | .builtin b => toR (builtinK S H b c.argTypes (c.args.toList.map e) pairK)
  | .invoke r m => hInvoke S (e r) m (c.args.toList.map e) call H
noncomputable def opR (op : Op) (S : Sys) (call : Caller) (e : Operand → AV) (H : AH) : Option Res := match op with
  | .call c => hCallR c S call e H
  | .panic x => hPanic x e H
  | op => toR (opE op S call e H)

theorem toR_optK {o : Option (AV × AH)} : toR (optK o fun p => some (p.1, p.2)) = toR o := by cases o <;> rfl

theorem res_split (call : Caller) (g : FuncId) (args : List AV) (H : AH) : call.res g args H = match call.pan g args H with | some p => some (.pan p.1 p.2) | none => toR (call.fn g args H) := by
  unfold Caller.pan Caller.fn
  cases call.res g args H with
  | none => rfl
  | some r => cases r <;> rfl

theorem hValue_eq (v : AV) (args : List AV) (call : Caller) (H : AH) : hValue v args call H = match (match v with | .func (.func g) first caps => call.pan g ((first ++ args) ++ caps) H | _ => none) with
    | some p => some (.pan p.1 p.2)
    | none => toR (callFn call v args H pairK) := by
  cases v <;> try rfl
  case func fn first caps =>
    cases fn <;> try rfl
    case func g =>
      simp only [hValue, callFn]
      rw [res_split]
      cases call.pan g ((first ++ args) ++ caps) H with
      | some p => rfl
      | none => exact toR_optK.symm
    case yield id =>
      cases first <;> cases caps <;> try rfl
      exact toR_optK.symm

theorem hInvoke_eq (S : Sys) (v : AV) (m : String) (args : List AV) (call : Caller) (H : AH) : hInvoke S v m args call H = match (match v with | .iface t v => (match S.meth t m with | some g => call.pan g (v :: args) H | none => none) | _ => none) with
    | some p => some (.pan p.1 p.2)
    | none => toR (methK S call v m args H pairK) := by
  cases v <;> try rfl
  case iface t v =>
    simp only [hInvoke, methK]
    cases S.meth t m with
    | none => rfl
    | some g =>
      simp only
      rw [res_split]
      cases call.pan g (v :: args) H with
      | some p => rfl
      | none => exact toR_optK.symm

theorem opR_eq (S : Sys) (call : Caller) (s : List AV) (H : AH) (o : Oper) : opR o.op S call (ev S.G s) H = match panOf S call s H o with | some p => some (.pan p.1 p.2) | none => toR (opK S call s H o pairK) := by
  have h0 := opE_eq S call s H o
  obtain ⟨dst, op, type, pos, after, guard⟩ := o
  cases op
  case panic x =>
    simp only [opR, hPanic, panOf]
    cases hx : ev S.G s x <;> simp only [opK, toR]
  case call c =>
    obtain ⟨callee, args, ats⟩ := c
    cases callee with
    | value f => exact hValue_eq _ _ _ _
    | builtin b => rfl
    | invoke r m => exact hInvoke_eq _ _ _ _ _ _
  all_goals
    simp only [opR, panOf]
    exact congrArg toR h0

end Go.Sx

/- THE ENGINE, 33: the evaluator for the kernel: code, functions, calls; what it answers is what the engine answers. -/
set_option linter.unusedSimpArgs false
set_option linter.unusedVariables false
namespace Go.Sx
variable {R : Type} {S : Sys}

structure Caller.le (c c' : Caller) : Prop where
  res : ∀ f args H r, c.res f args H = some r → c'.res f args H = some r
  yield : ∀ id args H r, c.yield id args H = some r → c'.yield id args H = some r

theorem Caller.fn_of {c : Caller} {f : FuncId} {args : List AV} {H : AH} {v : AV} {H' : AH} (h : c.res f args H = some (.val v H')) : c f args H = some (v, H') := by
  show optK (c.res f args H) Res.valOf = _
  rw [h]; rfl
theorem Caller.fn_val {c : Caller} {f : FuncId} {args : List AV} {H : AH} {r : AV × AH} (h : c f args H = some r) : c.res f args H = some (.val r.1 r.2) := by
  obtain ⟨q, h1, h2⟩ := optK_inv2 (show optK (c.res f args H) Res.valOf = some r from h)
  cases q with
  | val v H' =>
    simp only [Res.valOf, Option.some.injEq] at h2
    rw [h1, ← h2]
  | pan v H' => simp [Res.valOf] at h2
theorem Caller.pan_of {c : Caller} {f : FuncId} {args : List AV} {H : AH} {v : AV} {H' : AH} (h : c.res f args H = some (.pan v H')) : c.pan f args H = some (v, H') := by
  show optK (c.res f args H) Res.panOf = _
  rw [h]; rfl
theorem Caller.pan_val {c : Caller} {f : FuncId} {args : List AV} {H : AH} {r : AV × AH} (h : c.pan f args H = some r) : c.res f args H = some (.pan r.1 r.2) := by
  obtain ⟨q, h1, h2⟩ := optK_inv2 (show optK (c.res f args H) Res.panOf = some r from h)
  cases q with
  | pan v H' =>
    simp only [Res.panOf, Option.some.injEq] at h2
    rw [h1, ← h2]
  | val v H' => simp [Res.panOf] at h2
theorem Caller.le.fn {c c' : Caller} (h : c.le c') : ∀ f args H r, c f args H = some r → c' f args H = some r :=
  fun f args H r hr => Caller.fn_of (h.res _ _ _ _ (Caller.fn_val hr))
theorem Caller.le.pan {c c' : Caller} (h : c.le c') : ∀ f args H r, c.pan f args H = some r → c'.pan f args H = some r :=
  fun f args H r hr => Caller.pan_of (h.res _ _ _ _ (Caller.pan_val hr))
theorem Caller.no_pan {c : Caller} {f : FuncId} {args : List AV} {H : AH} {r : AV × AH} (h : c f args H = some r) : c.pan f args H = none := by
  show optK (c.res f args H) Res.panOf = none
  rw [Caller.fn_val h]; rfl

theorem callFn_mono {c c' : Caller} (h : c.le c') {f : AV} {args : List AV} {H : AH} {r : AV × AH} (hr : callFn c f args H pairK = some r) : callFn c' f args H pairK = some r := by
  unfold callFn at hr ⊢
  split at hr
  · obtain ⟨p, h1, h2⟩ := optK_inv2 hr
    simp only [h.fn _ _ _ _ h1, optK_some]; exact h2
  · obtain ⟨p, h1, h2⟩ := optK_inv2 hr
    simp only [h.yield _ _ _ _ h1, optK_some]; exact h2
  · simp at hr

theorem opK_mono {c c' : Caller} (h : c.le c') {s : List AV} {H : AH} {o : Oper} {r : AV × AH} (hr : opK S c s H o pairK = some r) : opK S c' s H o pairK = some r := by
  obtain ⟨dst, op, type, pos, after, guard⟩ := o
  unfold opK at hr ⊢
  cases op <;> try exact hr
  case makeMap t0 r0 => cases r0 <;> exact hr
  case call c0 =>
    simp only at hr ⊢
    split at hr
    · exact callFn_mono h hr
    · exact hr
    · unfold methK at hr ⊢
      split at hr
      · split at hr
        · rename_i hm
          obtain ⟨p, h1, h2⟩ := optK_inv2 hr
          simp only [hm, h.fn _ _ _ _ h1, optK_some]; exact h2
        · simp at hr
      · simp at hr

theorem panOf_mono {c c' : Caller} (h : c.le c') {s : List AV} {H : AH} {o : Oper} {p : AV × AH} (hp : panOf S c s H o = some p) : panOf S c' s H o = some p := by
  obtain ⟨dst, op, type, pos, after, guard⟩ := o
  unfold panOf at hp ⊢
  cases op <;> try exact hp
  case call c0 =>
    simp only at hp ⊢
    split at hp
    · split at hp
      · exact h.pan _ _ _ _ hp
      · simp at hp
    · split at hp
      · split at hp
        · exact h.pan _ _ _ _ hp
        · simp at hp
      · simp at hp
    · simp at hp

/-- What gives a value does not panic. -/
theorem panOf_none {c : Caller} {s : List AV} {H : AH} {o : Oper} {q : AV × AH} (h : opK S c s H o pairK = some q) : panOf S c s H o = none := by
  obtain ⟨dst, op, type, pos, after, guard⟩ := o
  unfold panOf
  unfold opK at h
  cases op <;> try rfl
  case panic x => simp at h
  case call c0 =>
    simp only at h ⊢
    split
    · rename_i f hf
      rw [hf] at h
      simp only at h
      unfold callFn at h
      split
      · rename_i g first caps hv
        rw [hv] at h
        simp only at h
        obtain ⟨p, h1, h2⟩ := optK_inv2 h
        exact Caller.no_pan h1
      · rfl
    · rename_i r m hm
      rw [hm] at h
      simp only at h
      unfold methK at h
      split
      · rename_i t v hv
        rw [hv] at h
        simp only at h
        split
        · rename_i g hg
          rw [hg] at h
          simp only at h
          obtain ⟨p, h1, h2⟩ := optK_inv2 h
          exact Caller.no_pan h1
        · rfl
      · rfl
    · rfl

theorem stepX_mono {c c' : Caller} (h : c.le c') {all : Array Oper} {o : Oper} {s : List AV} {H : AH} {p : Out} (hr : stepX S c all o s H = some p) : stepX S c' all o s H = some p := by
  unfold stepX at hr ⊢
  split at hr
  · split at hr
    · rename_i q hq
      simp only [panOf_mono h hq]; exact hr
    · rw [opK_nat] at hr
      obtain ⟨q, h1, h2⟩ := optK_inv2 hr
      have := opK_mono h h1
      rw [panOf_none this]
      simp only
      rw [opK_nat, this]
      exact h2
  · exact hr
  · simp at hr

theorem thenX_inv {o : Option Out} {k : List AV → AH → Option Out} {q : Out} (h : thenX o k = some q) : (∃ s H, o = some (.normal, s, H) ∧ k s H = some q) ∨ (o = some q ∧ q.1 ≠ .normal) := by
  unfold thenX at h
  split at h
  · exact .inl ⟨_, _, rfl, h⟩
  · rename_i hn
    refine .inr ⟨h, fun e => ?_⟩
    obtain ⟨e', s, H⟩ := q
    simp only at e
    subst e
    exact hn s H h
theorem thenX_go {s : List AV} {H : AH} {k : List AV → AH → Option Out} : thenX (some (.normal, s, H)) k = k s H := rfl
theorem thenX_stop {q : Out} (h : q.1 ≠ .normal) {k : List AV → AH → Option Out} : thenX (some q) k = some q := by
  obtain ⟨e, s, H⟩ := q
  cases e with
  | normal => exact absurd rfl h
  | _ => rfl

theorem runX_mono {c c' : Caller} (h : c.le c') {all : Array Oper} : ∀ (l : List Oper) {s : List AV} {H : AH} {p : Out}, runX S c all l s H = some p → runX S c' all l s H = some p
  | [], s, H, p, hr => hr
  | o :: l, s, H, p, hr => by
    simp only [runX] at hr ⊢
    rcases thenX_inv hr with ⟨s1, H1, h1, h2⟩ | ⟨h1, h2⟩
    · rw [stepX_mono h h1, thenX_go]
      exact runX_mono h l h2
    · rw [stepX_mono h h1, thenX_stop h2]

theorem stepM_mono {c c' : Caller} (h : c.le c') {all : Array Oper} {o : Oper} {s : List AV} {H : AH} {m : Met} {p : (List AV × AH) × Met} (hr : stepM S c all o s H m = some p) : stepM S c' all o s H m = some p := by
  unfold stepM at hr ⊢
  split at hr
  · obtain ⟨q, h1, h2⟩ := optK_inv2 hr
    rw [show (opK S c' s H o fun v H => some (v, H)) = some q from opK_mono h h1]; exact h2
  · exact hr
  · simp at hr

theorem runM_mono {c c' : Caller} (h : c.le c') {all : Array Oper} : ∀ (l : List Oper) {s : List AV} {H : AH} {m : Met} {p : (List AV × AH) × Met}, runM S c all l s H m = some p → runM S c' all l s H m = some p
  | [], s, H, m, p, hr => hr
  | o :: l, s, H, m, p, hr => by
    simp only [runM] at hr ⊢
    obtain ⟨q, h1, h2⟩ := optK_inv2 hr
    rw [stepM_mono h h1, optK_some]
    exact runM_mono h l h2
theorem runG_mono {c c' : Caller} (h : c.le c') {ops : Array Oper} {s : List AV} {H : AH} {p : List AV × AH} (hr : runG S c ops s H = some p) : runG S c' ops s H = some p := by
  unfold runG at hr ⊢
  obtain ⟨q, h1, h2⟩ := optK_inv2 hr
  rw [runM_mono h _ h1]; exact h2

theorem stepB_mono {c c' : Caller} (h : c.le c') {bi : Nat → Option Nat} {all : Array Oper} {o : Oper} {s : List AV} {H : AH} {p : List AV × AH} (hr : stepB bi S c all o s H = some p) : stepB bi S c' all o s H = some p := by
  unfold stepB at hr ⊢
  split at hr
  · obtain ⟨q, h1, h2⟩ := optK_inv2 hr
    have : opB bi S c' s H o = some q := by
      unfold opB at h1 ⊢
      split at h1
      · exact h1
      · exact opK_mono h h1
    rw [this]; exact h2
  · exact hr
  · simp at hr

theorem runB_mono {c c' : Caller} (h : c.le c') {bi : Nat → Option Nat} {all : Array Oper} : ∀ (l : List Oper) {s : List AV} {H : AH} {p : List AV × AH}, runB bi S c all l s H = some p → runB bi S c' all l s H = some p
  | [], s, H, p, hr => hr
  | o :: l, s, H, p, hr => by
    simp only [runB] at hr ⊢
    obtain ⟨q, h1, h2⟩ := optK_inv2 hr
    rw [stepB_mono h h1, optK_some]
    exact runB_mono h l h2

theorem runT_mono {c c' : Caller} (h : c.le c') {ops : Array Oper} : ∀ (r : List Nat) {s : List AV} {H : AH} {l : Lg} {L : List (Nat × Nat)} {q : ((List AV × AH) × Lg) × List (Nat × Nat)}, runT S c ops r s H l L = some q → runT S c' ops r s H l L = some q
  | [], s, H, l, L, q, hr => hr
  | i :: r, s, H, l, L, q, hr => by
    simp only [runT] at hr ⊢
    split at hr
    · obtain ⟨p, h1, h2⟩ := optK_inv2 hr
      rw [stepM_mono h h1, optK_some]
      exact runT_mono h r h2
    · cases hr
theorem thenT_inv' {o : Option ((List AV × AH) × Lg)} {k : List AV → AH → Lg → Bool} (h : thenT o k = true) : ∃ p, o = some p ∧ k p.1.1 p.1.2 p.2 = true := by
  unfold thenT at h
  split at h
  · exact ⟨_, rfl, h⟩
  · cases h
theorem stepH_mono {c c' : Caller} (h : c.le c') {L m : List Nat} {all : Array Oper} {o : Oper} {s : List AV} {H : AH} {p : List AV × AH} (hr : stepH L m S c all o s H = some p) : stepH L m S c' all o s H = some p := by
  unfold stepH at hr ⊢
  split at hr
  · obtain ⟨q, h1, h2⟩ := optK_inv2 hr
    have : opH L m S c' s H o = some q := by
      unfold opH at h1 ⊢
      obtain ⟨q', h3, h4⟩ := optK_inv2 h1
      rw [show (opK S c' s H o fun v H => some (v, H)) = some q' from opK_mono h h3]; exact h4
    rw [this]; exact h2
  · exact hr
  · simp at hr
theorem stepT_mono {c c' : Caller} (h : c.le c') {L : List (Nat × Nat)} {ops : Array Oper} {i : Nat} {s : List AV} {H : AH} {l : Lg} {q : (List AV × AH) × Lg} (hr : stepT L S c ops i s H l = some q) : stepT L S c' ops i s H l = some q := by
  unfold stepT at hr ⊢
  split at hr
  · obtain ⟨p, h1, h2⟩ := optK_inv2 hr
    rw [stepH_mono h h1, optK_some]; exact h2
  · cases hr
theorem allT_mono {c c' : Caller} (h : c.le c') {L : List (Nat × Nat)} {ops : Array Oper} {Q : List AV → AH → Lg → Bool} : ∀ (n : Nat) {r : List Nat} {s : List AV} {H : AH} {l : Lg}, allT L S c ops Q n r s H l = true → allT L S c' ops Q n r s H l = true
  | 0, r, s, H, l, hr => by cases r <;> exact hr
  | n + 1, r, s, H, l, hr => by
    unfold allT at hr ⊢
    split at hr
    · obtain ⟨p, h1, h2⟩ := thenT_inv' hr
      rw [stepT_mono h h1]
      exact allT_mono h n h2
    · split at hr
      · refine List.all_eq_true.2 fun i hi => ?_
        have h3 := List.all_eq_true.1 hr i hi
        split at h3
        · rename_i hri
          obtain ⟨p, h1, h2⟩ := thenT_inv' h3
          rw [stepT_mono h h1]
          exact allT_mono h n h2
        · rfl
      · cases hr
theorem runP_mono {c c' : Caller} (h : c.le c') {ops : Array Oper} {s : List AV} {H : AH} {p : List AV × AH} (hr : runP S c ops s H = some p) : runP S c' ops s H = some p := by
  unfold runP at hr ⊢
  obtain ⟨q, h1, h2⟩ := optK_inv2 hr
  split at h2
  · rename_i ha
    rw [runT_mono h _ h1, optK_some, allT_mono h _ ha]
    exact h2
  · cases h2

/-! ### Slots -/
noncomputable def slot (N : Nat) (t : Tv) (i : Nat) : AV := match Nat.blt i N with | true => t.get i | false => .top
noncomputable def evE (G : Nat → AV) (N : Nat) (t : Tv) (x : Operand) : AV := match x with
  | .tmp i => slot N t i
  | .const v => ofValue v
  | .global g => G g
  | .func f => .func (.func f) [] []

theorem slot_eq {N : Nat} {t : Tv} {s : List AV} (h : Rep N t s) (i : Nat) : slot N t i = s.getD i .top := by
  unfold slot
  split
  · rename_i hb
    have : i < N := Nat.le_of_ble_eq_true hb
    exact (h.2 i this).2
  · rename_i hb
    have : ¬ i < N := by
      intro hi
      have : Nat.blt i N = true := Nat.ble_eq_true_of_le hi
      rw [hb] at this; cases this
    rw [List.getD, List.getElem?_eq_none (by rw [h.1]; omega)]; rfl

theorem evE_eq {G : Nat → AV} {N : Nat} {t : Tv} {s : List AV} (h : Rep N t s) : evE G N t = ev G s := by
  funext x
  cases x with
  | tmp i => exact slot_eq h i
  | _ => rfl

/-! ### Regions -/
abbrev OutE := Option (Ex × Tv × AH)
noncomputable def putE (dst : Option Nat) (v : AV) (t : Tv) (H : AH) : OutE := match dst with
  | some d => t.setK v d fun t' => some (.normal, t', H)
  | none => some (.normal, t, H)

theorem putE_sim {N : Nat} {t t' : Tv} {s : List AV} {dst : Option Nat} {v : AV} {H H' : AH} {e : Ex} (h : Rep N t s) (hp : putE dst v t H = some (e, t', H')) : e = .normal ∧ H' = H ∧ Rep N t' (putD dst s v) := by
  cases dst with
  | none => simp only [putE, Option.some.injEq, Prod.mk.injEq] at hp; obtain ⟨rfl, rfl, rfl⟩ := hp; exact ⟨rfl, rfl, h⟩
  | some d =>
    simp only [putE, Tv.setK_eq, Option.some.injEq, Prod.mk.injEq] at hp
    obtain ⟨rfl, rfl, rfl⟩ := hp
    exact ⟨rfl, rfl, h.set d v⟩

noncomputable def gotE (dst : Option Nat) (t : Tv) (r : Option Res) : OutE := match r with
  | some (.val v H) => forceV v fun v => putE dst v t H
  | some (.pan v H) => some (.panic v, t, H)
  | none => none
noncomputable def doE (S : Sys) (call : Caller) (N : Nat) (o : Oper) (t : Tv) (H : AH) : OutE := gotE o.dst t (opR o.op S call (evE S.G N t) H)

noncomputable def guardE (S : Sys) (call : Caller) (N : Nat) (o : Oper) (t : Tv) (H : AH) (d : Option Nat) (want : Bool) : OutE := match d with
  | none => none
  | some d => match slot N t d with
    | .bool b => match b == want with
      | true => doE S call N o t H
      | false => putE o.dst (.tuple []) t H
    | .tuple [] => putE o.dst (.tuple []) t H
    | _ => none

noncomputable def stepE (S : Sys) (call : Caller) (all : Array Oper) (N : Nat) (o : Oper) (t : Tv) (H : AH) : OutE := match o.guard with
  | none => doE S call N o t H
  | some g => guardE S call N o t H ((all[g.1]?).bind (·.dst)) g.2

theorem doE_sim {call call' : Caller} (hle : call.le call') {N : Nat} {t t' : Tv} {s : List AV} {o : Oper} {H H' : AH} {e : Ex} (h : Rep N t s) (hd : doE S call N o t H = some (e, t', H')) :
    ∃ s', (match panOf S call' s H o with | some p => some (Ex.panic p.1, s, p.2) | none => opK S call' s H o fun v H => some (Ex.normal, putD o.dst s v, H)) = some (e, s', H') ∧ Rep N t' s' := by
  unfold doE at hd
  rw [evE_eq h, opR_eq] at hd
  unfold gotE at hd
  split at hd
  · rename_i v G hq
    rw [forceV_eq] at hd
    obtain ⟨rfl, rfl, h2⟩ := putE_sim h hd
    split at hq
    · simp at hq
    · cases hk : opK S call s H o pairK with
      | none => rw [hk] at hq; simp [toR] at hq
      | some q =>
        rw [hk] at hq
        simp only [toR, Option.some.injEq, Res.val.injEq] at hq
        obtain ⟨rfl, rfl⟩ := hq
        have := opK_mono hle hk
        refine ⟨_, ?_, h2⟩
        rw [panOf_none this]
        simp only
        rw [opK_nat, this]
        rfl
  · rename_i v G hq
    simp only [Option.some.injEq, Prod.mk.injEq] at hd
    obtain ⟨rfl, rfl, rfl⟩ := hd
    split at hq
    · rename_i p hp
      simp only [Option.some.injEq, Res.pan.injEq] at hq
      obtain ⟨rfl, rfl⟩ := hq
      exact ⟨s, by rw [panOf_mono hle hp], h⟩
    · cases hk : opK S call s H o pairK with
      | none => rw [hk] at hq; simp [toR] at hq
      | some q => rw [hk] at hq; simp [toR] at hq
  · simp at hd

theorem slot_bool {N : Nat} {t : Tv} {s : List AV} (h : Rep N t s) {d : Nat} {v : AV} (hv : slot N t d = v) (hn : v ≠ .top) : s[d]? = some v := by
  rw [slot_eq h] at hv
  simp only [List.getD] at hv
  cases hs : s[d]? with
  | none => rw [hs] at hv; exact absurd hv.symm hn
  | some u => rw [hs] at hv; simp at hv; rw [hv]

theorem stepE_sim {call call' : Caller} (hle : call.le call') {all : Array Oper} {N : Nat} {t t' : Tv} {s : List AV} {o : Oper} {H H' : AH} {e : Ex} (h : Rep N t s) (hd : stepE S call all N o t H = some (e, t', H')) :
    ∃ s', stepX S call' all o s H = some (e, s', H') ∧ Rep N t' s' := by
  unfold stepE at hd
  split at hd
  · rename_i hg
    obtain ⟨s', h1, h2⟩ := doE_sim hle h hd
    exact ⟨s', by simp only [stepX, wantD, hg]; exact h1, h2⟩
  · rename_i g hg
    obtain ⟨j, want⟩ := g
    unfold guardE at hd
    simp only at hd
    split at hd
    · simp at hd
    · rename_i d hdd
      split at hd
      · rename_i b hb
        have hs := slot_bool h hb (by simp)
        split at hd
        · rename_i hw
          obtain ⟨s', h1, h2⟩ := doE_sim hle h hd
          exact ⟨s', by simp only [stepX, wantD, hg, hdd, hs, hw]; exact h1, h2⟩
        · rename_i hw
          obtain ⟨rfl, rfl, h2⟩ := putE_sim h hd
          exact ⟨_, by simp only [stepX, wantD, hg, hdd, hs, hw], h2⟩
      · rename_i hb
        have hs := slot_bool h hb (by simp)
        obtain ⟨rfl, rfl, h2⟩ := putE_sim h hd
        exact ⟨_, by simp only [stepX, wantD, hg, hdd, hs], h2⟩
      · simp at hd

noncomputable def thenE (o : OutE) (k : Tv → AH → OutE) : OutE := match o with
  | some (.normal, t, H) => k t H
  | o => o

noncomputable def opsE (S : Sys) (call : Caller) (all : Array Oper) (N : Nat) (l : List Oper) : Tv → AH → OutE :=
  List.rec (motive := fun _ => Tv → AH → OutE) (fun t H => some (.normal, t, H)) (fun o _ ih t H => thenE (stepE S call all N o t H) ih) l

theorem opsE_sim {call call' : Caller} (hle : call.le call') {all : Array Oper} {N : Nat} : ∀ (l : List Oper) {t t' : Tv} {s : List AV} {H H' : AH} {e : Ex}, Rep N t s → opsE S call all N l t H = some (e, t', H') → ∃ s', runX S call' all l s H = some (e, s', H') ∧ Rep N t' s'
  | [], t, t', s, H, H', e, h, hd => by
    have hd' : some (Ex.normal, t, H) = some (e, t', H') := hd
    simp only [Option.some.injEq, Prod.mk.injEq] at hd'
    obtain ⟨rfl, rfl, rfl⟩ := hd'
    exact ⟨s, rfl, h⟩
  | o :: r, t, t', s, H, H', e, h, hd => by
    have hd' : thenE (stepE S call all N o t H) (opsE S call all N r) = some (e, t', H') := hd
    unfold thenE at hd'
    split at hd'
    · rename_i t1 H1 hp
      obtain ⟨s1, h1, h2⟩ := stepE_sim hle h hp
      obtain ⟨s2, h3, h4⟩ := opsE_sim hle r h2 hd'
      exact ⟨s2, by simp only [runX, h1, thenX_go, h3], h4⟩
    · rename_i hn
      obtain ⟨s1, h1, h2⟩ := stepE_sim hle h hd'
      refine ⟨s1, ?_, h2⟩
      simp only [runX, h1]
      exact thenX_stop fun e' => by
        simp only at e'
        subst e'
        exact hn _ _ hd'

/-! ### Regions with calls beside loads -/
abbrev OutM := Option (Tv × AH × Met)
noncomputable def metE (S : Sys) (e : Operand → AV) (H : AH) (o : Oper) (H' : AH) (m : Met) : Met := match growCall S o with
  | true => (m.1, (H, H') :: m.2)
  | false => (match o.op with
    | .load _ a => metL (e a) m
    | _ => m)
theorem metE_eq (S : Sys) (s : List AV) (H : AH) (o : Oper) (H' : AH) (m : Met) : metE S (ev S.G s) H o H' m = metOf S s H o H' m := rfl
noncomputable def outM (m : Met) (o : OutE) : OutM := match o with
  | some (.normal, t, H) => some (t, H, m)
  | _ => none
noncomputable def doG (S : Sys) (call : Caller) (N : Nat) (o : Oper) (t : Tv) (H : AH) (m : Met) : OutM := match opE o.op S call (evE S.G N t) H with
  | some p => outM (metE S (evE S.G N t) H o p.2 m) (forceV p.1 fun v => putE o.dst v t p.2)
  | none => none
noncomputable def guardG (S : Sys) (call : Caller) (N : Nat) (o : Oper) (t : Tv) (H : AH) (m : Met) (d : Option Nat) (want : Bool) : OutM := match d with
  | none => none
  | some d => match slot N t d with
    | .bool b => match b == want with
      | true => doG S call N o t H m
      | false => outM m (putE o.dst (.tuple []) t H)
    | .tuple [] => outM m (putE o.dst (.tuple []) t H)
    | _ => none
noncomputable def stepGE (S : Sys) (call : Caller) (all : Array Oper) (N : Nat) (o : Oper) (t : Tv) (H : AH) (m : Met) : OutM := match o.guard with
  | none => doG S call N o t H m
  | some g => guardG S call N o t H m ((all[g.1]?).bind (·.dst)) g.2
noncomputable def thenM (o : OutM) (K : Tv → AH → Met → OutM) : OutM := match o with
  | some (t, H, m) => K t H m
  | none => none
noncomputable def opsME (S : Sys) (call : Caller) (all : Array Oper) (N : Nat) (l : List Oper) : Tv → AH → Met → OutM :=
  List.rec (motive := fun _ => Tv → AH → Met → OutM) (fun t H m => some (t, H, m)) (fun o _ ih t H m => thenM (stepGE S call all N o t H m) ih) l
noncomputable def opsGE (S : Sys) (call : Caller) (all : Array Oper) (N : Nat) (l : List Oper) (t : Tv) (H : AH) : OutE := match opsME S call all N l t H ([], []) with
  | some (t, H, m) => (match metB m.1 m.2 with
    | true => some (.normal, t, H)
    | false => none)
  | none => none

theorem outM_inv {m m' : Met} {o : OutE} {t : Tv} {H : AH} (h : outM m o = some (t, H, m')) : o = some (.normal, t, H) ∧ m' = m := by
  unfold outM at h
  split at h
  · simp only [Option.some.injEq, Prod.mk.injEq] at h
    obtain ⟨rfl, rfl, rfl⟩ := h
    exact ⟨rfl, rfl⟩
  · simp at h

theorem doG_sim {call call' : Caller} (hle : call.le call') {N : Nat} {t t' : Tv} {s : List AV} {o : Oper} {H H' : AH} {m m' : Met} (h : Rep N t s) (hd : doG S call N o t H m = some (t', H', m')) :
    ∃ s', optK (opK S call' s H o fun v H => some (v, H)) (fun p => some ((putD o.dst s p.1, p.2), metOf S s H o p.2 m)) = some ((s', H'), m') ∧ Rep N t' s' := by
  unfold doG at hd
  rw [evE_eq h, opE_eq] at hd
  split at hd
  · rename_i p hp
    obtain ⟨hd1, rfl⟩ := outM_inv hd
    rw [forceV_eq] at hd1
    obtain ⟨-, rfl, h2⟩ := putE_sim h hd1
    refine ⟨_, ?_, h2⟩
    rw [show (opK S call' s H o fun v H => some (v, H)) = some p from opK_mono hle hp]
    rfl
  · simp at hd

theorem stepGE_sim {call call' : Caller} (hle : call.le call') {all : Array Oper} {N : Nat} {t t' : Tv} {s : List AV} {o : Oper} {H H' : AH} {m m' : Met} (h : Rep N t s) (hd : stepGE S call all N o t H m = some (t', H', m')) :
    ∃ s', stepM S call' all o s H m = some ((s', H'), m') ∧ Rep N t' s' := by
  unfold stepGE at hd
  split at hd
  · rename_i hg
    obtain ⟨s', h1, h2⟩ := doG_sim hle h hd
    exact ⟨s', by simp only [stepM, wantD, hg]; exact h1, h2⟩
  · rename_i g hg
    obtain ⟨j, want⟩ := g
    unfold guardG at hd
    simp only at hd
    split at hd
    · simp at hd
    · rename_i d hdd
      split at hd
      · rename_i b hb
        have hs := slot_bool h hb (by simp)
        split at hd
        · rename_i hw
          obtain ⟨s', h1, h2⟩ := doG_sim hle h hd
          exact ⟨s', by simp only [stepM, wantD, hg, hdd, hs, hw]; exact h1, h2⟩
        · rename_i hw
          obtain ⟨hd1, rfl⟩ := outM_inv hd
          obtain ⟨-, rfl, h2⟩ := putE_sim h hd1
          exact ⟨_, by simp only [stepM, wantD, hg, hdd, hs, hw], h2⟩
      · rename_i hb
        have hs := slot_bool h hb (by simp)
        obtain ⟨hd1, rfl⟩ := outM_inv hd
        obtain ⟨-, rfl, h2⟩ := putE_sim h hd1
        exact ⟨_, by simp only [stepM, wantD, hg, hdd, hs], h2⟩
      · simp at hd

theorem opsME_sim {call call' : Caller} (hle : call.le call') {all : Array Oper} {N : Nat} : ∀ (l : List Oper) {t t' : Tv} {s : List AV} {H H' : AH} {m m' : Met}, Rep N t s → opsME S call all N l t H m = some (t', H', m') → ∃ s', runM S call' all l s H m = some ((s', H'), m') ∧ Rep N t' s'
  | [], t, t', s, H, H', m, m', h, hd => by
    have hd' : some (t, H, m) = some (t', H', m') := hd
    simp only [Option.some.injEq, Prod.mk.injEq] at hd'
    obtain ⟨rfl, rfl, rfl⟩ := hd'
    exact ⟨s, rfl, h⟩
  | o :: r, t, t', s, H, H', m, m', h, hd => by
    have hd' : thenM (stepGE S call all N o t H m) (opsME S call all N r) = some (t', H', m') := hd
    unfold thenM at hd'
    split at hd'
    · rename_i t1 H1 m1 hp
      obtain ⟨s1, h1, h2⟩ := stepGE_sim hle h hp
      obtain ⟨s2, h3, h4⟩ := opsME_sim hle r h2 hd'
      exact ⟨s2, by simp only [runM, h1, optK_some, h3], h4⟩
    · simp at hd'

theorem opsGE_sim {call call' : Caller} (hle : call.le call') {ops : Array Oper} {N : Nat} {t t' : Tv} {s : List AV} {H H' : AH} {e : Ex} (h : Rep N t s) (hd : opsGE S call ops N ops.toList t H = some (e, t', H')) : e = .normal ∧ ∃ s', runG S call' ops s H = some (s', H') ∧ Rep N t' s' := by
  unfold opsGE at hd
  split at hd
  · rename_i t1 H1 m1 hp
    obtain ⟨s1, h1, h2⟩ := opsME_sim hle _ h hp
    split at hd
    · rename_i hm
      simp only [Option.some.injEq, Prod.mk.injEq] at hd
      obtain ⟨rfl, rfl, rfl⟩ := hd
      exact ⟨rfl, s1, by simp only [runG, h1, optK, hm], h2⟩
    · simp at hd
  · simp at hd

end Go.Sx

/- THE ENGINE, 34: the evaluator for the kernel: code, functions, calls. -/
set_option linter.unusedSimpArgs false
set_option linter.unusedVariables false
namespace Go.Sx
variable {R : Type} {S : Sys}

noncomputable def fillE (args : List AV) : Nat → Tv → (Tv → R) → R :=
  List.rec (motive := fun _ => Nat → Tv → (Tv → R) → R) (fun _ t k => k t) (fun a _ ih i t k => forceV a fun a => t.setK a i fun t => ih (i + 1) t k) args

def layL : List AV → Nat → List AV → List AV
  | [], _, s => s
  | a :: r, i, s => layL r (i + 1) (s.set i a)

theorem fillE_sim {N : Nat} : ∀ (args : List AV) (i : Nat) (t : Tv) (s : List AV) (k : Tv → R), Rep N t s → ∃ t', fillE args i t k = k t' ∧ Rep N t' (layL args i s)
  | [], i, t, s, k, h => ⟨t, rfl, h⟩
  | a :: r, i, t, s, k, h => by
    obtain ⟨t', h1, h2⟩ := fillE_sim r (i + 1) (t.set a i) (s.set i a) k (h.set i a)
    refine ⟨t', ?_, h2⟩
    show (forceV a fun a => t.setK a i fun t => fillE r (i + 1) t k) = _
    rw [forceV_eq, Tv.setK_eq]; exact h1

theorem layL_eq : ∀ (args pre post : List AV), args.length ≤ post.length → layL args pre.length (pre ++ post) = pre ++ (args ++ post.drop args.length)
  | [], pre, post, _ => by simp [layL]
  | a :: r, pre, [], h => by simp at h
  | a :: r, pre, p :: post, h => by
    simp only [layL]
    have e : (pre ++ p :: post).set pre.length a = (pre ++ [a]) ++ post := by
      rw [List.set_append_right _ _ (Nat.le_refl _)]; simp
    rw [e]
    have := layL_eq r (pre ++ [a]) post (by simpa using h)
    simp only [List.length_append, List.length_singleton] at this
    rw [this]
    simp

noncomputable def andE (o : OutE) (k : Tv → AH → OutE) : OutE := match o with
  | some (.normal, t, H) => k t H
  | o => o
noncomputable def condE (v : AV) (a b : Unit → OutE) : OutE := match v with
  | .bool true => a ()
  | .bool false => b ()
  | _ => none
noncomputable def blockE (id : Nat) (o : OutE) : OutE := match o with
  | some (.exit i, t, H) => (match Nat.beq i id with | true => some (.normal, t, H) | false => some (.exit i, t, H))
  | o => o
noncomputable def roomB (room : Nat) (H H' : AH) : Bool := Nat.ble 3 room && (Nat.ble H'.objs.length (H.objs.length + room) && Nat.ble H'.toks.length (H.toks.length + room))
noncomputable def iterE (room : Nat) (body : Tv → AH → OutE) : Nat → Tv → AH → OutE
  | 0, _, _ => none
  | n + 1, t, H => match body t H with
    | some (.normal, t', H') => (match roomB room H H' with | true => iterE room body n t' H' | false => none)
    | o => (match Nat.ble 3 room with | true => o | false => none)
noncomputable def toL (N : Nat) (t : Tv) : List AV := forceL ((List.range N).map (slot N t)) fun l => l
noncomputable def leaveE (id : Nat) (t : Tv) (H : AH) : OutE := match H.objs[id]? with
  | some (.loop _ _ _ _ st) => (match st with
    | .ready => forceL (H.objs.set id (.dead true)) fun os => some (.normal, t, { H with objs := os })
    | .left none => forceL (H.objs.set id (.dead true)) fun os => some (.ret, t, { H with objs := os })
    | .left (some i) => forceL (H.objs.set id (.dead true)) fun os => some (.exit i, t, { H with objs := os })
    | .busy => none)
  | _ => none
noncomputable def rangeE (call : Caller) (f : AV) (N : Nat) (t : Tv) (H : AH) (ps : List Nat) (x y : Code) : OutE := match f with
  | .func (.func f) first caps => (match call f ((first ++ [.func (.yield H.objs.length) [] []]) ++ caps) { H with objs := H.objs ++ [.loop (toL N t) ps x y .ready] } with
    | some p => leaveE H.objs.length t p.2
    | none => none)
  | _ => none
noncomputable def lineE (ops : Array Oper) (draw : Bool) (o : OutE) : OutE := match draw && !lineOK ops with | true => none | false => o
/-- A region gone through in every order. -/
noncomputable def outE (N : Nat) (t : Tv) (o : Option (List AV × AH)) : OutE := match o with
  | some q => (match Nat.beq q.1.length N with
    | true => fillE q.1 0 t fun t => forceH q.2 fun H => some (.normal, t, H)
    | false => none)
  | none => none
noncomputable def ordE (S : Sys) (call : Caller) (ops : Array Oper) (N : Nat) (t : Tv) (H : AH) : OutE := match drawOK2 S ops with
  | true => outE N t (runB (bornId H.objs.length (birthsOf ops.toList)) S call ops ops.toList (toL N t) (reserve H (birthsOf ops.toList).length))
  | false => outE N t (runP S call ops (toL N t) H)
noncomputable def regE (S : Sys) (ops : Array Oper) (draw : Bool) (g p : Unit → OutE) (o : OutE) : OutE := match draw && !drawOK S ops with
  | true => (match drawOK2 S ops with
    | true => p ()
    | false => (match drawOK3 S ops with | true => g () | false => p ()))
  | false => match o with
    | some (.panic v, t, H) => lineE ops draw (some (.panic v, t, H))
    | o => o

/-- Code behind a label. -/
noncomputable def denSE (S : Sys) (call : Caller) (N : Nat) : Code → Tv → AH → OutE
  | .skip, t, H => some (.normal, t, H)
  | .region _ ops draw, t, H => regE S ops draw (fun _ => opsGE S call ops N ops.toList t H) (fun _ => ordE S call ops N t H) (opsE S call ops N ops.toList t H)
  | .seq a b, t, H => andE (denSE S call N a t H) (denSE S call N b)
  | .cond c a b, t, H => condE (evE S.G N t c) (fun _ => denSE S call N a t H) (fun _ => denSE S call N b t H)
  | .exit id, t, H => some (.exit id, t, H)
  | .ret, t, H => some (.ret, t, H)
  | .label _, t, H => some (.normal, t, H)
  | _, _, _ => none
noncomputable def noGoE (o : OutE) : OutE := match o with
  | some (.goto _, _, _) => none
  | o => o
noncomputable def scopeE (S : Sys) (call : Caller) (N : Nat) (c : Code) (o : OutE) : OutE := match o with
  | some (.goto l, t, H) => (match findLabel c l with
    | some rest => noGoE (denSE S call N rest t H)
    | none => none)
  | o => o

noncomputable def denE (S : Sys) (call : Caller) (fuel N : Nat) : Code → Tv → AH → OutE
  | .skip, t, H => some (.normal, t, H)
  | .region _ ops draw, t, H => regE S ops draw (fun _ => opsGE S call ops N ops.toList t H) (fun _ => ordE S call ops N t H) (opsE S call ops N ops.toList t H)
  | .seq a b, t, H => andE (denE S call fuel N a t H) (denE S call fuel N b)
  | .cond c a b, t, H => condE (evE S.G N t c) (fun _ => denE S call fuel N a t H) (fun _ => denE S call fuel N b t H)
  | .block id c, t, H => blockE id (denE S call fuel N c t H)
  | .loop c, t, H => iterE S.room (denE S call fuel N c) fuel t H
  | .scope c, t, H => scopeE S call N c (denE S call fuel N c t H)
  | .goto l, t, H => some (.goto l, t, H)
  | .exit id, t, H => some (.exit id, t, H)
  | .ret, t, H => some (.ret, t, H)
  | .label _, t, H => some (.normal, t, H)
  | .rangeFunc g ps x y, t, H => rangeE call (evE S.G N t g) N t H ps.toList x y
  | _, _, _ => none

theorem toL_eq {N : Nat} {t : Tv} {s : List AV} (h : Rep N t s) : toL N t = s := by
  unfold toL
  rw [forceL_eq]
  apply List.ext_getElem?
  intro i
  by_cases hi : i < N
  · have : i < s.length := h.1 ▸ hi
    simp [hi, slot_eq h, List.getD, this]
  · rw [List.getElem?_eq_none (by simp; omega), List.getElem?_eq_none (by rw [h.1]; omega)]

/-- What it means that the evaluator's answer is the engine's. -/
def SimO (S : Sys) (call : Caller) (lp : Looper) (c : Code) (N : Nat) (s : List AV) (H : AH) (e : Ex) (t' : Tv) (H' : AH) : Prop :=
  ∃ s', Rep N t' s' ∧ ∀ {R : Type} (K : Ex → List AV → AH → Option R), denK S call lp c s H K = K e s' H'

theorem room_not1 {r : Nat} (h : Nat.ble 3 r = true) : (Nat.beq r 1 || Nat.beq r 2) = false := by
  have h1 := Nat.le_of_ble_eq_true h
  cases hb : Nat.beq r 1 with
  | true => have := Nat.eq_of_beq_eq_true hb; omega
  | false => cases hc : Nat.beq r 2 with
    | false => rfl
    | true => have := Nat.eq_of_beq_eq_true hc; omega

theorem iterE_sim {N n : Nat} {bodyE : Tv → AH → OutE} {body : List AV → AH → Option Out} (hb : ∀ t s H e t' H', Rep N t s → bodyE t H = some (e, t', H') → ∃ s', Rep N t' s' ∧ body s H = some (e, s', H')) :
    ∀ (n : Nat) (t : Tv) (s : List AV) (H : AH) (e : Ex) (t' : Tv) (H' : AH), Rep N t s → iterE S.room bodyE n t H = some (e, t', H') → ∃ s', Rep N t' s' ∧ iter S.room body n s H = some (e, s', H')
  | 0, t, s, H, e, t', H', _, h => by simp [iterE] at h
  | n + 1, t, s, H, e, t', H', hr, h => by
    simp only [iterE] at h
    cases hd : bodyE t H with
    | none => rw [hd] at h; simp only at h; split at h <;> simp at h
    | some r =>
      obtain ⟨e1, t1, H1⟩ := r
      obtain ⟨s1, h1, h2⟩ := hb t s H e1 t1 H1 hr hd
      rw [hd] at h
      simp only [iter, h2]
      cases e1 with
      | normal =>
        simp only at h ⊢
        split at h
        · rename_i hroom
          have hback : back S.room s H s1 H1 = (s1, H1) := by
            unfold back
            rw [if_pos (by exact hroom)]
          rw [hback]
          exact iterE_sim (n := n) hb n t1 s1 H1 e t' H' h1 h
        · simp at h
      | _ =>
        simp only at h
        split at h
        · rename_i hroom
          simp only [Option.some.injEq, Prod.mk.injEq] at h
          obtain ⟨rfl, rfl, rfl⟩ := h
          exact ⟨s1, h1, by simp only [outS, room_not1 hroom]⟩
        · simp at h

theorem leaveE_sim {N : Nat} {t t' : Tv} {s : List AV} {id : Nat} {H H' : AH} {e : Ex} (hr : Rep N t s) (h : leaveE id t H = some (e, t', H')) : t' = t ∧ ∀ {R : Type} (K : Ex → List AV → AH → Option R), leaveK id s H K = K e s H' := by
  unfold leaveE at h
  split at h
  · rename_i s0 ps x y st hob
    split at h
    all_goals first
      | (simp at h; done)
      | (rw [forceL_eq] at h
         simp only [Option.some.injEq, Prod.mk.injEq] at h
         obtain ⟨rfl, rfl, rfl⟩ := h
         exact ⟨rfl, fun K => by simp only [leaveK, hob]⟩)
  · simp at h

theorem outE_sim {N : Nat} {t t' : Tv} {s : List AV} {H' : AH} {e : Ex} {o : Option (List AV × AH)} (h : Rep N t s) (hd : outE N t o = some (e, t', H')) : e = .normal ∧ ∃ s', o = some (s', H') ∧ Rep N t' s' := by
  unfold outE at hd
  split at hd
  · rename_i q
    split at hd
    · rename_i hl
      obtain ⟨t1, h1, h2⟩ := fillE_sim (N := N) q.1 0 t s (fun t => (forceH q.2 fun H => some (Ex.normal, t, H) : OutE)) h
      rw [h1, forceH_eq] at hd
      simp only [Option.some.injEq, Prod.mk.injEq] at hd
      obtain ⟨rfl, rfl, rfl⟩ := hd
      refine ⟨rfl, q.1, rfl, ?_⟩
      have e := layL_eq q.1 [] s (by rw [h.1, Nat.eq_of_beq_eq_true hl]; exact Nat.le_refl _)
      simp only [List.length_nil, List.nil_append] at e
      rw [e, Nat.eq_of_beq_eq_true hl, ← h.1, List.drop_length, List.append_nil] at h2
      exact h.1 ▸ h2
    · cases hd
  · cases hd
theorem ordE_sim {call call' : Caller} (hle : call.le call') {ops : Array Oper} {N : Nat} {t t' : Tv} {s : List AV} {H H' : AH} {e : Ex} (h : Rep N t s) (hd : ordE S call ops N t H = some (e, t', H')) : e = .normal ∧ ∃ s', Rep N t' s' ∧
    (match drawOK2 S ops with
      | true => runB (bornId H.objs.length (birthsOf ops.toList)) S call' ops ops.toList s (reserve H (birthsOf ops.toList).length) = some (s', H')
      | false => runP S call' ops s H = some (s', H')) := by
  unfold ordE at hd
  rw [toL_eq h] at hd
  split at hd
  · obtain ⟨h1, s', h2, h3⟩ := outE_sim h hd
    exact ⟨h1, s', h3, runB_mono hle _ h2⟩
  · obtain ⟨h1, s', h2, h3⟩ := outE_sim h hd
    exact ⟨h1, s', h3, runP_mono hle h2⟩

theorem regE_sim {call call' : Caller} (hle : call.le call') {N : Nat} {ops : Array Oper} {draw : Bool} {t : Tv} {s : List AV} {H : AH} {e : Ex} {t' : Tv} {H' : AH} (hr : Rep N t s) (h : regE S ops draw (fun _ => opsGE S call ops N ops.toList t H) (fun _ => ordE S call ops N t H) (opsE S call ops N ops.toList t H) = some (e, t', H')) :
    ∃ s', Rep N t' s' ∧ ∀ {R : Type} (K : Ex → List AV → AH → Option R), regK S call' ops draw s H K = K e s' H' := by
  unfold regE at h
  split at h
  · rename_i hd
    split at h
    · rename_i hd2
      obtain ⟨rfl, s', h2, h1⟩ := ordE_sim hle hr h
      rw [hd2] at h1
      refine ⟨s', h2, fun K => ?_⟩
      unfold regK
      simp only at h1
      rw [if_pos hd, if_pos hd2, h1]
      rfl
    · rename_i hd2
      split at h
      · rename_i hd3
        obtain ⟨rfl, s', h1, h2⟩ := opsGE_sim hle hr h
        refine ⟨s', h2, fun K => ?_⟩
        unfold regK
        rw [if_pos hd, if_neg (by rw [hd2]; simp), if_pos hd3, h1]
        rfl
      · rename_i hd3
        obtain ⟨rfl, s', h2, h1⟩ := ordE_sim hle hr h
        rw [hd2] at h1
        refine ⟨s', h2, fun K => ?_⟩
        unfold regK
        simp only at h1
        rw [if_pos hd, if_neg (by rw [hd2]; simp), if_neg (by rw [hd3]; simp), h1]
        rfl
  · rename_i hd
    have key : opsE S call ops N ops.toList t H = some (e, t', H') ∧ (isPan e && (draw && !lineOK ops)) = false := by
      split at h
      · rename_i v t1 H1 ho
        unfold lineE at h
        split at h
        · simp at h
        · rename_i hl
          simp only [Option.some.injEq, Prod.mk.injEq] at h
          obtain ⟨rfl, rfl, rfl⟩ := h
          exact ⟨ho, by rw [hl]; simp⟩
      · rename_i hn
        refine ⟨h, ?_⟩
        cases e with
        | panic v => exact absurd h (hn v t' H')
        | _ => rfl
    obtain ⟨s', h1, h2⟩ := opsE_sim hle ops.toList hr key.1
    refine ⟨s', h2, fun K => ?_⟩
    unfold regK
    rw [if_neg (by rw [hd]; simp), h1]
    simp only [optK, key.2, Bool.false_eq_true, if_false]

theorem denSE_sim {call call' : Caller} (hle : call.le call') (N : Nat) : ∀ (c : Code) (t : Tv) (s : List AV) (H : AH) (e : Ex) (t' : Tv) (H' : AH), Rep N t s → denSE S call N c t H = some (e, t', H') →
    ∃ s', Rep N t' s' ∧ ∀ {R : Type} (K : Ex → List AV → AH → Option R), denS S call' c s H K = K e s' H'
  | .skip, t, s, H, e, t', H', hr, h => by
    simp only [denSE, Option.some.injEq, Prod.mk.injEq] at h
    obtain ⟨rfl, rfl, rfl⟩ := h
    exact ⟨s, hr, fun K => rfl⟩
  | .region id ops draw, t, s, H, e, t', H', hr, h => by
    simp only [denSE] at h
    obtain ⟨s', h1, h2⟩ := regE_sim hle hr h
    exact ⟨s', h1, fun K => by simp only [denS]; exact h2 K⟩
  | .seq a b, t, s, H, e, t', H', hr, h => by
    simp only [denSE] at h
    unfold andE at h
    split at h
    · rename_i t1 H1 hx
      obtain ⟨s1, h1, h2⟩ := denSE_sim hle N a t s H _ _ _ hr hx
      obtain ⟨s2, h3, h4⟩ := denSE_sim hle N b t1 s1 H1 _ _ _ h1 h
      exact ⟨s2, h3, fun K => by simp only [denS]; rw [h2]; exact h4 K⟩
    · rename_i hn
      obtain ⟨s1, h1, h2⟩ := denSE_sim hle N a t s H _ _ _ hr h
      refine ⟨s1, h1, fun K => ?_⟩
      simp only [denS]
      rw [h2]
      cases e with
      | normal => exact absurd h (hn t' H')
      | _ => rfl
  | .cond c a b, t, s, H, e, t', H', hr, h => by
    simp only [denSE] at h
    rw [evE_eq hr] at h
    unfold condE at h
    split at h
    · rename_i hv
      obtain ⟨s1, h1, h2⟩ := denSE_sim hle N a t s H _ _ _ hr h
      exact ⟨s1, h1, fun K => by simp only [denS, hv, br]; exact h2 K⟩
    · rename_i hv
      obtain ⟨s1, h1, h2⟩ := denSE_sim hle N b t s H _ _ _ hr h
      exact ⟨s1, h1, fun K => by simp only [denS, hv, br]; exact h2 K⟩
    · simp at h
  | .exit id, t, s, H, e, t', H', hr, h => by
    simp only [denSE, Option.some.injEq, Prod.mk.injEq] at h
    obtain ⟨rfl, rfl, rfl⟩ := h
    exact ⟨s, hr, fun K => rfl⟩
  | .ret, t, s, H, e, t', H', hr, h => by
    simp only [denSE, Option.some.injEq, Prod.mk.injEq] at h
    obtain ⟨rfl, rfl, rfl⟩ := h
    exact ⟨s, hr, fun K => rfl⟩
  | .label l, t, s, H, e, t', H', hr, h => by
    simp only [denSE, Option.some.injEq, Prod.mk.injEq] at h
    obtain ⟨rfl, rfl, rfl⟩ := h
    exact ⟨s, hr, fun K => rfl⟩
  | .block id c, t, s, H, e, t', H', hr, h => by simp [denSE] at h
  | .loop c, t, s, H, e, t', H', hr, h => by simp [denSE] at h
  | .scope c, t, s, H, e, t', H', hr, h => by simp [denSE] at h
  | .goto l, t, s, H, e, t', H', hr, h => by simp [denSE] at h
  | .rangeFunc g ps x y, t, s, H, e, t', H', hr, h => by simp [denSE] at h
  | .refuse w, t, s, H, e, t', H', hr, h => by simp [denSE] at h

theorem denE_sim {call call' : Caller} (hle : call.le call') (fuel N : Nat) : ∀ (c : Code) (t : Tv) (s : List AV) (H : AH) (e : Ex) (t' : Tv) (H' : AH), Rep N t s → denE S call fuel N c t H = some (e, t', H') → SimO S call' (fun b => iter S.room b fuel) c N s H e t' H'
  | .skip, t, s, H, e, t', H', hr, h => by
    simp only [denE, Option.some.injEq, Prod.mk.injEq] at h
    obtain ⟨rfl, rfl, rfl⟩ := h
    exact ⟨s, hr, fun K => rfl⟩
  | .region id ops draw, t, s, H, e, t', H', hr, h => by
    simp only [denE] at h
    obtain ⟨s', h1, h2⟩ := regE_sim hle hr h
    exact ⟨s', h1, fun K => by simp only [denK]; exact h2 K⟩
  | .seq a b, t, s, H, e, t', H', hr, h => by
    simp only [denE] at h
    unfold andE at h
    split at h
    · rename_i t1 H1 hx
      obtain ⟨s1, h1, h2⟩ := denE_sim hle fuel N a t s H _ _ _ hr hx
      obtain ⟨s2, h3, h4⟩ := denE_sim hle fuel N b t1 s1 H1 _ _ _ h1 h
      exact ⟨s2, h3, fun K => by simp only [denK]; rw [h2]; exact h4 K⟩
    · rename_i hn
      obtain ⟨s1, h1, h2⟩ := denE_sim hle fuel N a t s H _ _ _ hr h
      refine ⟨s1, h1, fun K => ?_⟩
      simp only [denK]
      rw [h2]
      cases e with
      | normal => exact absurd h (hn t' H')
      | _ => rfl
  | .cond c a b, t, s, H, e, t', H', hr, h => by
    simp only [denE] at h
    rw [evE_eq hr] at h
    unfold condE at h
    split at h
    · rename_i hv
      obtain ⟨s1, h1, h2⟩ := denE_sim hle fuel N a t s H _ _ _ hr h
      exact ⟨s1, h1, fun K => by simp only [denK, hv, br]; exact h2 K⟩
    · rename_i hv
      obtain ⟨s1, h1, h2⟩ := denE_sim hle fuel N b t s H _ _ _ hr h
      exact ⟨s1, h1, fun K => by simp only [denK, hv, br]; exact h2 K⟩
    · simp at h
  | .block id c, t, s, H, e, t', H', hr, h => by
    simp only [denE] at h
    unfold blockE at h
    split at h
    · rename_i i t1 H1 hx
      obtain ⟨s1, h1, h2⟩ := denE_sim hle fuel N c t s H _ _ _ hr hx
      split at h
      · rename_i hb
        have := Nat.eq_of_beq_eq_true hb
        simp only [Option.some.injEq, Prod.mk.injEq] at h
        obtain ⟨rfl, rfl, rfl⟩ := h
        exact ⟨s1, h1, fun K => by simp only [denK]; rw [h2]; simp [this]⟩
      · rename_i hb
        have : ¬ i = id := fun e => by subst e; simp at hb
        simp only [Option.some.injEq, Prod.mk.injEq] at h
        obtain ⟨rfl, rfl, rfl⟩ := h
        exact ⟨s1, h1, fun K => by simp only [denK]; rw [h2]; simp [this]⟩
    · rename_i hn
      obtain ⟨s1, h1, h2⟩ := denE_sim hle fuel N c t s H _ _ _ hr h
      refine ⟨s1, h1, fun K => ?_⟩
      simp only [denK]
      rw [h2]
      cases e with
      | exit i => exact absurd h (hn i t' H')
      | _ => rfl
  | .loop c, t, s, H, e, t', H', hr, h => by
    simp only [denE] at h
    obtain ⟨s1, h1, h2⟩ := iterE_sim (S := S) (n := fuel) (body := fun s H => denK S call' (fun b => iter S.room b fuel) c s H retO) (fun t s H e t' H' hr h => by
      obtain ⟨s', k1, k2⟩ := denE_sim hle fuel N c t s H e t' H' hr h
      exact ⟨s', k1, k2 retO⟩) fuel t s H e t' H' hr h
    exact ⟨s1, h1, fun K => by simp only [denK]; rw [h2]; rfl⟩
  | .scope c, t, s, H, e, t', H', hr, h => by
    simp only [denE] at h
    unfold scopeE at h
    split at h
    · rename_i l t1 H1 hx
      obtain ⟨s1, h1, h2⟩ := denE_sim hle fuel N c t s H _ _ _ hr hx
      split at h
      · rename_i rest hf
        unfold noGoE at h
        split at h
        · simp at h
        · rename_i hn
          obtain ⟨s2, h3, h4⟩ := denSE_sim hle N rest t1 s1 H1 e t' H' h1 h
          refine ⟨s2, h3, fun K => ?_⟩
          simp only [denK]
          rw [h2]
          simp only [jumpK, hf]
          rw [h4]
          cases e with
          | goto l' => exact absurd h (hn l' t' H')
          | _ => rfl
      · simp at h
    · rename_i hn
      obtain ⟨s1, h1, h2⟩ := denE_sim hle fuel N c t s H _ _ _ hr h
      refine ⟨s1, h1, fun K => ?_⟩
      simp only [denK]
      rw [h2]
      cases e with
      | goto l => exact absurd h (hn l t' H')
      | _ => rfl
  | .exit id, t, s, H, e, t', H', hr, h => by
    simp only [denE, Option.some.injEq, Prod.mk.injEq] at h
    obtain ⟨rfl, rfl, rfl⟩ := h
    exact ⟨s, hr, fun K => rfl⟩
  | .ret, t, s, H, e, t', H', hr, h => by
    simp only [denE, Option.some.injEq, Prod.mk.injEq] at h
    obtain ⟨rfl, rfl, rfl⟩ := h
    exact ⟨s, hr, fun K => rfl⟩
  | .label l, t, s, H, e, t', H', hr, h => by
    simp only [denE, Option.some.injEq, Prod.mk.injEq] at h
    obtain ⟨rfl, rfl, rfl⟩ := h
    exact ⟨s, hr, fun K => rfl⟩
  | .rangeFunc g ps x y, t, s, H, e, t', H', hr, h => by
    simp only [denE] at h
    rw [evE_eq hr] at h
    unfold rangeE at h
    split at h
    · rename_i f first caps hv
      split at h
      · rename_i p hp
        rw [toL_eq hr] at hp
        obtain ⟨rfl, h2⟩ := leaveE_sim hr h
        refine ⟨s, hr, fun K => ?_⟩
        simp only [denK, hv, rangeK]
        rw [show call' f _ _ = some p from hle.fn _ _ _ _ hp]
        exact h2 K
      · simp at h
    · simp at h
  | .goto l, t, s, H, e, t', H', hr, h => by
    simp only [denE, Option.some.injEq, Prod.mk.injEq] at h
    obtain ⟨rfl, rfl, rfl⟩ := h
    exact ⟨s, hr, fun K => rfl⟩
  | .refuse w, t, s, H, e, t', H', hr, h => by simp [denE] at h

end Go.Sx

/- THE ENGINE, 35: the evaluator for the kernel: functions and calls. -/
set_option linter.unusedSimpArgs false
set_option linter.unusedVariables false
namespace Go.Sx
variable {R : Type} {S : Sys}

def depthOf (n : Nat) : Nat := match Nat.blt n 30 with | true => 5 | false => match Nat.blt n 126 with | true => 7 | false => 9

noncomputable def oneE (S : Sys) (N : Nat) (t : Tv) (H : AH) (r : ResultVar) : Option AV := match r with
  | .tmp i => some (slot N t i)
  | .cell a ty => match S.T ty with
    | some i => loadK H i (slot N t a) some
    | none => none

noncomputable def resE (S : Sys) (N : Nat) (t : Tv) (H : AH) (rs : List ResultVar) : Option (List AV) :=
  List.rec (motive := fun _ => Option (List AV)) (some []) (fun r _ ih => match oneE S N t H r with | some v => forceV v fun v => (match ih with | some vs => some (v :: vs) | none => none) | none => none) rs

noncomputable def resultE (o : Option (List AV)) (H : AH) : Option Res := match o with | some vs => some (.val (bundle vs) H) | none => none
noncomputable def finE (S : Sys) (N : Nat) (rs : List ResultVar) (o : OutE) : Option Res := match o with
  | some (.normal, t, H) => resultE (resE S N t H rs) H
  | some (.ret, t, H) => resultE (resE S N t H rs) H
  | some (.panic v, _, H) => some (.pan v H)
  | _ => none

noncomputable def bodyE (S : Sys) (call : Caller) (fuel N : Nat) (c : Code) (rs : List ResultVar) (H : AH) (t : Tv) : Option Res := finE S N rs (denE S call fuel N c t H)

noncomputable def runE (S : Sys) (call : Caller) (fuel : Nat) (fn : Func) (args : List AV) (H : AH) : Option Res := match fn.body with
  | none => none
  | some c => match Nat.ble args.length fn.ntmps && Nat.blt (fn.ntmps + 1) (2 ^ depthOf fn.ntmps) with
    | true => fillE args 0 (Tv.full (depthOf fn.ntmps)) (bodyE S call fuel fn.ntmps c fn.results.toList H)
    | false => none

theorem resE_sim {N : Nat} {t : Tv} {s : List AV} {H : AH} (hr : Rep N t s) : ∀ (rs : List ResultVar) (vs : List AV), resE S N t H rs = some vs → ∀ (acc : List AV) {R : Type} (K : List AV → Option R), resultsK S s H rs acc K = K (acc ++ vs)
  | [], vs, h, acc, R, K => by
    have h' : some [] = some vs := h
    simp only [Option.some.injEq] at h'
    subst h'
    simp [resultsK]
  | r :: rs, vs, h, acc, R, K => by
    have h' : (match oneE S N t H r with | some v => forceV v fun v => (match resE S N t H rs with | some vs => some (v :: vs) | none => none) | none => none) = some vs := h
    split at h'
    · rename_i v hv
      rw [forceV_eq] at h'
      split at h'
      · rename_i us hus
        simp only [Option.some.injEq] at h'
        subst h'
        have ih := resE_sim hr rs us hus
        simp only [resultsK]
        have h1 : ∀ {R : Type} (K : AV → Option R), oneResult S s H r K = K v := by
          intro R K
          unfold oneE at hv
          cases r with
          | tmp i =>
            simp only [Option.some.injEq] at hv
            rw [slot_eq hr] at hv
            simp only [oneResult, hv]
          | cell a ty =>
            simp only at hv
            split at hv
            · rename_i i hi
              rw [slot_eq hr] at hv
              simp only [oneResult, hi]
              rw [loadK_nat, hv]; rfl
            · simp at hv
        rw [h1, ih]
        simp
      · simp at h'
    · simp at h'

theorem resultE_sim {N : Nat} {t : Tv} {s : List AV} {H : AH} {rs : List ResultVar} {r : Res} (hr : Rep N t s) (h : resultE (resE S N t H rs) H = some r) : (resultsK S s H rs [] fun vs => some (.val (bundle vs) H)) = some r := by
  unfold resultE at h
  split at h
  · rename_i vs hvs
    have := resE_sim hr rs vs hvs
    rw [this]; simpa using h
  · simp at h

theorem finE_sim {call call' : Caller} (hle : call.le call') {fuel N : Nat} {c : Code} {t : Tv} {s : List AV} {H : AH} {fn : Func} {r : Res} (hr : Rep N t s) (h : finE S N fn.results.toList (denE S call fuel N c t H) = some r) :
    denK S call' (fun b => iter S.room b fuel) c s H (endR S fn) = some r := by
  unfold finE at h
  split at h
  · rename_i t' H' hd
    obtain ⟨s', h1, h2⟩ := denE_sim hle fuel N c t s H _ t' H' hr hd
    rw [h2]
    exact resultE_sim h1 h
  · rename_i t' H' hd
    obtain ⟨s', h1, h2⟩ := denE_sim hle fuel N c t s H _ t' H' hr hd
    rw [h2]
    exact resultE_sim h1 h
  · rename_i v t' H' hd
    obtain ⟨s', h1, h2⟩ := denE_sim hle fuel N c t s H _ t' H' hr hd
    rw [h2]
    exact h
  · simp at h

theorem runE_sim {call call' : Caller} (hle : call.le call') {fuel : Nat} {fn : Func} {args : List AV} {H : AH} {r : Res} (h : runE S call fuel fn args H = some r) : runK S call' (fun b => iter S.room b fuel) fn args H = some r := by
  unfold runE at h
  unfold runK
  split at h
  · simp at h
  · rename_i c hc
    split at h
    · rename_i hb
      simp only [Bool.and_eq_true] at hb
      have hlen := Nat.le_of_ble_eq_true hb.1
      have hd : fn.ntmps + 1 < 2 ^ depthOf fn.ntmps := Nat.le_of_ble_eq_true hb.2
      have hrep : Rep fn.ntmps (Tv.full (depthOf fn.ntmps)) (List.replicate fn.ntmps .top) := by
        refine ⟨by simp, fun i hi => ⟨Tv.full_has _ _ (by omega), ?_⟩⟩
        rw [Tv.full_get]
        simp [List.getD, hi]
      obtain ⟨t', h1, h2⟩ := fillE_sim args 0 _ _ (bodyE S call fuel fn.ntmps c fn.results.toList H) hrep
      rw [h1] at h
      have e : layL args 0 (List.replicate fn.ntmps .top) = args ++ List.replicate (fn.ntmps - args.length) .top := by
        have := layL_eq args [] (List.replicate fn.ntmps .top) (by simpa using hlen)
        simpa using this
      rw [e] at h2
      simp only [hc]
      exact finE_sim hle h2 h
    · simp at h

noncomputable def pureE (args : List AV) (H : AH) (o : Option Res) : Option Res := match o with
  | some r => (match r.thaw with
    | some p => (match pureOut args p.1 with | some v => some (.val v H) | none => none)
    | none => none)
  | none => none
noncomputable def extE (args ts : List AV) (H : AH) (g : List AV → Option AV) : Option Res := match g ts with
  | some u => (match pureOut args u with | some v => some (.val v H) | none => none)
  | none => none
noncomputable def keepE (H : AH) (o : Option Res) : Option Res := match o with
  | some p => some (truncR H p)
  | none => none
noncomputable def retE (S : Sys) (f : FuncId) (H : AH) (o : Option Res) : Option Res := match o with
  | some p => outR S f H p
  | none => none
noncomputable def onE (o : Option (List AV)) (k : List AV → Option Res) : Option Res := match o with | some ts => k ts | none => none

/-! ### Functions that defer a call -/
noncomputable def layE (N : Nat) (l : List AV) (k : Tv → Option R) : Option R := match Nat.ble l.length N && Nat.blt (N + 1) (2 ^ depthOf N) with
  | true => fillE l 0 (Tv.full (depthOf N)) k
  | false => none
theorem layE_sim {N : Nat} {l : List AV} {k : Tv → Option R} {r : R} (h : layE N l k = some r) : ∃ t, Rep N t (l ++ List.replicate (N - l.length) .top) ∧ k t = some r := by
  unfold layE at h
  split at h
  · rename_i hb
    simp only [Bool.and_eq_true] at hb
    have hlen := Nat.le_of_ble_eq_true hb.1
    have hd : N + 1 < 2 ^ depthOf N := Nat.le_of_ble_eq_true hb.2
    have hrep : Rep N (Tv.full (depthOf N)) (List.replicate N .top) := by
      refine ⟨by simp, fun i hi => ⟨Tv.full_has _ _ (by omega), ?_⟩⟩
      rw [Tv.full_get]
      simp [List.getD, hi]
    obtain ⟨t', h1, h2⟩ := fillE_sim l 0 _ _ k hrep
    rw [h1] at h
    have e : layL l 0 (List.replicate N .top) = l ++ List.replicate (N - l.length) .top := by
      have := layL_eq l [] (List.replicate N .top) (by simpa using hlen)
      simpa using this
    rw [e] at h2
    exact ⟨t', h2, h⟩
  · cases h
noncomputable def recOne (S : Sys) (N : Nat) (t : Tv) (H : AH) (rs : List ResultVar) : Option AH := match resE S N t H rs with | some _ => some H | none => none
noncomputable def recFinE (S : Sys) (N : Nat) (rs : List ResultVar) (o : OutE) : Option AH := match o with
  | some (.normal, t, H) => recOne S N t H rs
  | some (.ret, t, H) => recOne S N t H rs
  | _ => none
noncomputable def recE (S : Sys) (call : Caller) (fuel : Nat) (g : FuncId) (args : List AV) (H : AH) (x : AV) : Option AH := match S.dfn g with
  | some fn => (match recBody fn with
    | some (ops, rest) => (match recOps ops, plainC rest with
      | some (d0, d1), true => layE fn.ntmps (recS (args ++ List.replicate (fn.ntmps - args.length) AV.top) d0 d1 x) fun t => recFinE S fn.ntmps fn.results.toList (denE S call fuel fn.ntmps rest t H)
      | _, _ => none)
    | none => none)
  | none => none
theorem recOne_sim {N : Nat} {t : Tv} {s : List AV} {H H' : AH} {rs : List ResultVar} (hr : Rep N t s) (h : recOne S N t H rs = some H') : (resultsK S s H rs [] fun _ => some H) = some H' := by
  unfold recOne at h
  split at h
  · rename_i vs hvs
    rw [resE_sim hr rs vs hvs]; exact h
  · cases h
theorem recE_sim {call call' : Caller} (hle : call.le call') {fuel : Nat} {g : FuncId} {args : List AV} {H H' : AH} {x : AV} (h : recE S call fuel g args H x = some H') : recK S call' (fun b => iter S.room b fuel) g args H x = some H' := by
  unfold recE at h
  unfold recK
  split at h
  · rename_i fn hfn
    simp only [hfn]
    split at h
    · rename_i ops rest hb
      simp only [hb]
      split at h
      · rename_i d0 d1 ho hp
        simp only [ho, hp]
        obtain ⟨t, h1, h2⟩ := layE_sim h
        have hz : (recS (args ++ List.replicate (fn.ntmps - args.length) AV.top) d0 d1 x).length ≥ fn.ntmps := by simp [recS]; omega
        have e0 : recS (args ++ List.replicate (fn.ntmps - args.length) AV.top) d0 d1 x ++ List.replicate (fn.ntmps - (recS (args ++ List.replicate (fn.ntmps - args.length) AV.top) d0 d1 x).length) AV.top = recS (args ++ List.replicate (fn.ntmps - args.length) AV.top) d0 d1 x := by
          rw [show fn.ntmps - (recS (args ++ List.replicate (fn.ntmps - args.length) AV.top) d0 d1 x).length = 0 by omega]; simp
        rw [e0] at h1
        unfold recFinE at h2
        split at h2
        · rename_i t' H1 hd
          obtain ⟨s', k1, k2⟩ := denE_sim hle fuel fn.ntmps rest t _ H _ t' H1 h1 hd
          rw [k2]
          exact recOne_sim k1 h2
        · rename_i t' H1 hd
          obtain ⟨s', k1, k2⟩ := denE_sim hle fuel fn.ntmps rest t _ H _ t' H1 h1 hd
          rw [k2]
          exact recOne_sim k1 h2
        · cases h2
      · cases h
    · cases h
  · cases h
noncomputable def endOne (S : Sys) (fn : Func) (t : Tv) (o : Option AH) : Option Res := match o with
  | some H => resultE (resE S fn.ntmps t H fn.results.toList) H
  | none => none
noncomputable def endDE (S : Sys) (call : Caller) (fuel : Nat) (fn : Func) (g : FuncId × List AV) (o : OutE) : Option Res := match o with
  | some (.normal, t, H) => endOne S fn t (recE S call fuel g.1 g.2 H .niliface)
  | some (.ret, t, H) => endOne S fn t (recE S call fuel g.1 g.2 H .niliface)
  | some (.panic v, t, H) => endOne S fn t (recE S call fuel g.1 g.2 H v)
  | _ => none
theorem endOne_sim {call call' : Caller} (hle : call.le call') {fuel : Nat} {fn : Func} {g : FuncId × List AV} {t : Tv} {s : List AV} {H : AH} {x : AV} {r : Res} (hr : Rep fn.ntmps t s) (h : endOne S fn t (recE S call fuel g.1 g.2 H x) = some r) : (optK (recK S call' (fun b => iter S.room b fuel) g.1 g.2 H x) fun H => endR S fn .ret s H) = some r := by
  unfold endOne at h
  split at h
  · rename_i H1 hH
    rw [recE_sim hle hH, optK_some]
    exact resultE_sim hr h
  · cases h
noncomputable def thenD (S : Sys) (call : Caller) (fuel : Nat) (fn : Func) (f : Operand) (rest : Code) (o : OutE) : Option Res := match o with
  | some (.normal, t, H) => (match closOf (evE S.G fn.ntmps t f) with
    | some g => endDE S call fuel fn g (denE S call fuel fn.ntmps rest t H)
    | none => none)
  | _ => none
noncomputable def preD (S : Sys) (call : Caller) (fuel : Nat) (fn : Func) (ops : Array Oper) (o1 : Oper) (f : Operand) (rest : Code) (o : OutE) : Option Res := match o with
  | some (.normal, t, H) => thenD S call fuel fn f rest (opsE S call ops fn.ntmps [o1] t H)
  | _ => none
noncomputable def runDE (S : Sys) (call : Caller) (fuel : Nat) (fn : Func) (args : List AV) (H : AH) : Option Res := match defBody fn with
  | some (a, ops, rest) => (match defOps ops with
    | some (o1, f) => (match Nat.ble args.length fn.ntmps with
      | true => layE fn.ntmps args fun t => preD S call fuel fn ops o1 f rest (denE S call fuel fn.ntmps a t H)
      | false => none)
    | none => none)
  | none => none
theorem runDE_sim {call call' : Caller} (hle : call.le call') {fuel : Nat} {fn : Func} {args : List AV} {H : AH} {r : Res} (h : runDE S call fuel fn args H = some r) : runDK S call' (fun b => iter S.room b fuel) fn args H = some r := by
  unfold runDE at h
  unfold runDK
  split at h
  · rename_i a ops rest hb
    simp only [hb]
    split at h
    · rename_i o1 f ho
      simp only [ho]
      split at h
      · obtain ⟨t, h1, h2⟩ := layE_sim h
        unfold preD at h2
        split at h2
        · rename_i t1 H1 hd
          obtain ⟨s1, k1, k2⟩ := denE_sim hle fuel fn.ntmps a t _ H _ t1 H1 h1 hd
          rw [k2]
          simp only
          unfold thenD at h2
          split at h2
          · rename_i t2 H2 hd2
            obtain ⟨s2, k3, k4⟩ := opsE_sim hle [o1] k1 hd2
            rw [opsK_run, runX_D _ k3, optK_some]
            split at h2
            · rename_i g hg
              rw [evE_eq k4] at hg
              rw [hg, optK_some]
              unfold endDE at h2
              split at h2
              · rename_i t3 H3 hd3
                obtain ⟨s3, k5, k6⟩ := denE_sim hle fuel fn.ntmps rest t2 _ H2 _ t3 H3 k4 hd3
                rw [k6]
                exact endOne_sim hle k5 h2
              · rename_i t3 H3 hd3
                obtain ⟨s3, k5, k6⟩ := denE_sim hle fuel fn.ntmps rest t2 _ H2 _ t3 H3 k4 hd3
                rw [k6]
                exact endOne_sim hle k5 h2
              · rename_i v t3 H3 hd3
                obtain ⟨s3, k5, k6⟩ := denE_sim hle fuel fn.ntmps rest t2 _ H2 _ t3 H3 k4 hd3
                rw [k6]
                exact endOne_sim hle k5 h2
              · cases h2
            · cases h2
          · cases h2
        · cases h2
      · cases h
    · cases h
  · cases h

noncomputable def enterE (S : Sys) (call : Caller) (fuel : Nat) (f : FuncId) (args : List AV) (H : AH) : Option Res := match S.ext f with
  | some g => onE (resolveL H args) fun ts => extE args ts H g
  | none => match S.F f with
    | none => (match S.dfn f with
      | none => none
      | some fn => (match S.isPure f with
        | true => onE (resolveL H args) fun ts => pureE args H (runDE S call fuel fn ts ⟨[], []⟩)
        | false => keepE H (runDE S call fuel fn args H)))
    | some fn => match S.isPure f with
      | true => onE (resolveL H args) fun ts => pureE args H (runE S call fuel fn ts ⟨[], []⟩)
      | false => match S.extH f with
        | some g => toR (g args H)
        | none => retE S f H (runE S call fuel fn args H)

theorem enterE_sim {call call' : Caller} (hle : call.le call') {fuel : Nat} {f : FuncId} {args : List AV} {H : AH} {r : Res} (h : enterE S call fuel f args H = some r) : enterF S call' (fun b => iter S.room b fuel) f args H = some r := by
  unfold enterE at h
  unfold enterF
  split at h
  · rename_i g hg
    simp only [hg]
    unfold onE at h
    split at h
    · rename_i ts hts
      rw [hts, optK_some]
      simp only at h
      unfold extE at h
      split at h
      · rename_i u hu
        rw [hu, optK_some]
        split at h
        · rename_i v hv; rw [hv, optK_some]; exact h
        · simp at h
      · simp at h
    · simp at h
  · rename_i hg
    simp only [hg]
    split at h
    · rename_i hfn
      simp only [hfn]
      split at h
      · simp at h
      · rename_i fn hfd
        simp only [hfd]
        split at h
        · rename_i hp
          rw [if_pos hp]
          unfold onE at h
          split at h
          · rename_i ts hts
            rw [hts, optK_some]
            simp only at h
            unfold pureE at h
            split at h
            · rename_i r0 hrun
              rw [runDE_sim hle hrun, optK_some]
              split at h
              · rename_i p0 hp0
                rw [hp0, optK_some]
                split at h
                · rename_i v hv; rw [hv, optK_some]; exact h
                · simp at h
              · simp at h
            · simp at h
          · simp at h
        · rename_i hp
          rw [if_neg (by rw [hp]; simp)]
          unfold keepE at h
          split at h
          · rename_i p hrun
            rw [runDE_sim hle hrun, optK_some]; exact h
          · simp at h
    · rename_i fn hfn
      simp only [hfn]
      split at h
      · rename_i hp
        rw [if_pos hp]
        unfold onE at h
        split at h
        · rename_i ts hts
          rw [hts, optK_some]
          simp only at h
          unfold pureE at h
          split at h
          · rename_i r0 hrun
            rw [runE_sim hle hrun, optK_some]
            split at h
            · rename_i p0 hp0
              rw [hp0, optK_some]
              split at h
              · rename_i v hv; rw [hv, optK_some]; exact h
              · simp at h
            · simp at h
          · simp at h
        · simp at h
      · rename_i hp
        rw [if_neg (by rw [hp]; simp)]
        split at h
        · rename_i g hg
          simp only [hg]
          cases hgp : g args H with
          | none => rw [hgp] at h; simp [toR] at h
          | some p => rw [hgp] at h; exact h
        rename_i hg
        simp only [hg]
        unfold retE at h
        split at h
        · rename_i p hrun
          rw [runE_sim hle hrun, optK_some]; exact h
        · simp at h

noncomputable def yendE (id : Nat) (H : AH) (o : OutE) : OutV := match o with
  | some (e, _, H2) => (match exLeft e with | some st => (match setLoop H2 id st with | some H3 => some (trunc H (.bool e.stays, H3)) | none => none) | none => none)
  | none => none
noncomputable def ymidE (S : Sys) (call : Caller) (fuel N id : Nat) (y : Code) (H : AH) (o : OutE) : OutV := match o with
  | some (.normal, t1, H1) => (match H1.objs[id]? with
    | some (.loop s' ps' x' y' .ready) => yendE id H (denE S call fuel N y t1 { H1 with objs := H1.objs.set id (.loop s' ps' x' y' .busy) })
    | _ => none)
  | _ => none
noncomputable def yieldE (S : Sys) (call : Caller) (fuel : Nat) (id : Nat) (args : List AV) (H : AH) : OutV := match H.objs[id]? with
  | some (.loop s ps x y .ready) => (match Nat.beq args.length ps.length && (plainC x && (plainC y && Nat.blt (s.length + 1) (2 ^ depthOf s.length))) with
    | true => fillE ((ps.zip args).foldl (fun s p => s.set p.1 p.2) s) 0 (Tv.full (depthOf s.length)) fun t => ymidE S call fuel s.length id y H (denE S call fuel s.length x t H)
    | false => none)
  | _ => none

theorem foldset_length : ∀ (l : List (Nat × AV)) (s : List AV), (l.foldl (fun s p => s.set p.1 p.2) s).length = s.length
  | [], s => rfl
  | p :: l, s => by simp [foldset_length l]

theorem yieldE_sim {call call' : Caller} (hle : call.le call') {fuel id : Nat} {args : List AV} {H : AH} {r : AV × AH} (h : yieldE S call fuel id args H = some r) : yieldF S call' (fun b => iter S.room b fuel) id args H = some r := by
  unfold yieldE at h
  unfold yieldF
  split at h
  · rename_i s ps x y hob
    simp only [hob]
    split at h
    · rename_i hb
      simp only [Bool.and_eq_true] at hb
      obtain ⟨h1, h2, h3, h4⟩ := hb
      rw [if_pos ⟨Nat.eq_of_beq_eq_true h1, h2, h3⟩]
      have hd : s.length + 1 < 2 ^ depthOf s.length := Nat.le_of_ble_eq_true h4
      have hrep : Rep s.length (Tv.full (depthOf s.length)) (List.replicate s.length .top) := by
        refine ⟨by simp, fun i hi => ⟨Tv.full_has _ _ (by omega), ?_⟩⟩
        rw [Tv.full_get]
        simp [List.getD, hi]
      generalize hz : (ps.zip args).foldl (fun s p => s.set p.1 p.2) s = z at h ⊢
      have hzl : z.length = s.length := by rw [← hz]; exact foldset_length _ _
      obtain ⟨t', k1, k2⟩ := fillE_sim z 0 _ _ (fun t => ymidE S call fuel s.length id y H (denE S call fuel s.length x t H)) hrep
      rw [k1] at h
      have e : layL z 0 (List.replicate s.length .top) = z := by
        have := layL_eq z [] (List.replicate s.length .top) (by simp [hzl])
        simpa [hzl] using this
      rw [e] at k2
      unfold ymidE at h
      split at h
      · rename_i t1 H1 hx
        obtain ⟨s1, m1, m2⟩ := denE_sim hle fuel s.length x t' z H _ _ _ k2 hx
        rw [m2]
        simp only
        split at h
        · rename_i s' ps' x' y' hob1
          simp only [hob1]
          unfold yendE at h
          split at h
          · rename_i e2 t2 H2 hy
            obtain ⟨s2, n1, n2⟩ := denE_sim hle fuel s.length y t1 s1 _ _ _ _ m1 hy
            rw [n2]
            split at h
            · rename_i st hst
              split at h
              · rename_i H3 hH3
                simp only [hst, hH3, optK_some]; exact h
              · simp at h
            · simp at h
          · simp at h
        · simp at h
      · simp at h
    · simp at h
  · simp at h

noncomputable def callE (S : Sys) : Nat → Caller
  | 0 => ⟨fun _ _ _ => none, fun _ _ _ => none⟩
  | n + 1 => ⟨enterE S (callE S n) n, yieldE S (callE S n) n⟩

theorem callE_le : ∀ n, (callE S n).le (callF S n)
  | 0 => ⟨fun _ _ _ _ h => by simp [callE] at h, fun _ _ _ _ h => by simp [callE] at h⟩
  | n + 1 => ⟨fun f args H r h => enterE_sim (S := S) (callE_le n) h, fun id args H r h => yieldE_sim (callE_le n) h⟩

/-- Does a run answer true? -/
def tellsTrue (o : OutV) : Bool := match o with
  | some (.bool b, _) => b
  | _ => false

theorem tells_true {n : Nat} {f : FuncId} {args : List AV} {H : AH} (h : tellsTrue (callE S n f args H) = true) : ∃ H', callF S n f args H = some (.bool true, H') := by
  unfold tellsTrue at h
  split at h
  · rename_i b H' hc
    subst h
    exact ⟨H', (callE_le n).fn _ _ _ _ hc⟩
  · simp at h

end Go.Sx

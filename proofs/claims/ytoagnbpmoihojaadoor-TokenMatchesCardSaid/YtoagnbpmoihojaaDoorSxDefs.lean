/- THE ENGINE, 1: an abstract semantics of the loaded code: values are trees, read-only memory is told by its content, objects are numbered; no tape, no schedule. Definitions alone. -/
import Derived.Orders
import Derived.LoopN
import Derived.Laws.Sem
namespace Go.Sx

inductive Spare where
  | unk
  | zero
  | tok (t g : Nat)

/-- Abstract values. -/
inductive AV where
  | top
  | bool (b : Bool)
  | int (k : IntKind) (n : Int)
  | str (s : List UInt8)
  | ptr (id off : Nat)
  | nilptr
  | rop (v : AV)
  | nils
  | inl (fresh : Bool) (p : Spare) (sz : Nat) (xs : List AV)
  | sl (id off len : Nat) (cap : Option Nat) (sz : Nat) (ag : Bool)
  | map (id : Nat)
  | nilmap
  | func (fn : Fn) (first caps : List AV)
  | nilfunc
  | iface (t : TypeId) (v : AV)
  | niliface
  | agg (cs : List AV)
  | tuple (vs : List AV)

def AV.cells : AV → List AV
  | .agg cs => cs
  | v => [v]

inductive TK where
  | bool
  | int (k : IntKind)
  | string
  | ptr
  | func
  | iface
  | struct (fs : List (Nat × TypeId))
  | array (n : Nat) (e : TypeId)
  | slice (e : TypeId)
  | map (k e : TypeId)

structure TI where
  k : TK
  size : Nat
  bytes : Nat
  zero : AV
  cmp : Bool

/-- Where a loop over a function stands. left: none: by a return; some id: by an exit. -/
inductive LSt where
  | ready
  | busy
  | left (j : Option Nat)

inductive AObj where
  | cells (cs : List AV)
  | map (es : List (AV × AV))
  | siter (s : List UInt8) (pos : Nat)
  | loop (s : List AV) (ps : List Nat) (x y : Code) (st : LSt)
  | dead (b : Bool)

structure AH where
  objs : List AObj
  toks : List (Nat × Nat)

structure Sys where
  T : TypeId → Option TI
  F : FuncId → Option Func
  G : Nat → AV
  isPure : FuncId → Bool
  ext : FuncId → Option (List AV → Option AV)
  objT : TypeId → Bool
  room : Nat
  fixed : List (Nat × Array Value) := []

def TI.isAgg (i : TI) : Bool := match i.k with | .struct _ | .array _ _ => true | _ => false

def ofScalar : Value → AV
  | .bool b => .bool b
  | .int k n => .int k n
  | .string s => .str s.data.toList
  | .pointer none => .nilptr
  | .slice none 0 0 => .nils
  | .map none => .nilmap
  | .nilFunc => .nilfunc
  | .nilIface => .niliface
  | _ => .top

def ofValue : Value → AV
  | .agg cs => if cs.toList.all (·.oneCell') then .agg (cs.toList.map ofScalar) else .top
  | v => ofScalar v

def ev (G : Nat → AV) (s : List AV) : Operand → AV
  | .tmp t => s.getD t .top
  | .const v => ofValue v
  | .global g => G g
  | .func f => .func (.func f) [] []

variable {R : Type}

/-- A part of a struct's or array's cells. -/
def partK (i : TI) (cs : List AV) (off : Nat) (k : AV → Option R) : Option R :=
  if i.isAgg then (if off + i.size ≤ cs.length then k (.agg ((cs.drop off).take i.size)) else none)
  else match cs[off]? with
    | some v => k v
    | none => none

def shiftK (left : Bool) (k : IntKind) (a b : Int) (K : AV → Option R) : Option R :=
  if b < 0 then none
  else if left then K (.int k (k.wrap (a * 2 ^ (min b.toNat k.bits)))) else K (.int k (a.fdiv (2 ^ (min b.toNat k.bits))))

def bits2 (op : BinOp) (k : IntKind) (x y : Int) : Int :=
  let a := BitVec.ofInt k.bits x
  let b := BitVec.ofInt k.bits y
  match op with
  | .and => k.wrap (a &&& b).toNat
  | .or => k.wrap (a ||| b).toNat
  | .xor => k.wrap (a ^^^ b).toNat
  | _ => k.wrap (a &&& ~~~b).toNat

def intK (op : BinOp) (k : IntKind) (a b : Int) (K : AV → Option R) : Option R :=
  match op with
  | .add => K (.int k (k.wrap (a + b)))
  | .sub => K (.int k (k.wrap (a - b)))
  | .mul => K (.int k (k.wrap (a * b)))
  | .quo => if b = 0 then none else K (.int k (k.wrap (a.tdiv b)))
  | .rem => if b = 0 then none else K (.int k (a.tmod b))
  | .and => K (.int k (bits2 .and k a b))
  | .or => K (.int k (bits2 .or k a b))
  | .xor => K (.int k (bits2 .xor k a b))
  | .andNot => K (.int k (bits2 .andNot k a b))
  | .eql => K (.bool (a == b))
  | .neq => K (.bool (a != b))
  | .lss => K (.bool (decide (a < b)))
  | .leq => K (.bool (decide (a ≤ b)))
  | .gtr => K (.bool (decide (a > b)))
  | .geq => K (.bool (decide (a ≥ b)))
  | .shl | .shr => none

def strLess : List UInt8 → List UInt8 → Bool
  | _, [] => false
  | [], _ :: _ => true
  | a :: x, b :: y => decide (a < b) || (a == b && strLess x y)

def strK (op : BinOp) (a b : List UInt8) (K : AV → Option R) : Option R :=
  match op with
  | .add => if a.length + b.length ≤ 9223372036854775807 then K (.str (a ++ b)) else none
  | .eql => K (.bool (a == b))
  | .neq => K (.bool (!(a == b)))
  | .lss => K (.bool (strLess a b))
  | .leq => K (.bool (strLess a b || a == b))
  | .gtr => K (.bool (!(strLess a b || a == b)))
  | .geq => K (.bool (!strLess a b))
  | _ => none

/-- Equality at a type, where it can be told from the trees alone. -/
def eqv (T : TypeId → Option TI) : Nat → TypeId → AV → AV → Option Bool
  | 0, _, _, _ => none
  | n + 1, t, x, y =>
    match T t with
    | none => none
    | some i =>
      match i.k, x, y with
      | .bool, .bool a, .bool b => some (a == b)
      | .int _, .int k a, .int k' b => if k = k' then some (a == b) else none
      | .string, .str a, .str b => some (a == b)
      | .ptr, .nilptr, .nilptr => some true
      | .ptr, .nilptr, .ptr _ _ => some false
      | .ptr, .nilptr, .rop _ => some false
      | .ptr, .ptr _ _, .nilptr => some false
      | .ptr, .rop _, .nilptr => some false
      | .slice _, .nils, .nils => some true
      | .slice _, .nils, .inl _ _ _ _ => some false
      | .slice _, .nils, .sl _ _ _ _ _ _ => some false
      | .slice _, .inl _ _ _ _, .nils => some false
      | .slice _, .sl _ _ _ _ _ _, .nils => some false
      | .map _ _, .nilmap, .nilmap => some true
      | .map _ _, .nilmap, .map _ => some false
      | .map _ _, .map _, .nilmap => some false
      | .func, .nilfunc, .nilfunc => some true
      | .func, .nilfunc, .func _ _ _ => some false
      | .func, .func _ _ _, .nilfunc => some false
      | .struct fs, .agg xs, .agg ys =>
        if i.cmp then
          fs.foldr (fun f acc => match T f.2 with
            | none => none
            | some j => partK j xs f.1 fun a => partK j ys f.1 fun b => match eqv T n f.2 a b, acc with
              | some p, some q => some (p && q)
              | _, _ => none) (some true)
        else none
      | .array len e, .agg xs, .agg ys =>
        if i.cmp then
          match T e with
          | none => none
          | some j => (List.range len).foldr (fun m acc => partK j xs (m * j.size) fun a => partK j ys (m * j.size) fun b => match eqv T n e a b, acc with
              | some p, some q => some (p && q)
              | _, _ => none) (some true)
        else none
      | _, _, _ => none

def eqDepth : Nat := 8

def binK (T : TypeId → Option TI) (op : BinOp) (t : TypeId) (x y : AV) (K : AV → Option R) : Option R :=
  match x, y with
  | .int k a, .int k' b =>
    match op with
    | .shl => shiftK true k a b K
    | .shr => shiftK false k a b K
    | op => if k = k' then intK op k a b K else none
  | .str a, .str b => strK op a b K
  | x, y =>
    match op with
    | .eql => match eqv T eqDepth t x y with | some b => K (.bool b) | none => none
    | .neq => match eqv T eqDepth t x y with | some b => K (.bool (!b)) | none => none
    | _ => none

def unK (op : UnOp) (x : AV) (K : AV → Option R) : Option R :=
  match op, x with
  | .neg, .int k n => K (.int k (k.wrap (0 - n)))
  | .xor, .int k n => K (.int k (bits2 .xor k (if k.signed then -1 else k.max) n))
  | .not, .bool b => K (.bool !b)
  | _, _ => none

/-- The elements of a slice. 'size': an element's cells. -/
def chunks (size : Nat) (agg : Bool) : Nat → List AV → List AV
  | 0, _ => []
  | n + 1, cs => (if agg then .agg (cs.take size) else cs.getD 0 .top) :: chunks size agg n (cs.drop size)

/-- The elements of a slice of elements of n cells. -/
def elemsK (H : AH) (n : Nat) (v : AV) (K : List AV → Option R) : Option R :=
  match v with
  | .nils => K []
  | .inl _ _ sz xs => if sz = n then K xs else none
  | .sl id off len _ sz ag =>
    if sz = n then (match H.objs[id]? with
    | some (.cells cs) => if off + len * sz ≤ cs.length then K (chunks sz ag len (cs.drop off)) else none
    | _ => none) else none
  | _ => none

mutual
/-- What a value looks like to a callee that may only read: no token, no ownership. -/
def erase : AV → AV
  | .inl _ _ sz xs => .inl false .unk sz (eraseL xs)
  | .agg cs => .agg (eraseL cs)
  | .tuple vs => .tuple (eraseL vs)
  | .rop v => .rop (erase v)
  | .iface t v => .iface t (erase v)
  | .func fn a b => .func fn (eraseL a) (eraseL b)
  | v => v
def eraseL : List AV → List AV
  | [] => []
  | v :: r => erase v :: eraseL r
end

def Spare.detok : Spare → Spare
  | .tok _ _ => .unk
  | p => p

mutual
/-- A value without tokens: they are given up. -/
def detok : AV → AV
  | .inl f p sz xs => .inl f p.detok sz (detokL xs)
  | .agg cs => .agg (detokL cs)
  | .tuple vs => .tuple (detokL vs)
  | .rop v => .rop (detok v)
  | .iface t v => .iface t (detok v)
  | .func fn a b => .func fn (detokL a) (detokL b)
  | v => v
def detokL : List AV → List AV
  | [] => []
  | v :: r => detok v :: detokL r
end

mutual
/-- No reference to an object from n on, nor to a token from m on. -/
def below (n m : Nat) : AV → Bool
  | .ptr id _ => decide (id < n)
  | .sl id _ _ _ _ _ => decide (id < n)
  | .map id => decide (id < n)
  | .rop v => below n m v
  | .inl _ p _ xs => (match p with | .tok t _ => decide (t < m) | _ => true) && belowL n m xs
  | .agg cs => belowL n m cs
  | .tuple vs => belowL n m vs
  | .iface _ v => below n m v
  | .func (.yield id) a b => decide (id < n) && (belowL n m a && belowL n m b)
  | .func _ a b => belowL n m a && belowL n m b
  | _ => true
def belowL (n m : Nat) : List AV → Bool
  | [] => true
  | v :: r => below n m v && belowL n m r
end

mutual
/-- Every slice in it is new memory. -/
def isNew : AV → Bool
  | .inl f _ _ xs => f && isNewL xs
  | .rop _ => false
  | .agg cs => isNewL cs
  | .tuple vs => isNewL vs
  | .iface _ v => isNew v
  | .func _ a b => isNewL a && isNewL b
  | _ => true
def isNewL : List AV → Bool
  | [] => true
  | v :: r => isNew v && isNewL r
end

def belowE (n m : Nat) : List (AV × AV) → Bool
  | [] => true
  | e :: r => below n m e.1 && (below n m e.2 && belowE n m r)

def AObj.below (n m : Nat) : AObj → Bool
  | .cells cs => belowL n m cs
  | .map es => belowE n m es
  | .loop s _ _ _ _ => belowL n m s
  | _ => true

def belowO (n m : Nat) : List AObj → Bool
  | [] => true
  | o :: r => o.below n m && belowO n m r

/-- A slice of an object told as a list; none: it can't be told so. -/
def resolveC (H : AH) (c : AV) : Option AV :=
  match c with
  | .sl id off len _ sz ag =>
    match H.objs[id]? with
    | some (.cells cs) => if off + len * sz ≤ cs.length then some (.inl false .unk sz (chunks sz ag len (cs.drop off))) else none
    | _ => none
  | c => some c

def resolveCs (H : AH) : List AV → Option (List AV)
  | [] => some []
  | c :: r => match resolveC H c, resolveCs H r with
    | some x, some xs => some (x :: xs)
    | _, _ => none

def resolve (H : AH) (v : AV) : Option AV :=
  match v with
  | .agg cs => match resolveCs H cs with
    | some xs => some (.agg xs)
    | none => none
  | v => resolveC H v

def resolveL (H : AH) : List AV → Option (List AV)
  | [] => some []
  | v :: r => match resolve H v, resolveL H r with
    | some x, some xs => if below 0 0 (erase x) then some (erase x :: xs) else none
    | _, _ => none

end Go.Sx

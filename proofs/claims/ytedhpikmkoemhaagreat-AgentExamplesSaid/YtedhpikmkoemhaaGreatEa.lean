/- THE ENGINE, 1: an abstract semantics of the loaded code: values are trees, read-only memory is told by its content, objects are numbered; no tape, no schedule. Definitions alone. -/
import Derived.Orders
import Derived.LoopN
import Derived.Laws.Sem
import GoSem.Core.Utf8
import Derived.Laws.CopyRow
import Derived.Below
import Derived.ChangeKeysEq
import Derived.Laws.StructEq
import Derived.Laws.Pointers
import Derived.Laws.Cells
namespace Go.Sx

inductive Spare where
  | unk
  | zero
  | tok (t g : Nat)

/-- Abstract values. -/
inductive AV where
  | top
  | bool (b : Bool)
  | int (k : IntKind) (n : Int)
  | str (s : List UInt8)
  | ptr (id off : Nat)
  | nilptr
  | rop (v : AV)
  | nils
  | inl (fresh : Bool) (p : Spare) (sz : Nat) (xs : List AV)
  | sl (id off len : Nat) (cap : Option Nat) (sz : Nat) (ag : Bool)
  | map (id : Nat)
  | nilmap
  | func (fn : Fn) (first caps : List AV)
  | nilfunc
  | iface (t : TypeId) (v : AV)
  | niliface
  | agg (cs : List AV)
  | tuple (vs : List AV)

def AV.cells : AV → List AV
  | .agg cs => cs
  | v => [v]

inductive TK where
  | bool
  | int (k : IntKind)
  | string
  | ptr
  | func
  | iface
  | struct (fs : List (Nat × TypeId))
  | array (n : Nat) (e : TypeId)
  | slice (e : TypeId)
  | map (k e : TypeId)

structure TI where
  k : TK
  size : Nat
  bytes : Nat
  zero : AV
  cmp : Bool

/-- Where a loop over a function stands. left: none: by a return; some id: by an exit. -/
inductive LSt where
  | ready
  | busy
  | left (j : Option Nat)

inductive AObj where
  | cells (cs : List AV)
  | map (es : List (AV × AV)) (bs : List Nat) (ck : Nat)
  | miter (m : Option Nat) (since : Nat) (seen : List Nat) (last : Nat)
  | siter (s : List UInt8) (pos : Nat)
  | loop (s : List AV) (ps : List Nat) (x y : Code) (st : LSt)
  | dead (b : Bool)
  | tcells (u : TypeId) (cs : List AV)

def AObj.live : AObj → Bool
  | .dead true => false
  | _ => true

structure AH where
  objs : List AObj
  toks : List (Nat × Nat × TypeId)

structure Sys where
  T : TypeId → Option TI
  F : FuncId → Option Func
  G : Nat → AV
  isPure : FuncId → Bool
  ext : FuncId → Option (List AV → Option AV)
  objT : TypeId → Bool
  room : Nat
  fixed : List (Nat × Array Value) := []
  typed : TypeId → Bool := fun _ => false
  extH : FuncId → Option (List AV → AH → Option (AV × AH)) := fun _ => none
  eta : TypeId → Bool := fun _ => false
  meth : TypeId → String → Option FuncId := fun _ _ => none
  dfn : FuncId → Option Func := fun _ => none
  thawF : FuncId → Bool := fun _ => false

def TI.isAgg (i : TI) : Bool := match i.k with | .struct _ | .array _ _ => true | _ => false

def ofScalar : Value → AV
  | .bool b => .bool b
  | .int k n => .int k n
  | .string s => .str s.data.toList
  | .pointer none => .nilptr
  | .slice none 0 0 => .nils
  | .map none => .nilmap
  | .nilFunc => .nilfunc
  | .nilIface => .niliface
  | _ => .top

def ofValue : Value → AV
  | .agg cs => if cs.toList.all (·.oneCell') then .agg (cs.toList.map ofScalar) else .top
  | v => ofScalar v

def ev (G : Nat → AV) (s : List AV) : Operand → AV
  | .tmp t => s.getD t .top
  | .const v => ofValue v
  | .global g => G g
  | .func f => .func (.func f) [] []

variable {R : Type}

/-- A part of a struct's or array's cells. -/
def partK (i : TI) (cs : List AV) (off : Nat) (k : AV → Option R) : Option R :=
  if i.isAgg then (if off + i.size ≤ cs.length then k (.agg ((cs.drop off).take i.size)) else none)
  else match cs[off]? with
    | some v => k v
    | none => none

def shiftK (left : Bool) (k : IntKind) (a b : Int) (K : AV → Option R) : Option R :=
  if b < 0 then none
  else if left then K (.int k (k.wrap (a * 2 ^ (min b.toNat k.bits)))) else K (.int k (a.fdiv (2 ^ (min b.toNat k.bits))))

def bits2 (op : BinOp) (k : IntKind) (x y : Int) : Int :=
  let a := BitVec.ofInt k.bits x
  let b := BitVec.ofInt k.bits y
  match op with
  | .and => k.wrap (a &&& b).toNat
  | .or => k.wrap (a ||| b).toNat
  | .xor => k.wrap (a ^^^ b).toNat
  | _ => k.wrap (a &&& ~~~b).toNat

def intK (op : BinOp) (k : IntKind) (a b : Int) (K : AV → Option R) : Option R :=
  match op with
  | .add => K (.int k (k.wrap (a + b)))
  | .sub => K (.int k (k.wrap (a - b)))
  | .mul => K (.int k (k.wrap (a * b)))
  | .quo => if b = 0 then none else K (.int k (k.wrap (a.tdiv b)))
  | .rem => if b = 0 then none else K (.int k (a.tmod b))
  | .and => K (.int k (bits2 .and k a b))
  | .or => K (.int k (bits2 .or k a b))
  | .xor => K (.int k (bits2 .xor k a b))
  | .andNot => K (.int k (bits2 .andNot k a b))
  | .eql => K (.bool (a == b))
  | .neq => K (.bool (a != b))
  | .lss => K (.bool (decide (a < b)))
  | .leq => K (.bool (decide (a ≤ b)))
  | .gtr => K (.bool (decide (a > b)))
  | .geq => K (.bool (decide (a ≥ b)))
  | .shl | .shr => none

def strLess : List UInt8 → List UInt8 → Bool
  | _, [] => false
  | [], _ :: _ => true
  | a :: x, b :: y => decide (a < b) || (a == b && strLess x y)

def strK (op : BinOp) (a b : List UInt8) (K : AV → Option R) : Option R :=
  match op with
  | .add => if a.length + b.length ≤ 9223372036854775807 then K (.str (a ++ b)) else none
  | .eql => K (.bool (a == b))
  | .neq => K (.bool (!(a == b)))
  | .lss => K (.bool (strLess a b))
  | .leq => K (.bool (strLess a b || a == b))
  | .gtr => K (.bool (!(strLess a b || a == b)))
  | .geq => K (.bool (!strLess a b))
  | _ => none

/-- Equality at a type, where it can be told from the trees alone. -/
def eqv (T : TypeId → Option TI) : Nat → TypeId → AV → AV → Option Bool
  | 0, _, _, _ => none
  | n + 1, t, x, y =>
    match T t with
    | none => none
    | some i =>
      match i.k, x, y with
      | .bool, .bool a, .bool b => some (a == b)
      | .int _, .int k a, .int k' b => if k = k' then some (a == b) else none
      | .string, .str a, .str b => some (a == b)
      | .ptr, .nilptr, .nilptr => some true
      | .ptr, .nilptr, .ptr _ _ => some false
      | .ptr, .nilptr, .rop _ => some false
      | .ptr, .ptr _ _, .nilptr => some false
      | .ptr, .rop _, .nilptr => some false
      | .slice _, .nils, .nils => some true
      | .slice _, .nils, .inl _ _ _ _ => some false
      | .slice _, .nils, .sl _ _ _ _ _ _ => some false
      | .slice _, .inl _ _ _ _, .nils => some false
      | .slice _, .sl _ _ _ _ _ _, .nils => some false
      | .map _ _, .nilmap, .nilmap => some true
      | .map _ _, .nilmap, .map _ => some false
      | .map _ _, .map _, .nilmap => some false
      | .func, .nilfunc, .nilfunc => some true
      | .func, .nilfunc, .func _ _ _ => some false
      | .func, .func _ _ _, .nilfunc => some false
      | .struct fs, .agg xs, .agg ys =>
        if i.cmp then
          fs.foldr (fun f acc => match T f.2 with
            | none => none
            | some j => partK j xs f.1 fun a => partK j ys f.1 fun b => match eqv T n f.2 a b, acc with
              | some p, some q => some (p && q)
              | _, _ => none) (some true)
        else none
      | .array len e, .agg xs, .agg ys =>
        if i.cmp then
          match T e with
          | none => none
          | some j => (List.range len).foldr (fun m acc => partK j xs (m * j.size) fun a => partK j ys (m * j.size) fun b => match eqv T n e a b, acc with
              | some p, some q => some (p && q)
              | _, _ => none) (some true)
        else none
      | _, _, _ => none

def eqDepth : Nat := 8

/-- One of two values of an interface type is nil, and not the other. -/
def oneNil (T : TypeId → Option TI) (t : TypeId) (x y : AV) : Bool := match x, y with
  | .iface _ _, .niliface => (match T t with
    | some i => (match i.k with | .iface => true | _ => false)
    | none => false)
  | .niliface, .iface _ _ => (match T t with
    | some i => (match i.k with | .iface => true | _ => false)
    | none => false)
  | _, _ => false

def binK (T : TypeId → Option TI) (op : BinOp) (t : TypeId) (x y : AV) (K : AV → Option R) : Option R :=
  match x, y with
  | .int k a, .int k' b =>
    match op with
    | .shl => shiftK true k a b K
    | .shr => shiftK false k a b K
    | op => if k = k' then intK op k a b K else none
  | .str a, .str b => strK op a b K
  | x, y =>
    match op with
    | .eql => match oneNil T t x y with
      | true => K (.bool false)
      | false => match eqv T eqDepth t x y with | some b => K (.bool b) | none => none
    | .neq => match oneNil T t x y with
      | true => K (.bool true)
      | false => match eqv T eqDepth t x y with | some b => K (.bool (!b)) | none => none
    | _ => none

/-- Two values of an interface type are nil. -/
def twoNil (T : TypeId → Option TI) (t : TypeId) (x y : AV) : Bool := match x, y with
  | .niliface, .niliface => (match T t with
    | some i => (match i.k with | .iface => true | _ => false)
    | none => false)
  | _, _ => false
def litNil : Operand → Operand → Bool
  | .const _, _ => true
  | _, .const _ => true
  | _, _ => false
def nilK (op : BinOp) (K : AV → Option R) : Option R := match op with
  | .eql => K (.bool true)
  | .neq => K (.bool false)
  | _ => none
/-- An operation on two values; an interface's value may be held against the literal nil. -/
def binN (T : TypeId → Option TI) (op : BinOp) (t : TypeId) (xo yo : Operand) (x y : AV) (K : AV → Option R) : Option R := match litNil xo yo && twoNil T t x y with
  | true => nilK op K
  | false => binK T op t x y K

def unK (op : UnOp) (x : AV) (K : AV → Option R) : Option R :=
  match op, x with
  | .neg, .int k n => K (.int k (k.wrap (0 - n)))
  | .xor, .int k n => K (.int k (bits2 .xor k (if k.signed then -1 else k.max) n))
  | .not, .bool b => K (.bool !b)
  | _, _ => none

/-- The elements of a slice. 'size': an element's cells. -/
def chunks (size : Nat) (agg : Bool) : Nat → List AV → List AV
  | 0, _ => []
  | n + 1, cs => (if agg then .agg (cs.take size) else cs.getD 0 .top) :: chunks size agg n (cs.drop size)

/-- The elements of a slice of elements of n cells. -/
def elemsK (H : AH) (n : Nat) (v : AV) (K : List AV → Option R) : Option R :=
  match v with
  | .nils => K []
  | .inl _ _ sz xs => if sz = n then K xs else none
  | .sl id off len _ sz ag =>
    if sz = n then (match H.objs[id]? with
    | some (.cells cs) => if off + len * sz ≤ cs.length then K (chunks sz ag len (cs.drop off)) else none
    | _ => none) else none
  | _ => none

mutual
/-- What a value looks like to a callee that may only read: no token, no ownership. -/
def erase : AV → AV
  | .inl _ _ sz xs => .inl false .unk sz (eraseL xs)
  | .agg cs => .agg (eraseL cs)
  | .tuple vs => .tuple (eraseL vs)
  | .rop v => .rop (erase v)
  | .iface t v => .iface t (erase v)
  | .func fn a b => .func fn (eraseL a) (eraseL b)
  | v => v
def eraseL : List AV → List AV
  | [] => []
  | v :: r => erase v :: eraseL r
end

def Spare.detok : Spare → Spare
  | .tok _ _ => .unk
  | p => p

mutual
/-- A value without tokens: they are given up. -/
def detok : AV → AV
  | .inl f p sz xs => .inl f p.detok sz (detokL xs)
  | .agg cs => .agg (detokL cs)
  | .tuple vs => .tuple (detokL vs)
  | .rop v => .rop (detok v)
  | .iface t v => .iface t (detok v)
  | .func fn a b => .func fn (detokL a) (detokL b)
  | v => v
def detokL : List AV → List AV
  | [] => []
  | v :: r => detok v :: detokL r
end

mutual
/-- No reference to an object from n on, nor to a token from m on. -/
def below (n m : Nat) : AV → Bool
  | .ptr id _ => decide (id < n)
  | .sl id _ _ _ _ _ => decide (id < n)
  | .map id => decide (id < n)
  | .rop v => below n m v
  | .inl _ p _ xs => (match p with | .tok t _ => decide (t < m) | _ => true) && belowL n m xs
  | .agg cs => belowL n m cs
  | .tuple vs => belowL n m vs
  | .iface _ v => below n m v
  | .func (.yield id) a b => decide (id < n) && (belowL n m a && belowL n m b)
  | .func _ a b => belowL n m a && belowL n m b
  | _ => true
def belowL (n m : Nat) : List AV → Bool
  | [] => true
  | v :: r => below n m v && belowL n m r
end

mutual
/-- Every slice in it is new memory. -/
def isNew : AV → Bool
  | .inl f _ _ xs => f && isNewL xs
  | .rop _ => false
  | .agg cs => isNewL cs
  | .tuple vs => isNewL vs
  | .iface _ v => isNew v
  | .func _ a b => isNewL a && isNewL b
  | _ => true
def isNewL : List AV → Bool
  | [] => true
  | v :: r => isNew v && isNewL r
end

def belowE (n m : Nat) : List (AV × AV) → Bool
  | [] => true
  | e :: r => below n m e.1 && (below n m e.2 && belowE n m r)

def AObj.below (n m : Nat) : AObj → Bool
  | .cells cs => belowL n m cs
  | .map es _ _ => belowE n m es
  | .miter (some id) _ _ _ => decide (id < n)
  | .loop s _ _ _ _ => belowL n m s
  | .tcells _ cs => belowL n m cs
  | _ => true

def belowO (n m : Nat) : List AObj → Bool
  | [] => true
  | o :: r => o.below n m && belowO n m r

/-- A slice of an object told as a list; none: it can't be told so. -/
def resolveC (H : AH) (c : AV) : Option AV :=
  match c with
  | .sl id off len _ sz ag =>
    match H.objs[id]? with
    | some (.cells cs) => if off + len * sz ≤ cs.length then some (.inl false .unk sz (chunks sz ag len (cs.drop off))) else none
    | _ => none
  | c => some c

def resolveCs (H : AH) : List AV → Option (List AV)
  | [] => some []
  | c :: r => match resolveC H c, resolveCs H r with
    | some x, some xs => some (x :: xs)
    | _, _ => none

def resolve (H : AH) (v : AV) : Option AV :=
  match v with
  | .agg cs => match resolveCs H cs with
    | some xs => some (.agg xs)
    | none => none
  | v => resolveC H v

def mapO (f : AV → Option AV) : List AV → Option (List AV)
  | [] => some []
  | v :: r => match f v with
    | some x => (match mapO f r with | some xs => some (x :: xs) | none => none)
    | none => none
def optM {A B : Type} (o : Option A) (f : A → B) : Option B := match o with | some a => some (f a) | none => none
def cleanO (v : AV) : Option AV := match below 0 0 v with | true => some v | false => none
def spareC (len : Nat) : Option Nat → Spare
  | some c => match Nat.beq c len with | true => .zero | false => .unk
  | none => .unk
/-- A value with all that hangs on it told; fl: the slices that are told so are new memory. -/
def frz (fl : Bool) (k : Nat) (H : AH) : Nat → AV → Option AV
  | 0, _ => none
  | n + 1, v => match v with
    | .sl id off len cap sz ag => (match H.objs[id]? with
      | some (.cells cs) => (match Nat.ble (off + len * sz) cs.length && Nat.ble k id with
        | true => optM (mapO (frz fl k H n) (chunks sz ag len (cs.drop off))) (.inl fl (spareC len cap) sz)
        | false => none)
      | _ => none)
    | .inl f p sz xs => optM (mapO (frz fl k H n) xs) (.inl f p.detok sz)
    | .agg cs => optM (mapO (frz fl k H n) cs) .agg
    | .tuple vs => optM (mapO (frz fl k H n) vs) .tuple
    | .iface t v => optM (frz fl k H n v) (.iface t)
    | v => cleanO v
/-- An argument with all that hangs on it. -/
def deepV (H : AH) (v : AV) : Option AV := match frz false 0 H 20 v with
  | some y => (match below 0 0 (erase y) with | true => some (erase y) | false => none)
  | none => none

def resolveL (H : AH) : List AV → Option (List AV)
  | [] => some []
  | v :: r => match resolve H v, resolveL H r with
    | some x, some xs => if below 0 0 (erase x) then some (erase x :: xs) else optM (deepV H v) (· :: xs)
    | _, _ => none

end Go.Sx

/- THE ENGINE, 2: the operations, in the style of continuations. Definitions alone. -/
namespace Go.Sx
variable {R : Type}

/-- May it be stored? -/
def AV.solid : AV → Bool
  | .top => false
  | .tuple _ => false
  | _ => true

/-- Cells written into a row. -/
def splice (cs : List AV) (off : Nat) (vs : List AV) : List AV := cs.take off ++ (vs ++ cs.drop (off + vs.length))

def loadK (H : AH) (i : TI) (a : AV) (K : AV → Option R) : Option R :=
  match a with
  | .rop v => match i.isAgg, v with
    | true, .agg cs => if cs.length = i.size then K (.agg cs) else none
    | true, _ => none
    | false, .agg _ => none
    | false, v => K v
  | .ptr id off => match H.objs[id]? with
    | some (.cells cs) => partK i cs off K
    | some (.tcells _ cs) => partK i cs off K
    | _ => none
  | _ => none

def storeK (H : AH) (i : TI) (a v : AV) (K : AH → Option R) : Option R :=
  match a with
  | .ptr id off => match H.objs[id]? with
    | some (.cells cs) => if v.cells.length = i.size && off + i.size ≤ cs.length then K { H with objs := H.objs.set id (.cells (splice cs off v.cells)) } else none
    | some (.tcells u cs) => if v.cells.length = i.size && off + i.size ≤ cs.length then K { H with objs := H.objs.set id (.tcells u (splice cs off v.cells)) } else none
    | _ => none
  | _ => none

def newK (H : AH) (o : AObj) (K : Nat → AH → Option R) : Option R := K H.objs.length { H with objs := H.objs ++ [o] }

def fieldAddrK (i : TI) (T : TypeId → Option TI) (a : AV) (f : Nat) (K : AV → Option R) : Option R :=
  match i.k with
  | .struct fs => match fs[f]? with
    | some (off, t) => match T t with
      | some j => if j.size = 0 then none else match a with
        | .rop (.agg cs) => partK j cs off fun v => K (.rop v)
        | .ptr id o => K (.ptr id (o + off))
        | _ => none
      | none => none
    | none => none
  | _ => none

def fieldK (i : TI) (T : TypeId → Option TI) (x : AV) (f : Nat) (K : AV → Option R) : Option R :=
  match i.k with
  | .struct fs => match fs[f]? with
    | some (off, t) => match T t with
      | some j => match x with
        | .agg cs => partK j cs off K
        | _ => none
      | none => none
    | none => none
  | _ => none

def asIntK (v : AV) (K : IntKind → Int → Option R) : Option R := match v with | .int k n => K k n | _ => none

def indexAddrK (i : TI) (T : TypeId → Option TI) (x ix : AV) (K : AV → Option R) : Option R :=
  asIntK ix fun _ n =>
  match i.k with
  | .slice e => match T e with
    | some j => match x with
      | .inl _ _ sz xs => if 0 ≤ n ∧ n < (xs.length : Int) then (if sz = j.size then (match xs[n.toNat]? with | some v => K (.rop v) | none => none) else none) else none
      | .sl id off len _ sz _ => if 0 ≤ n ∧ n < (len : Int) then (if sz = j.size then K (.ptr id (off + n.toNat * j.size)) else none) else none
      | _ => none
    | none => none
  | .array len e => match T e with
    | some j => match x with
      | .rop (.agg cs) => if 0 ≤ n ∧ n < (len : Int) then partK j cs (n.toNat * j.size) fun v => K (.rop v) else none
      | .ptr id o => if 0 ≤ n ∧ n < (len : Int) then K (.ptr id (o + n.toNat * j.size)) else none
      | _ => none
    | none => none
  | _ => none

def indexK (i : TI) (T : TypeId → Option TI) (x ix : AV) (K : AV → Option R) : Option R :=
  asIntK ix fun _ n =>
  match i.k, x with
  | .array len e, .agg cs => match T e with
    | some j => if 0 ≤ n ∧ n < (len : Int) then partK j cs (n.toNat * j.size) K else none
    | none => none
  | .string, .str s => if 0 ≤ n then (match s[n.toNat]? with | some b => K (.int .u8 b.toNat) | none => none) else none
  | _, _ => none

/-- A bound of a slice expression: at most y. -/
def boundK (v : AV) (y : Nat) (K : Nat → Option R) : Option R :=
  asIntK v fun _ n => if 0 ≤ n ∧ n ≤ (y : Int) then K n.toNat else none

def optBoundK (v : Option AV) (y : Nat) (d : Nat) (K : Nat → Option R) : Option R :=
  match v with
  | none => K d
  | some v => boundK v y K

def sliceK (i : TI) (T : TypeId → Option TI) (x : AV) (lo hi mx : Option AV) (K : AV → Option R) : Option R :=
  match i.k with
  | .string => match x, mx with
    | .str s, none => optBoundK hi s.length s.length fun h => optBoundK lo h 0 fun l => K (.str ((s.drop l).take (h - l)))
    | _, _ => none
  | .slice e => match T e with
    | none => none
    | some j => match x with
      | .nils => match mx with
        | none => optBoundK hi 0 0 fun h => optBoundK lo h 0 fun _ => K .nils
        | some m => match hi with
          | some hv => boundK m 0 fun m => boundK hv m fun h => optBoundK lo h 0 fun _ => K .nils
          | none => none
      | .inl f p sz xs => if sz = j.size then (match mx with
        | none => optBoundK hi xs.length xs.length fun h => optBoundK lo h 0 fun l =>
          if l = 0 ∧ h = xs.length then K (.inl f p sz xs) else K (.inl f .unk sz ((xs.drop l).take (h - l)))
        | some m => match hi with
          | some hv => boundK m xs.length fun m => boundK hv m fun h => optBoundK lo h 0 fun l => K (.inl f (if m = h then .zero else .unk) sz ((xs.drop l).take (h - l)))
          | none => none) else none
      | .sl id off len cap sz ag => match mx with
        | none => optBoundK hi (cap.getD len) len fun h => optBoundK lo h 0 fun l =>
          if cap.isSome = true ∨ (sz = j.size ∧ (l = 0 ∨ l < len)) then K (.sl id (if cap = some l then off else off + l * j.size) (h - l) (cap.map (· - l)) sz ag) else none
        | some m => match hi with
          | some hv => boundK m (cap.getD len) fun m => boundK hv m fun h => optBoundK lo h 0 fun l => K (.sl id (if m = l then off else off + l * j.size) (h - l) (some (m - l)) sz ag)
          | none => none
      | _ => none
  | .array n e => match T e with
    | none => none
    | some j => match x, mx with
      | .ptr id off, none => optBoundK hi n n fun h => optBoundK lo h 0 fun l => K (.sl id (if n = l then off else off + l * j.size) (h - l) (some (n - l)) j.size j.isAgg)
      | _, _ => none
  | _ => none

/-- Parts put into the cells of a struct or an array. -/
def fillL (place : Nat → Option (Nat × Nat)) (cells : List AV) : List (Nat × AV) → Option (List AV)
  | [] => some cells
  | (i, v) :: rest =>
    match place i with
    | none => none
    | some (off, size) => if v.cells.length = size && off + size ≤ cells.length then fillL place (splice cells off v.cells) rest else none

def places (T : TypeId → Option TI) (fs : List (Nat × TypeId)) (i : Nat) : Option (Nat × Nat) :=
  match fs[i]? with
  | some (off, t) => (T t).map fun j => (off, j.size)
  | none => none

def buildK (i : TI) (T : TypeId → Option TI) (parts : List (Nat × AV)) (K : AV → Option R) : Option R :=
  match i.k with
  | .struct fs =>
    match fillL (places T fs) i.zero.cells parts with
    | some cs => K (.agg cs)
    | none => none
  | .array _ e => match T e with
    | none => none
    | some j => match fillL (fun m => some (m * j.size, j.size)) i.zero.cells parts with
      | some cs => K (.agg cs)
      | none => none
  | _ => none

def setParts (xs : List AV) : List (Nat × AV) → Option (List AV)
  | [] => some xs
  | (i, v) :: rest => if i < xs.length then setParts (xs.set i v) rest else none

def sizesOk (n : Nat) (xs : List AV) : Bool := xs.all fun v => v.cells.length == n

def flat (xs : List AV) : List AV := xs.flatMap AV.cells

def buildSliceK (S : Sys) (H : AH) (i : TI) (len : Nat) (parts : List (Nat × AV)) (K : AV → AH → Option R) : Option R :=
  match i.k with
  | .slice e => match S.T e with
    | none => none
    | some j =>
      if len * j.size ≤ 16777216 ∧ j.zero.cells.length = j.size ∧ j.size ≠ 0 then
        match setParts (List.replicate len j.zero) parts with
        | some xs =>
          if sizesOk j.size (parts.map (·.2)) && (parts.map (·.2)).all AV.solid then
            (if S.objT e then newK H (.cells (flat xs)) fun id H => K (.sl id 0 len (some len) j.size j.isAgg) H
            else K (.inl true .zero j.size (detokL xs)) H)
          else none
        | none => none
      else none
  | _ => none

def makeSliceK (S : Sys) (H : AH) (i : TI) (len cap : AV) (K : AV → AH → Option R) : Option R :=
  match i.k with
  | .slice e => match S.T e with
    | none => none
    | some j =>
      asIntK len fun kl l => asIntK cap fun kc c =>
      if kl = .i64 ∧ kc = .i64 ∧ 0 ≤ l ∧ l ≤ c ∧ c < 9223372036854775808 ∧ j.bytes * c ≤ 281474976710656 ∧ j.zero.cells.length = j.size ∧ j.size ≠ 0 then
        (if l = 0 ∧ S.objT e = false then K (.inl true (.tok H.toks.length 0) j.size []) { H with toks := H.toks ++ [(0, j.size, e)] }
         else newK H (.cells (flat (List.replicate c.toNat j.zero))) fun id H => K (.sl id 0 l.toNat (some c.toNat) j.size j.isAgg) H)
      else none
  | _ => none

def fitsRoom (need bytes : Nat) : Bool := decide ((need + need / 2 + 512) * bytes ≤ 281474976710656) && decide (need ≤ 4611686018427387904)

/-- The elements that are appended, or copied. -/
def srcOf (H : AH) (n : Nat) (x : AV) : Option (List AV) :=
  match x with
  | .str b => if n = 1 then some (b.map fun c => .int .u8 c.toNat) else none
  | x => elemsK H n x some

def listType (S : Sys) (t : Option TypeId) : Bool :=
  match t with
  | some t => match S.T t with
    | some i => match i.k with | .slice _ | .string => true | _ => false
    | none => false
  | none => false

def appendK (S : Sys) (H : AH) (ts : Array TypeId) (s x : AV) (K : AV → AH → Option R) : Option R :=
  match ts[0]? with
  | none => none
  | some t => match S.T t with
    | none => none
    | some i => match i.k with
      | .slice e => match S.T e with
        | none => none
        | some j =>
          match srcOf H j.size x with
          | none => none
          | some ys =>
            if j.zero.cells.length = j.size ∧ j.size ≠ 0 ∧ listType S ts[1]? = true then
              match s with
              | .nils => if ys.length = 0 then K .nils H
                else if fitsRoom ys.length j.bytes then
                  (if S.objT e then newK H (.cells (flat ys)) fun id H => K (.sl id 0 ys.length none j.size j.isAgg) H
                   else K (.inl true (.tok H.toks.length 0) j.size (detokL ys)) { H with toks := H.toks ++ [(0, j.size, e)] })
                else none
              | .inl f p sz xs =>
                if ys.length = 0 then K (.inl f p sz xs) H
                else if fitsRoom (xs.length + ys.length) j.bytes = true ∧ sz = j.size then
                  match p with
                  | .zero => K (.inl true (.tok H.toks.length 0) j.size (xs ++ detokL ys)) { H with toks := H.toks ++ [(0, j.size, e)] }
                  | .tok t g => if H.toks[t]? = some (g, j.size, e) then K (.inl f (.tok t (g + 1)) j.size (xs ++ detokL ys)) { H with toks := H.toks.set t (g + 1, j.size, e) } else none
                  | .unk => none
                else none
              | .sl id off len cap sz ag =>
                if ys.length = 0 then K (.sl id off len cap sz ag) H
                else if sz ≠ j.size then none else match cap with
                  | none =>
                    match H.objs[id]? with
                    | some (.cells cs) =>
                      if off = 0 ∧ cs.length = len * j.size ∧ fitsRoom (len + ys.length) j.bytes = true then
                        newK { H with objs := H.objs.set id (.dead true) } (.cells (cs ++ flat ys)) fun id H => K (.sl id 0 (len + ys.length) none j.size j.isAgg) H
                      else none
                    | _ => none
                  | some c =>
                    match H.objs[id]? with
                    | some (.cells cs) =>
                      if len + ys.length ≤ c then
                        (if off + (len + ys.length) * j.size ≤ cs.length then
                          K (.sl id off (len + ys.length) cap sz ag) { H with objs := H.objs.set id (.cells (splice cs (off + len * j.size) (flat ys))) }
                         else none)
                      else if fitsRoom (len + ys.length) j.bytes = true ∧ off + len * j.size ≤ cs.length then
                        newK H (.cells ((cs.drop off).take (len * j.size) ++ flat ys)) fun id H => K (.sl id 0 (len + ys.length) none j.size j.isAgg) H
                      else none
                    | _ => none
              | _ => none
            else none
      | _ => none

def copyK (S : Sys) (H : AH) (ts : Array TypeId) (d x : AV) (K : AV → AH → Option R) : Option R :=
  match ts[0]? with
  | none => none
  | some t => match S.T t with
    | none => none
    | some i => match i.k with
      | .slice e => match S.T e with
        | none => none
        | some j =>
          match srcOf H j.size x with
          | none => none
          | some ys =>
            if j.size = 0 then none else (
              match d with
              | .nils => K (.int .i64 0) H
              | .inl _ _ _ xs => if min ys.length xs.length = 0 then K (.int .i64 0) H else none
              | .sl id off len _ sz _ =>
                match H.objs[id]? with
                | some (.cells cs) =>
                  if off + len * j.size ≤ cs.length ∧ sz = j.size then
                    K (.int .i64 (min ys.length len : Nat)) { H with objs := H.objs.set id (.cells (splice cs off (flat (ys.take (min ys.length len))))) }
                  else none
                | _ => none
              | _ => none)
      | _ => none

def lenK (S : Sys) (H : AH) (ts : Array TypeId) (x : AV) (K : AV → Option R) : Option R :=
  match ts[0]? with
  | none => none
  | some t => match S.T t with
    | none => none
    | some i => match i.k, x with
      | .string, .str s => K (.int .i64 s.length)
      | .array n _, _ => K (.int .i64 n)
      | .slice _, .nils => K (.int .i64 0)
      | .slice _, .inl _ _ _ xs => K (.int .i64 xs.length)
      | .slice _, .sl _ _ len _ _ _ => K (.int .i64 len)
      | .map _ _, .nilmap => K (.int .i64 0)
      | .map _ _, .map id => match H.objs[id]? with
        | some (.map es _ _) => K (.int .i64 es.length)
        | _ => none
      | _, _ => none

/-- Types of keys. -/
def keyable (q : TI) : Bool := match q.k with | .bool | .int _ | .string => true | .struct _ | .array _ _ => q.cmp | _ => false

/-- Is a map's key that one? Numbers, bools, texts, and structs of such. -/
def keyEq : AV → AV → Option Bool
  | .int k a, .int k' b => if k = k' then some (a == b) else none
  | .bool a, .bool b => some (a == b)
  | .str a, .str b => some (a == b)
  | _, _ => none

def findK (T : TypeId → Option TI) (t : TypeId) (k : AV) : List (AV × AV) → Nat → Option (Option (Nat × AV))
  | [], _ => some none
  | e :: es, n =>
    match eqv T eqDepth t k e.1 with
    | some true => some (some (n, e.2))
    | some false => findK T t k es (n + 1)
    | none => none

def lookupK (S : Sys) (H : AH) (i : TI) (x ix : AV) (ok : Bool) (K : AV → Option R) : Option R :=
  match i.k with
  | .map kt et => match S.T et, S.T kt with
    | some j, some q =>
      if keyable q then
        if (eqv S.T eqDepth kt ix ix).isSome = false then none else match x with
        | .nilmap => K (if ok then .tuple [j.zero, .bool false] else j.zero)
        | .map id => match H.objs[id]? with
          | some (.map es _ _) => match findK S.T kt ix es 0 with
            | some (some (_, v)) => K (if ok then .tuple [v, .bool true] else v)
            | some none => K (if ok then .tuple [j.zero, .bool false] else j.zero)
            | none => none
          | _ => none
        | _ => none
      else none
    | _, _ => none
  | _ => none

def sameS : AV → AV → Bool
  | .int k a, .int k' b => decide (k = k') && a == b
  | .bool a, .bool b => a == b
  | .str a, .str b => a == b
  | _, _ => false

def sameL : List AV → List AV → Bool
  | [], [] => true
  | a :: x, b :: y => sameS a b && sameL x y
  | _, _ => false

/-- The very same key. -/
def sameA : AV → AV → Bool
  | .agg xs, .agg ys => sameL xs ys
  | x, y => sameS x y

def mapUpdateK (S : Sys) (H : AH) (i : TI) (m k v : AV) (K : AH → Option R) : Option R :=
  match i.k with
  | .map kt _ => match S.T kt with
    | some q =>
      if keyable q then
        if (eqv S.T eqDepth kt k k).isSome = false then none else match m with
        | .map id => match H.objs[id]? with
          | some (.map es bs ck) => match findK S.T kt k es 0 with
            | some (some (n, _)) => match es[n]? with
              | some e => if sameA e.1 k then K { H with objs := H.objs.set id (.map (es.set n (e.1, v)) bs ck) } else none
              | none => none
            | some none => K { H with objs := H.objs.set id (.map (es ++ [(k, v)]) (bs ++ [ck]) (ck + 1)) }
            | none => none
          | _ => none
        | _ => none
      else none
    | _ => none
  | _ => none

/-- The bytes that a list of numbers is. -/
def bytesOf : List AV → Option (List UInt8)
  | [] => some []
  | v :: r => match v, bytesOf r with
    | .int .u8 n, some bs => some (UInt8.ofNat n.toNat :: bs)
    | _, _ => none

/-- A text's bytes. -/
def byteA (b : List UInt8) : List AV := b.map fun c => .int .u8 c.toNat

/-- A list of bytes made a text. -/
def textK (i j : TI) (T : TypeId → Option TI) (v : AV) (K : AV → Option R) : Option R :=
  match i.k, j.k with
  | .slice e, .string => match T e with
    | some q => match q.k with
      | .int .u8 => match v with
        | .nils => K (.str [])
        | .inl _ _ sz xs => if sz = 1 then (match bytesOf xs with | some b => K (.str b) | none => none) else none
        | _ => none
      | _ => none
    | none => none
  | _, _ => none

def rangeStrK (H : AH) (i : TI) (v : AV) (K : AV → AH → Option R) : Option R :=
  match i.k, v with
  | .string, .str s => newK H (.siter s 0) fun id H => K (.ptr id 0) H
  | .map _ _, .nilmap => newK H (.miter none 0 [] 0) fun id H => K (.ptr id 0) H
  | .map _ _, .map m => match H.objs[m]? with
    | some (.map _ _ ck) => newK H (.miter (some m) ck [] ck) fun id H => K (.ptr id 0) H
    | _ => none
  | _, _ => none

/-- The entries of a map that a loop over it has not yet come to. -/
def leftOf (seen : List Nat) : List (AV × AV) → List Nat → List (AV × AV × Nat)
  | e :: es, b :: bs => match seen.contains b with
    | true => leftOf seen es bs
    | false => (e.1, e.2, b) :: leftOf seen es bs
  | _, _ => []
def stale (es : List (AV × AV)) (bs : List Nat) (seen : List Nat) (last : Nat) : Bool := !seen.isEmpty && !es.isEmpty && bs.all fun b => Nat.ble last b
def entryOf (stamp : Option Nat) : List (AV × AV) → List Nat → Option (AV × AV)
  | e :: es, b :: bs => match stamp with
    | some s => match Nat.beq b s with
      | true => some e
      | false => entryOf (some s) es bs
    | none => none
  | _, _ => none

def stepRune (s : List UInt8) (pos : Nat) : Nat × Nat := Utf8.decode ⟨s.toArray⟩ pos

def nextK (H : AH) (v : AV) (isString : Bool) (K : AV → AH → Option R) : Option R :=
  match isString, v with
  | true, .ptr id 0 => match H.objs[id]? with
    | some (.siter s pos) =>
      if pos < s.length then K (.tuple [.bool true, .int .i64 pos, .int .i32 (stepRune s pos).1]) { H with objs := H.objs.set id (.siter s (pos + (stepRune s pos).2)) }
      else K (.tuple [.bool false]) H
    | _ => none
  | false, .ptr id 0 => match H.objs[id]? with
    | some (.miter none _ _ _) => K (.tuple [.bool false]) H
    | some (.miter (some m) since seen last) => match H.objs[m]? with
      | some (.map es bs ck) => if stale es bs seen last then none else match leftOf seen es bs with
        | [] => K (.tuple [.bool false]) H
        | [x] => if x.2.2 < since then K (.tuple [.bool true, x.1, x.2.1]) { H with objs := H.objs.set id (.miter (some m) since (seen ++ [x.2.2]) ck) } else none
        | _ => none
      | _ => none
    | _ => none
  | _, _ => none

/-- What a step of a loop over a map found, asked for again. -/
def entryK (H : AH) (v : AV) (K : AV → Option R) : Option R :=
  match v with
  | .ptr id 0 => match H.objs[id]? with
    | some (.miter (some m) _ seen last) => match H.objs[m]? with
      | some (.map es bs ck) => if ck = last then match entryOf seen.getLast? es bs with
        | some e => K (.tuple [e.1, e.2])
        | none => none
        else none
      | _ => none
    | _ => none
  | _ => none

def deleteK (S : Sys) (H : AH) (ts : Array TypeId) (m k : AV) (K : AV → AH → Option R) : Option R :=
  match ts[0]? with
  | none => none
  | some t => match S.T t with
    | none => none
    | some i => match i.k with
      | .map kt _ => match S.T kt with
        | some q =>
          if keyable q then
            if (eqv S.T eqDepth kt k k).isSome = false then none else match m with
            | .nilmap => K (.tuple []) H
            | .map id => match H.objs[id]? with
              | some (.map es bs ck) => match findK S.T kt k es 0 with
                | some (some (n, _)) => K (.tuple []) { H with objs := H.objs.set id (.map (es.eraseIdx n) (bs.eraseIdx n) ck) }
                | some none => K (.tuple []) { H with objs := H.objs.set id (.map es bs ck) }
                | none => none
              | _ => none
            | _ => none
          else none
        | none => none
      | _ => none

def clearK (S : Sys) (H : AH) (ts : Array TypeId) (x : AV) (K : AV → AH → Option R) : Option R :=
  match ts[0]? with
  | none => none
  | some t => match S.T t with
    | none => none
    | some i => match i.k, x with
      | .map _ _, .nilmap => K (.tuple []) H
      | .map _ _, .map id => match H.objs[id]? with
        | some (.map _ _ ck) => K (.tuple []) { H with objs := H.objs.set id (.map [] [] ck) }
        | _ => none
      | .slice _, .nils => K (.tuple []) H
      | .slice _, .inl _ _ _ [] => K (.tuple []) H
      | .slice e, .sl id off len _ sz _ => match S.T e with
        | none => none
        | some j => match H.objs[id]? with
          | some (.cells cs) =>
            if len = 0 then K (.tuple []) H
            else if off + len * j.size ≤ cs.length ∧ sz = j.size ∧ j.zero.cells.length = j.size ∧ j.size ≠ 0 then
              K (.tuple []) { H with objs := H.objs.set id (.cells (splice cs off (flat (List.replicate len j.zero)))) }
            else none
          | _ => none
      | _, _ => none

end Go.Sx

/- THE ENGINE, 3: what it means that an abstract state tells a world. -/
namespace Go.Sx

/-- The floor of a function's marks; the deferred calls below them. -/
structure Low where
  n : Nat
  ds : List Deferred
  sh : Bool
def Low.ok (L : Low) (b : Nat) : Prop := L.sh = false ∧ L.n ≤ b

/-- A world, and how the abstract numbers lie in it. S: the cells that nothing will ever write again. -/
structure GE where
  w : World
  nid : Nat
  ρ : Nat → Option Nat
  nt : Nat
  τ : Nat → Nat → Option (Nat × Nat × Nat × Nat)
  S : Nat → Nat → Prop
  base : Nat
  low : Low
  cp : Nat → Nat := fun _ => 0

def spareOk (E : GE) (a : Addr) (n sz cap : Nat) : Spare → Prop
  | .unk => True
  | .zero => cap = n
  | .tok t g => t < E.nt ∧ a.spot = none ∧ E.τ t g = some (sz, a.block, a.off + n * sz, a.off + cap * sz)

/-- The abstract value tells the value. -/
inductive VRel (E : GE) : AV → Value → Prop
  | top (v : Value) : VRel E .top v
  | bool (b : Bool) : VRel E (.bool b) (.bool b)
  | int (k : IntKind) (n : Int) : VRel E (.int k n) (.int k n)
  | str (s : List UInt8) : VRel E (.str s) (.string ⟨s.toArray⟩)
  | ptr (id off b : Nat) (hid : id < E.nid) (h : E.ρ id = some b) : VRel E (.ptr id off) (.pointer (some ⟨b, off, none⟩))
  | nilptr : VRel E .nilptr (.pointer none)
  | rop (v : AV) (a : Addr) (x : Nat → Value) (hx : ∀ j, j < v.cells.length → E.w.cell? (a.add j) = some (x j) ∧ (x j).oneCell' = true ∧ E.S a.block (a.off + j))
      (hr : ∀ j c, v.cells[j]? = some c → VRel E c (x j)) : VRel E (.rop v) (.pointer (some a))
  | nils : VRel E .nils (.slice none 0 0)
  | inl (f : Bool) (p : Spare) (sz : Nat) (xs : List AV) (a : Addr) (cap : Nat) (x : Nat → Nat → Value)
      (hsz : ∀ v, v ∈ xs → v.cells.length = sz)
      (hx : ∀ i j, i < xs.length → j < sz → E.w.cell? (a.add (i * sz + j)) = some (x i j) ∧ (x i j).oneCell' = true ∧ E.S a.block (a.off + (i * sz + j)))
      (hr : ∀ i v j c, xs[i]? = some v → v.cells[j]? = some c → VRel E c (x i j))
      (hcap : xs.length ≤ cap) (hf : f = true → E.base ≤ a.block) (hp : spareOk E a xs.length sz cap p) : VRel E (.inl f p sz xs) (.slice (some a) xs.length cap)
  | sl (id off len : Nat) (cap : Option Nat) (sz : Nat) (ag : Bool) (b c : Nat) (hid : id < E.nid) (h : E.ρ id = some b) (hl : len ≤ c) (hc : ∀ c', cap = some c' → c = c') (hag : ag = false → sz = 1) (hcp : cap = none → off + c * sz ≤ E.cp id) :
      VRel E (.sl id off len cap sz ag) (.slice (some ⟨b, off, none⟩) len c)
  | map (id b : Nat) (hid : id < E.nid) (h : E.ρ id = some b) : VRel E (.map id) (.map (some b))
  | nilmap : VRel E .nilmap (.map none)
  | func (fn : Fn) (as bs : List AV) (xs ys : Array Value) (hfn : ∀ l, fn ≠ .yield l) (h1 : as.length = xs.size) (h2 : ∀ (i : Nat) v x, as[i]? = some v → xs[i]? = some x → VRel E v x)
      (h3 : bs.length = ys.size) (h4 : ∀ (i : Nat) v y, bs[i]? = some v → ys[i]? = some y → VRel E v y) : VRel E (.func fn as bs) (.func fn xs ys)
  | yield (id b : Nat) (hid : id < E.nid) (h : E.ρ id = some b) : VRel E (.func (.yield id) [] []) (.func (.yield b) #[] #[])
  | nilfunc : VRel E .nilfunc .nilFunc
  | iface (t : TypeId) (v : AV) (x : Value) (h : VRel E v x) : VRel E (.iface t v) (.iface t x)
  | niliface : VRel E .niliface .nilIface
  | agg (cs : List AV) (xs : Array Value) (h1 : cs.length = xs.size) (h2 : ∀ (i : Nat) c x, cs[i]? = some c → xs[i]? = some x → VRel E c x) (h3 : ∀ (i : Nat) x, xs[i]? = some x → x.oneCell' = true) : VRel E (.agg cs) (.agg xs)
  | tuple (vs : List AV) (xs : Array Value) (h1 : vs.length = xs.size) (h2 : ∀ (i : Nat) v x, vs[i]? = some v → xs[i]? = some x → VRel E v x) : VRel E (.tuple vs) (.tuple xs)

def GE.owned (E : GE) (b : Nat) : Prop := (∃ id, id < E.nid ∧ E.ρ id = some b) ∨ (∃ t g p, t < E.nt ∧ E.τ t g = some p ∧ p.2.1 = b)

/-- What was told stays told. -/
structure GE.pre (E E' : GE) : Prop where
  nid : E.nid ≤ E'.nid
  ρ : ∀ id b, id < E.nid → E.ρ id = some b → E'.ρ id = some b
  nt : E.nt ≤ E'.nt
  τ : ∀ t g p, t < E.nt → E.τ t g = some p → E'.τ t g = some p
  S : ∀ b o, E.S b o → E'.S b o
  cell : ∀ b o, E.S b o → E'.w.cell? ⟨b, o, none⟩ = E.w.cell? ⟨b, o, none⟩
  base : E'.base = E.base
  cp : ∀ id, id < E.nid → E'.cp id = E.cp id

/-- A later state: what was told stays told; memory that is not ours is as it was. -/
structure GE.le (E E' : GE) : Prop extends GE.pre E E' where
  low : E'.low = E.low
  snew : ∀ b o, E'.S b o → E.S b o ∨ E.w.heap.size ≤ b ∨ E.owned b
  own : ∀ b, b < E.w.heap.size → E'.owned b → E.owned b
  os : E'.w.os = E.w.os
  tape : E'.w.tape = E.w.tape
  output : E'.w.output = E.w.output
  size : E.w.heap.size ≤ E'.w.heap.size
  block : ∀ b, b < E.w.heap.size → ¬ E.owned b → E'.w.heap[b]? = E.w.heap[b]?

theorem GE.le.refl (E : GE) : E.le E := ⟨⟨Nat.le_refl _, fun _ _ _ h => h, Nat.le_refl _, fun _ _ _ _ h => h, fun _ _ h => h, fun _ _ _ => rfl, rfl, fun _ _ => rfl⟩, rfl, fun _ _ h => .inl h, fun _ _ h => h, rfl, rfl, rfl, Nat.le_refl _, fun _ _ _ => rfl⟩

theorem GE.le.trans {A B C : GE} (h : A.le B) (k : B.le C) : A.le C where
  nid := Nat.le_trans h.nid k.nid
  ρ := fun id b hid hb => k.ρ id b (Nat.lt_of_lt_of_le hid h.nid) (h.ρ id b hid hb)
  nt := Nat.le_trans h.nt k.nt
  τ := fun t g p ht hp => k.τ t g p (Nat.lt_of_lt_of_le ht h.nt) (h.τ t g p ht hp)
  S := fun b o hb => k.S b o (h.S b o hb)
  cell := fun b o hb => (k.cell b o (h.S b o hb)).trans (h.cell b o hb)
  base := k.base.trans h.base
  cp := fun id hid => (k.cp id (Nat.lt_of_lt_of_le hid h.nid)).trans (h.cp id hid)
  low := k.low.trans h.low
  snew := by
    intro b o hb
    rcases k.snew b o hb with h1 | h1 | h1
    · exact h.snew b o h1
    · exact .inr (.inl (Nat.le_trans h.size h1))
    · rcases Nat.lt_or_ge b A.w.heap.size with h2 | h2
      · exact .inr (.inr (h.own b h2 h1))
      · exact .inr (.inl h2)
  own := fun b hb ho => h.own b hb (k.own b (Nat.lt_of_lt_of_le hb h.size) ho)
  os := k.os.trans h.os
  tape := k.tape.trans h.tape
  output := k.output.trans h.output
  size := Nat.le_trans h.size k.size
  block := fun b hb hn => (k.block b (Nat.lt_of_lt_of_le hb h.size) (fun ho => hn (h.own b hb ho))).trans (h.block b hb hn)

theorem addr_of_cell {w : World} {a : Addr} {j : Nat} {x : Value} (h : w.cell? (a.add j) = some x) : a.add j = ⟨a.block, a.off + j, none⟩ := by
  unfold Addr.add at h ⊢
  by_cases hj : j = 0
  · subst hj
    simp only [if_true] at h ⊢
    obtain ⟨b, o, s⟩ := a
    cases s with
    | none => rfl
    | some n =>
      exfalso
      unfold World.cell? at h
      split at h
      · simp at h
      · simp at h
  · simp [hj]

theorem spareOk.mono {E E' : GE} (h : E.pre E') {a : Addr} {n sz cap : Nat} {p : Spare} (hp : spareOk E a n sz cap p) : spareOk E' a n sz cap p := by
  cases p with
  | unk => trivial
  | zero => exact hp
  | tok t g => exact ⟨Nat.lt_of_lt_of_le hp.1 h.nt, hp.2.1, h.τ _ _ _ hp.1 hp.2.2⟩

theorem cell_mono {E E' : GE} (h : E.pre E') {a : Addr} {j : Nat} {x : Value} (hx : E.w.cell? (a.add j) = some x) (hS : E.S a.block (a.off + j)) : E'.w.cell? (a.add j) = some x := by
  have e := addr_of_cell hx
  rw [e] at hx ⊢
  rw [h.cell _ _ hS]; exact hx

theorem VRel.pmono {E E' : GE} (h : E.pre E') {v : AV} {x : Value} (hv : VRel E v x) : VRel E' v x := by
  induction hv with
  | top v => exact .top v
  | bool b => exact .bool b
  | int k n => exact .int k n
  | str s => exact .str s
  | ptr id off b hid hb => exact .ptr id off b (Nat.lt_of_lt_of_le hid h.nid) (h.ρ id b hid hb)
  | nilptr => exact .nilptr
  | rop v a x hx hr ih => exact .rop v a x (fun j hj => ⟨cell_mono h (hx j hj).1 (hx j hj).2.2, (hx j hj).2.1, h.S _ _ (hx j hj).2.2⟩) ih
  | nils => exact .nils
  | inl f p sz xs a cap x hsz hx hr hcap hf hp ih =>
    exact .inl f p sz xs a cap x hsz (fun i j hi hj => ⟨cell_mono h (hx i j hi hj).1 (hx i j hi hj).2.2, (hx i j hi hj).2.1, h.S _ _ (hx i j hi hj).2.2⟩) ih hcap (fun e => h.base ▸ hf e) (hp.mono h)
  | sl id off len cap sz ag b c hid hb hl hc hag hcp => exact .sl id off len cap sz ag b c (Nat.lt_of_lt_of_le hid h.nid) (h.ρ id b hid hb) hl hc hag (fun e => by rw [h.cp id hid]; exact hcp e)
  | map id b hid hb => exact .map id b (Nat.lt_of_lt_of_le hid h.nid) (h.ρ id b hid hb)
  | nilmap => exact .nilmap
  | func fn as bs xs ys hfn h1 _ h3 _ ih2 ih4 => exact .func fn as bs xs ys hfn h1 ih2 h3 ih4
  | yield id b hid hb => exact .yield id b (Nat.lt_of_lt_of_le hid h.nid) (h.ρ id b hid hb)
  | nilfunc => exact .nilfunc
  | iface t v x _ ih => exact .iface t v x ih
  | niliface => exact .niliface
  | agg cs xs h1 _ h3 ih => exact .agg cs xs h1 ih h3
  | tuple vs xs h1 _ ih => exact .tuple vs xs h1 ih

theorem VRel.mono {E E' : GE} (h : E.le E') {v : AV} {x : Value} (hv : VRel E v x) : VRel E' v x := hv.pmono h.topre

/-- A list of abstract values tells a row. -/
def VRelL (E : GE) (vs : List AV) (xs : Array Value) : Prop := vs.length = xs.size ∧ ∀ (i : Nat) v x, vs[i]? = some v → xs[i]? = some x → VRel E v x
theorem VRelL.pmono {E E' : GE} (h : E.pre E') {vs : List AV} {xs : Array Value} (hv : VRelL E vs xs) : VRelL E' vs xs := ⟨hv.1, fun i v x a b => (hv.2 i v x a b).pmono h⟩
theorem VRelL.mono {E E' : GE} (h : E.le E') {vs : List AV} {xs : Array Value} (hv : VRelL E vs xs) : VRelL E' vs xs := ⟨hv.1, fun i v x a b => (hv.2 i v x a b).mono h⟩

/-- A loop's record stands so. -/
def lstOK (st : LSt) (r : Loop) : Prop :=
  match st with
  | .ready => r.state = .ready ∧ r.pending = none
  | .busy => r.state = .busy
  | .left none => r.state = .done ∧ r.pending = some .ret
  | .left (some i) => r.state = .done ∧ r.pending = some (.exit i)

/-- An object in memory. -/
inductive ORel (E : GE) (id : Nat) : AObj → Prop
  | cells (cs : List AV) (b : Nat) (c : Array Value) (el : TypeId) (hb : E.ρ id = some b) (hh : E.w.heap[b]? = some (.cells c el (0, 0))) (hl : cs.length ≤ c.size)
      (hc : ∀ (j : Nat) v x, cs[j]? = some v → c[j]? = some x → VRel E v x) (h1 : ∀ (j : Nat) x, c[j]? = some x → x.oneCell' = true) (hS : ∀ o, ¬ E.S b o) (hcp : E.cp id ≤ c.size) : ORel E id (.cells cs)
  | map (es : List (AV × AV)) (bs : List Nat) (clock b : Nat) (ms : Array MapEntry) (hb : E.ρ id = some b) (hh : E.w.heap[b]? = some (.map ms clock)) (hl : es.length = ms.size) (hs : ms.toList.map (·.born) = bs)
      (hk : ∀ (j : Nat) e m, es[j]? = some e → ms[j]? = some m → VRel E e.1 m.key) (hv : ∀ (j : Nat) e m, es[j]? = some e → ms[j]? = some m → VRel E e.2 m.val) : ORel E id (.map es bs clock)
  | miter0 (b : Nat) (hb : E.ρ id = some b) (hh : E.w.heap[b]? = some (.mapIter none 0 #[] 0)) : ORel E id (.miter none 0 [] 0)
  | miter (m since : Nat) (seen : List Nat) (last b k : Nat) (hm : m < E.nid) (hk : E.ρ m = some k) (hb : E.ρ id = some b) (hh : E.w.heap[b]? = some (.mapIter (some k) since seen.toArray last)) : ORel E id (.miter (some m) since seen last)
  | siter (s : List UInt8) (pos b : Nat) (hb : E.ρ id = some b) (hh : E.w.heap[b]? = some (.stringIter ⟨s.toArray⟩ pos)) : ORel E id (.siter s pos)
  | loop (s : List AV) (ps : List Nat) (x y : Code) (st : LSt) (b : Nat) (r : Loop) (hb : E.ρ id = some b) (hh : E.w.heap[b]? = some (.loop r)) (h1 : VRelL E s r.tmps) (h2 : r.params.toList = ps) (h3 : r.assign = x) (h4 : r.body = y) (h5 : lstOK st r) : ORel E id (.loop s ps x y st)
  | dead : ORel E id (.dead true)
  | tcells (u : TypeId) (cs : List AV) (b : Nat) (c : Array Value) (hb : E.ρ id = some b) (hh : E.w.heap[b]? = some (.cells c u (0, 0))) (hl : cs.length = c.size)
      (hc : ∀ (j : Nat) v x, cs[j]? = some v → c[j]? = some x → VRel E v x) (h1 : ∀ (j : Nat) x, c[j]? = some x → x.oneCell' = true) (hS : ∀ o, ¬ E.S b o) : ORel E id (.tcells u cs)
  | unborn (h : E.ρ id = none) (h0 : E.cp id = 0) : ORel E id (.dead false)

/-- The abstract heap tells the world. -/
structure HRel (H : AH) (E : GE) : Prop where
  nid : E.nid = H.objs.length
  nt : E.nt = H.toks.length
  obj : ∀ id o, H.objs[id]? = some o → ORel E id o
  inj : ∀ (i j b : Nat) o o', H.objs[i]? = some o → H.objs[j]? = some o' → o.live = true → o'.live = true → E.ρ i = some b → E.ρ j = some b → i = j
  tok : ∀ t g sz u p, H.toks[t]? = some (g, sz, u) → E.τ t g = some p → ∃ b e ce c, p = (sz, b, e, ce) ∧ E.w.heap[b]? = some (.cells c u (0, 0)) ∧ e ≤ ce ∧ ce ≤ c.size ∧ (∀ (j : Nat) x, c[j]? = some x → x.oneCell' = true) ∧ ∀ o, e ≤ o → ¬ E.S b o
  late : ∀ t g sz u g', H.toks[t]? = some (g, sz, u) → g < g' → E.τ t g' = none
  tsep : ∀ t g p id b, t < E.nt → E.τ t g = some p → id < E.nid → E.ρ id = some b → p.2.1 ≠ b
  tinj : ∀ t g p t' g' p', t < E.nt → t' < E.nt → E.τ t g = some p → E.τ t' g' = some p' → p.2.1 = p'.2.1 → t = t'
  tbase : ∀ t g p, t < E.nt → E.τ t g = some p → E.base ≤ p.2.1
  set : ∀ b o, E.S b o → (E.w.cell? ⟨b, o, none⟩).isSome = true
  lt : ∀ b, E.owned b → b < E.w.heap.size
  hbase : E.base ≤ E.w.heap.size

end Go.Sx

/- THE ENGINE, 4: one operation, a region, code, a function, a program; with fuel, and without. Definitions alone. -/
namespace Go.Sx
variable {R : Type}

/-- A test. -/
def br (b : Bool) (f g : Unit → Option R) : Option R := match b with | true => f () | false => g ()

def optK {A : Type} (o : Option A) (f : A → Option R) : Option R := match o with | some a => f a | none => none

/-- How code is left. -/
inductive Ex where
  | normal
  | exit (id : Nat)
  | ret
  | goto (l : Nat)
  | panic (v : AV)

/-- What a call comes to: it returns, or it panics. -/
inductive Res where
  | val (v : AV) (H : AH)
  | pan (v : AV) (H : AH)
def Res.valOf : Res → Option (AV × AH)
  | .val v H => some (v, H)
  | .pan _ _ => none
def Res.panOf : Res → Option (AV × AH)
  | .val _ _ => none
  | .pan v H => some (v, H)

/-- What a call of a function does, and what a call of a loop's yield does. -/
structure Caller where
  res : FuncId → List AV → AH → Option Res
  yield : Nat → List AV → AH → Option (AV × AH)
def Caller.fn (c : Caller) (f : FuncId) (args : List AV) (H : AH) : Option (AV × AH) := optK (c.res f args H) Res.valOf
def Caller.pan (c : Caller) (f : FuncId) (args : List AV) (H : AH) : Option (AV × AH) := optK (c.res f args H) Res.panOf
instance : CoeFun Caller (fun _ => FuncId → List AV → AH → Option (AV × AH)) := ⟨Caller.fn⟩

def putD (dst : Option Nat) (s : List AV) (v : AV) : List AV := match dst with | some d => s.set d v | none => s

def minmaxK (isMax : Bool) : AV → List AV → (AV → Option R) → Option R
  | .int k a, [], K => K (.int k a)
  | .int k a, .int _ b :: r, K => minmaxK isMax (.int k (if isMax then (if b > a then b else a) else (if b < a then b else a))) r K
  | _, _, _ => none

def builtinK (S : Sys) (H : AH) (b : Builtin) (ts : Array TypeId) (xs : List AV) (K : AV → AH → Option R) : Option R :=
  match b, xs with
  | .len, [x] => lenK S H ts x fun v => K v H
  | .append, [s, x] => appendK S H ts s x K
  | .copy, [d, x] => copyK S H ts d x K
  | .max, x :: r => minmaxK true x r fun v => K v H
  | .min, x :: r => minmaxK false x r fun v => K v H
  | .delete, [m, k] => deleteK S H ts m k K
  | .clear, [x] => clearK S H ts x K
  | _, _ => none

def callFn (call : Caller) (f : AV) (args : List AV) (H : AH) (K : AV → AH → Option R) : Option R :=
  match f with
  | .func (.func f) first caps => optK (call f ((first ++ args) ++ caps) H) fun p => K p.1 p.2
  | .func (.yield id) [] [] => optK (call.yield id args H) fun p => K p.1 p.2
  | _ => none

/-- A method, called on an interface's value. -/
def methK (S : Sys) (call : Caller) (f : AV) (m : String) (args : List AV) (H : AH) (K : AV → AH → Option R) : Option R :=
  match f with
  | .iface t v => match S.meth t m with
    | some g => optK (call g (v :: args) H) fun p => K p.1 p.2
    | none => none
  | _ => none

/-- A type that is asserted (no interface). -/
def assertK (i : TI) (t : TypeId) (x : AV) (ok : Bool) (K : AV → Option R) : Option R :=
  match i.k with
  | .iface => none
  | _ => match x with
    | .niliface => match ok with
      | true => K (.tuple [i.zero, .bool false])
      | false => none
    | .iface u v => match Nat.beq u t, ok with
      | true, true => K (.tuple [v, .bool true])
      | true, false => K v
      | false, true => K (.tuple [i.zero, .bool false])
      | false, false => none
    | _ => none

def convK (S : Sys) (H : AH) (a b : TypeId) (v : AV) (K : AV → AH → Option R) : Option R :=
  match S.T a, S.T b with
  | some i, some j => (match v with
    | .int _ n => (match j.k with
      | .int k => K (.int k (k.wrap n)) H
      | .string => if 0 ≤ n ∧ n < 128 then K (.str [UInt8.ofNat n.toNat]) H else none
      | _ => none)
    | .str b => (match i.k, j.k with
      | .string, .string => K (.str b) H
      | .string, .slice e => (match S.T e with
        | some q => (match q.k with
          | .int .u8 => K (.inl true .unk 1 (byteA b)) H
          | _ => none)
        | none => none)
      | _, _ => none)
    | v => (match resolveC H v with
      | some u => textK i j S.T u fun v => K v H
      | none => none))
  | _, _ => none

/-- A variable of a type: of most types only the content is told. -/
def allocO (S : Sys) (t : TypeId) (i : TI) : AObj := match S.typed t with | true => .tcells t i.zero.cells | false => .cells i.zero.cells

def opK (S : Sys) (call : Caller) (s : List AV) (H : AH) (o : Oper) (K : AV → AH → Option R) : Option R :=
  let e := ev S.G s
  let ty (t : TypeId) (k : TI → Option R) : Option R := match S.T t with | some i => k i | none => none
  match o.op with
  | .move x | .assign x => K (e x) H
  | .pick c a b => match e c with
    | .bool t => br t (fun _ => K (e a) H) (fun _ => K (e b) H)
    | _ => none
  | .alloc t => ty t fun i => if i.zero.cells.length = i.size then newK H (allocO S t i) fun id H => K (.ptr id 0) H else none
  | .box _ x => if (e x).solid then newK H (.cells (e x).cells) fun id H => K (.ptr id 0) H else none
  | .build t ps => ty t fun i => if (ps.toList.map fun p => (p.1, e p.2)).all fun p => p.2.solid then buildK i S.T (ps.toList.map fun p => (p.1, e p.2)) fun v => K v H else none
  | .buildSlice t n ps => ty t fun i => buildSliceK S H i n (ps.toList.map fun p => (p.1, e p.2)) K
  | .load t a => ty t fun i => loadK H i (e a) fun v => K v H
  | .store t a x => ty t fun i => if (e x).solid then storeK H i (e a) (e x) fun H => K .top H else none
  | .nilCheck x => match e x with
    | .ptr id off => K (.ptr id off) H
    | .rop v => K (.rop v) H
    | _ => none
  | .binOp op t x y _ => binN S.T op t x y (e x) (e y) fun v => K v H
  | .unOp op _ x => unK op (e x) fun v => K v H
  | .convert a b x => convK S H a b (e x) K
  | .range t x => ty t fun i => rangeStrK H i (e x) K
  | .next x isS => nextK H (e x) isS K
  | .makeInterface t x => ty t fun i => match i.k with
    | .iface => none
    | _ => K (.iface t (e x)) H
  | .makeFunc fn a b => match fn with
    | .func f => K (.func (.func f) (a.toList.map e) (b.toList.map e)) H
    | _ => none
  | .makeMap _ none => newK H (.map [] [] 0) fun id H => K (.map id) H
  | .entry x => entryK H (e x) fun v => K v H
  | .makeSlice t l c => ty t fun i => makeSliceK S H i (e l) (e c) K
  | .slice t x lo hi mx => ty t fun i => sliceK i S.T (e x) (lo.map e) (hi.map e) (mx.map e) fun v => K v H
  | .fieldAddr t x f => ty t fun i => fieldAddrK i S.T (e x) f fun v => K v H
  | .field t x f => ty t fun i => fieldK i S.T (e x) f fun v => K v H
  | .indexAddr t x ix => ty t fun i => indexAddrK i S.T (e x) (e ix) fun v => K v H
  | .index t x ix => ty t fun i => indexK i S.T (e x) (e ix) fun v => K v H
  | .lookup t x ix ok => ty t fun i => lookupK S H i (e x) (e ix) ok fun v => K v H
  | .mapUpdate t m k x | .insert t m k x => ty t fun i => mapUpdateK S H i (e m) (e k) (e x) fun H => K .top H
  | .extract x ix => match e x with
    | .tuple vs => match vs[ix]? with
      | some v => K v H
      | none => none
    | _ => none
  | .call c => match c.callee with
    | .value f => callFn call (e f) (c.args.toList.map e) H K
    | .builtin b => builtinK S H b c.argTypes (c.args.toList.map e) K
    | .invoke r m => methK S call (e r) m (c.args.toList.map e) H K
  | .typeAssert x _ t ok => ty t fun i => assertK i t (e x) ok fun v => K v H
  | _ => none

/-- The operations of a region, in the order of the text. -/
def opsK (S : Sys) (call : Caller) (all : Array Oper) : List Oper → List AV → AH → (List AV → AH → Option R) → Option R
  | [], s, H, K => K s H
  | o :: r, s, H, K =>
    match o.guard with
    | none => opK S call s H o fun v H => opsK S call all r (putD o.dst s v) H K
    | some (j, want) =>
      match (all[j]?).bind (·.dst) with
      | none => none
      | some d => match s[d]? with
        | some (.bool t) => br t
          (fun _ => if want then opK S call (s.set d (.bool true)) H o fun v H => opsK S call all r (putD o.dst (s.set d (.bool true)) v) H K
            else opsK S call all r (putD o.dst (s.set d (.bool true)) (.tuple [])) H K)
          (fun _ => if want then opsK S call all r (putD o.dst (s.set d (.bool false)) (.tuple [])) H K
            else opK S call (s.set d (.bool false)) H o fun v H => opsK S call all r (putD o.dst (s.set d (.bool false)) v) H K)
        | some (.tuple []) => opsK S call all r (putD o.dst s (.tuple [])) H K
        | _ => none

abbrev Out := Ex × List AV × AH
abbrev Looper := (List AV → AH → Option Out) → List AV → AH → Option Out

/-- Does an operation ask, or change, the objects? -/
def convTouch (S : Sys) (a b : TypeId) : Bool := match S.T a, S.T b with
  | some i, some j => (match i.k, j.k with
    | .slice _, .string => true
    | _, _ => false)
  | _, _ => false
/-- Is a slice that is built an object? -/
def sliceObj (S : Sys) (t : TypeId) : Bool := match S.T t with
  | some i => (match i.k with | .slice e => S.objT e | _ => true)
  | none => true
/-- Does a length ask the objects? Those of maps do. -/
def lenTouch (S : Sys) (ts : Array TypeId) : Bool := match ts[0]? with
  | some t => (match S.T t with
    | some i => (match i.k with | .slice _ => false | .string => false | _ => true)
    | none => true)
  | none => true
def touches (S : Sys) (o : Oper) : Bool :=
  match o.op with
  | .convert a b _ => convTouch S a b
  | .load _ _ | .lookup _ _ _ _ | .entry _ => true
  | .buildSlice t _ _ => sliceObj S t
  | .alloc _ | .box _ _ | .store _ _ _ | .makeMap _ _ | .makeSlice _ _ _ | .mapUpdate _ _ _ _ | .insert _ _ _ _ | .range _ _ | .next _ _ => true
  | .call c => match c.callee with
    | .builtin .max | .builtin .min => false
    | .builtin .len => lenTouch S c.argTypes
    | _ => true
  | _ => false
def changes (S : Sys) (o : Oper) : Bool :=
  match o.op with
  | .alloc _ | .box _ _ | .store _ _ _ | .makeMap _ _ | .makeSlice _ _ _ | .mapUpdate _ _ _ _ | .insert _ _ _ _ | .range _ _ | .next _ _ => true
  | .buildSlice t _ _ => match S.T t with
    | some i => match i.k with | .slice e => S.objT e | _ => true
    | none => true
  | .call c => match c.callee with
    | .builtin .max | .builtin .min | .builtin .len => false
    | .value (.func f) => !S.isPure f
    | _ => true
  | _ => false

def usesT (ops : Array Oper) (o : Oper) : List Nat :=
  (o.op.operands.toList.filterMap fun | .tmp t => some t | _ => none) ++ (match o.guard with | some (j, _) => ((ops[j]?).bind (·.dst)).toList | none => [])

/-- Two operations whose order tells: they must be ordered by the region's edges. -/
def clash (S : Sys) (ops : Array Oper) (a b : Oper) : Bool :=
  (touches S a && changes S b) || (changes S a && touches S b) ||
  (match a.dst with | some d => (usesT ops b).contains d || b.dst == some d | none => false) ||
  (match b.dst with | some d => (usesT ops a).contains d | none => false)

/-- A number, worked out before it is handed on. -/
def force {A : Type} (n : Nat) (k : Nat → A) : A := match n with | 0 => k 0 | m + 1 => k (m + 1)

/-- The operations that must stand before one: bits. -/
def maskOf (acc : List Nat) : List Edge → Nat
  | [] => 0
  | e :: r => if Region.binds .any e then (2 ^ e.on ||| acc.getD e.on 0) ||| maskOf acc r else maskOf acc r

/-- The order in which the operations are done does not tell. done: those before, with their masks; the last first. -/
def drawGo (cl : Oper → Oper → Bool) : List Oper → Nat → List Oper → List Nat → Bool
  | [], _, _, _ => true
  | o :: r, n, seen, acc => force (maskOf acc o.after.toList) fun m =>
    (o.after.toList.all fun e => !Region.binds .any e || decide (e.on < n)) &&
    (match o.guard with | some (j, _) => m.testBit j | none => true) &&
    ((List.range n).all fun i => m.testBit i || (match seen[i]? with | some a => !cl a o | none => false)) && drawGo cl r (n + 1) (seen ++ [o]) (acc ++ [m])

def drawOK (S : Sys) (ops : Array Oper) : Bool := drawGo (clash S ops) ops.toList 0 [] []

/-! Regions whose order is drawn, with objects that are made in no certain order: their numbers are given ahead. -/
def birthsOf : List Oper → List Nat
  | [] => []
  | o :: r => match o.op, o.dst with
    | .alloc _, some d => d :: birthsOf r
    | _, _ => birthsOf r

def bornId : Nat → List Nat → Nat → Option Nat
  | _, [], _ => none
  | n, e :: r, d => match Nat.beq e d with | true => some n | false => bornId (n + 1) r d

def bornAt (bi : Nat → Option Nat) (o : Oper) : Option (TypeId × Nat) := match o.op, o.dst with
  | .alloc t, some d => match bi d with | some id => some (t, id) | none => none
  | _, _ => none

def birthK (S : Sys) (H : AH) (t : TypeId) (id : Nat) : Option (AV × AH) :=
  match S.T t with
  | some i => if i.zero.cells.length = i.size then (match H.objs[id]? with
    | some (.dead false) => some (.ptr id 0, { H with objs := H.objs.set id (.cells i.zero.cells) })
    | _ => none) else none
  | none => none

def opB (bi : Nat → Option Nat) (S : Sys) (call : Caller) (s : List AV) (H : AH) (o : Oper) : Option (AV × AH) := match bornAt bi o with
  | some p => birthK S H p.1 p.2
  | none => opK S call s H o fun v H => some (v, H)

/-- Is it done? -/
def wantD (all : Array Oper) (o : Oper) (s : List AV) : Option Bool :=
  match o.guard with
  | none => some true
  | some (j, want) => match (all[j]?).bind (·.dst) with
    | none => none
    | some d => match s[d]? with
      | some (.bool t) => some (t == want)
      | some (.tuple []) => some false
      | _ => none

def stepB (bi : Nat → Option Nat) (S : Sys) (call : Caller) (all : Array Oper) (o : Oper) (s : List AV) (H : AH) : Option (List AV × AH) :=
  match wantD all o s with
  | some true => optK (opB bi S call s H o) fun p => some (putD o.dst s p.1, p.2)
  | some false => some (putD o.dst s (.tuple []), H)
  | none => none

def runB (bi : Nat → Option Nat) (S : Sys) (call : Caller) (all : Array Oper) : List Oper → List AV → AH → Option (List AV × AH)
  | [], s, H => some (s, H)
  | o :: r, s, H => optK (stepB bi S call all o s H) fun p => runB bi S call all r p.1 p.2

def reserve (H : AH) (n : Nat) : AH := { H with objs := H.objs ++ List.replicate n (.dead false) }

/-- It asks of no object that is not there. -/
def mild (S : Sys) (o : Oper) : Bool := !touches S o || (match o.op with
  | .load _ _ => true
  | .call c => match c.callee with
    | .value (.func f) => S.isPure f
    | _ => false
  | _ => false)

def isBirth (bi : Nat → Option Nat) (o : Oper) : Bool := (bornAt bi o).isSome

def slotsClash (ops : Array Oper) (a b : Oper) : Bool :=
  (match a.dst with | some d => (usesT ops b).contains d || b.dst == some d | none => false) ||
  (match b.dst with | some d => (usesT ops a).contains d | none => false)

def clashB (bi : Nat → Option Nat) (S : Sys) (ops : Array Oper) (a b : Oper) : Bool :=
  match isBirth bi b, isBirth bi a with
  | true, true => slotsClash ops a b
  | true, false => !mild S a || slotsClash ops a b
  | false, true => touches S b || slotsClash ops a b
  | false, false => clash S ops a b

def drawOK2 (S : Sys) (ops : Array Oper) : Bool := drawGo (clashB (bornId 0 (birthsOf ops.toList)) S ops) ops.toList 0 [] []

def resetV (u v : AV) : AV := match u with | .top => .top | _ => v
def resetL : List AV → List AV → List AV
  | u :: r, v :: s => resetV u v :: resetL r s
  | _, s => s

/-- A value, if it refers to nothing that is forgotten. -/
def cutV (n m : Nat) (v : AV) : AV := match below n m v with | true => v | false => .top

/-- Objects made in a round are forgotten, and the temporaries that refer to them. -/
def forget (H : AH) (s' : List AV) (H' : AH) : List AV × AH :=
  if Nat.beq H'.objs.length H.objs.length then (s', H')
  else if belowO H.objs.length H'.toks.length (H'.objs.take H.objs.length) then (s'.map (cutV H.objs.length H'.toks.length), ⟨H'.objs.take H.objs.length, H'.toks⟩)
  else (s', H')

/-- What a round leaves. room 1: temporaries that were not there at its head are forgotten. room 0: objects that it made are forgotten, and the temporaries that refer to them. room 2: both. -/
def back (room : Nat) (s : List AV) (H : AH) (s' : List AV) (H' : AH) : List AV × AH :=
  if Nat.ble 3 room && (Nat.ble H'.objs.length (H.objs.length + room) && Nat.ble H'.toks.length (H.toks.length + room)) then (s', H') else
  if Nat.beq room 1 then (resetL s s', H') else
  if Nat.beq room 2 then forget H (resetL s s') H' else forget H s' H'

/-- What is left of the temporaries behind a loop. -/
def outS (room : Nat) (s s' : List AV) : List AV := match Nat.beq room 1 || Nat.beq room 2 with | true => resetL s s' | false => s'

def iter (room : Nat) (body : List AV → AH → Option Out) : Nat → List AV → AH → Option Out
  | 0, _, _ => none
  | n + 1, s, H => match body s H with
    | some (.normal, s', H') => iter room body n (back room s H s' H').1 (back room s H s' H').2
    | some (e, s', H') => some (e, outS room s s', H')
    | none => none

def retO : Ex → List AV → AH → Option Out := fun e s H => some (e, s, H)

/-- A loop is over. -/
def leaveK (id : Nat) (s : List AV) (H : AH) (K : Ex → List AV → AH → Option R) : Option R :=
  match H.objs[id]? with
  | some (.loop _ _ _ _ st) => match st with
    | .ready => K .normal s { H with objs := H.objs.set id (.dead true) }
    | .left none => K .ret s { H with objs := H.objs.set id (.dead true) }
    | .left (some i) => K (.exit i) s { H with objs := H.objs.set id (.dead true) }
    | .busy => none
  | _ => none

/-- A loop over a function. -/
def rangeK (call : Caller) (f : AV) (s : List AV) (H : AH) (ps : List Nat) (x y : Code) (K : Ex → List AV → AH → Option R) : Option R :=
  match f with
  | .func (.func f) first caps => optK (call f ((first ++ [.func (.yield H.objs.length) [] []]) ++ caps) { H with objs := H.objs ++ [.loop s ps x y .ready] }) fun p => leaveK H.objs.length s p.2 K
  | _ => none

/-- Does an operation panic, and how? -/
def panOf (S : Sys) (call : Caller) (s : List AV) (H : AH) (o : Oper) : Option (AV × AH) :=
  match o.op with
  | .panic x => match ev S.G s x with
    | .iface t v => some (.iface t v, H)
    | _ => none
  | .call c => match c.callee with
    | .value f => match ev S.G s f with
      | .func (.func g) first caps => call.pan g ((first ++ c.args.toList.map (ev S.G s)) ++ caps) H
      | _ => none
    | .invoke r m => match ev S.G s r with
      | .iface t v => match S.meth t m with
        | some g => call.pan g (v :: c.args.toList.map (ev S.G s)) H
        | none => none
      | _ => none
    | _ => none
  | _ => none

def stepX (S : Sys) (call : Caller) (all : Array Oper) (o : Oper) (s : List AV) (H : AH) : Option Out :=
  match wantD all o s with
  | some true => match panOf S call s H o with
    | some p => some (.panic p.1, s, p.2)
    | none => opK S call s H o fun v H => some (.normal, putD o.dst s v, H)
  | some false => some (.normal, putD o.dst s (.tuple []), H)
  | none => none

def thenX (o : Option Out) (k : List AV → AH → Option Out) : Option Out := match o with
  | some (.normal, s, H) => k s H
  | o => o

/-- The operations of a region in the order of the text, up to one that panics. -/
def runX (S : Sys) (call : Caller) (all : Array Oper) : List Oper → List AV → AH → Option Out
  | [], s, H => some (.normal, s, H)
  | o :: r, s, H => thenX (stepX S call all o s H) (runX S call all r)

/-- The order is forced. -/
def lineOK (ops : Array Oper) : Bool := drawGo (fun _ _ => true) ops.toList 0 [] []

def isPan : Ex → Bool
  | .panic _ => true
  | _ => false

/-! Regions whose order is drawn, with calls that only make objects beside loads of older ones. -/
def eqBytes : List UInt8 → List UInt8 → Bool
  | [], [] => true
  | a :: x, b :: y => Nat.beq a.toNat b.toNat && eqBytes x y
  | _, _ => false
def eqInt : Int → Int → Bool
  | .ofNat a, .ofNat b => Nat.beq a b
  | .negSucc a, .negSucc b => Nat.beq a b
  | _, _ => false
def eqFn : Fn → Fn → Bool
  | .func a, .func b => Nat.beq a b
  | .yield a, .yield b => Nat.beq a b
  | a, b => decide (a = b)
def eqSpare : Spare → Spare → Bool
  | .unk, .unk => true
  | .zero, .zero => true
  | .tok a b, .tok c d => Nat.beq a c && Nat.beq b d
  | _, _ => false
def eqCap : Option Nat → Option Nat → Bool
  | none, none => true
  | some a, some b => Nat.beq a b
  | _, _ => false
def eqB (a b : Bool) : Bool := match a with | true => b | false => !b
mutual
def eqA : AV → AV → Bool
  | .top, .top => true
  | .bool a, .bool b => eqB a b
  | .int k a, .int l b => decide (k = l) && eqInt a b
  | .str a, .str b => eqBytes a b
  | .ptr i o, .ptr j p => Nat.beq i j && Nat.beq o p
  | .nilptr, .nilptr => true
  | .rop v, .rop w => eqA v w
  | .nils, .nils => true
  | .inl f p sz xs, .inl g q tz ys => (eqB f g && (eqSpare p q && Nat.beq sz tz)) && eqAL xs ys
  | .sl i o l c s g, .sl i' o' l' c' s' g' => (Nat.beq i i' && (Nat.beq o o' && Nat.beq l l')) && (eqCap c c' && (Nat.beq s s' && eqB g g'))
  | .map i, .map j => Nat.beq i j
  | .nilmap, .nilmap => true
  | .func f a b, .func g c d => eqFn f g && (eqAL a c && eqAL b d)
  | .nilfunc, .nilfunc => true
  | .iface t v, .iface u w => Nat.beq t u && eqA v w
  | .niliface, .niliface => true
  | .agg a, .agg b => eqAL a b
  | .tuple a, .tuple b => eqAL a b
  | _, _ => false
def eqAL : List AV → List AV → Bool
  | [], [] => true
  | a :: x, b :: y => eqA a b && eqAL x y
  | _, _ => false
end
/-- The same content, where there is one to be loaded. -/
def eqO : AObj → AObj → Bool
  | .cells a, o => (match o with | .cells b => eqAL a b | _ => false)
  | .tcells u a, o => (match o with | .tcells v b => Nat.beq u v && eqAL a b | _ => false)
  | _, o => (match o with | .cells _ => false | .tcells _ _ => false | _ => true)
def noCont : AObj → Bool
  | .cells _ => false
  | .tcells _ _ => false
  | _ => true
def eqOo : Option AObj → Option AObj → Bool
  | some a, some b => eqO a b
  | none, some b => noCont b
  | some a, none => noCont a
  | none, none => true
def frameI : List Nat → List AObj → List AObj → Bool
  | [], _, _ => true
  | id :: L, x, y => eqOo x[id]? y[id]? && frameI L x y
/-- What was loaded stays as it is behind every call. -/
def metB (L : List Nat) : List (AH × AH) → Bool
  | [] => true
  | p :: r => frameI L p.1.objs p.2.objs && metB L r
def growCall (S : Sys) (o : Oper) : Bool := changes S o && (match o.op with
  | .call c => (match c.callee with | .value _ | .builtin .append => true | _ => false)
  | .store _ _ _ => Nat.beq S.room 0
  | _ => false)
def isLoad (o : Oper) : Bool := match o.op with
  | .load _ _ => true
  | _ => false
def clashG (S : Sys) (ops : Array Oper) (a b : Oper) : Bool :=
  match (growCall S a && isLoad b) || (isLoad a && growCall S b) with
  | true => slotsClash ops a b
  | false => clash S ops a b
def drawOK3 (S : Sys) (ops : Array Oper) : Bool := drawGo (clashG S ops) ops.toList 0 [] []
/-- The objects that were loaded, the memories around the calls. -/
abbrev Met := List Nat × List (AH × AH)
def metL (a : AV) (m : Met) : Met := match a with
  | .ptr id _ => (id :: m.1, m.2)
  | _ => m
def metOf (S : Sys) (s : List AV) (H : AH) (o : Oper) (H' : AH) (m : Met) : Met := match growCall S o with
  | true => (m.1, (H, H') :: m.2)
  | false => (match o.op with
    | .load _ a => metL (ev S.G s a) m
    | _ => m)
def stepM (S : Sys) (call : Caller) (all : Array Oper) (o : Oper) (s : List AV) (H : AH) (m : Met) : Option ((List AV × AH) × Met) :=
  match wantD all o s with
  | some true => optK (opK S call s H o fun v H => some (v, H)) fun p => some ((putD o.dst s p.1, p.2), metOf S s H o p.2 m)
  | some false => some ((putD o.dst s (.tuple []), H), m)
  | none => none
def runM (S : Sys) (call : Caller) (all : Array Oper) : List Oper → List AV → AH → Met → Option ((List AV × AH) × Met)
  | [], s, H, m => some ((s, H), m)
  | o :: r, s, H, m => optK (stepM S call all o s H m) fun p => runM S call all r p.1.1 p.1.2 p.2
/-- Such a region whole. -/
def runG (S : Sys) (call : Caller) (ops : Array Oper) (s : List AV) (H : AH) : Option (List AV × AH) := optK (runM S call ops ops.toList s H ([], [])) fun p => match metB p.2.1 p.2.2 with
  | true => some p.1
  | false => none

/-! Regions whose order is drawn, gone through in every order; the numbers of what is made are turned into those of the text's order. -/
mutual
/-- Numbers turned: f those of objects, g those of tokens. -/
def renV (f g : Nat → Nat) : AV → AV
  | .ptr id off => .ptr (f id) off
  | .rop v => .rop (renV f g v)
  | .inl fr p sz xs => .inl fr (match p with | .tok t n => .tok (g t) n | p => p) sz (renL f g xs)
  | .sl id off len cap sz ag => .sl (f id) off len cap sz ag
  | .map id => .map (f id)
  | .func (.yield id) a b => .func (.yield (f id)) (renL f g a) (renL f g b)
  | .func fn a b => .func fn (renL f g a) (renL f g b)
  | .iface t v => .iface t (renV f g v)
  | .agg cs => .agg (renL f g cs)
  | .tuple vs => .tuple (renL f g vs)
  | v => v
def renL (f g : Nat → Nat) : List AV → List AV
  | [] => []
  | v :: r => renV f g v :: renL f g r
end
def renE (f g : Nat → Nat) : List (AV × AV) → List (AV × AV)
  | [] => []
  | e :: r => (renV f g e.1, renV f g e.2) :: renE f g r
def renO (f g : Nat → Nat) : AObj → AObj
  | .cells cs => .cells (renL f g cs)
  | .map es bs ck => .map (renE f g es) bs ck
  | .miter (some m) since seen last => .miter (some (f m)) since seen last
  | .loop s ps x y st => .loop (renL f g s) ps x y st
  | .tcells u cs => .tcells u (renL f g cs)
  | o => o
def eqNL : List Nat → List Nat → Bool
  | [], [] => true
  | a :: x, b :: y => Nat.beq a b && eqNL x y
  | _, _ => false
def eqAE : List (AV × AV) → List (AV × AV) → Bool
  | [], [] => true
  | a :: x, b :: y => (eqA a.1 b.1 && eqA a.2 b.2) && eqAE x y
  | _, _ => false
/-- The same object. -/
def eqX : AObj → AObj → Bool
  | .cells a, .cells b => eqAL a b
  | .tcells u a, .tcells v b => Nat.beq u v && eqAL a b
  | .map a b c, .map a' b' c' => (eqAE a a' && eqNL b b') && Nat.beq c c'
  | .miter (some m) a b c, .miter (some m') a' b' c' => (Nat.beq m m' && Nat.beq a a') && (eqNL b b' && Nat.beq c c')
  | .miter none a b c, .miter none a' b' c' => Nat.beq a a' && (eqNL b b' && Nat.beq c c')
  | .siter s p, .siter s' p' => eqBytes s s' && Nat.beq p p'
  | .dead a, .dead b => eqB a b
  | _, _ => false
def eqXL : List AObj → List AObj → Bool
  | [], [] => true
  | a :: x, b :: y => eqX a b && eqXL x y
  | _, _ => false
/-- What was made: an operation, objects from and to, tokens from and to. -/
abbrev Lg := List (Nat × (Nat × Nat) × (Nat × Nat))
def lgP (i : Nat) (H H' : AH) (l : Lg) : Lg := match Nat.beq H.objs.length H'.objs.length && Nat.beq H.toks.length H'.toks.length with
  | true => l
  | false => (i, (H.objs.length, H'.objs.length), (H.toks.length, H'.toks.length)) :: l
def lgAt (i : Nat) : Lg → Option ((Nat × Nat) × (Nat × Nat))
  | [] => none
  | e :: r => match Nat.beq e.1 i with | true => some e.2 | false => lgAt i r
/-- A number made in one order, in the other. -/
def lgO (l' : Lg) (id : Nat) : Lg → Nat
  | [] => id
  | e :: r => match Nat.ble e.2.1.1 id && Nat.blt id e.2.1.2 with
    | true => (match lgAt e.1 l' with | some q => q.1.1 + (id - e.2.1.1) | none => id)
    | false => lgO l' id r
def lgT (l' : Lg) (id : Nat) : Lg → Nat
  | [] => id
  | e :: r => match Nat.ble e.2.2.1 id && Nat.blt id e.2.2.2 with
    | true => (match lgAt e.1 l' with | some q => q.2.1 + (id - e.2.2.1) | none => id)
    | false => lgT l' id r
/-- The numbers from n on, k of them. -/
def fromN (n : Nat) : Nat → List Nat
  | 0 => []
  | k + 1 => n :: fromN (n + 1) k
/-- The numbers from n on, turned. -/
def turnN (n : Nat) (l : List Nat) (id : Nat) : Nat := match Nat.blt id n with | true => id | false => l.getD (id - n) id
def permB (n m : Nat) (l l' : List Nat) : Bool := (Nat.beq l.length (m - n) && Nat.beq l'.length (m - n)) && ((fromN n (m - n)).all fun i => (Nat.ble n (turnN n l i) && Nat.blt (turnN n l i) m) && Nat.beq (turnN n l' (turnN n l i)) i)
def getsX (f g : Nat → Nat) (n : Nat) (os : List AObj) : List AObj → Bool
  | [] => true
  | o :: r => (match os[f n]? with | some o' => eqX (renO f g o) o' | none => false) && getsX f g (n + 1) os r
def eqTk (a b : Nat × Nat × TypeId) : Bool := Nat.beq a.1 b.1 && (Nat.beq a.2.1 b.2.1 && Nat.beq a.2.2 b.2.2)
def getsT (g : Nat → Nat) (n : Nat) (ts : List (Nat × Nat × TypeId)) : List (Nat × Nat × TypeId) → Bool
  | [] => true
  | o :: r => (match ts[g n]? with | some o' => eqTk o o' | none => false) && getsT g (n + 1) ts r
def turnB (H0 : AH) (fo fi to ti : List Nat) (s : List AV) (H : AH) (q : List AV × AH) : Bool :=
  (permB H0.objs.length H.objs.length fo fi && permB H0.objs.length H.objs.length fi fo) && ((permB H0.toks.length H.toks.length to ti && permB H0.toks.length H.toks.length ti to) &&
  ((Nat.beq H.objs.length q.2.objs.length && Nat.beq H.toks.length q.2.toks.length) && (eqAL (renL (turnN H0.objs.length fo) (turnN H0.toks.length to) s) q.1 &&
  (getsX (turnN H0.objs.length fo) (turnN H0.toks.length to) 0 q.2.objs H.objs && getsT (turnN H0.toks.length to) 0 q.2.toks H.toks))))
def forceNL {A : Type} : List Nat → (List Nat → A) → A
  | [], k => k []
  | a :: r, k => force a fun a => forceNL r fun r => k (a :: r)
/-- One order comes to what the text's order comes to. -/
def sameP (H0 : AH) (s : List AV) (H : AH) (l : Lg) (q : (List AV × AH) × Lg) : Bool :=
  forceNL ((fromN H0.objs.length (H.objs.length - H0.objs.length)).map fun i => lgO q.2 i l) fun fo =>
  forceNL ((fromN H0.objs.length (H.objs.length - H0.objs.length)).map fun i => lgO l i q.2) fun fi =>
  forceNL ((fromN H0.toks.length (H.toks.length - H0.toks.length)).map fun i => lgT q.2 i l) fun to =>
  forceNL ((fromN H0.toks.length (H.toks.length - H0.toks.length)).map fun i => lgT l i q.2) fun ti => turnB H0 fo fi to ti s H q.1
def memN (k : Nat) : List Nat → Bool
  | [] => false
  | a :: r => match Nat.beq a k with | true => true | false => memN k r
def dropN (k : Nat) : List Nat → List Nat
  | [] => []
  | a :: r => match Nat.beq a k with | true => r | false => a :: dropN k r
def readyN (ops : Array Oper) (rest : List Nat) (i : Nat) : Bool := match ops[i]? with
  | some o => o.after.toList.all fun e => !Region.binds .any e || (Nat.blt e.on ops.size && !memN e.on rest)
  | none => false
def clashH (S : Sys) (ops : Array Oper) (a b : Oper) : Bool :=
  match (changes S a && isLoad b) || (isLoad a && changes S b) with
  | true => slotsClash ops a b
  | false => clash S ops a b
/-- It may be done first: it clashes with nothing that is left, but for what waits for it. -/
def freeN (S : Sys) (ops : Array Oper) (rest : List Nat) (i : Nat) : Bool := match ops[i]? with
  | some o => (match changes S o with
    | true => false
    | false => readyN ops rest i && (rest.all fun k => Nat.beq k i || (match ops[k]? with | some b => !clashH S ops o b || (b.after.toList.any fun e => Region.binds .any e && Nat.beq e.on i) | none => false)))
  | none => false
def findN (f : Nat → Bool) : List Nat → Option Nat
  | [] => none
  | a :: r => match f a with | true => some a | false => findN f r
def loadedN (L : List Nat) (a : AV) : Bool := match a with
  | .ptr id _ => memN id L
  | _ => true
def waitsN (ops : Array Oper) (i k : Nat) : Bool := match ops[i]? with
  | some o => o.after.toList.any fun e => Region.binds .any e && Nat.beq e.on k
  | none => true
/-- Neither waits for the other. -/
def unordN (ops : Array Oper) (k i : Nat) : Bool := !waitsN ops i k && !waitsN ops k i
def idsN (ops : Array Oper) (i : Nat) : List (Nat × Nat) → List Nat
  | [] => []
  | p :: r => match unordN ops p.1 i with | true => p.2 :: idsN ops i r | false => idsN ops i r
def ownN (i : Nat) : List (Nat × Nat) → List Nat
  | [] => []
  | p :: r => match Nat.beq p.1 i with | true => p.2 :: ownN i r | false => ownN i r
def keyN (i : Nat) : List Nat → List (Nat × Nat) → List (Nat × Nat)
  | [], l => l
  | a :: r, l => (i, a) :: keyN i r l
/-- What is loaded in the region, in no certain order beside it, stays as it is at whatever changes something. -/
def chkH (L m : List Nat) (S : Sys) (s : List AV) (H : AH) (o : Oper) (H' : AH) : Bool := match changes S o with
  | true => frameI L H.objs H'.objs
  | false => (match o.op with
    | .load _ a => loadedN m (ev S.G s a)
    | _ => true)
def opH (L m : List Nat) (S : Sys) (call : Caller) (s : List AV) (H : AH) (o : Oper) : Option (AV × AH) := optK (opK S call s H o fun v H => some (v, H)) fun p => match chkH L m S s H o p.2 with
    | true => some p
    | false => none
def stepH (L m : List Nat) (S : Sys) (call : Caller) (all : Array Oper) (o : Oper) (s : List AV) (H : AH) : Option (List AV × AH) :=
  match wantD all o s with
  | some true => optK (opH L m S call s H o) fun p => some (putD o.dst s p.1, p.2)
  | some false => some (putD o.dst s (.tuple []), H)
  | none => none
def stepT (L : List (Nat × Nat)) (S : Sys) (call : Caller) (ops : Array Oper) (i : Nat) (s : List AV) (H : AH) (l : Lg) : Option ((List AV × AH) × Lg) := match ops[i]? with
  | some o => optK (stepH (idsN ops i L) (ownN i L) S call ops o s H) fun p => some (p, lgP i H p.2 l)
  | none => none
def thenT (o : Option ((List AV × AH) × Lg)) (k : List AV → AH → Lg → Bool) : Bool := match o with
  | some p => k p.1.1 p.1.2 p.2
  | none => false
/-- All orders. -/
def allT (L : List (Nat × Nat)) (S : Sys) (call : Caller) (ops : Array Oper) (Q : List AV → AH → Lg → Bool) : Nat → List Nat → List AV → AH → Lg → Bool
  | 0, rest, s, H, l => match rest with
    | [] => Q s H l
    | _ => false
  | n + 1, rest, s, H, l => match findN (freeN S ops rest) rest with
    | some i => thenT (stepT L S call ops i s H l) (allT L S call ops Q n (dropN i rest))
    | none => (match findN (readyN ops rest) rest with
      | some _ => rest.all fun i => (match readyN ops rest i with
        | true => thenT (stepT L S call ops i s H l) (allT L S call ops Q n (dropN i rest))
        | false => true)
      | none => false)
/-- The order of the text, with what is made, and what is loaded. -/
def runT (S : Sys) (call : Caller) (ops : Array Oper) : List Nat → List AV → AH → Lg → List (Nat × Nat) → Option (((List AV × AH) × Lg) × List (Nat × Nat))
  | [], s, H, l, L => some (((s, H), l), L)
  | i :: r, s, H, l, L => match ops[i]? with
    | some o => optK (stepM S call ops o s H ([], [])) fun p => runT S call ops r p.1.1 p.1.2 (lgP i H p.1.2 l) (keyN i p.2.1 L)
    | none => none
def runP (S : Sys) (call : Caller) (ops : Array Oper) (s : List AV) (H : AH) : Option (List AV × AH) := optK (runT S call ops (List.range ops.size) s H [] []) fun q => match allT q.2 S call ops (fun s' H' l => sameP H s' H' l q.1) ops.size (List.range ops.size) s H [] with
  | true => some q.1.1
  | false => none

def regK (S : Sys) (call : Caller) (ops : Array Oper) (draw : Bool) (s : List AV) (H : AH) (K : Ex → List AV → AH → Option R) : Option R :=
  if draw && !drawOK S ops then
    (if drawOK2 S ops then optK (runB (bornId H.objs.length (birthsOf ops.toList)) S call ops ops.toList s (reserve H (birthsOf ops.toList).length)) fun p => K .normal p.1 p.2
     else if drawOK3 S ops then optK (runG S call ops s H) fun p => K .normal p.1 p.2
     else optK (runP S call ops s H) fun p => K .normal p.1 p.2)
  else optK (runX S call ops ops.toList s H) fun o => if isPan o.1 && (draw && !lineOK ops) then none else K o.1 o.2.1 o.2.2

/-- Code behind a label: without loops. -/
def denS (S : Sys) (call : Caller) : {R : Type} → Code → List AV → AH → (Ex → List AV → AH → Option R) → Option R
  | _, .skip, s, H, K => K .normal s H
  | _, .region _ ops draw, s, H, K => regK S call ops draw s H K
  | _, .seq a b, s, H, K => denS S call a s H fun e s H => match e with
    | .normal => denS S call b s H K
    | e => K e s H
  | _, .cond c a b, s, H, K => match ev S.G s c with
    | .bool t => br t (fun _ => denS S call a s H K) (fun _ => denS S call b s H K)
    | _ => none
  | _, .exit id, s, H, K => K (.exit id) s H
  | _, .ret, s, H, K => K .ret s H
  | _, .label _, s, H, K => K .normal s H
  | _, _, _, _, _ => none

/-- What follows a scope's code: one jump forward, to a label of its own. -/
def jumpK (S : Sys) (call : Caller) (c : Code) (K : Ex → List AV → AH → Option R) : Ex → List AV → AH → Option R := fun e s H => match e with
  | .goto l => match findLabel c l with
    | some rest => denS S call rest s H fun e s H => match e with
      | .goto _ => none
      | e => K e s H
    | none => none
  | e => K e s H

def denK (S : Sys) (call : Caller) (lp : Looper) : {R : Type} → Code → List AV → AH → (Ex → List AV → AH → Option R) → Option R
  | _, .skip, s, H, K => K .normal s H
  | _, .region _ ops draw, s, H, K => regK S call ops draw s H K
  | _, .seq a b, s, H, K => denK S call lp a s H fun e s H => match e with
    | .normal => denK S call lp b s H K
    | e => K e s H
  | _, .cond c a b, s, H, K => match ev S.G s c with
    | .bool t => br t (fun _ => denK S call lp a s H K) (fun _ => denK S call lp b s H K)
    | _ => none
  | _, .block id c, s, H, K => denK S call lp c s H fun e s H => match e with
    | .exit i => if i = id then K .normal s H else K (.exit i) s H
    | e => K e s H
  | _, .loop c, s, H, K => optK (lp (fun s H => denK S call lp c s H retO) s H) fun o => K o.1 o.2.1 o.2.2
  | _, .scope c, s, H, K => denK S call lp c s H (jumpK S call c K)
  | _, .exit id, s, H, K => K (.exit id) s H
  | _, .ret, s, H, K => K .ret s H
  | _, .label _, s, H, K => K .normal s H
  | _, .goto l, s, H, K => K (.goto l) s H
  | _, .rangeFunc g ps x y, s, H, K => rangeK call (ev S.G s g) s H ps.toList x y K
  | _, _, _, _, _ => none

/-- No loop over a function within. -/
def plainC : Code → Bool
  | .seq a b => plainC a && plainC b
  | .cond _ a b => plainC a && plainC b
  | .block _ c => plainC c
  | .loop c => plainC c
  | .scope c => plainC c
  | .rangeFunc _ _ _ _ => false
  | _ => true

def oneResult (S : Sys) (s : List AV) (H : AH) (r : ResultVar) (K : AV → Option R) : Option R :=
  match r with
  | .tmp t => K (s.getD t .top)
  | .cell a t => match S.T t with
    | some i => loadK H i (s.getD a .top) K
    | none => none

def resultsK (S : Sys) (s : List AV) (H : AH) : List ResultVar → List AV → (List AV → Option R) → Option R
  | [], acc, K => K acc
  | r :: rest, acc, K => oneResult S s H r fun v => resultsK S s H rest (acc ++ [v]) K

def bundle : List AV → AV
  | [v] => v
  | vs => .tuple vs

/-- What a function's end makes of the temporaries. -/
def endR (S : Sys) (fn : Func) (e : Ex) (s : List AV) (H : AH) : Option Res := match e with
  | .exit _ | .goto _ => none
  | .panic v => some (.pan v H)
  | _ => resultsK S s H fn.results.toList [] fun vs => some (.val (bundle vs) H)

def runK (S : Sys) (call : Caller) (lp : Looper) (fn : Func) (args : List AV) (H : AH) : Option Res :=
  match fn.body with
  | none => none
  | some c => denK S call lp c (args ++ List.replicate (fn.ntmps - args.length) .top) H (endR S fn)

/-! ### A deferred call that may recover -/
/-- The first two operations of such a function: where what recover gives is laid. -/
def recOps (ops : Array Oper) : Option (Nat × Nat) := match ops.toList with
  | [o1, o2] => (match o1.op, o1.dst, o1.guard with
    | .call c, some d0, none => (match c.callee with
      | .builtin .recover => (match o2.op, o2.dst, o2.guard with
        | .assign (.tmp t), some d1, none => (match Nat.beq t d0 with | true => some (d0, d1) | false => none)
        | _, _, _ => none)
      | _ => none)
    | _, _, _ => none)
  | _ => none
/-- Its body. -/
def recBody (fn : Func) : Option (Array Oper × Code) := match fn.body with
  | some (.seq (.region _ ops false) rest) => some (ops, rest)
  | _ => none
def recS (s : List AV) (d0 d1 : Nat) (x : AV) : List AV := (s.set d0 x).set d1 ((s.set d0 x).getD d0 .top)
/-- A deferred call of it; x: what recover gives. -/
def recK (S : Sys) (call : Caller) (lp : Looper) (g : FuncId) (args : List AV) (H : AH) (x : AV) : Option AH := match S.dfn g with
  | some fn => (match recBody fn with
    | some (ops, rest) => (match recOps ops, plainC rest with
      | some (d0, d1), true => denK S call lp rest (recS (args ++ List.replicate (fn.ntmps - args.length) AV.top) d0 d1 x) H fun e s H => match e with
        | .normal | .ret => resultsK S s H fn.results.toList [] fun _ => some H
        | _ => none
      | _, _ => none)
    | none => none)
  | none => none
/-- The second of two operations defers a call of a function value. -/
def defOps (ops : Array Oper) : Option (Oper × Operand) := match ops.toList with
  | [o1, o2] => (match o2.op, o2.dst, o2.guard with
    | .defer c, none, none => (match c.callee, c.args.toList with
      | .value f, [] => some (o1, f)
      | _, _ => none)
    | _, _, _ => none)
  | _ => none
def defBody (fn : Func) : Option (Code × Array Oper × Code) := match fn.body with
  | some (.seq a (.seq (.region _ ops false) rest)) => some (a, ops, rest)
  | _ => none
def closOf : AV → Option (FuncId × List AV)
  | .func (.func g) first caps => some (g, first ++ caps)
  | _ => none
/-- What a function makes of its end, with one deferred call. -/
def endD (S : Sys) (call : Caller) (lp : Looper) (fn : Func) (g : FuncId × List AV) (e : Ex) (s : List AV) (H : AH) : Option Res := match e with
  | .normal | .ret => optK (recK S call lp g.1 g.2 H .niliface) fun H => endR S fn .ret s H
  | .panic v => optK (recK S call lp g.1 g.2 H v) fun H => endR S fn .ret s H
  | _ => none
/-- A function that defers one call, early. -/
def runDK (S : Sys) (call : Caller) (lp : Looper) (fn : Func) (args : List AV) (H : AH) : Option Res := match defBody fn with
  | some (a, ops, rest) => (match defOps ops with
    | some (o1, f) => denK S call lp a (args ++ List.replicate (fn.ntmps - args.length) .top) H fun e s H => match e with
      | .normal => opsK S call ops [o1] s H fun s H => optK (closOf (ev S.G s f)) fun g => denK S call lp rest s H (endD S call lp fn g)
      | _ => none
    | none => none)
  | none => none

/-- What a function that is called with trees gives back. -/
def pureOut (args : List AV) (v : AV) : Option AV :=
  if below 0 0 (detok v) && (belowL 0 0 args || isNew v) then some (detok v) else none

/-- What a call with trees gives back. -/
def Res.thaw : Res → Option (AV × AH)
  | .val v H => match below 0 0 (detok v) with
    | true => some (v, H)
    | false => optK (frz true 0 H 20 v) fun u => some (u, H)
  | .pan _ _ => none

def trunc (H : AH) (p : AV × AH) : AV × AH :=
  if p.2.objs.length = H.objs.length && p.2.toks.length = H.toks.length then p
  else if below H.objs.length H.toks.length p.1 && belowO H.objs.length H.toks.length (p.2.objs.take H.objs.length) then (p.1, ⟨p.2.objs.take H.objs.length, p.2.toks.take H.toks.length⟩)
  else p

/-- What is left of memory behind a call. -/
def truncR (H : AH) (r : Res) : Res := match r with
  | .val v H' => .val (trunc H (v, H')).1 (trunc H (v, H')).2
  | .pan v H' => .pan (trunc H (v, H')).1 (trunc H (v, H')).2

/-- What a call hands back, told as settled memory: nobody else knows it. -/
def thawR (H : AH) (r : Res) : Option Res := match r with
  | .val v H' => (match Nat.ble H.objs.length H'.objs.length && (Nat.ble H.toks.length H'.toks.length && belowO H.objs.length H.toks.length (H'.objs.take H.objs.length)) with
    | true => optK (frz false H.objs.length H' 20 v) fun u => some (.val u ⟨H'.objs.take H.objs.length, H'.toks.take H.toks.length⟩)
    | false => none)
  | .pan _ _ => none
def outR (S : Sys) (f : FuncId) (H : AH) (r : Res) : Option Res := match S.thawF f with
  | true => thawR H r
  | false => some (truncR H r)

def enterF (S : Sys) (call : Caller) (lp : Looper) (f : FuncId) (args : List AV) (H : AH) : Option Res :=
  match S.ext f with
  | some g => optK (resolveL H args) fun ts => optK (g ts) fun v => optK (pureOut args v) fun v => some (.val v H)
  | none => match S.F f with
    | none => (match S.dfn f with
      | none => none
      | some fn =>
        if S.isPure f then optK (resolveL H args) fun ts => optK (optK (runDK S call lp fn ts ⟨[], []⟩) Res.thaw) fun p => optK (pureOut args p.1) fun v => some (.val v H)
        else optK (runDK S call lp fn args H) fun p => some (truncR H p))
    | some fn =>
      if S.isPure f then optK (resolveL H args) fun ts => optK (optK (runK S call lp fn ts ⟨[], []⟩) Res.thaw) fun p => optK (pureOut args p.1) fun v => some (.val v H)
      else match S.extH f with
        | some g => optK (g args H) fun p => some (.val p.1 p.2)
        | none => optK (runK S call lp fn args H) fun p => outR S f H p

def setLoop (H : AH) (id : Nat) (st : LSt) : Option AH :=
  match H.objs[id]? with
  | some (.loop s ps x y _) => some { H with objs := H.objs.set id (.loop s ps x y st) }
  | _ => none

def exLeft : Ex → Option LSt
  | .normal => some .ready
  | .ret => some (.left none)
  | .exit i => some (.left (some i))
  | _ => none

def Ex.stays : Ex → Bool
  | .normal => true
  | _ => false

/-- A call of a loop's yield: a round. -/
def yieldF (S : Sys) (call : Caller) (lp : Looper) (id : Nat) (args : List AV) (H : AH) : Option (AV × AH) :=
  match H.objs[id]? with
  | some (.loop s ps x y .ready) =>
    if args.length = ps.length ∧ plainC x = true ∧ plainC y = true then
      denK S call lp x ((ps.zip args).foldl (fun s p => s.set p.1 p.2) s) H fun e s1 H1 => match e with
        | .normal => match H1.objs[id]? with
          | some (.loop s' ps' x' y' .ready) => denK S call lp y s1 { H1 with objs := H1.objs.set id (.loop s' ps' x' y' .busy) } fun e _ H2 =>
              optK (exLeft e) fun st => optK (setLoop H2 id st) fun H3 => some (trunc H (.bool e.stays, H3))
          | _ => none
        | _ => none
    else none
  | _ => none

def callF (S : Sys) : Nat → Caller
  | 0 => ⟨fun _ _ _ => none, fun _ _ _ => none⟩
  | n + 1 => ⟨enterF S (callF S n) (fun b => iter S.room b n), yieldF S (callF S n) (fun b => iter S.room b n)⟩

open Classical in
/-- The answer that some fuel gives. -/
noncomputable def lim {A : Type} (g : Nat → Option A) : Option A := if h : ∃ n, (g n).isSome = true then g h.choose else none

noncomputable def loopD (room : Nat) : Looper := fun b s H => lim fun n => iter room b n s H
noncomputable def callD (S : Sys) : Caller := ⟨fun f args H => lim fun n => (callF S n).res f args H, fun id args H => lim fun n => (callF S n).yield id args H⟩

end Go.Sx

/- THE ENGINE, 5: operations that only compute. -/
set_option linter.unusedSimpArgs false
set_option linter.unusedVariables false
namespace Go.Sx

/-- The abstract table's row of a type. -/
def kindOK (P : Program) (t : TypeId) : TK → Prop
  | .bool => P.underlying t = some .bool
  | .int k => P.underlying t = some (.int k)
  | .string => P.underlying t = some .string
  | .ptr => ∃ e, P.underlying t = some (.pointer e)
  | .func => ∃ a b c, P.underlying t = some (.func a b c)
  | .iface => ∃ ms, P.underlying t = some (.interface ms)
  | .struct fs => ∃ fields, P.underlying t = some (.struct fields) ∧ (fields.toList.map fun f => (f.offset, f.type)) = fs ∧ fields.toList.all (fun f => f.name != "_") = true ∧ fields.toList.all (fun f => (P.info? f.type).isSome) = true
  | .array n e => P.underlying t = some (.array n e)
  | .slice e => P.underlying t = some (.slice e)
  | .map k e => P.underlying t = some (.map k e)

structure TypeOK (P : Program) (t : TypeId) (i : TI) : Prop where
  info : ∃ x z, P.info? t = some x ∧ x.size = i.size ∧ x.bytes = i.bytes ∧ x.zero = some z ∧ i.zero = ofValue z ∧ i.zero.solid = true
  kind : kindOK P t i.k
  cmp : i.cmp = true → P.eqGuardType P.depth t = false ∧ P.stoodInHeld t = false
  agg : i.isAgg = true ↔ ∃ cs, i.zero = .agg cs
  one : i.isAgg = false → i.size = 1

structure SysOK (S : Sys) (P : Program) : Prop where
  type : ∀ t i, S.T t = some i → TypeOK P t i
  func : ∀ f fn, S.F f = some fn → P.funcs[f]? = some fn ∧ fn.body.isSome = true ∧ fn.name ≠ "runtime.NumGoroutine"
  glob : ∀ n, erase (S.G n) = S.G n ∧ below 0 0 (S.G n) = true
  meth : ∀ t n f, S.meth t n = some f → ∀ (v : Value) (w : World), (method (P.types.size + Made.depth) t v n).run P w = .ok (f, v) w := by intro t n f h; cases h
  dfn : ∀ f fn, S.dfn f = some fn → P.funcs[f]? = some fn ∧ fn.body.isSome = true ∧ fn.name ≠ "runtime.NumGoroutine" := by intro f fn h; cases h

/-- A variable whose content stays. -/
def Fixed (E : GE) (p : Nat × Array Value) : Prop := (∃ el fr, E.w.heap[p.1]? = some (.cells p.2 el fr)) ∧ ¬ E.owned p.1 ∧ ∃ o, E.S p.1 o

structure Rel (S : Sys) (H : AH) (E : GE) : Prop where
  h : HRel H E
  g : ∀ n, VRel E (S.G n) (.pointer (some ⟨n, 0, none⟩))
  x : ∀ p, p ∈ S.fixed → Fixed E p

/-- The marks of loops over functions, among the deferred calls. -/
def mark (b : Nat) : Deferred := { target := .collected b, args := #[] }

def Marks (E : GE) (ds : List Deferred) : Prop :=
  E.low.n ≤ E.w.heap.size ∧ ∃ bs : List Nat, ds = bs.map mark ++ E.low.ds ∧ bs.Nodup ∧ ∀ b, b ∈ bs → E.low.ok b ∧ E.w.heap[b]? = some (.deferred (some [])) ∧ ¬ E.owned b

structure ARel (E : GE) (s : List AV) (a : Act) : Prop where
  tmps : VRelL E s a.tmps
  defers : Marks E a.defers

theorem ofScalar_rel (E : GE) (v : Value) : VRel E (ofScalar v) v := by
  unfold ofScalar
  split
  · exact .bool _
  · exact .int _ _
  · rename_i s
    have h : s = ⟨s.data.toList.toArray⟩ := by cases s; simp
    have := VRel.str (E := E) s.data.toList
    rw [← h] at this; exact this
  · exact .nilptr
  · exact .nils
  · exact .nilmap
  · exact .nilfunc
  · exact .niliface
  · exact .top _

theorem ofValue_rel (E : GE) (v : Value) : VRel E (ofValue v) v := by
  unfold ofValue
  split
  · rename_i cs
    split
    · rename_i h
      refine .agg _ _ (by simp) ?_ ?_
      · intro i c x hc hx
        simp only [List.getElem?_map, Option.map_eq_some_iff, Array.getElem?_toList] at hc
        obtain ⟨y, hy, rfl⟩ := hc
        rw [hx] at hy
        obtain rfl := Option.some.inj hy
        exact ofScalar_rel E _
      · intro i x hx
        rw [List.all_eq_true] at h
        exact h x (by simp; exact Array.mem_of_getElem? hx)
    · exact .top _
  · exact ofScalar_rel E _

theorem ev_rel {S : Sys} {H : AH} {E : GE} {s : List AV} {a : Act} (hr : Rel S H E) (ha : ARel E s a) (x : Operand) : VRel E (ev S.G s x) (a.eval x) := by
  cases x with
  | tmp t =>
    simp only [ev, Act.eval]
    by_cases ht : t < s.length
    · have ht' : t < a.tmps.size := ha.tmps.1 ▸ ht
      have := ha.tmps.2 t s[t] a.tmps[t] (by simp [ht]) (by simp [ht'])
      simpa [List.getD, Array.getD, ht, ht'] using this
    · have : s.getD t .top = .top := by simp [List.getD, Nat.le_of_not_lt ht]
      rw [this]; exact .top _
  | const v => exact ofValue_rel E v
  | global g => exact hr.g g
  | func f => exact .func (.func f) [] [] #[] #[] (by simp) rfl (by simp) rfl (by simp)

theorem put_rel {E : GE} {s : List AV} {a : Act} (ha : ARel E s a) {v : AV} {x : Value} (hv : VRel E v x) (dst : Option Nat) : ARel E (putD dst s v) (a.put dst x) := by
  cases dst with
  | none => exact ha
  | some d =>
    refine ⟨⟨by simp [putD, Act.put, ha.tmps.1], ?_⟩, ha.defers⟩
    intro i u y hu hy
    simp only [putD, Act.put, List.getElem?_set, Array.getElem?_setIfInBounds] at hu hy
    by_cases hd : d = i
    · subst hd
      simp only [if_true] at hu hy
      split at hu
      · simp only [Option.some.injEq] at hu
        subst hu
        split at hy
        · simp only [Option.some.injEq] at hy; subst hy; exact hv
        · simp at hy
      · simp at hu
    · simp only [hd, if_false] at hu hy
      exact ha.tmps.2 i u y hu hy

theorem heap_lt {w : World} {b : Nat} {o : Obj} (h : w.heap[b]? = some o) : b < w.heap.size := (Array.getElem?_eq_some_iff.1 h).1

theorem Marks.nil {E : GE} (h : E.low.n ≤ E.w.heap.size) (h0 : E.low.ds = []) : Marks E [] := ⟨h, [], by rw [h0]; rfl, .nil, by simp⟩

theorem Marks.mono {E E' : GE} (h : E.le E') {ds : List Deferred} (hm : Marks E ds) : Marks E' ds := by
  obtain ⟨h0, bs, h1, h2, h3⟩ := hm
  refine ⟨by rw [h.low]; exact Nat.le_trans h0 h.size, bs, by rw [h.low]; exact h1, h2, fun b hb => ?_⟩
  obtain ⟨k1, k2, k3⟩ := h3 b hb
  exact ⟨by rw [h.low]; exact k1, (h.block b (heap_lt k2) k3).trans k2, fun ho => k3 (h.own b (heap_lt k2) ho)⟩

theorem ARel.mono {E E' : GE} (h : E.le E') {s : List AV} {a : Act} (ha : ARel E s a) : ARel E' s a := ⟨ha.tmps.mono h, ha.defers.mono h⟩

/-- What an operation comes to. -/
def Gives (S : Sys) (P : Program) (o : Oper) (a : Act) (E : GE) (v : AV) (H' : AH) : Prop :=
  ∀ (next : Act → World → Prop) (Q : Exit → Act → World → Prop), (∀ x E', E.le E' → Rel S H' E' → VRel E' v x → next (a.put o.dst x) E'.w) → o.wp P a E.w next Q

theorem gives_value {S : Sys} {P : Program} {o : Oper} {a : Act} {E E' : GE} {v : AV} {H' : AH} {x : Value} (hx : (execOp a.eval o).run P E.w = .ok (.value x) E'.w) (hle : E.le E') (hr : Rel S H' E') (hv : VRel E' v x) :
    Gives S P o a E v H' := by
  intro next Q h
  unfold Oper.wp
  rw [hx, Oper.upon_value]
  exact h x E' hle hr hv

theorem gives_pure {S : Sys} {P : Program} {o : Oper} {a : Act} {E : GE} {v : AV} {H : AH} {x : Value} (hx : (execOp a.eval o).run P E.w = .ok (.value x) E.w) (hr : Rel S H E) (hv : VRel E v x) :
    Gives S P o a E v H := gives_value hx (GE.le.refl E) hr hv

theorem gives_skip {S : Sys} {P : Program} {o : Oper} {a : Act} {E E' : GE} {H' : AH} (hx : (execOp a.eval o).run P E.w = .ok .skip E'.w) (hle : E.le E') (hr : Rel S H' E') : Gives S P o a E .top H' := by
  intro next Q h
  unfold Oper.wp
  rw [hx, Oper.upon_skip]
  exact h _ E' hle hr (.top _)

variable {R : Type}

theorem br_some {b : Bool} {f g : Unit → Option R} {r : R} (h : br b f g = some r) : (b = true ∧ f () = some r) ∨ (b = false ∧ g () = some r) := by
  cases b
  · exact .inr ⟨rfl, h⟩
  · exact .inl ⟨rfl, h⟩
theorem optK_inv {A : Type} {o : Option A} {f : A → Option R} {r : R} (h : optK o f = some r) : ∃ a, o = some a ∧ f a = some r := by
  cases o with
  | none => simp [optK] at h
  | some a => exact ⟨a, rfl, h⟩

/-- Values that tell a number, a truth value .. -/
theorem rel_int {E : GE} {k : IntKind} {n : Int} {x : Value} (h : VRel E (.int k n) x) : x = .int k n := by cases h; rfl
theorem rel_bool {E : GE} {b : Bool} {x : Value} (h : VRel E (.bool b) x) : x = .bool b := by cases h; rfl
theorem rel_str {E : GE} {s : List UInt8} {x : Value} (h : VRel E (.str s) x) : x = .string ⟨s.toArray⟩ := by cases h; rfl
theorem rel_nilptr {E : GE} {x : Value} (h : VRel E .nilptr x) : x = .pointer none := by cases h; rfl
theorem rel_nils {E : GE} {x : Value} (h : VRel E .nils x) : x = .slice none 0 0 := by cases h; rfl
theorem rel_nilmap {E : GE} {x : Value} (h : VRel E .nilmap x) : x = .map none := by cases h; rfl

theorem run_info {P : Program} {t : TypeId} {x : TypeInfo} (h : P.info? t = some x) (w : World) : (typeInfo t).run P w = .ok x w := by
  simp [typeInfo, h]
theorem run_size {P : Program} {t : TypeId} {i : TI} (h : TypeOK P t i) (w : World) : (sizeOf t).run P w = .ok i.size w := by
  obtain ⟨x, z, hx, hs, _⟩ := h.info
  simp [sizeOf, run_info hx, hs]

theorem run_isAgg {P : Program} {t : TypeId} {i : TI} (h : TypeOK P t i) (w : World) : (isAgg t).run P w = .ok i.isAgg w := by
  have hk := h.kind
  unfold isAgg TI.isAgg
  cases hi : i.k <;> rw [hi] at hk <;> simp only [kindOK] at hk
  · simp [run_underlying hk]
  · simp [run_underlying hk]
  · simp [run_underlying hk]
  · obtain ⟨e, hk⟩ := hk; simp [run_underlying hk]
  · obtain ⟨_, _, _, hk⟩ := hk; simp [run_underlying hk]
  · obtain ⟨_, hk⟩ := hk; simp [run_underlying hk]
  · obtain ⟨_, hk, _⟩ := hk; simp [run_underlying hk]
  · simp [run_underlying hk]
  · simp [run_underlying hk]
  · simp [run_underlying hk]

/-- A part of an aggregate. -/
theorem part_sound {P : Program} {t : TypeId} {i : TI} (ht : TypeOK P t i) {E : GE} {cs : List AV} {xs : Array Value} (hv : VRel E (.agg cs) (.agg xs)) {off : Nat} {K : AV → Option R} {r : R}
    (h : partK i cs off K = some r) : ∃ v x, K v = some r ∧ VRel E v x ∧ (∀ w, (part t xs off).run P w = .ok x w) := by
  cases hv with
  | agg _ _ h1 h2 h3 =>
  unfold partK at h
  split at h
  · rename_i hagg
    split at h
    · rename_i hlen
      refine ⟨_, .agg (xs.extract off (off + i.size)), h, ?_, fun w => by simp [part, run_isAgg ht, hagg, run_size ht]⟩
      refine .agg _ _ (by simp; omega) ?_ ?_
      · intro j c x hc hx
        simp only [List.getElem?_take, List.getElem?_drop] at hc
        split at hc
        · rename_i hj
          simp only [Array.getElem?_extract] at hx
          split at hx
          · exact h2 (off + j) c x hc hx
          · simp at hx
        · simp at hc
      · intro j x hx
        simp only [Array.getElem?_extract] at hx
        split at hx
        · exact h3 _ x hx
        · simp at hx
    · simp at h
  · rename_i hagg
    split at h
    · rename_i v hv
      have hlt : off < cs.length := by
        rcases Nat.lt_or_ge off cs.length with h' | h'
        · exact h'
        · simp [List.getElem?_eq_none h'] at hv
      have hx : xs[off]? = some (xs[off]'(h1 ▸ hlt)) := by simp [h1 ▸ hlt]
      refine ⟨v, xs[off]'(h1 ▸ hlt), h, h2 off v _ hv hx, fun w => ?_⟩
      have hagg' : i.isAgg = false := by simpa using hagg
      simp [part, run_isAgg ht, hagg', hx]
    · simp at h

end Go.Sx

/- THE ENGINE, 6: equality, and the operators. -/
set_option linter.unusedSimpArgs false
set_option linter.unusedVariables false
namespace Go.Sx
variable {S : Sys} {P : Program}

theorem fields_sound (hS : SysOK S P) {E : GE} {n : Nat} {xs ys : List AV} {us vs : Array Value} (hx : VRel E (.agg xs) (.agg us)) (hy : VRel E (.agg ys) (.agg vs)) (w : World) (d : Nat)
    (ih : ∀ t u v b x y, eqv S.T n t u v = some b → VRel E u x → VRel E v y → (Op.equalIn d t x y).run P w = .ok b w) :
    ∀ (fields : List Field) (b : Bool), fields.all (fun f => f.name != "_") = true →
      (fields.map fun f => (f.offset, f.type)).foldr (fun f acc => match S.T f.2 with
            | none => none
            | some j => partK j xs f.1 fun a => partK j ys f.1 fun b => match eqv S.T n f.2 a b, acc with
              | some p, some q => some (p && q)
              | _, _ => none) (some true) = some b →
      (Op.eqFields d us vs fields).run P w = .ok b w
  | [], b, _, h => by
    simp at h; subst h; simp [Op.eqFields]
  | f :: fs, b, hn, h => by
    simp only [List.all_cons, Bool.and_eq_true, bne_iff_ne, ne_eq] at hn
    simp only [List.map_cons, List.foldr_cons] at h
    split at h
    · simp at h
    · rename_i j hj
      obtain ⟨a, x, ha, hax, hpx⟩ := part_sound (hS.type _ _ hj) hx h
      obtain ⟨c, y, hc, hcy, hpy⟩ := part_sound (hS.type _ _ hj) hy ha
      split at hc
      · rename_i p q hp hq
        have ih' := fields_sound hS hx hy w d ih fs q hn.2 hq
        simp only [Op.eqFields, hn.1, not_false_eq_true, if_true, ne_eq, Sem.run_bind, hpx w, hpy w, Result.andThen_ok, ih _ _ _ _ _ _ hp hax hcy]
        simp only [Option.some.injEq] at hc
        subst hc
        cases p
        · simp
        · simpa using ih'
      · simp at hc

theorem items_sound (hS : SysOK S P) {E : GE} {n : Nat} {xs ys : List AV} {us vs : Array Value} (hx : VRel E (.agg xs) (.agg us)) (hy : VRel E (.agg ys) (.agg vs)) (w : World) (d : Nat) {e : TypeId} {j : TI} (hj : S.T e = some j) (sz : Nat) (hsz : sz = j.size)
    (ih : ∀ t u v b x y, eqv S.T n t u v = some b → VRel E u x → VRel E v y → (Op.equalIn d t x y).run P w = .ok b w) :
    ∀ (is : List Nat) (b : Bool),
      is.foldr (fun m acc => partK j xs (m * j.size) fun a => partK j ys (m * j.size) fun b => match eqv S.T n e a b, acc with
              | some p, some q => some (p && q)
              | _, _ => none) (some true) = some b →
      (Op.eqItems d e sz us vs is).run P w = .ok b w
  | [], b, h => by
    simp at h; subst h; simp [Op.eqItems]
  | m :: is, b, h => by
    simp only [List.foldr_cons] at h
    obtain ⟨a, x, ha, hax, hpx⟩ := part_sound (hS.type _ _ hj) hx h
    obtain ⟨c, y, hc, hcy, hpy⟩ := part_sound (hS.type _ _ hj) hy ha
    split at hc
    · rename_i p q hp hq
      have ih' := items_sound hS hx hy w d hj sz hsz ih is q hq
      subst hsz
      simp only [Op.eqItems, Sem.run_bind, hpx w, hpy w, Result.andThen_ok, ih _ _ _ _ _ _ hp hax hcy]
      simp only [Option.some.injEq] at hc
      subst hc
      cases p
      · simp
      · simpa using ih'
    · simp at hc

theorem eqv_sound (hS : SysOK S P) (w : World) : ∀ (n : Nat) (t : TypeId) (u v : AV) (b : Bool) (x y : Value) (E : GE), eqv S.T n t u v = some b → VRel E u x → VRel E v y → ∀ d, n ≤ d → (Op.equalIn d t x y).run P w = .ok b w
  | 0, _, _, _, _, _, _, _, h, _, _ => by simp [eqv] at h
  | n + 1, t, u, v, b, x, y, E, h, hx, hy => by
    intro d hd
    obtain ⟨d, rfl⟩ : ∃ m, d = m + 1 := ⟨d - 1, by omega⟩
    have ih := fun t u v b x y (h : eqv S.T n t u v = some b) (hx : VRel E u x) (hy : VRel E v y) => eqv_sound hS w n t u v b x y E h hx hy d (by omega)
    unfold eqv at h
    split at h
    · simp at h
    · rename_i i hi
      have hT := hS.type _ _ hi
      have hk := hT.kind
      split at h <;> (rename_i hik) <;> (try rw [hik] at hk) <;> (try simp only [kindOK] at hk)
      case h_1 =>
        rw [rel_bool hx, rel_bool hy]; simp only [Option.some.injEq] at h; subst h
        exact run_equalIn_bool w d t _ _ hk
      case h_2 =>
        rw [rel_int hx, rel_int hy]
        split at h
        · rename_i e; subst e; simp only [Option.some.injEq] at h; subst h; exact run_equalIn_int w d t _ _ _ _ hk
        · simp at h
      case h_3 =>
        rw [rel_str hx, rel_str hy]; simp only [Option.some.injEq] at h; subst h
        rw [run_equalIn_string w d t _ _ hk]
        congr 1
        rw [ByteArray.toList_eq, ByteArray.toList_eq]
      all_goals first
        | (exfalso; simp at h; done)
        | (obtain ⟨e, hk⟩ := hk; cases hx; cases hy; simp only [Option.some.injEq] at h; subst h; simp [Op.equalIn, run_underlying hk]; done)
        | (obtain ⟨a1, a2, a3, hk⟩ := hk; cases hx <;> cases hy <;> (simp only [Option.some.injEq] at h; subst h; simp [Op.equalIn, run_underlying hk]; done))
        | (cases hx; cases hy; simp only [Option.some.injEq] at h; subst h; simp [Op.equalIn, run_underlying hk]; done)
        | skip
      case h_20 =>
        split at h
        · rename_i hc
          obtain ⟨fields, hu, hf, hn, _⟩ := hk
          have hfo : P.fieldsOf t = fields := by simp [Program.fieldsOf, hu]
          cases hx with
          | agg _ us _ _ _ =>
          cases hy with
          | agg _ vs _ _ _ =>
          rw [run_equalIn_struct (P := P) w d t us vs (by rw [hfo]; exact hu) (hT.cmp hc).2, hfo]
          refine fields_sound hS (E := E) (.agg _ _ (by assumption) (by assumption) (by assumption)) (.agg _ _ (by assumption) (by assumption) (by assumption)) w d (fun t u v b x y h hx hy => ih t u v b x y h hx hy) fields.toList b hn ?_
          rw [hf]; exact h
        · simp at h
      case h_21 =>
        split at h
        · rename_i hc
          split at h
          · simp at h
          · rename_i j hj
            cases hx with
            | agg _ us _ _ _ =>
            cases hy with
            | agg _ vs _ _ _ =>
            obtain ⟨inf, z, hi1, hi2, _⟩ := (hS.type _ _ hj).info
            rw [run_equalIn_array (P := P) w d us vs hk hi1]
            exact items_sound hS (E := E) (.agg _ _ (by assumption) (by assumption) (by assumption)) (.agg _ _ (by assumption) (by assumption) (by assumption)) w d hj _ (by simp [Program.cellsOf, hi1, hi2]) (fun t u v b x y h hx hy => ih t u v b x y h hx hy) _ b h
        · simp at h

variable {R : Type}

theorem guard_sound (hS : SysOK S P) {E : GE} (w : World) {op : BinOp} {t : TypeId} {n : Nat} {u v : AV} {b : Bool} {x y : Value} (xo yo : Operand) (h : eqv S.T n t u v = some b) (hx : VRel E u x) (hy : VRel E v y) :
    (eqGuard op t xo yo x y).run P w = .ok () w := by
  cases n with
  | zero => simp [eqv] at h
  | succ n =>
  unfold eqv at h
  split at h
  · simp at h
  · rename_i i hi
    split at h
    all_goals first
      | (exfalso; simp at h; done)
      | (cases hx <;> cases hy <;> (simp [go_sem]; done))
      | skip
    all_goals
      split at h
      · rename_i hc
        have hT := hS.type _ _ hi
        cases hx
        cases hy
        cases op <;> simp [eqGuard, (hT.cmp hc).1]
      · simp at h

theorem int_sound {op : BinOp} {k : IntKind} {a b : Int} {K : AV → Option R} {r : R} (h : intK op k a b K = some r) (t : TypeId) (w : World) :
    ∃ v x, K v = some r ∧ (∀ E, VRel E v x) ∧ (binOp op t (.int k a) (.int k b)).run P w = .ok x w := by
  cases op <;> simp only [intK] at h
  case quo =>
    split at h
    · simp at h
    · rename_i hb
      exact ⟨_, _, h, fun _ => .int _ _, by simp [binOp, Op.intDiv, hb]⟩
  case rem =>
    split at h
    · simp at h
    · rename_i hb
      exact ⟨_, _, h, fun _ => .int _ _, by simp [binOp, Op.intDiv, hb]⟩
  case shl => simp at h
  case shr => simp at h
  case add => exact ⟨_, _, h, fun _ => .int _ _, by simp [binOp, Op.intArith]⟩
  case sub => exact ⟨_, _, h, fun _ => .int _ _, by simp [binOp, Op.intArith]⟩
  case mul => exact ⟨_, _, h, fun _ => .int _ _, by simp [binOp, Op.intArith]⟩
  case and => exact ⟨_, _, h, fun _ => .int _ _, by simp [binOp, Op.intBits, bits2]⟩
  case or => exact ⟨_, _, h, fun _ => .int _ _, by simp [binOp, Op.intBits, bits2]⟩
  case xor => exact ⟨_, _, h, fun _ => .int _ _, by simp [binOp, Op.intBits, bits2]⟩
  case andNot => exact ⟨_, _, h, fun _ => .int _ _, by simp [binOp, Op.intBits, bits2]⟩
  all_goals exact ⟨_, _, h, fun _ => .bool _, by simp [binOp, Op.intCmp]⟩

theorem shift_sound {left : Bool} {k k' : IntKind} {a b : Int} {K : AV → Option R} {r : R} (h : shiftK left k a b K = some r) (t : TypeId) (w : World) :
    ∃ v x, K v = some r ∧ (∀ E, VRel E v x) ∧ (binOp (if left then .shl else .shr) t (.int k a) (.int k' b)).run P w = .ok x w := by
  unfold shiftK at h
  split at h
  · simp at h
  · rename_i hb
    split at h
    · rename_i hl; subst hl
      exact ⟨_, _, h, fun _ => .int _ _, by simp [binOp, Op.shift, hb]⟩
    · rename_i hl
      have : left = false := by simpa using hl
      subst this
      exact ⟨_, _, h, fun _ => .int _ _, by simp [binOp, Op.shift, hb]⟩

theorem strLess_eq : ∀ a b : List UInt8, Op.bytesLess a b = strLess a b
  | [], [] => rfl
  | _ :: _, [] => rfl
  | [], _ :: _ => rfl
  | a :: x, b :: y => by simp [Op.bytesLess, strLess, strLess_eq x y]

theorem bytes_append (a b : List UInt8) : (⟨a.toArray⟩ : ByteArray) ++ ⟨b.toArray⟩ = ⟨(a ++ b).toArray⟩ := by
  apply ByteArray.ext
  simp

theorem str_sound {op : BinOp} {a b : List UInt8} {K : AV → Option R} {r : R} (h : strK op a b K = some r) (t : TypeId) (w : World) :
    ∃ v x, K v = some r ∧ (∀ E, VRel E v x) ∧ (binOp op t (.string ⟨a.toArray⟩) (.string ⟨b.toArray⟩)).run P w = .ok x w := by
  have e1 : ∀ l : List UInt8, (⟨l.toArray⟩ : ByteArray).toList = l := fun l => by rw [ByteArray.toList_eq]
  cases op <;> simp only [strK] at h
  case add =>
    split at h
    · rename_i hl
      refine ⟨_, _, h, fun _ => .str _, ?_⟩
      have hl' : ¬ ((9223372036854775807 : Int) < (a.length : Int) + (b.length : Int)) := by omega
      simp [binOp, Op.stringOp, ByteArray.size, hl', bytes_append]
    · simp at h
  case eql => exact ⟨_, _, h, fun _ => .bool _, by simp [binOp, Op.stringOp, e1]⟩
  case neq => exact ⟨_, _, h, fun _ => .bool _, by simp [binOp, Op.stringOp, e1]⟩
  case lss => exact ⟨_, _, h, fun _ => .bool _, by simp [binOp, Op.stringOp, e1, strLess_eq]⟩
  case leq => exact ⟨_, _, h, fun _ => .bool _, by simp [binOp, Op.stringOp, e1, strLess_eq]⟩
  case gtr => exact ⟨_, _, h, fun _ => .bool _, by simp [binOp, Op.stringOp, e1, strLess_eq]⟩
  case geq => exact ⟨_, _, h, fun _ => .bool _, by simp [binOp, Op.stringOp, e1, strLess_eq]⟩
  all_goals simp at h

theorem eql_form {T : TypeId → Option TI} {E : GE} {t : TypeId} {n : Nat} {u v : AV} {b : Bool} {x y : Value} (h : eqv T n t u v = some b) (hx : VRel E u x) (hy : VRel E v y)
    (h1 : ∀ k a k' b, u = .int k a → v = .int k' b → False) (h2 : ∀ a b, u = .str a → v = .str b → False) :
    binOp .eql t x y = (do pure (.bool (← Op.equal t x y))) ∧ binOp .neq t x y = (do pure (.bool (!(← Op.equal t x y)))) := by
  cases n with
  | zero => simp [eqv] at h
  | succ n =>
  unfold eqv at h
  split at h
  · simp at h
  · split at h
    all_goals first
      | (exfalso; simp at h; done)
      | (exfalso; exact h1 _ _ _ _ rfl rfl)
      | (exfalso; exact h2 _ _ rfl rfl)
      | (cases hx <;> cases hy <;> exact ⟨by simp only [binOp], by simp only [binOp]⟩)

theorem oneNil_inv (hS : SysOK S P) {E : GE} {t : TypeId} {u v : AV} (h : oneNil S.T t u v = true) {x y : Value} (hx : VRel E u x) (hy : VRel E v y) :
    (∃ ms, P.underlying t = some (.interface ms)) ∧ ((∃ k z, x = .iface k z ∧ y = .nilIface) ∨ (∃ k z, x = .nilIface ∧ y = .iface k z)) := by
  unfold oneNil at h
  split at h
  · split at h
    · rename_i i hi
      split at h
      · rename_i hik
        have hk := (hS.type _ _ hi).kind
        rw [hik] at hk
        cases hx
        cases hy
        exact ⟨hk, .inl ⟨_, _, rfl, rfl⟩⟩
      · cases h
    · cases h
  · split at h
    · rename_i i hi
      split at h
      · rename_i hik
        have hk := (hS.type _ _ hi).kind
        rw [hik] at hk
        cases hx
        cases hy
        exact ⟨hk, .inr ⟨_, _, rfl, rfl⟩⟩
      · cases h
    · cases h
  · cases h
theorem oneNil_sound (hS : SysOK S P) {E : GE} {t : TypeId} {u v : AV} (h : oneNil S.T t u v = true) {x y : Value} (hx : VRel E u x) (hy : VRel E v y) (xo yo : Operand) (w : World) (op : BinOp) :
    (eqGuard op t xo yo x y).run P w = .ok () w ∧ (binOp .eql t x y).run P w = .ok (.bool false) w ∧ (binOp .neq t x y).run P w = .ok (.bool true) w := by
  obtain ⟨⟨ms, hk⟩, ⟨k, z, rfl, rfl⟩ | ⟨k, z, rfl, rfl⟩⟩ := oneNil_inv hS h hx hy
  · have he : ∀ d, (Op.equalIn (d + 1) t (.iface k z) .nilIface).run P w = .ok false w := fun d => by simp [Op.equalIn, run_underlying hk]
    have he' := he 9999
    have e1 : binOp .eql t (.iface k z) .nilIface = (do pure (.bool (← Op.equal t (.iface k z) .nilIface))) := by simp only [binOp]
    have e2 : binOp .neq t (.iface k z) .nilIface = (do pure (.bool (!(← Op.equal t (.iface k z) .nilIface)))) := by simp only [binOp]
    exact ⟨by simp [go_sem], by rw [e1]; simp [Op.equal, Op.maxDepth, he'], by rw [e2]; simp [Op.equal, Op.maxDepth, he']⟩
  · have he : ∀ d, (Op.equalIn (d + 1) t .nilIface (.iface k z)).run P w = .ok false w := fun d => by simp [Op.equalIn, run_underlying hk]
    have he' := he 9999
    have e1 : binOp .eql t .nilIface (.iface k z) = (do pure (.bool (← Op.equal t .nilIface (.iface k z)))) := by simp only [binOp]
    have e2 : binOp .neq t .nilIface (.iface k z) = (do pure (.bool (!(← Op.equal t .nilIface (.iface k z))))) := by simp only [binOp]
    exact ⟨by simp [go_sem], by rw [e1]; simp [Op.equal, Op.maxDepth, he'], by rw [e2]; simp [Op.equal, Op.maxDepth, he']⟩

theorem bin_sound (hS : SysOK S P) {E : GE} {op : BinOp} {t : TypeId} {u v : AV} {K : AV → Option R} {r : R} (h : binK S.T op t u v K = some r) {x y : Value} (hx : VRel E u x) (hy : VRel E v y) (xo yo : Operand) (w : World) :
    ∃ a z, K a = some r ∧ (∀ E, VRel E a z) ∧ (eqGuard op t xo yo x y).run P w = .ok () w ∧ (binOp op t x y).run P w = .ok z w := by
  unfold binK at h
  split at h
  · rename_i k a k' b
    have e1 := rel_int hx
    have e2 := rel_int hy
    subst e1; subst e2
    split at h
    · obtain ⟨a, z, h1, h2, h3⟩ := shift_sound (P := P) (k' := k') h t w
      exact ⟨a, z, h1, h2, by simp [go_sem], by simpa using h3⟩
    · obtain ⟨a, z, h1, h2, h3⟩ := shift_sound (P := P) (k' := k') h t w
      exact ⟨a, z, h1, h2, by simp [go_sem], by simpa using h3⟩
    · split at h
      · rename_i e; subst e
        obtain ⟨a, z, h1, h2, h3⟩ := int_sound (P := P) h t w
        exact ⟨a, z, h1, h2, by simp [go_sem], h3⟩
      · simp at h
  · rename_i a b
    have e1 := rel_str hx
    have e2 := rel_str hy
    subst e1; subst e2
    obtain ⟨a, z, h1, h2, h3⟩ := str_sound (P := P) h t w
    exact ⟨a, z, h1, h2, by simp [go_sem], h3⟩
  · rename_i hn1 hn2
    split at h
    · split at h
      · rename_i ho
        obtain ⟨g1, g2, g3⟩ := oneNil_sound hS ho hx hy xo yo w .eql
        exact ⟨_, _, h, fun _ => .bool _, g1, g2⟩
      split at h
      · rename_i b hb
        have hg := guard_sound hS w (op := .eql) xo yo hb hx hy
        have he := eqv_sound hS w _ _ _ _ _ _ _ _ hb hx hy 10000 (by simp [eqDepth])
        have hf := eql_form hb hx hy (fun k a k' b e1 e2 => hn1 _ _ _ _ e1 e2) (fun a b e1 e2 => hn2 _ _ e1 e2)
        refine ⟨_, _, h, fun _ => .bool _, hg, ?_⟩
        rw [hf.1]
        simp [Op.equal, Op.maxDepth, he]
      · simp at h
    · split at h
      · rename_i ho
        obtain ⟨g1, g2, g3⟩ := oneNil_sound hS ho hx hy xo yo w .neq
        exact ⟨_, _, h, fun _ => .bool _, g1, g3⟩
      split at h
      · rename_i b hb
        have hg := guard_sound hS w (op := .neq) xo yo hb hx hy
        have he := eqv_sound hS w _ _ _ _ _ _ _ _ hb hx hy 10000 (by simp [eqDepth])
        have hf := eql_form hb hx hy (fun k a k' b e1 e2 => hn1 _ _ _ _ e1 e2) (fun a b e1 e2 => hn2 _ _ e1 e2)
        refine ⟨_, _, h, fun _ => .bool _, hg, ?_⟩
        rw [hf.2]
        simp [Op.equal, Op.maxDepth, he]
      · simp at h
    · simp at h

theorem twoNil_sound (hS : SysOK S P) {E : GE} {t : TypeId} {u v : AV} (h : twoNil S.T t u v = true) {x y : Value} (hx : VRel E u x) (hy : VRel E v y) (xo yo : Operand) (hl : litNil xo yo = true) (w : World) (op : BinOp) :
    (eqGuard op t xo yo x y).run P w = .ok () w ∧ (binOp .eql t x y).run P w = .ok (.bool true) w ∧ (binOp .neq t x y).run P w = .ok (.bool false) w := by
  unfold twoNil at h
  split at h
  · split at h
    · rename_i i hi
      split at h
      · rename_i hik
        have hk := (hS.type _ _ hi).kind
        rw [hik] at hk
        obtain ⟨ms, hk⟩ := hk
        cases hx
        cases hy
        have he : ∀ d, (Op.equalIn (d + 1) t .nilIface .nilIface).run P w = .ok true w := fun d => by simp [Op.equalIn, run_underlying hk]
        have he' := he 9999
        have e1 : binOp .eql t .nilIface .nilIface = (do pure (.bool (← Op.equal t .nilIface .nilIface))) := by simp only [binOp]
        have e2 : binOp .neq t .nilIface .nilIface = (do pure (.bool (!(← Op.equal t .nilIface .nilIface)))) := by simp only [binOp]
        refine ⟨?_, by rw [e1]; simp [Op.equal, Op.maxDepth, he'], by rw [e2]; simp [Op.equal, Op.maxDepth, he']⟩
        unfold litNil at hl
        split at hl
        · cases op <;> simp [eqGuard]
        · cases op <;> simp [eqGuard]
        · cases hl
      · cases h
    · cases h
  · cases h

theorem binN_sound (hS : SysOK S P) {E : GE} {op : BinOp} {t : TypeId} {xo yo : Operand} {u v : AV} {K : AV → Option R} {r : R} (h : binN S.T op t xo yo u v K = some r) {x y : Value} (hx : VRel E u x) (hy : VRel E v y) (w : World) :
    ∃ a z, K a = some r ∧ (∀ E, VRel E a z) ∧ (eqGuard op t xo yo x y).run P w = .ok () w ∧ (binOp op t x y).run P w = .ok z w := by
  unfold binN at h
  split at h
  · rename_i hb
    rw [Bool.and_eq_true] at hb
    unfold nilK at h
    split at h
    · obtain ⟨g1, g2, g3⟩ := twoNil_sound hS hb.2 hx hy xo yo hb.1 w .eql
      exact ⟨_, _, h, fun _ => .bool _, g1, g2⟩
    · obtain ⟨g1, g2, g3⟩ := twoNil_sound hS hb.2 hx hy xo yo hb.1 w .neq
      exact ⟨_, _, h, fun _ => .bool _, g1, g3⟩
    · cases h
  · exact bin_sound hS h hx hy xo yo w

theorem un_sound {op : UnOp} {u : AV} {K : AV → Option R} {r : R} {E : GE} {x : Value} (h : unK op u K = some r) (hx : VRel E u x) (w : World) :
    ∃ a z, K a = some r ∧ (∀ E, VRel E a z) ∧ (Op.unary op x).run P w = .ok z w := by
  unfold unK at h
  split at h
  · rw [rel_int hx]; exact ⟨_, _, h, fun _ => .int _ _, by simp [Op.unary, Op.intArith]⟩
  · rw [rel_int hx]; exact ⟨_, _, h, fun _ => .int _ _, by simp [Op.unary, Op.intBits, bits2]⟩
  · rw [rel_bool hx]; exact ⟨_, _, h, fun _ => .bool _, by simp [Op.unary]⟩
  · simp at h

theorem minmax_sound {mx : Bool} {E : GE} : ∀ (u : AV) (us : List AV) (K : AV → Option R) (r : R) (x : Value) (xs : List Value), minmaxK mx u us K = some r → VRel E u x →
    us.length = xs.length → (∀ (i : Nat) v y, us[i]? = some v → xs[i]? = some y → VRel E v y) → ∀ w : World,
    ∃ a z, K a = some r ∧ (∀ E, VRel E a z) ∧ (xs.foldlM (if mx then Builtin.max2 else Builtin.min2) x).run P w = .ok z w
  | u, [], K, r, x, xs, h, hx, hl, hv, w => by
    obtain rfl : xs = [] := by simpa using hl.symm
    unfold minmaxK at h
    split at h
    · rw [rel_int hx]; exact ⟨_, _, h, fun _ => .int _ _, by simp⟩
    · simp_all
    · simp at h
  | u, v :: us, K, r, x, xs, h, hx, hl, hv, w => by
    cases xs with
    | nil => simp at hl
    | cons y xs =>
    unfold minmaxK at h
    split at h
    · simp_all
    · rename_i k a k' b r' heq
      simp only [List.cons.injEq] at heq
      obtain ⟨rfl, rfl⟩ := heq
      have hy := rel_int (hv 0 _ _ rfl rfl)
      subst hy
      have e1 := rel_int hx
      subst e1
      obtain ⟨p, z, h1, h2, h3⟩ := minmax_sound _ _ _ _ _ xs h (.int (E := E) _ _) (by simpa using hl) (fun i v y h1 h2 => hv (i + 1) v y (by simpa using h1) (by simpa using h2)) w
      refine ⟨p, z, h1, h2, ?_⟩
      rw [List.foldlM_cons, Sem.run_bind]
      cases mx
      · simp only [Bool.false_eq_true, if_false] at h3 ⊢
        simpa [Builtin.min2] using h3
      · simp only [if_true] at h3 ⊢
        simpa [Builtin.max2] using h3
    · simp at h
end Go.Sx

/- THE ENGINE, 7: objects: made, read, written. -/
set_option linter.unusedSimpArgs false
set_option linter.unusedVariables false
namespace Go.Sx
variable {S : Sys} {P : Program} {R : Type}

def GE.at (E : GE) (w : World) : GE := { E with w := w }

/-- A world that differs from another at one block alone. -/
structure Only (b : Nat) (w w' : World) : Prop where
  os : w'.os = w.os
  tape : w'.tape = w.tape
  output : w'.output = w.output
  size : w'.heap.size = w.heap.size
  block : ∀ k, k ≠ b → w'.heap[k]? = w.heap[k]?

theorem cell_of_block {w w' : World} {b o : Nat} (h : w'.heap[b]? = w.heap[b]?) : w'.cell? ⟨b, o, none⟩ = w.cell? ⟨b, o, none⟩ := by
  simp only [World.cell?, h]

theorem le_write {E : GE} {b : Nat} (ho : E.owned b) (hS : ∀ o, ¬ E.S b o) {w' : World} (h : Only b E.w w') : E.le (E.at w') where
  nid := Nat.le_refl _
  ρ := fun _ _ _ h => h
  nt := Nat.le_refl _
  τ := fun _ _ _ _ h => h
  S := fun _ _ h => h
  cell := fun k o hk => cell_of_block (h.block k (fun e => hS o (e ▸ hk)))
  base := rfl
  cp := fun _ _ => rfl
  low := rfl
  snew := fun _ _ h => .inl h
  own := fun _ _ h => h
  os := h.os
  tape := h.tape
  output := h.output
  size := Nat.le_of_eq h.size.symm
  block := fun k _ hn => h.block k (fun e => hn (e ▸ ho))

/-- Another object lies as it lay. -/
theorem ORel.pmono {E E' : GE} (hle : E.pre E') {id : Nat} {o : AObj} (h : ORel E id o) (hid : id < E.nid) (hsame : ∀ b, E.ρ id = some b → E'.w.heap[b]? = E.w.heap[b]?) (hS : ∀ b o, E.ρ id = some b → E'.S b o → E.S b o) (hun : E.ρ id = none → E'.ρ id = none := by first | exact fun h => h | assumption) : ORel E' id o := by
  cases h with
  | cells cs b c el hb hh hl hc h1 hS' hcp => exact .cells cs b c el (hle.ρ id b hid hb) ((hsame b hb).trans hh) hl (fun j v x a d => (hc j v x a d).pmono hle) h1 (fun o ho => hS' o (hS b o hb ho)) (by rw [hle.cp id hid]; exact hcp)
  | miter0 b hb hh => exact .miter0 b (hle.ρ id b hid hb) ((hsame b hb).trans hh)
  | miter m since seen last b k hm hk hb hh => exact .miter m since seen last b k (Nat.lt_of_lt_of_le hm hle.nid) (hle.ρ m k hm hk) (hle.ρ id b hid hb) ((hsame b hb).trans hh)
  | map es bs clock b ms hb hh hl hs hk hv => exact .map es bs clock b ms (hle.ρ id b hid hb) ((hsame b hb).trans hh) hl hs (fun j e m a d => (hk j e m a d).pmono hle) (fun j e m a d => (hv j e m a d).pmono hle)
  | siter s pos b hb hh => exact .siter s pos b (hle.ρ id b hid hb) ((hsame b hb).trans hh)
  | loop s ps x y st b r hb hh h1 h2 h3 h4 h5 => exact .loop s ps x y st b r (hle.ρ id b hid hb) ((hsame b hb).trans hh) (h1.pmono hle) h2 h3 h4 h5
  | dead => exact .dead
  | tcells u cs b c hb hh hl hc h1 hS' => exact .tcells u cs b c (hle.ρ id b hid hb) ((hsame b hb).trans hh) hl (fun j v x a d => (hc j v x a d).pmono hle) h1 (fun o ho => hS' o (hS b o hb ho))
  | unborn h0 h1 => exact .unborn (hun h0) (by rw [hle.cp id hid]; exact h1)

theorem ORel.mono {E E' : GE} (hle : E.le E') {id : Nat} {o : AObj} (h : ORel E id o) (hid : id < E.nid) (hsame : ∀ b, E.ρ id = some b → E'.w.heap[b]? = E.w.heap[b]?) (hS : ∀ b o, E.ρ id = some b → E'.S b o → E.S b o) (hun : E.ρ id = none → E'.ρ id = none := by first | exact fun h => h | assumption) : ORel E' id o := h.pmono hle.topre hid hsame hS hun

theorem HRel.write {H : AH} {E : GE} (h : HRel H E) {id b : Nat} {o0 : AObj} (ho0 : H.objs[id]? = some o0) (hl0 : o0.live = true) (hid : id < E.nid) (hρ : E.ρ id = some b) (hS : ∀ o, ¬ E.S b o) {w' : World} (hw : Only b E.w w') {o' : AObj} (ho : ORel (E.at w') id o') :
    E.le (E.at w') ∧ HRel { H with objs := H.objs.set id o' } (E.at w') := by
  have hle := le_write (.inl ⟨id, hid, hρ⟩) hS hw
  refine ⟨hle, ?_⟩
  constructor
  · simpa [GE.at] using h.nid
  · exact h.nt
  · intro i o hi
    simp only [List.getElem?_set] at hi
    by_cases e : id = i
    · subst e
      rw [if_pos rfl] at hi
      split at hi
      · simp only [Option.some.injEq] at hi; subst hi; exact ho
      · simp at hi
    · rw [if_neg e] at hi
      have hlt : i < E.nid := by
        rw [h.nid]
        rcases Nat.lt_or_ge i H.objs.length with h' | h'
        · exact h'
        · simp [List.getElem?_eq_none h'] at hi
      cases hlo : o.live with
      | true => exact (h.obj i o hi).mono hle hlt (fun k hk => hw.block k (fun e' => e (h.inj _ _ _ _ _ ho0 hi hl0 hlo hρ (e' ▸ hk)))) (fun _ _ _ h => h)
      | false =>
        have : o = .dead true := by
          cases o <;> simp [AObj.live] at hlo
          rename_i b
          cases b
          · simp at hlo
          · rfl
        subst this
        exact .dead
  · have hback : ∀ (i : Nat) o, (H.objs.set id o')[i]? = some o → o.live = true → ∃ o2, H.objs[i]? = some o2 ∧ o2.live = true := by
      intro i o hi hlo
      simp only [List.getElem?_set] at hi
      by_cases e : id = i
      · subst e; exact ⟨o0, ho0, hl0⟩
      · rw [if_neg e] at hi; exact ⟨o, hi, hlo⟩
    intro i j b o1 o2 hi hj l1 l2 h1 h2
    obtain ⟨o3, h3, l3⟩ := hback i o1 hi l1
    obtain ⟨o4, h4, l4⟩ := hback j o2 hj l2
    exact h.inj i j b o3 o4 h3 h4 l3 l4 h1 h2
  · intro t g sz u p ht hp
    obtain ⟨k, e, ce, c, rfl, h2, h3, h4, h5, h6⟩ := h.tok t g sz u p ht hp
    have hlt : t < E.nt := by
      rw [h.nt]
      rcases Nat.lt_or_ge t H.toks.length with h' | h'
      · exact h'
      · simp [List.getElem?_eq_none h'] at ht
    exact ⟨k, e, ce, c, rfl, (hw.block k (h.tsep t g _ id b hlt hp hid hρ)).trans h2, h3, h4, h5, h6⟩
  · exact h.late
  · exact h.tsep
  · exact h.tinj
  · exact h.tbase
  · intro k o hk
    have : k ≠ b := fun e => hS o (e ▸ hk)
    have := h.set k o hk
    rwa [← cell_of_block (w' := w') (hw.block k ‹_›)] at this
  · intro k hk
    have := h.lt k hk
    show k < w'.heap.size
    rw [hw.size]; exact this
  · show E.base ≤ w'.heap.size
    rw [hw.size]; exact h.hbase

def objCap : Obj → Nat
  | .cells c _ _ => c.size
  | _ => 0
def GE.new (E : GE) (o : Obj) : GE := { E with w := E.w.alloc o, nid := E.nid + 1, ρ := fun i => if i = E.nid then some E.w.heap.size else E.ρ i, cp := fun i => if i = E.nid then objCap o else E.cp i }

theorem alloc_block (w : World) (o : Obj) (k : Nat) (h : k < w.heap.size) : (w.alloc o).heap[k]? = w.heap[k]? := Go.RowKit.Below.heap_alloc w o k h

theorem le_new (E : GE) (o : Obj) (hS : ∀ b o, E.S b o → b < E.w.heap.size) : E.le (E.new o) where
  nid := Nat.le_succ _
  ρ := fun id b hid hb => by simp [GE.new, Nat.ne_of_lt hid, hb]
  nt := Nat.le_refl _
  τ := fun _ _ _ _ h => h
  S := fun _ _ h => h
  cell := by
    intro b o' hb
    exact cell_of_block (alloc_block _ _ _ (hS _ _ hb))
  base := rfl
  cp := fun id hid => by simp [GE.new, Nat.ne_of_lt hid]
  low := rfl
  snew := fun _ _ h => .inl h
  own := by
    intro b hb h
    rcases h with ⟨id, hid, hρ⟩ | ⟨t, g, p, ht, hp, hpb⟩
    · simp only [GE.new] at hid hρ
      by_cases e : id = E.nid
      · simp [e] at hρ; omega
      · simp only [e, if_false] at hρ
        exact .inl ⟨id, by omega, hρ⟩
    · exact .inr ⟨t, g, p, ht, hp, hpb⟩
  os := rfl
  tape := rfl
  output := rfl
  size := by show E.w.heap.size ≤ (E.w.heap.push o).size; simp
  block := fun b hb _ => alloc_block _ _ _ hb

theorem block_of_cell {w : World} {b o : Nat} (h : (w.cell? ⟨b, o, none⟩).isSome = true) : b < w.heap.size := by
  rcases Nat.lt_or_ge b w.heap.size with h' | h'
  · exact h'
  · simp [World.cell?, Array.getElem?_eq_none h'] at h

theorem HRel.Slt {H : AH} {E : GE} (h : HRel H E) : ∀ b o, E.S b o → b < E.w.heap.size := fun b o hb => block_of_cell (h.set b o hb)

theorem HRel.idlt {H : AH} {E : GE} (h : HRel H E) {id : Nat} {o : AObj} (ho : H.objs[id]? = some o) : id < E.nid := by
  rw [h.nid]
  rcases Nat.lt_or_ge id H.objs.length with h' | h'
  · exact h'
  · simp [List.getElem?_eq_none h'] at ho
theorem HRel.tlt {H : AH} {E : GE} (h : HRel H E) {t : Nat} {p : Nat × Nat × TypeId} (ho : H.toks[t]? = some p) : t < E.nt := by
  rw [h.nt]
  rcases Nat.lt_or_ge t H.toks.length with h' | h'
  · exact h'
  · simp [List.getElem?_eq_none h'] at ho

theorem HRel.new {H : AH} {E : GE} (h : HRel H E) {ob : Obj} {o : AObj} (ho : ORel (E.new ob) E.nid o) :
    E.le (E.new ob) ∧ HRel { H with objs := H.objs ++ [o] } (E.new ob) := by
  have hle := le_new E ob h.Slt
  have hlt : ∀ i b, i < E.nid → E.ρ i = some b → b < E.w.heap.size := fun i b hi hb => h.lt b (.inl ⟨i, hi, hb⟩)
  have hρ : ∀ i b, i < E.nid + 1 → (E.new ob).ρ i = some b → (i = E.nid ∧ b = E.w.heap.size) ∨ (i < E.nid ∧ E.ρ i = some b) := by
    intro i b hi hb
    simp only [GE.new] at hb
    by_cases e : i = E.nid
    · simp [e] at hb; exact .inl ⟨e, hb.symm⟩
    · simp only [e, if_false] at hb; exact .inr ⟨by omega, hb⟩
  refine ⟨hle, ?_⟩
  constructor
  · show E.nid + 1 = (H.objs ++ [o]).length
    simp [h.nid]
  · exact h.nt
  · intro i o' hi
    by_cases e : i = E.nid
    · subst e
      rw [h.nid, List.getElem?_append_right (Nat.le_refl _)] at hi
      simp at hi
      subst hi; exact ho
    · have hi' : i < H.objs.length := by
        rcases Nat.lt_or_ge i (H.objs ++ [o]).length with h' | h'
        · have := h.nid; simp at h'; omega
        · simp only [List.getElem?_eq_none h'] at hi; simp at hi
      rw [List.getElem?_append_left hi'] at hi
      exact (h.obj i o' hi).mono hle (h.nid ▸ hi') (fun b hb => alloc_block _ _ _ (hlt i b (h.nid ▸ hi') hb)) (fun _ _ _ h => h) (fun h0 => by have := h.nid; simp only [GE.new]; rw [if_neg (by omega)]; exact h0)
  · intro i j b o1 o2 ho1 ho2 l1 l2 h1 h2
    have hlen : ∀ (i : Nat) o', (H.objs ++ [o])[i]? = some o' → i < E.nid + 1 := by
      intro i o' hi
      have := (List.getElem?_eq_some_iff.1 hi).1
      have e := h.nid
      simp at this; omega
    have hold : ∀ (i : Nat) o', i < E.nid → (H.objs ++ [o])[i]? = some o' → H.objs[i]? = some o' := by
      intro i o' hi ho'
      rwa [List.getElem?_append_left (by have := h.nid; omega)] at ho'
    have hi := hlen i o1 ho1
    have hj := hlen j o2 ho2
    rcases hρ i b hi h1 with ⟨rfl, rfl⟩ | ⟨hi', h1'⟩ <;> rcases hρ j _ hj h2 with ⟨rfl, e⟩ | ⟨hj', h2'⟩
    · rfl
    · have := hlt j _ hj' h2'; omega
    · have := hlt i _ hi' h1'; omega
    · exact h.inj i j b o1 o2 (hold i o1 hi' ho1) (hold j o2 hj' ho2) l1 l2 h1' h2'
  · intro t g sz u p ht hp
    obtain ⟨k, e, ce, c, rfl, h2, h3, h4, h5, h6⟩ := h.tok t g sz u p ht hp
    exact ⟨k, e, ce, c, rfl, (alloc_block _ _ _ (h.lt k (.inr ⟨t, g, _, h.tlt ht, hp, rfl⟩))).trans h2, h3, h4, h5, h6⟩
  · exact h.late
  · intro t g p id b ht hp hid hb
    rcases hρ id b hid hb with ⟨rfl, rfl⟩ | ⟨hid', hb'⟩
    · have := h.lt p.2.1 (.inr ⟨t, g, p, ht, hp, rfl⟩); omega
    · exact h.tsep t g p id b ht hp hid' hb'
  · exact h.tinj
  · exact h.tbase
  · intro b o' hb
    have hb' : E.S b o' := hb
    have := h.set b o' hb'
    rwa [← cell_of_block (w' := (E.new ob).w) (alloc_block _ _ _ (h.Slt _ _ hb'))] at this
  · intro b hb
    have hsz : (E.new ob).w.heap.size = E.w.heap.size + 1 := by show (E.w.heap.push ob).size = _; simp
    rw [hsz]
    by_cases e : b < E.w.heap.size
    · omega
    · rcases hb with ⟨id, hid, hid2⟩ | ⟨t, g, p, ht, hp, hpb⟩
      · rcases hρ id b hid hid2 with ⟨_, rfl⟩ | ⟨h1, h2⟩
        · omega
        · have := hlt id b h1 h2; omega
      · have := h.lt b (.inr ⟨t, g, p, ht, hp, hpb⟩); omega
  · exact Nat.le_trans h.hbase hle.size

/-- A number given ahead gets its memory. -/
def GE.born (E : GE) (id : Nat) (o : Obj) : GE := { E with w := E.w.alloc o, ρ := fun i => if i = id then some E.w.heap.size else E.ρ i }

theorem le_born {E : GE} {id : Nat} (h0 : E.ρ id = none) (o : Obj) (hS : ∀ b o, E.S b o → b < E.w.heap.size) : E.le (E.born id o) where
  nid := Nat.le_refl _
  ρ := fun i b hi hb => by
    have : i ≠ id := fun e => by subst e; rw [h0] at hb; cases hb
    simp [GE.born, this, hb]
  nt := Nat.le_refl _
  τ := fun _ _ _ _ h => h
  S := fun _ _ h => h
  cell := by
    intro b o' hb
    exact cell_of_block (alloc_block _ _ _ (hS _ _ hb))
  base := rfl
  cp := fun _ _ => rfl
  low := rfl
  snew := fun _ _ h => .inl h
  own := by
    intro b hb h
    rcases h with ⟨i, hi, hρ⟩ | ⟨t, g, p, ht, hp, hpb⟩
    · simp only [GE.born] at hi hρ
      by_cases e : i = id
      · simp [e] at hρ; omega
      · simp only [e, if_false] at hρ
        exact .inl ⟨i, hi, hρ⟩
    · exact .inr ⟨t, g, p, ht, hp, hpb⟩
  os := rfl
  tape := rfl
  output := rfl
  size := by show E.w.heap.size ≤ (E.w.heap.push o).size; simp
  block := fun b hb _ => alloc_block _ _ _ hb

theorem HRel.born {H : AH} {E : GE} (h : HRel H E) {id : Nat} (hid0 : H.objs[id]? = some (.dead false)) {ob : Obj} {o : AObj} (ho : ORel (E.born id ob) id o) :
    E.le (E.born id ob) ∧ HRel { H with objs := H.objs.set id o } (E.born id ob) := by
  have hnone : E.ρ id = none := by
    cases h.obj id _ hid0 with
    | unborn h0 _ => exact h0
  have hle := le_born hnone ob h.Slt
  have hid := h.idlt hid0
  have hlt : ∀ i b, i < E.nid → E.ρ i = some b → b < E.w.heap.size := fun i b hi hb => h.lt b (.inl ⟨i, hi, hb⟩)
  have hρ : ∀ i b, i < E.nid → (E.born id ob).ρ i = some b → (i = id ∧ b = E.w.heap.size) ∨ E.ρ i = some b := by
    intro i b hi hb
    simp only [GE.born] at hb
    by_cases e : i = id
    · simp [e] at hb; exact .inl ⟨e, hb.symm⟩
    · simp only [e, if_false] at hb; exact .inr hb
  refine ⟨hle, ?_⟩
  constructor
  · show E.nid = (H.objs.set id o).length
    simp [h.nid]
  · exact h.nt
  · intro i o' hi
    by_cases e : i = id
    · subst e
      have hl : i < H.objs.length := h.nid ▸ hid
      simp only [List.getElem?_set_self hl, Option.some.injEq] at hi
      subst hi; exact ho
    · simp only [List.getElem?_set_ne (Ne.symm e)] at hi
      exact (h.obj i o' hi).mono hle (h.idlt hi) (fun b hb => alloc_block _ _ _ (hlt i b (h.idlt hi) hb)) (fun _ _ _ h => h) (fun h0 => by simp only [GE.born]; rw [if_neg e]; exact h0)
  · intro i j b o1 o2 ho1 ho2 l1 l2 h1 h2
    have hback : ∀ (i : Nat) o1, (H.objs.set id o)[i]? = some o1 → o1.live = true → i < E.nid ∧ ∃ o2, H.objs[i]? = some o2 ∧ o2.live = true := by
      intro i o1 hi hlo
      have hil := (List.getElem?_eq_some_iff.1 hi).1
      simp only [List.length_set] at hil
      refine ⟨by have := h.nid; omega, ?_⟩
      simp only [List.getElem?_set] at hi
      by_cases e : id = i
      · subst e; exact ⟨_, hid0, rfl⟩
      · rw [if_neg e] at hi; exact ⟨o1, hi, hlo⟩
    obtain ⟨hi, o3, h3, l3⟩ := hback i o1 ho1 l1
    obtain ⟨hj, o4, h4, l4⟩ := hback j o2 ho2 l2
    rcases hρ i b hi h1 with ⟨rfl, rfl⟩ | h1' <;> rcases hρ j _ hj h2 with ⟨rfl, e⟩ | h2'
    · rfl
    · have := hlt j _ hj h2'; omega
    · have := hlt i _ hi h1'; omega
    · exact h.inj i j b o3 o4 h3 h4 l3 l4 h1' h2'
  · intro t g sz u p ht hp
    obtain ⟨k, e, ce, c, rfl, h2, h3, h4, h5, h6⟩ := h.tok t g sz u p ht hp
    exact ⟨k, e, ce, c, rfl, (alloc_block _ _ _ (h.lt k (.inr ⟨t, g, _, h.tlt ht, hp, rfl⟩))).trans h2, h3, h4, h5, h6⟩
  · exact h.late
  · intro t g p i b ht hp hi hb
    rcases hρ i b hi hb with ⟨rfl, rfl⟩ | hb'
    · have := h.lt p.2.1 (.inr ⟨t, g, p, ht, hp, rfl⟩); omega
    · exact h.tsep t g p i b ht hp hi hb'
  · exact h.tinj
  · exact h.tbase
  · intro b o' hb
    have hb' : E.S b o' := hb
    have := h.set b o' hb'
    rwa [← cell_of_block (w' := (E.born id ob).w) (alloc_block _ _ _ (h.Slt _ _ hb'))] at this
  · intro b hb
    have hsz : (E.born id ob).w.heap.size = E.w.heap.size + 1 := by show (E.w.heap.push ob).size = _; simp
    rw [hsz]
    by_cases e : b < E.w.heap.size
    · omega
    · rcases hb with ⟨i, hi, hi2⟩ | ⟨t, g, p, ht, hp, hpb⟩
      · rcases hρ i b hi hi2 with ⟨_, rfl⟩ | h2
        · omega
        · have := hlt i b hi h2; omega
      · have := h.lt b (.inr ⟨t, g, p, ht, hp, hpb⟩); omega
  · exact Nat.le_trans h.hbase hle.size

/-- Numbers given ahead. -/
def GE.reserved (E : GE) (n : Nat) : GE := { E with nid := E.nid + n, ρ := fun i => if i < E.nid then E.ρ i else none, cp := fun i => if i < E.nid then E.cp i else 0 }

theorem reserve_sound {H : AH} {E : GE} (h : HRel H E) (n : Nat) : E.le (E.reserved n) ∧ HRel { H with objs := H.objs ++ List.replicate n (.dead false) } (E.reserved n) := by
  have hρ : ∀ i b, i < E.nid + n → (E.reserved n).ρ i = some b → i < E.nid ∧ E.ρ i = some b := by
    intro i b hi hb
    simp only [GE.reserved] at hb
    split at hb
    · exact ⟨‹_›, hb⟩
    · cases hb
  have hle : E.le (E.reserved n) := by
    refine ⟨⟨Nat.le_add_right _ _, ?_, Nat.le_refl _, fun _ _ _ _ h => h, fun _ _ h => h, fun _ _ _ => rfl, rfl, fun id hid => by simp only [GE.reserved]; rw [if_pos hid]⟩, rfl, fun _ _ h => .inl h, ?_, rfl, rfl, rfl, Nat.le_refl _, fun _ _ _ => rfl⟩
    · intro i b hi hb
      simp only [GE.reserved]
      rw [if_pos hi]; exact hb
    · intro b _ hb
      rcases hb with ⟨i, hi, hi2⟩ | h
      · exact .inl ⟨i, hρ i b hi hi2⟩
      · exact .inr h
  refine ⟨hle, ?_⟩
  constructor
  · show E.nid + n = _
    simp [h.nid]
  · exact h.nt
  · intro i o hi
    rcases Nat.lt_or_ge i H.objs.length with hl | hl
    · rw [List.getElem?_append_left hl] at hi
      exact (h.obj i o hi).mono hle (h.idlt hi) (fun _ _ => rfl) (fun _ _ _ h => h) (fun h0 => by simp only [GE.reserved]; split <;> first | exact h0 | rfl)
    · rw [List.getElem?_append_right hl] at hi
      have := List.mem_of_getElem? hi
      rw [List.mem_replicate] at this
      rw [this.2]
      have := h.nid
      refine .unborn ?_ ?_
      · simp only [GE.reserved]
        rw [if_neg (by omega)]
      · simp only [GE.reserved]
        rw [if_neg (by omega)]
  · intro i j b o1 o2 ho1 ho2 l1 l2 h1 h2
    have hlen : ∀ (i : Nat) o', (H.objs ++ List.replicate n (.dead false))[i]? = some o' → i < E.nid + n := by
      intro i o' hi
      have := (List.getElem?_eq_some_iff.1 hi).1
      have e := h.nid
      simp at this; omega
    have hold : ∀ (i : Nat) o', i < E.nid → (H.objs ++ List.replicate n (.dead false))[i]? = some o' → H.objs[i]? = some o' := by
      intro i o' hi ho'
      rwa [List.getElem?_append_left (by have := h.nid; omega)] at ho'
    obtain ⟨q1, q2⟩ := hρ i b (hlen i o1 ho1) h1
    obtain ⟨q3, q4⟩ := hρ j b (hlen j o2 ho2) h2
    exact h.inj i j b o1 o2 (hold i o1 q1 ho1) (hold j o2 q3 ho2) l1 l2 q2 q4
  · exact h.tok
  · exact h.late
  · intro t g p i b ht hp hi hb
    exact h.tsep t g p i b ht hp (hρ i b hi hb).1 (hρ i b hi hb).2
  · exact h.tinj
  · exact h.tbase
  · exact h.set
  · intro b hb
    rcases hb with ⟨i, hi, hi2⟩ | hb
    · exact h.lt b (.inl ⟨i, hρ i b hi hi2⟩)
    · exact h.lt b (.inr hb)
  · exact h.hbase

theorem Fixed.mono {E E' : GE} (hle : E.le E') {p : Nat × Array Value} (h : Fixed E p) : Fixed E' p := by
  obtain ⟨⟨el, fr, h1⟩, h2, o, h3⟩ := h
  have hlt : p.1 < E.w.heap.size := by
    rcases Nat.lt_or_ge p.1 E.w.heap.size with h' | h'
    · exact h'
    · simp [Array.getElem?_eq_none h'] at h1
  exact ⟨⟨el, fr, (hle.block _ hlt h2).trans h1⟩, fun ho => h2 (hle.own _ hlt ho), o, hle.S _ _ h3⟩
theorem Rel.mono {H H' : AH} {E E' : GE} (hle : E.le E') (hr : Rel S H E) (h : HRel H' E') : Rel S H' E' := ⟨h, fun n => (hr.g n).mono hle, fun p hp => (hr.x p hp).mono hle⟩

end Go.Sx

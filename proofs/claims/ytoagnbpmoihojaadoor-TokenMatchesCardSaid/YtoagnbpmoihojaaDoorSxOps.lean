/- THE ENGINE, 2: the operations, in the style of continuations. Definitions alone. -/
import Derived.Test.YtoagnbpmoihojaaDoorSxDefs
import GoSem.Core.Utf8
namespace Go.Sx
variable {R : Type}

/-- May it be stored? -/
def AV.solid : AV → Bool
  | .top => false
  | .tuple _ => false
  | _ => true

/-- Cells written into a row. -/
def splice (cs : List AV) (off : Nat) (vs : List AV) : List AV := cs.take off ++ (vs ++ cs.drop (off + vs.length))

def loadK (H : AH) (i : TI) (a : AV) (K : AV → Option R) : Option R :=
  match a with
  | .rop v => match i.isAgg, v with
    | true, .agg cs => if cs.length = i.size then K (.agg cs) else none
    | true, _ => none
    | false, .agg _ => none
    | false, v => K v
  | .ptr id off => match H.objs[id]? with
    | some (.cells cs) => partK i cs off K
    | _ => none
  | _ => none

def storeK (H : AH) (i : TI) (a v : AV) (K : AH → Option R) : Option R :=
  match a with
  | .ptr id off => match H.objs[id]? with
    | some (.cells cs) => if v.cells.length = i.size && off + i.size ≤ cs.length then K { H with objs := H.objs.set id (.cells (splice cs off v.cells)) } else none
    | _ => none
  | _ => none

def newK (H : AH) (o : AObj) (K : Nat → AH → Option R) : Option R := K H.objs.length { H with objs := H.objs ++ [o] }

def fieldAddrK (i : TI) (T : TypeId → Option TI) (a : AV) (f : Nat) (K : AV → Option R) : Option R :=
  match i.k with
  | .struct fs => match fs[f]? with
    | some (off, t) => match T t with
      | some j => if j.size = 0 then none else match a with
        | .rop (.agg cs) => partK j cs off fun v => K (.rop v)
        | .ptr id o => K (.ptr id (o + off))
        | _ => none
      | none => none
    | none => none
  | _ => none

def fieldK (i : TI) (T : TypeId → Option TI) (x : AV) (f : Nat) (K : AV → Option R) : Option R :=
  match i.k with
  | .struct fs => match fs[f]? with
    | some (off, t) => match T t with
      | some j => match x with
        | .agg cs => partK j cs off K
        | _ => none
      | none => none
    | none => none
  | _ => none

def asIntK (v : AV) (K : IntKind → Int → Option R) : Option R := match v with | .int k n => K k n | _ => none

def indexAddrK (i : TI) (T : TypeId → Option TI) (x ix : AV) (K : AV → Option R) : Option R :=
  asIntK ix fun _ n =>
  match i.k with
  | .slice e => match T e with
    | some j => match x with
      | .inl _ _ sz xs => if 0 ≤ n ∧ n < (xs.length : Int) then (if sz = j.size then (match xs[n.toNat]? with | some v => K (.rop v) | none => none) else none) else none
      | .sl id off len _ sz _ => if 0 ≤ n ∧ n < (len : Int) then (if sz = j.size then K (.ptr id (off + n.toNat * j.size)) else none) else none
      | _ => none
    | none => none
  | .array len e => match T e with
    | some j => match x with
      | .rop (.agg cs) => if 0 ≤ n ∧ n < (len : Int) then partK j cs (n.toNat * j.size) fun v => K (.rop v) else none
      | .ptr id o => if 0 ≤ n ∧ n < (len : Int) then K (.ptr id (o + n.toNat * j.size)) else none
      | _ => none
    | none => none
  | _ => none

def indexK (i : TI) (T : TypeId → Option TI) (x ix : AV) (K : AV → Option R) : Option R :=
  asIntK ix fun _ n =>
  match i.k, x with
  | .array len e, .agg cs => match T e with
    | some j => if 0 ≤ n ∧ n < (len : Int) then partK j cs (n.toNat * j.size) K else none
    | none => none
  | .string, .str s => if 0 ≤ n then (match s[n.toNat]? with | some b => K (.int .u8 b.toNat) | none => none) else none
  | _, _ => none

/-- A bound of a slice expression: at most y. -/
def boundK (v : AV) (y : Nat) (K : Nat → Option R) : Option R :=
  asIntK v fun _ n => if 0 ≤ n ∧ n ≤ (y : Int) then K n.toNat else none

def optBoundK (v : Option AV) (y : Nat) (d : Nat) (K : Nat → Option R) : Option R :=
  match v with
  | none => K d
  | some v => boundK v y K

def sliceK (i : TI) (T : TypeId → Option TI) (x : AV) (lo hi mx : Option AV) (K : AV → Option R) : Option R :=
  match i.k with
  | .string => match x, mx with
    | .str s, none => optBoundK hi s.length s.length fun h => optBoundK lo h 0 fun l => K (.str ((s.drop l).take (h - l)))
    | _, _ => none
  | .slice e => match T e with
    | none => none
    | some j => match x with
      | .nils => match mx with
        | none => optBoundK hi 0 0 fun h => optBoundK lo h 0 fun _ => K .nils
        | some m => match hi with
          | some hv => boundK m 0 fun m => boundK hv m fun h => optBoundK lo h 0 fun _ => K .nils
          | none => none
      | .inl f p sz xs => if sz = j.size then (match mx with
        | none => optBoundK hi xs.length xs.length fun h => optBoundK lo h 0 fun l =>
          if l = 0 ∧ h = xs.length then K (.inl f p sz xs) else K (.inl f .unk sz ((xs.drop l).take (h - l)))
        | some m => match hi with
          | some hv => boundK m xs.length fun m => boundK hv m fun h => optBoundK lo h 0 fun l => K (.inl f (if m = h then .zero else .unk) sz ((xs.drop l).take (h - l)))
          | none => none) else none
      | .sl id off len cap sz ag => match mx with
        | none => optBoundK hi (cap.getD len) len fun h => optBoundK lo h 0 fun l =>
          if cap.isSome = true ∨ l = 0 ∨ l < len then K (.sl id (if cap = some l then off else off + l * j.size) (h - l) (cap.map (· - l)) sz ag) else none
        | some m => match hi with
          | some hv => boundK m (cap.getD len) fun m => boundK hv m fun h => optBoundK lo h 0 fun l => K (.sl id (if m = l then off else off + l * j.size) (h - l) (some (m - l)) sz ag)
          | none => none
      | _ => none
  | .array n e => match T e with
    | none => none
    | some j => match x, mx with
      | .ptr id off, none => optBoundK hi n n fun h => optBoundK lo h 0 fun l => K (.sl id (if n = l then off else off + l * j.size) (h - l) (some (n - l)) j.size j.isAgg)
      | _, _ => none
  | _ => none

/-- Parts put into the cells of a struct or an array. -/
def fillL (place : Nat → Option (Nat × Nat)) (cells : List AV) : List (Nat × AV) → Option (List AV)
  | [] => some cells
  | (i, v) :: rest =>
    match place i with
    | none => none
    | some (off, size) => if v.cells.length = size && off + size ≤ cells.length then fillL place (splice cells off v.cells) rest else none

def places (T : TypeId → Option TI) (fs : List (Nat × TypeId)) (i : Nat) : Option (Nat × Nat) :=
  match fs[i]? with
  | some (off, t) => (T t).map fun j => (off, j.size)
  | none => none

def buildK (i : TI) (T : TypeId → Option TI) (parts : List (Nat × AV)) (K : AV → Option R) : Option R :=
  match i.k with
  | .struct fs =>
    match fillL (places T fs) i.zero.cells parts with
    | some cs => K (.agg cs)
    | none => none
  | .array _ e => match T e with
    | none => none
    | some j => match fillL (fun m => some (m * j.size, j.size)) i.zero.cells parts with
      | some cs => K (.agg cs)
      | none => none
  | _ => none

def setParts (xs : List AV) : List (Nat × AV) → Option (List AV)
  | [] => some xs
  | (i, v) :: rest => if i < xs.length then setParts (xs.set i v) rest else none

def sizesOk (n : Nat) (xs : List AV) : Bool := xs.all fun v => v.cells.length == n

def flat (xs : List AV) : List AV := xs.flatMap AV.cells

def buildSliceK (S : Sys) (H : AH) (i : TI) (len : Nat) (parts : List (Nat × AV)) (K : AV → AH → Option R) : Option R :=
  match i.k with
  | .slice e => match S.T e with
    | none => none
    | some j =>
      if len * j.size ≤ 16777216 ∧ j.zero.cells.length = j.size ∧ j.size ≠ 0 then
        match setParts (List.replicate len j.zero) parts with
        | some xs =>
          if sizesOk j.size (parts.map (·.2)) && (parts.map (·.2)).all AV.solid then
            (if S.objT e then newK H (.cells (flat xs)) fun id H => K (.sl id 0 len (some len) j.size j.isAgg) H
            else K (.inl true .zero j.size (detokL xs)) H)
          else none
        | none => none
      else none
  | _ => none

def makeSliceK (S : Sys) (H : AH) (i : TI) (len cap : AV) (K : AV → AH → Option R) : Option R :=
  match i.k with
  | .slice e => match S.T e with
    | none => none
    | some j =>
      asIntK len fun kl l => asIntK cap fun kc c =>
      if kl = .i64 ∧ kc = .i64 ∧ 0 ≤ l ∧ l ≤ c ∧ c < 9223372036854775808 ∧ j.bytes * c ≤ 281474976710656 ∧ j.zero.cells.length = j.size ∧ j.size ≠ 0 then
        (if l = 0 ∧ S.objT e = false then K (.inl true (.tok H.toks.length 0) j.size []) { H with toks := H.toks ++ [(0, j.size)] }
         else newK H (.cells (flat (List.replicate c.toNat j.zero))) fun id H => K (.sl id 0 l.toNat (some c.toNat) j.size j.isAgg) H)
      else none
  | _ => none

def fitsRoom (need bytes : Nat) : Bool := decide ((need + need / 2 + 512) * bytes ≤ 281474976710656) && decide (need ≤ 4611686018427387904)

/-- The elements that are appended, or copied. -/
def srcOf (H : AH) (n : Nat) (x : AV) : Option (List AV) :=
  match x with
  | .str b => if n = 1 then some (b.map fun c => .int .u8 c.toNat) else none
  | x => elemsK H n x some

def listType (S : Sys) (t : Option TypeId) : Bool :=
  match t with
  | some t => match S.T t with
    | some i => match i.k with | .slice _ | .string => true | _ => false
    | none => false
  | none => false

def appendK (S : Sys) (H : AH) (ts : Array TypeId) (s x : AV) (K : AV → AH → Option R) : Option R :=
  match ts[0]? with
  | none => none
  | some t => match S.T t with
    | none => none
    | some i => match i.k with
      | .slice e => match S.T e with
        | none => none
        | some j =>
          match srcOf H j.size x with
          | none => none
          | some ys =>
            if j.zero.cells.length = j.size ∧ j.size ≠ 0 ∧ listType S ts[1]? = true then
              match s with
              | .nils => if ys.length = 0 then K .nils H
                else if fitsRoom ys.length j.bytes then
                  (if S.objT e then newK H (.cells (flat ys)) fun id H => K (.sl id 0 ys.length none j.size j.isAgg) H
                   else K (.inl true (.tok H.toks.length 0) j.size (detokL ys)) { H with toks := H.toks ++ [(0, j.size)] })
                else none
              | .inl f p sz xs =>
                if ys.length = 0 then K (.inl f p sz xs) H
                else if fitsRoom (xs.length + ys.length) j.bytes = true ∧ sz = j.size then
                  match p with
                  | .zero => K (.inl true (.tok H.toks.length 0) j.size (xs ++ detokL ys)) { H with toks := H.toks ++ [(0, j.size)] }
                  | .tok t g => if H.toks[t]? = some (g, j.size) then K (.inl f (.tok t (g + 1)) j.size (xs ++ detokL ys)) { H with toks := H.toks.set t (g + 1, j.size) } else none
                  | .unk => none
                else none
              | .sl id off len cap sz ag =>
                if ys.length = 0 then K (.sl id off len cap sz ag) H
                else if sz ≠ j.size then none else match cap with
                  | none => none
                  | some c =>
                    match H.objs[id]? with
                    | some (.cells cs) =>
                      if len + ys.length ≤ c then
                        (if off + (len + ys.length) * j.size ≤ cs.length then
                          K (.sl id off (len + ys.length) cap sz ag) { H with objs := H.objs.set id (.cells (splice cs (off + len * j.size) (flat ys))) }
                         else none)
                      else if fitsRoom (len + ys.length) j.bytes = true ∧ off + len * j.size ≤ cs.length then
                        newK H (.cells ((cs.drop off).take (len * j.size) ++ flat ys)) fun id H => K (.sl id 0 (len + ys.length) none j.size j.isAgg) H
                      else none
                    | _ => none
              | _ => none
            else none
      | _ => none

def copyK (S : Sys) (H : AH) (ts : Array TypeId) (d x : AV) (K : AV → AH → Option R) : Option R :=
  match ts[0]? with
  | none => none
  | some t => match S.T t with
    | none => none
    | some i => match i.k with
      | .slice e => match S.T e with
        | none => none
        | some j =>
          match srcOf H j.size x with
          | none => none
          | some ys =>
            if j.size = 0 then none else (
              match d with
              | .nils => K (.int .i64 0) H
              | .inl _ _ _ xs => if min ys.length xs.length = 0 then K (.int .i64 0) H else none
              | .sl id off len _ sz _ =>
                match H.objs[id]? with
                | some (.cells cs) =>
                  if off + len * j.size ≤ cs.length ∧ sz = j.size then
                    K (.int .i64 (min ys.length len : Nat)) { H with objs := H.objs.set id (.cells (splice cs off (flat (ys.take (min ys.length len))))) }
                  else none
                | _ => none
              | _ => none)
      | _ => none

def lenK (S : Sys) (H : AH) (ts : Array TypeId) (x : AV) (K : AV → Option R) : Option R :=
  match ts[0]? with
  | none => none
  | some t => match S.T t with
    | none => none
    | some i => match i.k, x with
      | .string, .str s => K (.int .i64 s.length)
      | .array n _, _ => K (.int .i64 n)
      | .slice _, .nils => K (.int .i64 0)
      | .slice _, .inl _ _ _ xs => K (.int .i64 xs.length)
      | .slice _, .sl _ _ len _ _ _ => K (.int .i64 len)
      | .map _ _, .nilmap => K (.int .i64 0)
      | .map _ _, .map id => match H.objs[id]? with
        | some (.map es) => K (.int .i64 es.length)
        | _ => none
      | _, _ => none

/-- Types of keys. -/
def keyable (q : TI) : Bool := match q.k with | .bool | .int _ | .string => true | .struct _ | .array _ _ => q.cmp | _ => false

/-- Is a map's key that one? Numbers, bools, texts, and structs of such. -/
def keyEq : AV → AV → Option Bool
  | .int k a, .int k' b => if k = k' then some (a == b) else none
  | .bool a, .bool b => some (a == b)
  | .str a, .str b => some (a == b)
  | _, _ => none

def findK (T : TypeId → Option TI) (t : TypeId) (k : AV) : List (AV × AV) → Nat → Option (Option (Nat × AV))
  | [], _ => some none
  | e :: es, n =>
    match eqv T eqDepth t k e.1 with
    | some true => some (some (n, e.2))
    | some false => findK T t k es (n + 1)
    | none => none

def lookupK (S : Sys) (H : AH) (i : TI) (x ix : AV) (ok : Bool) (K : AV → Option R) : Option R :=
  match i.k with
  | .map kt et => match S.T et, S.T kt with
    | some j, some q =>
      if keyable q then
        if (eqv S.T eqDepth kt ix ix).isSome = false then none else match x with
        | .nilmap => K (if ok then .tuple [j.zero, .bool false] else j.zero)
        | .map id => match H.objs[id]? with
          | some (.map es) => match findK S.T kt ix es 0 with
            | some (some (_, v)) => K (if ok then .tuple [v, .bool true] else v)
            | some none => K (if ok then .tuple [j.zero, .bool false] else j.zero)
            | none => none
          | _ => none
        | _ => none
      else none
    | _, _ => none
  | _ => none

def sameS : AV → AV → Bool
  | .int k a, .int k' b => decide (k = k') && a == b
  | .bool a, .bool b => a == b
  | .str a, .str b => a == b
  | _, _ => false

def sameL : List AV → List AV → Bool
  | [], [] => true
  | a :: x, b :: y => sameS a b && sameL x y
  | _, _ => false

/-- The very same key. -/
def sameA : AV → AV → Bool
  | .agg xs, .agg ys => sameL xs ys
  | x, y => sameS x y

def mapUpdateK (S : Sys) (H : AH) (i : TI) (m k v : AV) (K : AH → Option R) : Option R :=
  match i.k with
  | .map kt _ => match S.T kt with
    | some q =>
      if keyable q then
        if (eqv S.T eqDepth kt k k).isSome = false then none else match m with
        | .map id => match H.objs[id]? with
          | some (.map es) => match findK S.T kt k es 0 with
            | some (some (n, _)) => match es[n]? with
              | some e => if sameA e.1 k then K { H with objs := H.objs.set id (.map (es.set n (e.1, v))) } else none
              | none => none
            | some none => K { H with objs := H.objs.set id (.map (es ++ [(k, v)])) }
            | none => none
          | _ => none
        | _ => none
      else none
    | _ => none
  | _ => none

/-- The bytes that a list of numbers is. -/
def bytesOf : List AV → Option (List UInt8)
  | [] => some []
  | v :: r => match v, bytesOf r with
    | .int .u8 n, some bs => some (UInt8.ofNat n.toNat :: bs)
    | _, _ => none

/-- A list of bytes made a text. -/
def textK (i j : TI) (T : TypeId → Option TI) (v : AV) (K : AV → Option R) : Option R :=
  match i.k, j.k with
  | .slice e, .string => match T e with
    | some q => match q.k with
      | .int .u8 => match v with
        | .nils => K (.str [])
        | .inl _ _ sz xs => if sz = 1 then (match bytesOf xs with | some b => K (.str b) | none => none) else none
        | _ => none
      | _ => none
    | none => none
  | _, _ => none

def rangeStrK (H : AH) (i : TI) (v : AV) (K : AV → AH → Option R) : Option R :=
  match i.k, v with
  | .string, .str s => newK H (.siter s 0) fun id H => K (.ptr id 0) H
  | _, _ => none

def stepRune (s : List UInt8) (pos : Nat) : Nat × Nat := Utf8.decode ⟨s.toArray⟩ pos

def nextK (H : AH) (v : AV) (isString : Bool) (K : AV → AH → Option R) : Option R :=
  match isString, v with
  | true, .ptr id 0 => match H.objs[id]? with
    | some (.siter s pos) =>
      if pos < s.length then K (.tuple [.bool true, .int .i64 pos, .int .i32 (stepRune s pos).1]) { H with objs := H.objs.set id (.siter s (pos + (stepRune s pos).2)) }
      else K (.tuple [.bool false]) H
    | _ => none
  | _, _ => none

end Go.Sx

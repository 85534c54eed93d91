/- THE ENGINE, 4: one operation, a region, code, a function, a program; with fuel, and without. Definitions alone. -/
import Derived.Test.YtoagnbpmoihojaaDoorSxOps
namespace Go.Sx
variable {R : Type}

/-- A test. -/
def br (b : Bool) (f g : Unit → Option R) : Option R := match b with | true => f () | false => g ()

/-- What a call of a function does, and what a call of a loop's yield does. -/
structure Caller where
  fn : FuncId → List AV → AH → Option (AV × AH)
  yield : Nat → List AV → AH → Option (AV × AH)
instance : CoeFun Caller (fun _ => FuncId → List AV → AH → Option (AV × AH)) := ⟨Caller.fn⟩

def optK {A : Type} (o : Option A) (f : A → Option R) : Option R := match o with | some a => f a | none => none

def putD (dst : Option Nat) (s : List AV) (v : AV) : List AV := match dst with | some d => s.set d v | none => s

def minmaxK (isMax : Bool) : AV → List AV → (AV → Option R) → Option R
  | .int k a, [], K => K (.int k a)
  | .int k a, .int _ b :: r, K => minmaxK isMax (.int k (if isMax then (if b > a then b else a) else (if b < a then b else a))) r K
  | _, _, _ => none

def builtinK (S : Sys) (H : AH) (b : Builtin) (ts : Array TypeId) (xs : List AV) (K : AV → AH → Option R) : Option R :=
  match b, xs with
  | .len, [x] => lenK S H ts x fun v => K v H
  | .append, [s, x] => appendK S H ts s x K
  | .copy, [d, x] => copyK S H ts d x K
  | .max, x :: r => minmaxK true x r fun v => K v H
  | .min, x :: r => minmaxK false x r fun v => K v H
  | _, _ => none

def callFn (call : Caller) (f : AV) (args : List AV) (H : AH) (K : AV → AH → Option R) : Option R :=
  match f with
  | .func (.func f) first caps => optK (call f ((first ++ args) ++ caps) H) fun p => K p.1 p.2
  | .func (.yield id) [] [] => optK (call.yield id args H) fun p => K p.1 p.2
  | _ => none

def convK (S : Sys) (H : AH) (a b : TypeId) (v : AV) (K : AV → AH → Option R) : Option R :=
  match S.T a, S.T b with
  | some i, some j => (match v with
    | .int _ n => (match j.k with
      | .int k => K (.int k (k.wrap n)) H
      | _ => none)
    | .str b => (match i.k, j.k with
      | .string, .string => K (.str b) H
      | _, _ => none)
    | v => textK i j S.T v fun v => K v H)
  | _, _ => none

def opK (S : Sys) (call : Caller) (s : List AV) (H : AH) (o : Oper) (K : AV → AH → Option R) : Option R :=
  let e := ev S.G s
  let ty (t : TypeId) (k : TI → Option R) : Option R := match S.T t with | some i => k i | none => none
  match o.op with
  | .move x | .assign x => K (e x) H
  | .pick c a b => match e c with
    | .bool t => br t (fun _ => K (e a) H) (fun _ => K (e b) H)
    | _ => none
  | .alloc t => ty t fun i => if i.zero.cells.length = i.size then newK H (.cells i.zero.cells) fun id H => K (.ptr id 0) H else none
  | .box _ x => if (e x).solid then newK H (.cells (e x).cells) fun id H => K (.ptr id 0) H else none
  | .build t ps => ty t fun i => if (ps.toList.map fun p => (p.1, e p.2)).all fun p => p.2.solid then buildK i S.T (ps.toList.map fun p => (p.1, e p.2)) fun v => K v H else none
  | .buildSlice t n ps => ty t fun i => buildSliceK S H i n (ps.toList.map fun p => (p.1, e p.2)) K
  | .load t a => ty t fun i => loadK H i (e a) fun v => K v H
  | .store t a x => ty t fun i => if (e x).solid then storeK H i (e a) (e x) fun H => K .top H else none
  | .nilCheck x => match e x with
    | .ptr id off => K (.ptr id off) H
    | .rop v => K (.rop v) H
    | _ => none
  | .binOp op t x y _ => binK S.T op t (e x) (e y) fun v => K v H
  | .unOp op _ x => unK op (e x) fun v => K v H
  | .convert a b x => convK S H a b (e x) K
  | .range t x => ty t fun i => rangeStrK H i (e x) K
  | .next x isS => nextK H (e x) isS K
  | .makeInterface t x => ty t fun i => match i.k with
    | .iface => none
    | _ => K (.iface t (e x)) H
  | .makeFunc fn a b => match fn with
    | .func f => K (.func (.func f) (a.toList.map e) (b.toList.map e)) H
    | _ => none
  | .makeMap _ none => newK H (.map []) fun id H => K (.map id) H
  | .makeSlice t l c => ty t fun i => makeSliceK S H i (e l) (e c) K
  | .slice t x lo hi mx => ty t fun i => sliceK i S.T (e x) (lo.map e) (hi.map e) (mx.map e) fun v => K v H
  | .fieldAddr t x f => ty t fun i => fieldAddrK i S.T (e x) f fun v => K v H
  | .field t x f => ty t fun i => fieldK i S.T (e x) f fun v => K v H
  | .indexAddr t x ix => ty t fun i => indexAddrK i S.T (e x) (e ix) fun v => K v H
  | .index t x ix => ty t fun i => indexK i S.T (e x) (e ix) fun v => K v H
  | .lookup t x ix ok => ty t fun i => lookupK S H i (e x) (e ix) ok fun v => K v H
  | .mapUpdate t m k x | .insert t m k x => ty t fun i => mapUpdateK S H i (e m) (e k) (e x) fun H => K .top H
  | .extract x ix => match e x with
    | .tuple vs => match vs[ix]? with
      | some v => K v H
      | none => none
    | _ => none
  | .call c => match c.callee with
    | .value f => callFn call (e f) (c.args.toList.map e) H K
    | .builtin b => builtinK S H b c.argTypes (c.args.toList.map e) K
    | .invoke _ _ => none
  | _ => none

/-- The operations of a region, in the order of the text. -/
def opsK (S : Sys) (call : Caller) (all : Array Oper) : List Oper → List AV → AH → (List AV → AH → Option R) → Option R
  | [], s, H, K => K s H
  | o :: r, s, H, K =>
    match o.guard with
    | none => opK S call s H o fun v H => opsK S call all r (putD o.dst s v) H K
    | some (j, want) =>
      match (all[j]?).bind (·.dst) with
      | none => none
      | some d => match s[d]? with
        | some (.bool t) => br t
          (fun _ => if want then opK S call (s.set d (.bool true)) H o fun v H => opsK S call all r (putD o.dst (s.set d (.bool true)) v) H K
            else opsK S call all r (putD o.dst (s.set d (.bool true)) (.tuple [])) H K)
          (fun _ => if want then opsK S call all r (putD o.dst (s.set d (.bool false)) (.tuple [])) H K
            else opK S call (s.set d (.bool false)) H o fun v H => opsK S call all r (putD o.dst (s.set d (.bool false)) v) H K)
        | some (.tuple []) => opsK S call all r (putD o.dst s (.tuple [])) H K
        | _ => none

inductive Ex where
  | normal
  | exit (id : Nat)
  | ret

abbrev Out := Ex × List AV × AH
abbrev Looper := (List AV → AH → Option Out) → List AV → AH → Option Out

/-- Does an operation ask, or change, the objects? -/
def touches (o : Oper) : Bool :=
  match o.op with
  | .load _ _ | .lookup _ _ _ _ => true
  | .alloc _ | .box _ _ | .store _ _ _ | .makeMap _ _ | .makeSlice _ _ _ | .mapUpdate _ _ _ _ | .insert _ _ _ _ | .buildSlice _ _ _ | .range _ _ | .next _ _ => true
  | .call c => match c.callee with
    | .builtin .max | .builtin .min => false
    | _ => true
  | _ => false
def changes (S : Sys) (o : Oper) : Bool :=
  match o.op with
  | .alloc _ | .box _ _ | .store _ _ _ | .makeMap _ _ | .makeSlice _ _ _ | .mapUpdate _ _ _ _ | .insert _ _ _ _ | .range _ _ | .next _ _ => true
  | .buildSlice t _ _ => match S.T t with
    | some i => match i.k with | .slice e => S.objT e | _ => true
    | none => true
  | .call c => match c.callee with
    | .builtin .max | .builtin .min | .builtin .len => false
    | .value (.func f) => !S.isPure f
    | _ => true
  | _ => false

def usesT (ops : Array Oper) (o : Oper) : List Nat :=
  (o.op.operands.toList.filterMap fun | .tmp t => some t | _ => none) ++ (match o.guard with | some (j, _) => ((ops[j]?).bind (·.dst)).toList | none => [])

/-- Two operations whose order tells: they must be ordered by the region's edges. -/
def clash (S : Sys) (ops : Array Oper) (a b : Oper) : Bool :=
  (touches a && changes S b) || (changes S a && touches b) ||
  (match a.dst with | some d => (usesT ops b).contains d || b.dst == some d | none => false) ||
  (match b.dst with | some d => (usesT ops a).contains d | none => false)

/-- A number, worked out before it is handed on. -/
def force {A : Type} (n : Nat) (k : Nat → A) : A := match n with | 0 => k 0 | m + 1 => k (m + 1)

/-- The operations that must stand before one: bits. -/
def maskOf (acc : List Nat) : List Edge → Nat
  | [] => 0
  | e :: r => if Region.binds .any e then (2 ^ e.on ||| acc.getD e.on 0) ||| maskOf acc r else maskOf acc r

/-- The order in which the operations are done does not tell. done: those before, with their masks; the last first. -/
def drawGo (cl : Oper → Oper → Bool) : List Oper → Nat → List Oper → List Nat → Bool
  | [], _, _, _ => true
  | o :: r, n, seen, acc => force (maskOf acc o.after.toList) fun m =>
    (o.after.toList.all fun e => !Region.binds .any e || decide (e.on < n)) &&
    (match o.guard with | some (j, _) => m.testBit j | none => true) &&
    ((List.range n).all fun i => m.testBit i || (match seen[i]? with | some a => !cl a o | none => false)) && drawGo cl r (n + 1) (seen ++ [o]) (acc ++ [m])

def drawOK (S : Sys) (ops : Array Oper) : Bool := drawGo (clash S ops) ops.toList 0 [] []

/-! Regions whose order is drawn, with objects that are made in no certain order: their numbers are given ahead. -/
def birthsOf : List Oper → List Nat
  | [] => []
  | o :: r => match o.op, o.dst with
    | .alloc _, some d => d :: birthsOf r
    | _, _ => birthsOf r

def bornId : Nat → List Nat → Nat → Option Nat
  | _, [], _ => none
  | n, e :: r, d => match Nat.beq e d with | true => some n | false => bornId (n + 1) r d

def bornAt (bi : Nat → Option Nat) (o : Oper) : Option (TypeId × Nat) := match o.op, o.dst with
  | .alloc t, some d => match bi d with | some id => some (t, id) | none => none
  | _, _ => none

def birthK (S : Sys) (H : AH) (t : TypeId) (id : Nat) : Option (AV × AH) :=
  match S.T t with
  | some i => if i.zero.cells.length = i.size then (match H.objs[id]? with
    | some (.dead false) => some (.ptr id 0, { H with objs := H.objs.set id (.cells i.zero.cells) })
    | _ => none) else none
  | none => none

def opB (bi : Nat → Option Nat) (S : Sys) (call : Caller) (s : List AV) (H : AH) (o : Oper) : Option (AV × AH) := match bornAt bi o with
  | some p => birthK S H p.1 p.2
  | none => opK S call s H o fun v H => some (v, H)

/-- Is it done? -/
def wantD (all : Array Oper) (o : Oper) (s : List AV) : Option Bool :=
  match o.guard with
  | none => some true
  | some (j, want) => match (all[j]?).bind (·.dst) with
    | none => none
    | some d => match s[d]? with
      | some (.bool t) => some (t == want)
      | some (.tuple []) => some false
      | _ => none

def stepB (bi : Nat → Option Nat) (S : Sys) (call : Caller) (all : Array Oper) (o : Oper) (s : List AV) (H : AH) : Option (List AV × AH) :=
  match wantD all o s with
  | some true => optK (opB bi S call s H o) fun p => some (putD o.dst s p.1, p.2)
  | some false => some (putD o.dst s (.tuple []), H)
  | none => none

def runB (bi : Nat → Option Nat) (S : Sys) (call : Caller) (all : Array Oper) : List Oper → List AV → AH → Option (List AV × AH)
  | [], s, H => some (s, H)
  | o :: r, s, H => optK (stepB bi S call all o s H) fun p => runB bi S call all r p.1 p.2

def reserve (H : AH) (n : Nat) : AH := { H with objs := H.objs ++ List.replicate n (.dead false) }

/-- It asks of no object that is not there. -/
def mild (S : Sys) (o : Oper) : Bool := !touches o || (match o.op with
  | .load _ _ => true
  | .call c => match c.callee with
    | .value (.func f) => S.isPure f
    | _ => false
  | _ => false)

def isBirth (bi : Nat → Option Nat) (o : Oper) : Bool := (bornAt bi o).isSome

def slotsClash (ops : Array Oper) (a b : Oper) : Bool :=
  (match a.dst with | some d => (usesT ops b).contains d || b.dst == some d | none => false) ||
  (match b.dst with | some d => (usesT ops a).contains d | none => false)

def clashB (bi : Nat → Option Nat) (S : Sys) (ops : Array Oper) (a b : Oper) : Bool :=
  match isBirth bi b, isBirth bi a with
  | true, true => slotsClash ops a b
  | true, false => !mild S a || slotsClash ops a b
  | false, true => touches b || slotsClash ops a b
  | false, false => clash S ops a b

def drawOK2 (S : Sys) (ops : Array Oper) : Bool := drawGo (clashB (bornId 0 (birthsOf ops.toList)) S ops) ops.toList 0 [] []

def resetL : List AV → List AV → List AV
  | .top :: r, _ :: s => .top :: resetL r s
  | _ :: r, v :: s => v :: resetL r s
  | _, s => s

/-- What a round leaves: temporaries that were not there at its head, and objects that nothing refers to, are forgotten. -/
def back (room : Nat) (s : List AV) (H : AH) (s' : List AV) (H' : AH) : List AV × AH :=
  if Nat.ble 2 room && (Nat.ble H'.objs.length (H.objs.length + room) && Nat.ble H'.toks.length (H.toks.length + room)) then (s', H') else
  let s2 := resetL s s'
  if Nat.beq room 1 then (s2, H') else
  if H'.objs.length = H.objs.length && H'.toks.length = H.toks.length then (s2, H')
  else if belowL H.objs.length H.toks.length s2 && belowO H.objs.length H.toks.length (H'.objs.take H.objs.length) then (s2, ⟨H'.objs.take H.objs.length, H'.toks.take H.toks.length⟩)
  else (s2, H')

/-- What is left of the temporaries behind a loop. -/
def outS (room : Nat) (s s' : List AV) : List AV := match Nat.ble 2 room with | true => s' | false => resetL s s'

def iter (room : Nat) (body : List AV → AH → Option Out) : Nat → List AV → AH → Option Out
  | 0, _, _ => none
  | n + 1, s, H => match body s H with
    | some (.normal, s', H') => iter room body n (back room s H s' H').1 (back room s H s' H').2
    | some (e, s', H') => some (e, outS room s s', H')
    | none => none

def retO : Ex → List AV → AH → Option Out := fun e s H => some (e, s, H)

/-- A loop is over. -/
def leaveK (id : Nat) (s : List AV) (H : AH) (K : Ex → List AV → AH → Option R) : Option R :=
  match H.objs[id]? with
  | some (.loop _ _ _ _ st) => match st with
    | .ready => K .normal s { H with objs := H.objs.set id (.dead true) }
    | .left none => K .ret s { H with objs := H.objs.set id (.dead true) }
    | .left (some i) => K (.exit i) s { H with objs := H.objs.set id (.dead true) }
    | .busy => none
  | _ => none

/-- A loop over a function. -/
def rangeK (call : Caller) (f : AV) (s : List AV) (H : AH) (ps : List Nat) (x y : Code) (K : Ex → List AV → AH → Option R) : Option R :=
  match f with
  | .func (.func f) first caps => optK (call f ((first ++ [.func (.yield H.objs.length) [] []]) ++ caps) { H with objs := H.objs ++ [.loop s ps x y .ready] }) fun p => leaveK H.objs.length s p.2 K
  | _ => none

def denK (S : Sys) (call : Caller) (lp : Looper) : {R : Type} → Code → List AV → AH → (Ex → List AV → AH → Option R) → Option R
  | _, .skip, s, H, K => K .normal s H
  | _, .region _ ops draw, s, H, K =>
    if draw && !drawOK S ops then
      (if drawOK2 S ops then optK (runB (bornId H.objs.length (birthsOf ops.toList)) S call ops ops.toList s (reserve H (birthsOf ops.toList).length)) fun p => K .normal p.1 p.2 else none)
    else opsK S call ops ops.toList s H fun s H => K .normal s H
  | _, .seq a b, s, H, K => denK S call lp a s H fun e s H => match e with
    | .normal => denK S call lp b s H K
    | e => K e s H
  | _, .cond c a b, s, H, K => match ev S.G s c with
    | .bool t => br t (fun _ => denK S call lp a s H K) (fun _ => denK S call lp b s H K)
    | _ => none
  | _, .block id c, s, H, K => denK S call lp c s H fun e s H => match e with
    | .exit i => if i = id then K .normal s H else K (.exit i) s H
    | e => K e s H
  | _, .loop c, s, H, K => optK (lp (fun s H => denK S call lp c s H retO) s H) fun o => K o.1 o.2.1 o.2.2
  | _, .scope c, s, H, K => denK S call lp c s H K
  | _, .exit id, s, H, K => K (.exit id) s H
  | _, .ret, s, H, K => K .ret s H
  | _, .label _, s, H, K => K .normal s H
  | _, .rangeFunc g ps x y, s, H, K => rangeK call (ev S.G s g) s H ps.toList x y K
  | _, _, _, _, _ => none

/-- No loop over a function within. -/
def plainC : Code → Bool
  | .seq a b => plainC a && plainC b
  | .cond _ a b => plainC a && plainC b
  | .block _ c => plainC c
  | .loop c => plainC c
  | .scope c => plainC c
  | .rangeFunc _ _ _ _ => false
  | _ => true

def oneResult (S : Sys) (s : List AV) (H : AH) (r : ResultVar) (K : AV → Option R) : Option R :=
  match r with
  | .tmp t => K (s.getD t .top)
  | .cell a t => match S.T t with
    | some i => loadK H i (s.getD a .top) K
    | none => none

def resultsK (S : Sys) (s : List AV) (H : AH) : List ResultVar → List AV → (List AV → Option R) → Option R
  | [], acc, K => K acc
  | r :: rest, acc, K => oneResult S s H r fun v => resultsK S s H rest (acc ++ [v]) K

def bundle : List AV → AV
  | [v] => v
  | vs => .tuple vs

def runK (S : Sys) (call : Caller) (lp : Looper) (fn : Func) (args : List AV) (H : AH) : Option (AV × AH) :=
  match fn.body with
  | none => none
  | some c => denK S call lp c (args ++ List.replicate (fn.ntmps - args.length) .top) H fun e s H => match e with
    | .exit _ => none
    | _ => resultsK S s H fn.results.toList [] fun vs => some (bundle vs, H)

/-- What a function that is called with trees gives back. -/
def pureOut (args : List AV) (v : AV) : Option AV :=
  if below 0 0 (detok v) && (belowL 0 0 args || isNew v) then some (detok v) else none

def trunc (H : AH) (p : AV × AH) : AV × AH :=
  if p.2.objs.length = H.objs.length && p.2.toks.length = H.toks.length then p
  else if below H.objs.length H.toks.length p.1 && belowO H.objs.length H.toks.length (p.2.objs.take H.objs.length) then (p.1, ⟨p.2.objs.take H.objs.length, p.2.toks.take H.toks.length⟩)
  else p

def enterF (S : Sys) (call : Caller) (lp : Looper) (f : FuncId) (args : List AV) (H : AH) : Option (AV × AH) :=
  match S.ext f with
  | some g => optK (resolveL H args) fun ts => optK (g ts) fun v => optK (pureOut args v) fun v => some (v, H)
  | none => match S.F f with
    | none => none
    | some fn =>
      if S.isPure f then optK (resolveL H args) fun ts => optK (runK S call lp fn ts ⟨[], []⟩) fun p => optK (pureOut args p.1) fun v => some (v, H)
      else optK (runK S call lp fn args H) fun p => some (trunc H p)

def setLoop (H : AH) (id : Nat) (st : LSt) : Option AH :=
  match H.objs[id]? with
  | some (.loop s ps x y _) => some { H with objs := H.objs.set id (.loop s ps x y st) }
  | _ => none

def exLeft : Ex → LSt
  | .normal => .ready
  | .ret => .left none
  | .exit i => .left (some i)

def Ex.stays : Ex → Bool
  | .normal => true
  | _ => false

/-- A call of a loop's yield: a round. -/
def yieldF (S : Sys) (call : Caller) (lp : Looper) (id : Nat) (args : List AV) (H : AH) : Option (AV × AH) :=
  match H.objs[id]? with
  | some (.loop s ps x y .ready) =>
    if args.length = ps.length ∧ plainC x = true ∧ plainC y = true then
      denK S call lp x ((ps.zip args).foldl (fun s p => s.set p.1 p.2) s) H fun e s1 H1 => match e with
        | .normal => match H1.objs[id]? with
          | some (.loop s' ps' x' y' .ready) => denK S call lp y s1 { H1 with objs := H1.objs.set id (.loop s' ps' x' y' .busy) } fun e _ H2 =>
              optK (setLoop H2 id (exLeft e)) fun H3 => some (trunc H (.bool e.stays, H3))
          | _ => none
        | _ => none
    else none
  | _ => none

def callF (S : Sys) : Nat → Caller
  | 0 => ⟨fun _ _ _ => none, fun _ _ _ => none⟩
  | n + 1 => ⟨enterF S (callF S n) (fun b => iter S.room b n), yieldF S (callF S n) (fun b => iter S.room b n)⟩

open Classical in
/-- The answer that some fuel gives. -/
noncomputable def lim {A : Type} (g : Nat → Option A) : Option A := if h : ∃ n, (g n).isSome = true then g h.choose else none

noncomputable def loopD (room : Nat) : Looper := fun b s H => lim fun n => iter room b n s H
noncomputable def callD (S : Sys) : Caller := ⟨fun f args H => lim fun n => callF S n f args H, fun id args H => lim fun n => (callF S n).yield id args H⟩

end Go.Sx

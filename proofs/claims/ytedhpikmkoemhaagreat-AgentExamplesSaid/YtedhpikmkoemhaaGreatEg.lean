/- THE ENGINE, 29: tables of a program's types and functions, and their check. -/
import Derived.Test.YtedhpikmkoemhaaGreatEf
import Derived.ProofKit
import Derived.Lib.SplitLaws
import Derived.Lib.Split
import Derived.Lib.Join
import Derived.Lib.ItoaNum
set_option linter.unusedSimpArgs false
set_option linter.unusedVariables false
namespace Go.Sx

inductive Tr (A : Type) where
  | nil
  | node (k : Nat) (v : A) (l r : Tr A)

def Tr.get {A : Type} : Tr A → Nat → Option A
  | .nil, _ => none
  | .node k v l r, n => match Nat.beq n k with
    | true => some v
    | false => match Nat.ble n k with
      | true => l.get n
      | false => r.get n

def Tr.AllP {A : Type} (p : Nat → A → Prop) : Tr A → Prop
  | .nil => True
  | .node k v l r => p k v ∧ l.AllP p ∧ r.AllP p

def Tr.all {A : Type} (p : Nat → A → Bool) : Tr A → Bool
  | .nil => true
  | .node k v l r => p k v && (l.all p && r.all p)

theorem Tr.get_allP {A : Type} {p : Nat → A → Prop} : ∀ (t : Tr A), t.AllP p → ∀ n v, t.get n = some v → p n v
  | .nil, _, n, v, h => by simp [Tr.get] at h
  | .node k v l r, ha, n, u, h => by
    simp only [Tr.get] at h
    split at h
    · rename_i hk
      have := Nat.eq_of_beq_eq_true hk
      subst this
      obtain rfl := Option.some.inj h
      exact ha.1
    · split at h
      · exact Tr.get_allP l ha.2.1 n u h
      · exact Tr.get_allP r ha.2.2 n u h

theorem Tr.all_allP {A : Type} {p : Nat → A → Bool} : ∀ (t : Tr A), t.all p = true → t.AllP fun n v => p n v = true
  | .nil, _ => trivial
  | .node k v l r, h => by
    simp only [Tr.all, Bool.and_eq_true] at h
    exact ⟨h.1, Tr.all_allP l h.2.1, Tr.all_allP r h.2.2⟩

/-- Zero values, the same. -/
def sameZ : AV → AV → Bool
  | .bool a, .bool b => a == b
  | .int k a, .int k' b => decide (k = k') && a == b
  | .str a, .str b => a == b
  | .nilptr, .nilptr => true
  | .nils, .nils => true
  | .nilmap, .nilmap => true
  | .nilfunc, .nilfunc => true
  | .niliface, .niliface => true
  | _, _ => false

def sameZL : List AV → List AV → Bool
  | [], [] => true
  | a :: x, b :: y => sameZ a b && sameZL x y
  | _, _ => false

def sameZero : AV → AV → Bool
  | .agg x, .agg y => sameZL x y
  | x, y => sameZ x y

theorem sameZ_eq {a b : AV} (h : sameZ a b = true) : a = b := by
  cases a <;> cases b <;> simp_all [sameZ]

theorem sameZL_eq : ∀ {x y : List AV}, sameZL x y = true → x = y
  | [], [], _ => rfl
  | a :: x, b :: y, h => by
    simp only [sameZL, Bool.and_eq_true] at h
    rw [sameZ_eq h.1, sameZL_eq h.2]
  | [], _ :: _, h => by simp [sameZL] at h
  | _ :: _, [], h => by simp [sameZL] at h

theorem sameZero_eq {a b : AV} (h : sameZero a b = true) : a = b := by
  unfold sameZero at h
  split at h
  · rw [sameZL_eq h]
  · exact sameZ_eq h

def sameFs : List (Nat × TypeId) → List Field → Bool
  | [], [] => true
  | a :: x, b :: y => Nat.beq a.1 b.offset && (Nat.beq a.2 b.type && sameFs x y)
  | _, _ => false

theorem sameFs_eq : ∀ {x : List (Nat × TypeId)} {y : List Field}, sameFs x y = true → (y.map fun f => (f.offset, f.type)) = x
  | [], [], _ => rfl
  | a :: x, b :: y, h => by
    simp only [sameFs, Bool.and_eq_true] at h
    have h1 := Nat.eq_of_beq_eq_true h.1
    have h2 := Nat.eq_of_beq_eq_true h.2.1
    rw [List.map_cons, sameFs_eq h.2.2, ← h1, ← h2]
  | [], _ :: _, h => by simp [sameFs] at h
  | _ :: _, [], h => by simp [sameFs] at h

def kindB (P : Program) (t : TypeId) (k : TK) : Bool :=
  match P.underlying t with
  | some d => match k, d with
    | .bool, .bool => true
    | .int k, .int k' => decide (k = k')
    | .string, .string => true
    | .ptr, .pointer _ => true
    | .func, .func _ _ _ => true
    | .iface, .interface _ => true
    | .struct fs, .struct fields => sameFs fs fields.toList && fields.toList.all (fun f => f.name != "_") && fields.toList.all (fun f => (P.info? f.type).isSome)
    | .array n e, .array n' e' => Nat.beq n n' && Nat.beq e e'
    | .slice e, .slice e' => Nat.beq e e'
    | .map k e, .map k' e' => Nat.beq k k' && Nat.beq e e'
    | _, _ => false
  | none => false

theorem kindB_ok {P : Program} {t : TypeId} {k : TK} (h : kindB P t k = true) : kindOK P t k := by
  unfold kindB at h
  split at h
  · rename_i d hd
    split at h
    case h_1 => exact hd
    case h_2 => simp only [decide_eq_true_eq] at h; subst h; exact hd
    case h_3 => exact hd
    case h_4 => exact ⟨_, hd⟩
    case h_5 => exact ⟨_, _, _, hd⟩
    case h_6 => exact ⟨_, hd⟩
    case h_7 =>
      simp only [Bool.and_eq_true] at h
      exact ⟨_, hd, sameFs_eq h.1.1, h.1.2, h.2⟩
    case h_8 =>
      simp only [Bool.and_eq_true] at h
      obtain rfl := Nat.eq_of_beq_eq_true h.1
      obtain rfl := Nat.eq_of_beq_eq_true h.2
      exact hd
    case h_9 => obtain rfl := Nat.eq_of_beq_eq_true h; exact hd
    case h_10 =>
      simp only [Bool.and_eq_true] at h
      obtain rfl := Nat.eq_of_beq_eq_true h.1
      obtain rfl := Nat.eq_of_beq_eq_true h.2
      exact hd
    case h_11 => simp at h
  · simp at h

def AV.isAggV : AV → Bool
  | .agg _ => true
  | _ => false

def typeB (P : Program) (t : TypeId) (i : TI) : Bool :=
  (match P.info? t with
   | some x => Nat.beq x.size i.size && (Nat.beq x.bytes i.bytes && match x.zero with
     | some z => sameZero i.zero (ofValue z) && i.zero.solid
     | none => false)
   | none => false) &&
  kindB P t i.k && (!i.cmp || (!P.eqGuardType P.depth t && !P.stoodInHeld t)) && (i.isAgg == i.zero.isAggV) && (i.isAgg || Nat.beq i.size 1)

theorem typeB_ok {P : Program} {t : TypeId} {i : TI} (h : typeB P t i = true) : TypeOK P t i := by
  simp only [typeB, Bool.and_eq_true] at h
  obtain ⟨⟨⟨⟨h1, h2⟩, h3⟩, h4⟩, h5⟩ := h
  refine ⟨?_, kindB_ok h2, ?_, ?_, ?_⟩
  · split at h1
    · rename_i x hx
      simp only [Bool.and_eq_true] at h1
      obtain ⟨e1, e2, h1⟩ := h1
      split at h1
      · rename_i z hz
        simp only [Bool.and_eq_true] at h1
        exact ⟨x, z, hx, Nat.eq_of_beq_eq_true e1, Nat.eq_of_beq_eq_true e2, hz, sameZero_eq h1.1, h1.2⟩
      · simp at h1
    · simp at h1
  · intro hc
    rw [hc] at h3
    simpa using h3
  · have : i.isAgg = i.zero.isAggV := by simpa using h4
    rw [this]
    constructor
    · intro h
      cases hz : i.zero with
      | agg cs => exact ⟨cs, rfl⟩
      | _ => rw [hz] at h; simp [AV.isAggV] at h
    · rintro ⟨cs, hz⟩; rw [hz]; rfl
  · intro ha
    rw [ha] at h5
    exact Nat.eq_of_beq_eq_true (by simpa using h5)

/-- A program's abstract system: tables. -/
def tabS (types : Tr TI) (funcs : Tr Func) (globs : Tr AV) (pure : Tr Unit) (objs : Tr Unit) (ext : FuncId → Option (List AV → Option AV)) (room : Nat) (fixed : List (Nat × Array Value) := []) : Sys where
  T := types.get
  F := funcs.get
  G := fun n => (globs.get n).getD .top
  isPure := fun f => (pure.get f).isSome
  ext := ext
  objT := fun t => (objs.get t).isSome
  room := room
  fixed := fixed

def globB (v : AV) : Bool := match v with
  | .rop (.bool _) | .rop (.int _ _) | .rop (.str _) => true
  | _ => false

theorem tab_ok {P : Program} {types : Tr TI} {funcs : Tr Func} {globs : Tr AV} {pure objs : Tr Unit} {ext : FuncId → Option (List AV → Option AV)} {room : Nat} {fixed : List (Nat × Array Value)}
    (ht : types.all (typeB P) = true) (hf : funcs.AllP fun f fn => P.funcs[f]? = some fn ∧ fn.body.isSome = true ∧ fn.name ≠ "runtime.NumGoroutine") (hg : globs.AllP fun _ v => erase v = v ∧ below 0 0 v = true) : SysOK (tabS types funcs globs pure objs ext room fixed) P where
  type := fun t i h => typeB_ok (types.get_allP (types.all_allP ht) t i h)
  func := fun f fn h => funcs.get_allP hf f fn h
  glob := by
    intro n
    show erase ((globs.get n).getD .top) = (globs.get n).getD .top ∧ below 0 0 ((globs.get n).getD .top) = true
    cases h : globs.get n with
    | none => exact ⟨rfl, rfl⟩
    | some v => exact globs.get_allP hg n v h

end Go.Sx

/- THE ENGINE: methods found by the types' own rows. -/
set_option linter.unusedSimpArgs false
set_option linter.unusedVariables false
namespace Go.Sx

/-- A method of a type that is no pointer, found at once, called on the value. -/
def methB (P : Program) (t : TypeId) (n : String) (f : FuncId) : Bool :=
  match P.info? t, P.underlying t with
  | some i, some d => (match i.methods.find? (·.name == n) with
    | some m => m.path.toList.isEmpty && (match m.func with
      | some (g, false) => Nat.beq g f
      | _ => false)
    | none => false) && (match d with | .pointer _ => false | _ => true)
  | _, _ => false

theorem methB_ok {P : Program} {t : TypeId} {n : String} {f : FuncId} (h : methB P t n f = true) (v : Value) (w : World) : (method (P.types.size + Made.depth) t v n).run P w = .ok (f, v) w := by
  have h0 : 0 < Made.depth := by decide
  obtain ⟨k, hk⟩ : ∃ k, P.types.size + Made.depth = k + 1 := ⟨P.types.size + Made.depth - 1, by omega⟩
  rw [hk]
  unfold methB at h
  split at h
  · rename_i i d hi hd
    rw [Bool.and_eq_true] at h
    obtain ⟨h1, h2⟩ := h
    split at h1
    · rename_i m hm
      rw [Bool.and_eq_true] at h1
      obtain ⟨h3, h4⟩ := h1
      split at h4
      · rename_i g hg
        obtain rfl := Nat.eq_of_beq_eq_true h4
        have hp : m.path.toList = [] := by simpa using h3
        simp only [method, Sem.run_bind, run_info hi, Result.andThen_ok, hm, hp, follow, Sem.run_pure, hg, receiverAt, run_underlying hd]
        cases d <;> first | (simp at h2; done) | simp [Place.get]
      · simp at h4
    · simp at h1
  · simp at h

theorem withMeth {P : Program} {S : Sys} (hS : SysOK S P) {meth : TypeId → String → Option FuncId} (h : ∀ t n f, meth t n = some f → methB P t n f = true) : SysOK { S with meth := meth } P where
  type := hS.type
  func := hS.func
  glob := hS.glob
  meth := fun t n f hm v w => methB_ok (h t n f hm) v w
  dfn := hS.dfn
/-- Functions that defer a call, and what they defer. -/
theorem withDfn {P : Program} {S : Sys} (hS : SysOK S P) {d : FuncId → Option Func} (h : ∀ f fn, d f = some fn → P.funcs[f]? = some fn ∧ fn.body.isSome = true ∧ fn.name ≠ "runtime.NumGoroutine") : SysOK { S with dfn := d } P where
  type := hS.type
  func := hS.func
  glob := hS.glob
  meth := hS.meth
  dfn := h
end Go.Sx

/- THE ENGINE, 30: from a run of the engine to a row's words: a law that answers true and leaves its arguments as they were. -/
set_option linter.unusedSimpArgs false
set_option linter.unusedVariables false
namespace Go.Sx
open Go.ChangeShapes Go.WideShapes Go.ChangeAt Go.RowKit
variable {S : Sys} {P : Program}

/-- A world before a call: nothing is ours, and every cell is settled. -/
def GE.start (W : World) : GE := { w := W, nid := 0, ρ := fun _ => none, nt := 0, τ := fun _ _ => none, S := fun b o => (W.cell? ⟨b, o, none⟩).isSome = true, base := W.heap.size, low := ⟨0, [], false⟩ }

theorem start_owned (W : World) (b : Nat) : ¬ (GE.start W).owned b := by
  rintro (⟨id, hid, _⟩ | ⟨t, g, p, ht, _⟩)
  · exact absurd hid (Nat.not_lt_zero _)
  · exact absurd ht (Nat.not_lt_zero _)

theorem start_rel (W : World) (hg : ∀ n, VRel (GE.start W) (S.G n) (.pointer (some ⟨n, 0, none⟩))) (hx : ∀ p, p ∈ S.fixed → Fixed (GE.start W) p) : Rel S ⟨[], []⟩ (GE.start W) := by
  refine ⟨?_, hg, hx⟩
  constructor
  · rfl
  · rfl
  · intro id o h; simp at h
  · intro i j b o1 o2 h; simp at h
  · intro t g sz u p h; simp at h
  · intro t g sz u g' h; simp at h
  · intro t g p id b ht; exact absurd ht (Nat.not_lt_zero _)
  · intro t g p t' g' p' ht; exact absurd ht (Nat.not_lt_zero _)
  · intro t g p ht; exact absurd ht (Nat.not_lt_zero _)
  · intro b o h; exact h
  · intro b h; exact absurd h (start_owned W b)
  · exact Nat.le_refl _

theorem start_below {W : World} {E : GE} (h : (GE.start W).le E) : Below W.heap.size W E.w :=
  ⟨h.os, h.tape, h.output, h.size, fun k hk => h.block k hk (start_owned W k)⟩

/-- A run that answers true. -/
theorem calls_true (hS : SysOK S P) (hext : ExtOK S P) (hm : P.follows .mixedOrders = true) {n : Nat} {f : FuncId} {args : List AV} {H' : AH} (h : callF S n f args ⟨[], []⟩ = some (.bool true, H')) {W : World} (hg : ∀ n, VRel (GE.start W) (S.G n) (.pointer (some ⟨n, 0, none⟩))) (hfx : ∀ p, p ∈ S.fixed → Fixed (GE.start W) p) {xs : Array Value} (hx : VRelL (GE.start W) args xs) :
    Calls P f xs W fun e W' => e = .returned (.bool true) ∧ Below W.heap.size W W' := by
  obtain ⟨_, h2⟩ := (call_sound hS hext hm n).fn f args ⟨[], []⟩ (.bool true) H' h
  refine (h2 (GE.start W) xs (start_rel W hg hfx) hx).mono ?_
  rintro e W' ⟨x, E', rfl, rfl, h3, h4, h5⟩
  rw [rel_bool h5]
  exact ⟨rfl, start_below h3⟩

section
variable {H : Type} {enc : TypeId × Value → H}

theorem trodAll_stays (hl : laidOutB P = true) {W W' : World} (hb : Below W.heap.size W W') {sp : Nat → Bool} : ∀ {ts : List TypeId} {vs : List Value} {ds : List (DataW H)} {ps : List MemPlace}, DataW.TrodAll enc P W 0 (fun _ => true) true ts vs ds ps →
    (∀ t, t ∈ ts → P.readableRec t = true ∧ t < P.types.size) → (∀ p, p ∈ ps → p.block < W.heap.size) → (∀ p, p ∈ ps → sp p.block = true) → DataW.TrodAll enc P W' 0 sp true ts vs ds ps
  | [], vs, ds, ps, h, _, _, _ => by
    obtain ⟨rfl, rfl, rfl⟩ := trodAll_nil h
    rfl
  | t :: ts, vs, ds, ps, h, hr, hlt, hs => by
    obtain ⟨v, vs1, d, ds1, p, q, rfl, rfl, rfl, h1, h2⟩ := trodAll_cons h
    have e := hr t (List.mem_cons_self ..)
    refine ⟨p, q, Go.WideElems.Trod_stays hl e.1 e.2 h1 (fun x hx => hb.same (hlt x (List.mem_append_left _ hx))) (fun x hx => hs x (List.mem_append_left _ hx)), ?_, rfl⟩
    exact trodAll_stays hl hb h2 (fun t ht => hr t (List.mem_cons_of_mem _ ht)) (fun x hx => hlt x (List.mem_append_right _ hx)) (fun x hx => hs x (List.mem_append_right _ hx))

/-- The law's words, where the world has only grown. -/
theorem law_post {f : Func} {s : ChangeSpec} {apart : Bool} {W W' : World} {args : Array Value} {ds : List (DataW H)} {before : List MemPlace} {rt : TypeId}
    (hW : DataW.Whole enc P f.params.toList [] apart W args.toList ds [] before) (hl : laidOutB P = true) (hr : ∀ t, t ∈ f.params.toList → P.readableRec t = true ∧ t < P.types.size) (hb : Below W.heap.size W W')
    (hv : s.vars = []) (hs : s.fn H (ds ++ []) = { results := [.lit (.bool true)], args := ds }) (hres : f.resultTypes = #[rt]) (hrt : P.underlying rt = some .bool) :
    s.post enc P f apart true false false W args (.bool true) W' := by
  have hlt := hW.lt
  obtain ⟨p, q, hA, hV, rfl, hfz, hnd⟩ := hW
  have hq : q = [] := by
    have := trodVars_none hV
    exact this.2
  subst hq
  have hlt' : ∀ x, x ∈ p → x.block < W.heap.size := fun x hx => hlt x (by simpa using hx)
  have hst : ∀ sp : Nat → Bool, (∀ x ∈ p, sp x.block = true) → DataW.TrodAll enc P W' 0 sp true f.params.toList args.toList ds p := fun sp hsp => trodAll_stays hl hb hA hr hlt' hsp
  have hold : ∀ x ∈ p, (fun b => decide (b < W.heap.size)) x.block = true := fun x hx => by simpa using hlt' x hx
  have hvars : ∀ sp : Nat → Bool, DataW.TrodVars enc P W' sp s.vars [] [] := by intro sp; rw [hv]; rfl
  have hres' : ∀ b sp hd, DataW.TrodAll enc P W' b sp hd f.resultTypes.toList ((Value.bool true).resultList f.resultTypes.size) [DataW.lit (.bool true)] [] := by
    intro b sp hd
    rw [hres]
    exact trodAll_mk1 (shut_bool hrt true)
  have hW' : DataW.Whole enc P f.params.toList s.vars apart W args.toList ds [] (p ++ []) := ⟨p, [], hA, by rw [hv]; exact hV, rfl, hfz, hnd⟩
  refine ⟨ds, [], p ++ [], [], p, [], hW', ?_, ?_, ?_, World.keptBut_mono (fun x hx => ⟨hx, Or.inr (by simpa using hx)⟩) (hb.frame _), fun _ => ?_⟩
  · rw [hs]; exact hres' _ _ _
  · rw [hs]; exact hst _ hold
  · rw [hs]; exact hvars _
  · refine ⟨ok_one hres rfl (okWide_bool_mk hrt true), _, _, ([] ++ p) ++ [], ⟨[] ++ p, [], trodAll_append (hst _ (fun _ _ => rfl)) (hres' _ _ _), hvars _, rfl, ?_, ?_⟩, ?_⟩
    · intro b off hp
      rw [hb.frozen (p := ⟨b, off, none⟩) (hlt' (.cell b off) (by simpa using hp))]
      exact hfz b off (by simpa using hp)
    · intro ha
      have := hnd ha
      simpa using this
    · intro x hx _
      simpa using hx

end
end Go.Sx

/- Texts as lists of bytes: decimal numerals, pieces between slashes; and what the library's words for them are. -/
set_option linter.unusedSimpArgs false
set_option linter.unusedVariables false
namespace Go.Sx

def digitOf (n : Nat) : UInt8 := UInt8.ofNat (48 + n)

/-- Decimal digits, with fuel. -/
def decL : Nat → Nat → List UInt8 → List UInt8
  | 0, _, acc => acc
  | k + 1, n, acc => match Nat.blt n 10 with
    | true => digitOf n :: acc
    | false => decL k (n / 10) (digitOf (n % 10) :: acc)

theorem decL_eq : ∀ (k n : Nat) (acc : List UInt8), n < 10 ^ k → 0 < k → decL k n acc = Lib.decDigits n ++ acc
  | 0, n, acc, h, hk => absurd hk (Nat.lt_irrefl _)
  | k + 1, n, acc, h, _ => by
    unfold decL
    rw [Lib.decDigits]
    by_cases h10 : n < 10
    · have : Nat.blt n 10 = true := by simpa [Nat.blt_eq] using h10
      rw [this, dif_pos h10]
      rfl
    · have hb : Nat.blt n 10 = false := by
        rw [← Bool.not_eq_true, Nat.blt_eq]; exact h10
      rw [hb, dif_neg h10]
      simp only
      have hk : 0 < k := by
        rcases Nat.eq_zero_or_pos k with rfl | h'
        · simp at h; omega
        · exact h'
      rw [decL_eq k (n / 10) _ (by rw [Nat.pow_succ] at h; omega) hk]
      simp [digitOf]

def itoaL (n : Int) : List UInt8 := match n with
  | .ofNat m => decL 30 m []
  | .negSucc m => 45 :: decL 30 (m + 1) []

theorem itoaL_eq (n : Int) (h0 : -9223372036854775808 ≤ n) (h1 : n ≤ 9223372036854775807) : itoaL n = Lib.itoa n := by
  unfold itoaL Lib.itoa
  cases n with
  | ofNat m =>
    rw [if_neg (by have := Int.natCast_nonneg m; simp only [Int.ofNat_eq_natCast]; omega)]
    simp only
    rw [decL_eq 30 m [] (by simp only [Int.ofNat_eq_natCast] at h1; omega) (by omega)]
    simp
  | negSucc m =>
    rw [if_pos (by omega)]
    simp only
    rw [decL_eq 30 (m + 1) [] (by omega) (by omega)]
    simp

/-- The pieces between the bytes c. -/
def splitL (c : UInt8) : List UInt8 → List (List UInt8)
  | [] => [[]]
  | b :: s => match b == c with
    | true => [] :: splitL c s
    | false => match splitL c s with
      | p :: r => (b :: p) :: r
      | [] => [[b]]

theorem splitL_ne (c : UInt8) : ∀ s, splitL c s ≠ []
  | [] => by simp [splitL]
  | b :: s => by
    unfold splitL
    cases b == c with
    | true => simp
    | false =>
      simp only
      split <;> simp

theorem splitL_length (c : UInt8) : ∀ s, (splitL c s).length = s.count c + 1
  | [] => by simp [splitL]
  | b :: s => by
    unfold splitL
    have ih := splitL_length c s
    rw [List.count_cons]
    cases hb : b == c with
    | true => simp [ih]
    | false =>
      simp only
      split
      · rename_i p r h
        rw [h] at ih
        simpa using ih
      · rename_i h
        exact absurd h (splitL_ne c s)

theorem index_cons (c b : UInt8) (l : List UInt8) : Lib.index (b :: l) [c] = if b == c then 0 else if Lib.index l [c] == -1 then -1 else Lib.index l [c] + 1 := by
  rw [Lib.index]
  have : List.isPrefixOf [c] (b :: l) = (b == c) := by
    simp only [List.isPrefixOf, Bool.and_true]
    exact BEq.comm
  rw [this]

theorem splitK_eq (c : UInt8) : ∀ s : List UInt8, Lib.splitK [c] 0 (s.count c) s = splitL c s
  | [] => by simp [splitL, Lib.splitK]
  | b :: l => by
    have ih := splitK_eq c l
    unfold splitL
    rw [List.count_cons]
    cases hb : b == c with
    | true =>
      simp only [if_true]
      rw [Lib.splitK, index_cons, hb]
      simp [ih]
    | false =>
      simp only
      rw [← ih]
      cases hk : List.count c l with
      | zero => simp [Lib.splitK]
      | succ k =>
        simp only [Bool.false_eq_true, if_false, Nat.add_zero]
        rw [Lib.splitK, Lib.splitK, index_cons, hb]
        have hge := Lib.index_ge l [c]
        by_cases hi : Lib.index l [c] = -1
        · simp [hi]
        · obtain ⟨i, hi'⟩ : ∃ i : Nat, Lib.index l [c] = i := ⟨(Lib.index l [c]).toNat, by omega⟩
          have e1 : ¬ ((i : Int) + 1 = -1) := by omega
          have e2 : ((i : Int) + 1).toNat = i + 1 := by omega
          simp [hi', e1, e2]

theorem splitB_eq (c : UInt8) (s : List UInt8) : (Lib.splitB ⟨#[c]⟩ 0 (Lib.countB ⟨s.toArray⟩ ⟨#[c]⟩) ⟨s.toArray⟩).map (·.data.toList) = splitL c s := by
  rw [Lib.splitB_data]
  show Lib.splitK [c] 0 (Lib.count s [c]) s = _
  rw [Lib.count_one, splitK_eq]

/-- Memory that has only grown. -/
theorem still_below {H : AH} {E : GE} (hr : HRel H E) {w' : World} (hb : RowKit.Below E.w.heap.size E.w w') : E.le (E.at w') ∧ HRel H (E.at w') := by
  have hsame : ∀ b, E.owned b ∨ (∃ o, E.S b o) → w'.heap[b]? = E.w.heap[b]? := by
    intro b h
    refine hb.block b ?_
    rcases h with h | ⟨o, h⟩
    · exact hr.lt b h
    · exact hr.Slt b o h
  obtain ⟨p, h⟩ := hr.still hsame hb.size
  refine ⟨⟨p, rfl, fun b o h => .inl h, fun b _ h => h, hb.os, hb.tape, hb.output, hb.size, fun b hlt _ => hb.block b hlt⟩, h⟩

end Go.Sx

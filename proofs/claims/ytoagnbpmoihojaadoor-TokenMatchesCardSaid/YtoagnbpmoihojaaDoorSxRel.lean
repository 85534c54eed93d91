/- THE ENGINE, 3: what it means that an abstract state tells a world. -/
import Derived.Test.YtoagnbpmoihojaaDoorSxOps
import Derived.Laws.CopyRow
import Derived.Below
namespace Go.Sx

/-- A world, and how the abstract numbers lie in it. S: the cells that nothing will ever write again. -/
structure GE where
  w : World
  nid : Nat
  ρ : Nat → Option Nat
  nt : Nat
  τ : Nat → Nat → Option (Nat × Nat × Nat × Nat)
  S : Nat → Nat → Prop
  base : Nat
  low : Nat

def spareOk (E : GE) (a : Addr) (n sz cap : Nat) : Spare → Prop
  | .unk => True
  | .zero => cap = n
  | .tok t g => t < E.nt ∧ a.spot = none ∧ E.τ t g = some (sz, a.block, a.off + n * sz, a.off + cap * sz)

/-- The abstract value tells the value. -/
inductive VRel (E : GE) : AV → Value → Prop
  | top (v : Value) : VRel E .top v
  | bool (b : Bool) : VRel E (.bool b) (.bool b)
  | int (k : IntKind) (n : Int) : VRel E (.int k n) (.int k n)
  | str (s : List UInt8) : VRel E (.str s) (.string ⟨s.toArray⟩)
  | ptr (id off b : Nat) (hid : id < E.nid) (h : E.ρ id = some b) : VRel E (.ptr id off) (.pointer (some ⟨b, off, none⟩))
  | nilptr : VRel E .nilptr (.pointer none)
  | rop (v : AV) (a : Addr) (x : Nat → Value) (hx : ∀ j, j < v.cells.length → E.w.cell? (a.add j) = some (x j) ∧ (x j).oneCell' = true ∧ E.S a.block (a.off + j))
      (hr : ∀ j c, v.cells[j]? = some c → VRel E c (x j)) : VRel E (.rop v) (.pointer (some a))
  | nils : VRel E .nils (.slice none 0 0)
  | inl (f : Bool) (p : Spare) (sz : Nat) (xs : List AV) (a : Addr) (cap : Nat) (x : Nat → Nat → Value)
      (hsz : ∀ v, v ∈ xs → v.cells.length = sz)
      (hx : ∀ i j, i < xs.length → j < sz → E.w.cell? (a.add (i * sz + j)) = some (x i j) ∧ (x i j).oneCell' = true ∧ E.S a.block (a.off + (i * sz + j)))
      (hr : ∀ i v j c, xs[i]? = some v → v.cells[j]? = some c → VRel E c (x i j))
      (hcap : xs.length ≤ cap) (hf : f = true → E.base ≤ a.block) (hp : spareOk E a xs.length sz cap p) : VRel E (.inl f p sz xs) (.slice (some a) xs.length cap)
  | sl (id off len : Nat) (cap : Option Nat) (sz : Nat) (ag : Bool) (b c : Nat) (hid : id < E.nid) (h : E.ρ id = some b) (hl : len ≤ c) (hc : ∀ c', cap = some c' → c = c') (hag : ag = false → sz = 1) :
      VRel E (.sl id off len cap sz ag) (.slice (some ⟨b, off, none⟩) len c)
  | map (id b : Nat) (hid : id < E.nid) (h : E.ρ id = some b) : VRel E (.map id) (.map (some b))
  | nilmap : VRel E .nilmap (.map none)
  | func (fn : Fn) (as bs : List AV) (xs ys : Array Value) (hfn : ∀ l, fn ≠ .yield l) (h1 : as.length = xs.size) (h2 : ∀ (i : Nat) v x, as[i]? = some v → xs[i]? = some x → VRel E v x)
      (h3 : bs.length = ys.size) (h4 : ∀ (i : Nat) v y, bs[i]? = some v → ys[i]? = some y → VRel E v y) : VRel E (.func fn as bs) (.func fn xs ys)
  | yield (id b : Nat) (hid : id < E.nid) (h : E.ρ id = some b) : VRel E (.func (.yield id) [] []) (.func (.yield b) #[] #[])
  | nilfunc : VRel E .nilfunc .nilFunc
  | iface (t : TypeId) (v : AV) (x : Value) (h : VRel E v x) : VRel E (.iface t v) (.iface t x)
  | niliface : VRel E .niliface .nilIface
  | agg (cs : List AV) (xs : Array Value) (h1 : cs.length = xs.size) (h2 : ∀ (i : Nat) c x, cs[i]? = some c → xs[i]? = some x → VRel E c x) (h3 : ∀ (i : Nat) x, xs[i]? = some x → x.oneCell' = true) : VRel E (.agg cs) (.agg xs)
  | tuple (vs : List AV) (xs : Array Value) (h1 : vs.length = xs.size) (h2 : ∀ (i : Nat) v x, vs[i]? = some v → xs[i]? = some x → VRel E v x) : VRel E (.tuple vs) (.tuple xs)

def GE.owned (E : GE) (b : Nat) : Prop := (∃ id, id < E.nid ∧ E.ρ id = some b) ∨ (∃ t g p, t < E.nt ∧ E.τ t g = some p ∧ p.2.1 = b)

/-- What was told stays told. -/
structure GE.pre (E E' : GE) : Prop where
  nid : E.nid ≤ E'.nid
  ρ : ∀ id b, id < E.nid → E.ρ id = some b → E'.ρ id = some b
  nt : E.nt ≤ E'.nt
  τ : ∀ t g p, t < E.nt → E.τ t g = some p → E'.τ t g = some p
  S : ∀ b o, E.S b o → E'.S b o
  cell : ∀ b o, E.S b o → E'.w.cell? ⟨b, o, none⟩ = E.w.cell? ⟨b, o, none⟩
  base : E'.base = E.base

/-- A later state: what was told stays told; memory that is not ours is as it was. -/
structure GE.le (E E' : GE) : Prop extends GE.pre E E' where
  low : E'.low = E.low
  snew : ∀ b o, E'.S b o → E.S b o ∨ E.w.heap.size ≤ b ∨ E.owned b
  own : ∀ b, b < E.w.heap.size → E'.owned b → E.owned b
  os : E'.w.os = E.w.os
  tape : E'.w.tape = E.w.tape
  output : E'.w.output = E.w.output
  size : E.w.heap.size ≤ E'.w.heap.size
  block : ∀ b, b < E.w.heap.size → ¬ E.owned b → E'.w.heap[b]? = E.w.heap[b]?

theorem GE.le.refl (E : GE) : E.le E := ⟨⟨Nat.le_refl _, fun _ _ _ h => h, Nat.le_refl _, fun _ _ _ _ h => h, fun _ _ h => h, fun _ _ _ => rfl, rfl⟩, rfl, fun _ _ h => .inl h, fun _ _ h => h, rfl, rfl, rfl, Nat.le_refl _, fun _ _ _ => rfl⟩

theorem GE.le.trans {A B C : GE} (h : A.le B) (k : B.le C) : A.le C where
  nid := Nat.le_trans h.nid k.nid
  ρ := fun id b hid hb => k.ρ id b (Nat.lt_of_lt_of_le hid h.nid) (h.ρ id b hid hb)
  nt := Nat.le_trans h.nt k.nt
  τ := fun t g p ht hp => k.τ t g p (Nat.lt_of_lt_of_le ht h.nt) (h.τ t g p ht hp)
  S := fun b o hb => k.S b o (h.S b o hb)
  cell := fun b o hb => (k.cell b o (h.S b o hb)).trans (h.cell b o hb)
  base := k.base.trans h.base
  low := k.low.trans h.low
  snew := by
    intro b o hb
    rcases k.snew b o hb with h1 | h1 | h1
    · exact h.snew b o h1
    · exact .inr (.inl (Nat.le_trans h.size h1))
    · rcases Nat.lt_or_ge b A.w.heap.size with h2 | h2
      · exact .inr (.inr (h.own b h2 h1))
      · exact .inr (.inl h2)
  own := fun b hb ho => h.own b hb (k.own b (Nat.lt_of_lt_of_le hb h.size) ho)
  os := k.os.trans h.os
  tape := k.tape.trans h.tape
  output := k.output.trans h.output
  size := Nat.le_trans h.size k.size
  block := fun b hb hn => (k.block b (Nat.lt_of_lt_of_le hb h.size) (fun ho => hn (h.own b hb ho))).trans (h.block b hb hn)

theorem addr_of_cell {w : World} {a : Addr} {j : Nat} {x : Value} (h : w.cell? (a.add j) = some x) : a.add j = ⟨a.block, a.off + j, none⟩ := by
  unfold Addr.add at h ⊢
  by_cases hj : j = 0
  · subst hj
    simp only [if_true] at h ⊢
    obtain ⟨b, o, s⟩ := a
    cases s with
    | none => rfl
    | some n =>
      exfalso
      unfold World.cell? at h
      split at h
      · simp at h
      · simp at h
  · simp [hj]

theorem spareOk.mono {E E' : GE} (h : E.pre E') {a : Addr} {n sz cap : Nat} {p : Spare} (hp : spareOk E a n sz cap p) : spareOk E' a n sz cap p := by
  cases p with
  | unk => trivial
  | zero => exact hp
  | tok t g => exact ⟨Nat.lt_of_lt_of_le hp.1 h.nt, hp.2.1, h.τ _ _ _ hp.1 hp.2.2⟩

theorem cell_mono {E E' : GE} (h : E.pre E') {a : Addr} {j : Nat} {x : Value} (hx : E.w.cell? (a.add j) = some x) (hS : E.S a.block (a.off + j)) : E'.w.cell? (a.add j) = some x := by
  have e := addr_of_cell hx
  rw [e] at hx ⊢
  rw [h.cell _ _ hS]; exact hx

theorem VRel.pmono {E E' : GE} (h : E.pre E') {v : AV} {x : Value} (hv : VRel E v x) : VRel E' v x := by
  induction hv with
  | top v => exact .top v
  | bool b => exact .bool b
  | int k n => exact .int k n
  | str s => exact .str s
  | ptr id off b hid hb => exact .ptr id off b (Nat.lt_of_lt_of_le hid h.nid) (h.ρ id b hid hb)
  | nilptr => exact .nilptr
  | rop v a x hx hr ih => exact .rop v a x (fun j hj => ⟨cell_mono h (hx j hj).1 (hx j hj).2.2, (hx j hj).2.1, h.S _ _ (hx j hj).2.2⟩) ih
  | nils => exact .nils
  | inl f p sz xs a cap x hsz hx hr hcap hf hp ih =>
    exact .inl f p sz xs a cap x hsz (fun i j hi hj => ⟨cell_mono h (hx i j hi hj).1 (hx i j hi hj).2.2, (hx i j hi hj).2.1, h.S _ _ (hx i j hi hj).2.2⟩) ih hcap (fun e => h.base ▸ hf e) (hp.mono h)
  | sl id off len cap sz ag b c hid hb hl hc hag => exact .sl id off len cap sz ag b c (Nat.lt_of_lt_of_le hid h.nid) (h.ρ id b hid hb) hl hc hag
  | map id b hid hb => exact .map id b (Nat.lt_of_lt_of_le hid h.nid) (h.ρ id b hid hb)
  | nilmap => exact .nilmap
  | func fn as bs xs ys hfn h1 _ h3 _ ih2 ih4 => exact .func fn as bs xs ys hfn h1 ih2 h3 ih4
  | yield id b hid hb => exact .yield id b (Nat.lt_of_lt_of_le hid h.nid) (h.ρ id b hid hb)
  | nilfunc => exact .nilfunc
  | iface t v x _ ih => exact .iface t v x ih
  | niliface => exact .niliface
  | agg cs xs h1 _ h3 ih => exact .agg cs xs h1 ih h3
  | tuple vs xs h1 _ ih => exact .tuple vs xs h1 ih

theorem VRel.mono {E E' : GE} (h : E.le E') {v : AV} {x : Value} (hv : VRel E v x) : VRel E' v x := hv.pmono h.topre

/-- A list of abstract values tells a row. -/
def VRelL (E : GE) (vs : List AV) (xs : Array Value) : Prop := vs.length = xs.size ∧ ∀ (i : Nat) v x, vs[i]? = some v → xs[i]? = some x → VRel E v x
theorem VRelL.pmono {E E' : GE} (h : E.pre E') {vs : List AV} {xs : Array Value} (hv : VRelL E vs xs) : VRelL E' vs xs := ⟨hv.1, fun i v x a b => (hv.2 i v x a b).pmono h⟩
theorem VRelL.mono {E E' : GE} (h : E.le E') {vs : List AV} {xs : Array Value} (hv : VRelL E vs xs) : VRelL E' vs xs := ⟨hv.1, fun i v x a b => (hv.2 i v x a b).mono h⟩

/-- A loop's record stands so. -/
def lstOK (st : LSt) (r : Loop) : Prop :=
  match st with
  | .ready => r.state = .ready ∧ r.pending = none
  | .busy => r.state = .busy
  | .left none => r.state = .done ∧ r.pending = some .ret
  | .left (some i) => r.state = .done ∧ r.pending = some (.exit i)

/-- An object in memory. -/
inductive ORel (E : GE) (id : Nat) : AObj → Prop
  | cells (cs : List AV) (b : Nat) (c : Array Value) (el : TypeId) (hb : E.ρ id = some b) (hh : E.w.heap[b]? = some (.cells c el (0, 0))) (hl : cs.length ≤ c.size)
      (hc : ∀ (j : Nat) v x, cs[j]? = some v → c[j]? = some x → VRel E v x) (h1 : ∀ (j : Nat) x, c[j]? = some x → x.oneCell' = true) (hS : ∀ o, ¬ E.S b o) : ORel E id (.cells cs)
  | map (es : List (AV × AV)) (b : Nat) (ms : Array MapEntry) (clock : Nat) (hb : E.ρ id = some b) (hh : E.w.heap[b]? = some (.map ms clock)) (hl : es.length = ms.size)
      (hk : ∀ (j : Nat) e m, es[j]? = some e → ms[j]? = some m → VRel E e.1 m.key) (hv : ∀ (j : Nat) e m, es[j]? = some e → ms[j]? = some m → VRel E e.2 m.val) : ORel E id (.map es)
  | siter (s : List UInt8) (pos b : Nat) (hb : E.ρ id = some b) (hh : E.w.heap[b]? = some (.stringIter ⟨s.toArray⟩ pos)) : ORel E id (.siter s pos)
  | loop (s : List AV) (ps : List Nat) (x y : Code) (st : LSt) (b : Nat) (r : Loop) (hb : E.ρ id = some b) (hh : E.w.heap[b]? = some (.loop r)) (h1 : VRelL E s r.tmps) (h2 : r.params.toList = ps) (h3 : r.assign = x) (h4 : r.body = y) (h5 : lstOK st r) : ORel E id (.loop s ps x y st)
  | dead : ORel E id (.dead true)
  | unborn (h : E.ρ id = none) : ORel E id (.dead false)

/-- The abstract heap tells the world. -/
structure HRel (H : AH) (E : GE) : Prop where
  nid : E.nid = H.objs.length
  nt : E.nt = H.toks.length
  obj : ∀ id o, H.objs[id]? = some o → ORel E id o
  inj : ∀ i j b, i < E.nid → j < E.nid → E.ρ i = some b → E.ρ j = some b → i = j
  tok : ∀ t g sz, H.toks[t]? = some (g, sz) → ∃ b e ce c el, E.τ t g = some (sz, b, e, ce) ∧ E.w.heap[b]? = some (.cells c el (0, 0)) ∧ e ≤ ce ∧ ce ≤ c.size ∧ (∀ (j : Nat) x, c[j]? = some x → x.oneCell' = true) ∧ ∀ o, e ≤ o → ¬ E.S b o
  late : ∀ t g sz g', H.toks[t]? = some (g, sz) → g < g' → E.τ t g' = none
  tsep : ∀ t g p id b, t < E.nt → E.τ t g = some p → id < E.nid → E.ρ id = some b → p.2.1 ≠ b
  tinj : ∀ t g p t' g' p', t < E.nt → t' < E.nt → E.τ t g = some p → E.τ t' g' = some p' → p.2.1 = p'.2.1 → t = t'
  tbase : ∀ t g p, t < E.nt → E.τ t g = some p → E.base ≤ p.2.1
  set : ∀ b o, E.S b o → (E.w.cell? ⟨b, o, none⟩).isSome = true
  lt : ∀ b, E.owned b → b < E.w.heap.size
  hbase : E.base ≤ E.w.heap.size

end Go.Sx

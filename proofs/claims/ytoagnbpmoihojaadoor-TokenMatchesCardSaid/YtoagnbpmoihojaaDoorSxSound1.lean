/- THE ENGINE, 5: operations that only compute. -/
import Derived.Test.YtoagnbpmoihojaaDoorSxDen
import Derived.Test.YtoagnbpmoihojaaDoorSxRel
set_option linter.unusedSimpArgs false
set_option linter.unusedVariables false
namespace Go.Sx

/-- The abstract table's row of a type. -/
def kindOK (P : Program) (t : TypeId) : TK → Prop
  | .bool => P.underlying t = some .bool
  | .int k => P.underlying t = some (.int k)
  | .string => P.underlying t = some .string
  | .ptr => ∃ e, P.underlying t = some (.pointer e)
  | .func => ∃ a b c, P.underlying t = some (.func a b c)
  | .iface => ∃ ms, P.underlying t = some (.interface ms)
  | .struct fs => ∃ fields, P.underlying t = some (.struct fields) ∧ (fields.toList.map fun f => (f.offset, f.type)) = fs ∧ fields.toList.all (fun f => f.name != "_") = true ∧ fields.toList.all (fun f => (P.info? f.type).isSome) = true
  | .array n e => P.underlying t = some (.array n e)
  | .slice e => P.underlying t = some (.slice e)
  | .map k e => P.underlying t = some (.map k e)

structure TypeOK (P : Program) (t : TypeId) (i : TI) : Prop where
  info : ∃ x z, P.info? t = some x ∧ x.size = i.size ∧ x.bytes = i.bytes ∧ x.zero = some z ∧ i.zero = ofValue z ∧ i.zero.solid = true
  kind : kindOK P t i.k
  cmp : i.cmp = true → P.eqGuardType P.depth t = false ∧ P.stoodInHeld t = false
  agg : i.isAgg = true ↔ ∃ cs, i.zero = .agg cs
  one : i.isAgg = false → i.size = 1

structure SysOK (S : Sys) (P : Program) : Prop where
  type : ∀ t i, S.T t = some i → TypeOK P t i
  func : ∀ f fn, S.F f = some fn → P.funcs[f]? = some fn ∧ fn.body.isSome = true ∧ fn.name ≠ "runtime.NumGoroutine"
  glob : ∀ n, erase (S.G n) = S.G n ∧ below 0 0 (S.G n) = true

/-- A variable whose content stays. -/
def Fixed (E : GE) (p : Nat × Array Value) : Prop := (∃ el fr, E.w.heap[p.1]? = some (.cells p.2 el fr)) ∧ ¬ E.owned p.1 ∧ ∃ o, E.S p.1 o

structure Rel (S : Sys) (H : AH) (E : GE) : Prop where
  h : HRel H E
  g : ∀ n, VRel E (S.G n) (.pointer (some ⟨n, 0, none⟩))
  x : ∀ p, p ∈ S.fixed → Fixed E p

/-- The marks of loops over functions, among the deferred calls. -/
def mark (b : Nat) : Deferred := { target := .collected b, args := #[] }

def Marks (E : GE) (ds : List Deferred) : Prop :=
  E.low ≤ E.w.heap.size ∧ ∃ bs : List Nat, ds = bs.map mark ∧ bs.Nodup ∧ ∀ b, b ∈ bs → E.low ≤ b ∧ E.w.heap[b]? = some (.deferred (some [])) ∧ ¬ E.owned b

structure ARel (E : GE) (s : List AV) (a : Act) : Prop where
  tmps : VRelL E s a.tmps
  defers : Marks E a.defers

theorem ofScalar_rel (E : GE) (v : Value) : VRel E (ofScalar v) v := by
  unfold ofScalar
  split
  · exact .bool _
  · exact .int _ _
  · rename_i s
    have h : s = ⟨s.data.toList.toArray⟩ := by cases s; simp
    have := VRel.str (E := E) s.data.toList
    rw [← h] at this; exact this
  · exact .nilptr
  · exact .nils
  · exact .nilmap
  · exact .nilfunc
  · exact .niliface
  · exact .top _

theorem ofValue_rel (E : GE) (v : Value) : VRel E (ofValue v) v := by
  unfold ofValue
  split
  · rename_i cs
    split
    · rename_i h
      refine .agg _ _ (by simp) ?_ ?_
      · intro i c x hc hx
        simp only [List.getElem?_map, Option.map_eq_some_iff, Array.getElem?_toList] at hc
        obtain ⟨y, hy, rfl⟩ := hc
        rw [hx] at hy
        obtain rfl := Option.some.inj hy
        exact ofScalar_rel E _
      · intro i x hx
        rw [List.all_eq_true] at h
        exact h x (by simp; exact Array.mem_of_getElem? hx)
    · exact .top _
  · exact ofScalar_rel E _

theorem ev_rel {S : Sys} {H : AH} {E : GE} {s : List AV} {a : Act} (hr : Rel S H E) (ha : ARel E s a) (x : Operand) : VRel E (ev S.G s x) (a.eval x) := by
  cases x with
  | tmp t =>
    simp only [ev, Act.eval]
    by_cases ht : t < s.length
    · have ht' : t < a.tmps.size := ha.tmps.1 ▸ ht
      have := ha.tmps.2 t s[t] a.tmps[t] (by simp [ht]) (by simp [ht'])
      simpa [List.getD, Array.getD, ht, ht'] using this
    · have : s.getD t .top = .top := by simp [List.getD, Nat.le_of_not_lt ht]
      rw [this]; exact .top _
  | const v => exact ofValue_rel E v
  | global g => exact hr.g g
  | func f => exact .func (.func f) [] [] #[] #[] (by simp) rfl (by simp) rfl (by simp)

theorem put_rel {E : GE} {s : List AV} {a : Act} (ha : ARel E s a) {v : AV} {x : Value} (hv : VRel E v x) (dst : Option Nat) : ARel E (putD dst s v) (a.put dst x) := by
  cases dst with
  | none => exact ha
  | some d =>
    refine ⟨⟨by simp [putD, Act.put, ha.tmps.1], ?_⟩, ha.defers⟩
    intro i u y hu hy
    simp only [putD, Act.put, List.getElem?_set, Array.getElem?_setIfInBounds] at hu hy
    by_cases hd : d = i
    · subst hd
      simp only [if_true] at hu hy
      split at hu
      · simp only [Option.some.injEq] at hu
        subst hu
        split at hy
        · simp only [Option.some.injEq] at hy; subst hy; exact hv
        · simp at hy
      · simp at hu
    · simp only [hd, if_false] at hu hy
      exact ha.tmps.2 i u y hu hy

theorem heap_lt {w : World} {b : Nat} {o : Obj} (h : w.heap[b]? = some o) : b < w.heap.size := (Array.getElem?_eq_some_iff.1 h).1

theorem Marks.nil {E : GE} (h : E.low ≤ E.w.heap.size) : Marks E [] := ⟨h, [], rfl, .nil, by simp⟩

theorem Marks.mono {E E' : GE} (h : E.le E') {ds : List Deferred} (hm : Marks E ds) : Marks E' ds := by
  obtain ⟨h0, bs, h1, h2, h3⟩ := hm
  refine ⟨h.low ▸ Nat.le_trans h0 h.size, bs, h1, h2, fun b hb => ?_⟩
  obtain ⟨k1, k2, k3⟩ := h3 b hb
  exact ⟨h.low ▸ k1, (h.block b (heap_lt k2) k3).trans k2, fun ho => k3 (h.own b (heap_lt k2) ho)⟩

theorem ARel.mono {E E' : GE} (h : E.le E') {s : List AV} {a : Act} (ha : ARel E s a) : ARel E' s a := ⟨ha.tmps.mono h, ha.defers.mono h⟩

/-- What an operation comes to. -/
def Gives (S : Sys) (P : Program) (o : Oper) (a : Act) (E : GE) (v : AV) (H' : AH) : Prop :=
  ∀ (next : Act → World → Prop) (Q : Exit → Act → World → Prop), (∀ x E', E.le E' → Rel S H' E' → VRel E' v x → next (a.put o.dst x) E'.w) → o.wp P a E.w next Q

theorem gives_value {S : Sys} {P : Program} {o : Oper} {a : Act} {E E' : GE} {v : AV} {H' : AH} {x : Value} (hx : (execOp a.eval o).run P E.w = .ok (.value x) E'.w) (hle : E.le E') (hr : Rel S H' E') (hv : VRel E' v x) :
    Gives S P o a E v H' := by
  intro next Q h
  unfold Oper.wp
  rw [hx, Oper.upon_value]
  exact h x E' hle hr hv

theorem gives_pure {S : Sys} {P : Program} {o : Oper} {a : Act} {E : GE} {v : AV} {H : AH} {x : Value} (hx : (execOp a.eval o).run P E.w = .ok (.value x) E.w) (hr : Rel S H E) (hv : VRel E v x) :
    Gives S P o a E v H := gives_value hx (GE.le.refl E) hr hv

theorem gives_skip {S : Sys} {P : Program} {o : Oper} {a : Act} {E E' : GE} {H' : AH} (hx : (execOp a.eval o).run P E.w = .ok .skip E'.w) (hle : E.le E') (hr : Rel S H' E') : Gives S P o a E .top H' := by
  intro next Q h
  unfold Oper.wp
  rw [hx, Oper.upon_skip]
  exact h _ E' hle hr (.top _)

variable {R : Type}

theorem br_some {b : Bool} {f g : Unit → Option R} {r : R} (h : br b f g = some r) : (b = true ∧ f () = some r) ∨ (b = false ∧ g () = some r) := by
  cases b
  · exact .inr ⟨rfl, h⟩
  · exact .inl ⟨rfl, h⟩
theorem optK_inv {A : Type} {o : Option A} {f : A → Option R} {r : R} (h : optK o f = some r) : ∃ a, o = some a ∧ f a = some r := by
  cases o with
  | none => simp [optK] at h
  | some a => exact ⟨a, rfl, h⟩

/-- Values that tell a number, a truth value .. -/
theorem rel_int {E : GE} {k : IntKind} {n : Int} {x : Value} (h : VRel E (.int k n) x) : x = .int k n := by cases h; rfl
theorem rel_bool {E : GE} {b : Bool} {x : Value} (h : VRel E (.bool b) x) : x = .bool b := by cases h; rfl
theorem rel_str {E : GE} {s : List UInt8} {x : Value} (h : VRel E (.str s) x) : x = .string ⟨s.toArray⟩ := by cases h; rfl
theorem rel_nilptr {E : GE} {x : Value} (h : VRel E .nilptr x) : x = .pointer none := by cases h; rfl
theorem rel_nils {E : GE} {x : Value} (h : VRel E .nils x) : x = .slice none 0 0 := by cases h; rfl
theorem rel_nilmap {E : GE} {x : Value} (h : VRel E .nilmap x) : x = .map none := by cases h; rfl

theorem run_info {P : Program} {t : TypeId} {x : TypeInfo} (h : P.info? t = some x) (w : World) : (typeInfo t).run P w = .ok x w := by
  simp [typeInfo, h]
theorem run_size {P : Program} {t : TypeId} {i : TI} (h : TypeOK P t i) (w : World) : (sizeOf t).run P w = .ok i.size w := by
  obtain ⟨x, z, hx, hs, _⟩ := h.info
  simp [sizeOf, run_info hx, hs]

theorem run_isAgg {P : Program} {t : TypeId} {i : TI} (h : TypeOK P t i) (w : World) : (isAgg t).run P w = .ok i.isAgg w := by
  have hk := h.kind
  unfold isAgg TI.isAgg
  cases hi : i.k <;> rw [hi] at hk <;> simp only [kindOK] at hk
  · simp [run_underlying hk]
  · simp [run_underlying hk]
  · simp [run_underlying hk]
  · obtain ⟨e, hk⟩ := hk; simp [run_underlying hk]
  · obtain ⟨_, _, _, hk⟩ := hk; simp [run_underlying hk]
  · obtain ⟨_, hk⟩ := hk; simp [run_underlying hk]
  · obtain ⟨_, hk, _⟩ := hk; simp [run_underlying hk]
  · simp [run_underlying hk]
  · simp [run_underlying hk]
  · simp [run_underlying hk]

/-- A part of an aggregate. -/
theorem part_sound {P : Program} {t : TypeId} {i : TI} (ht : TypeOK P t i) {E : GE} {cs : List AV} {xs : Array Value} (hv : VRel E (.agg cs) (.agg xs)) {off : Nat} {K : AV → Option R} {r : R}
    (h : partK i cs off K = some r) : ∃ v x, K v = some r ∧ VRel E v x ∧ (∀ w, (part t xs off).run P w = .ok x w) := by
  cases hv with
  | agg _ _ h1 h2 h3 =>
  unfold partK at h
  split at h
  · rename_i hagg
    split at h
    · rename_i hlen
      refine ⟨_, .agg (xs.extract off (off + i.size)), h, ?_, fun w => by simp [part, run_isAgg ht, hagg, run_size ht]⟩
      refine .agg _ _ (by simp; omega) ?_ ?_
      · intro j c x hc hx
        simp only [List.getElem?_take, List.getElem?_drop] at hc
        split at hc
        · rename_i hj
          simp only [Array.getElem?_extract] at hx
          split at hx
          · exact h2 (off + j) c x hc hx
          · simp at hx
        · simp at hc
      · intro j x hx
        simp only [Array.getElem?_extract] at hx
        split at hx
        · exact h3 _ x hx
        · simp at hx
    · simp at h
  · rename_i hagg
    split at h
    · rename_i v hv
      have hlt : off < cs.length := by
        rcases Nat.lt_or_ge off cs.length with h' | h'
        · exact h'
        · simp [List.getElem?_eq_none h'] at hv
      have hx : xs[off]? = some (xs[off]'(h1 ▸ hlt)) := by simp [h1 ▸ hlt]
      refine ⟨v, xs[off]'(h1 ▸ hlt), h, h2 off v _ hv hx, fun w => ?_⟩
      have hagg' : i.isAgg = false := by simpa using hagg
      simp [part, run_isAgg ht, hagg', hx]
    · simp at h

end Go.Sx

/- THE ENGINE, 8: load, store, addresses, aggregates. -/
import Derived.Test.YtedhpikmkoemhaaGreatEa
set_option linter.unusedSimpArgs false
set_option linter.unusedVariables false
namespace Go.Sx
variable {S : Sys} {P : Program} {R : Type}

theorem solid_one {E : GE} {v : AV} {x : Value} (h : VRel E v x) (hs : v.solid = true) (hagg : ∀ cs, v ≠ .agg cs) : x.oneCell' = true := by
  cases h <;> simp_all [AV.solid, Value.oneCell']

/-- A value's cells. -/
theorem cells_rel {E : GE} {v : AV} {x : Value} (h : VRel E v x) (hs : v.solid = true) :
    v.cells.length = x.cells.size ∧ (∀ (j : Nat) c y, v.cells[j]? = some c → x.cells[j]? = some y → VRel E c y) ∧ ∀ (j : Nat) y, x.cells[j]? = some y → y.oneCell' = true := by
  by_cases ha : ∃ cs, v = .agg cs
  · obtain ⟨cs, rfl⟩ := ha
    cases h with
    | agg _ xs h1 h2 h3 => exact ⟨h1, h2, h3⟩
  · have ha' : ∀ cs, v ≠ .agg cs := fun cs e => ha ⟨cs, e⟩
    have h1 := solid_one h hs ha'
    have hv : v.cells = [v] := by cases v <;> simp_all [AV.cells]
    have hx : x.cells = #[x] := by cases x <;> simp_all [Value.cells, Value.oneCell']
    rw [hv, hx]
    refine ⟨rfl, ?_, ?_⟩
    · intro j c y hc hy
      cases j with
      | zero => simp at hc hy; subst hc; subst hy; exact h
      | succ j => simp at hc
    · intro j y hy
      cases j with
      | zero => simp at hy; subst hy; exact h1
      | succ j => simp at hy

theorem loadVar_agg {t : TypeId} {i : TI} (ht : TypeOK P t i) (hagg : i.isAgg = true) {E : GE} {a : Addr} {cs : List AV} (hl : cs.length = i.size) (x : Nat → Value)
    (hx : ∀ j, j < i.size → E.w.cell? (a.add j) = some (x j) ∧ (x j).oneCell' = true) (hr : ∀ j c, cs[j]? = some c → VRel E c (x j)) :
    ∃ y, (loadVar t a).run P E.w = .ok y E.w ∧ VRel E (.agg cs) y := by
  refine ⟨.agg ((List.range i.size).map x).toArray, ?_, ?_⟩
  · simp [loadVar, run_isAgg ht, hagg, run_size ht, run_loadCells (P := P) E.w a i.size x (fun j hj => (hx j hj).1)]
  · refine .agg _ _ (by simp [hl]) ?_ ?_
    · intro j c y hc hy
      simp only [List.getElem?_toArray, List.getElem?_map, Option.map_eq_some_iff] at hy
      obtain ⟨k, hk, rfl⟩ := hy
      have hj : j < i.size := by
        rcases Nat.lt_or_ge j i.size with h | h
        · exact h
        · simp [List.getElem?_eq_none (l := List.range i.size) (by simpa using h)] at hk
      rw [List.getElem?_range hj] at hk
      obtain rfl := Option.some.inj hk
      exact hr j c hc
    · intro j y hy
      simp only [List.getElem?_toArray, List.getElem?_map, Option.map_eq_some_iff] at hy
      obtain ⟨k, hk, rfl⟩ := hy
      have hj : j < i.size := by
        rcases Nat.lt_or_ge j i.size with h | h
        · exact h
        · simp [List.getElem?_eq_none (l := List.range i.size) (by simpa using h)] at hk
      rw [List.getElem?_range hj] at hk
      obtain rfl := Option.some.inj hk
      exact (hx j hj).2

theorem loadVar_one {t : TypeId} {i : TI} (ht : TypeOK P t i) (hagg : i.isAgg = false) {w : World} {a : Addr} {y : Value} (h : w.cell? a = some y) : (loadVar t a).run P w = .ok y w := by
  simp [loadVar, run_isAgg ht, hagg, h]

theorem obj_cell {E : GE} {b o : Nat} {c : Array Value} {el : TypeId} {fr : Nat × Nat} (hh : E.w.heap[b]? = some (.cells c el fr)) : E.w.cell? ⟨b, o, none⟩ = c[o]? := by
  simp [World.cell?, hh]

/-- A part of an object loaded. -/
theorem load_part (hS : SysOK S P) {E : GE} {t : TypeId} {i : TI} (hi : S.T t = some i) {K : AV → Option R} {r : R} {b off : Nat} {c : Array Value} {el : TypeId} {cs : List AV} (h : partK i cs off K = some r)
    (hh : E.w.heap[b]? = some (.cells c el (0, 0))) (hl : cs.length ≤ c.size) (hc : ∀ (j : Nat) v x, cs[j]? = some v → c[j]? = some x → VRel E v x) (h1 : ∀ (j : Nat) x, c[j]? = some x → x.oneCell' = true) :
    ∃ v y, K v = some r ∧ VRel E v y ∧ (Instr.loadAt t (.pointer (some ⟨b, off, none⟩))).run P E.w = .ok y E.w := by
  have hT := hS.type _ _ hi
  unfold partK at h
  split at h
  · rename_i hagg
    split at h
    · rename_i hlen
      obtain ⟨y, h1', h2⟩ := loadVar_agg (E := E) (a := ⟨b, off, none⟩) (cs := (cs.drop off).take i.size) hT hagg (by simp; omega) (fun j => c.getD (off + j) undef)
        (by
          intro j hj
          have hlt : off + j < c.size := by omega
          rw [show (⟨b, off, none⟩ : Addr).add j = ⟨b, off + j, none⟩ from Addr.add_lit b off j, obj_cell hh]
          simp only [Array.getD, hlt, dite_true]
          exact ⟨by simp [hlt], h1 (off + j) _ (by simp [hlt])⟩)
        (by
          intro j d hj
          simp only [List.getElem?_take, List.getElem?_drop] at hj
          split at hj
          · rename_i hj'
            have hlt : off + j < c.size := by omega
            simp only [Array.getD, hlt, dite_true]
            exact hc _ _ _ hj (by simp [hlt])
          · simp at hj)
      exact ⟨_, y, h, h2, by simpa [Instr.loadAt, Instr.sureAddr] using h1'⟩
    · simp at h
  · rename_i hagg
    have hagg' : i.isAgg = false := by simpa using hagg
    split at h
    · rename_i v hv
      have hlt : off < cs.length := by
        rcases Nat.lt_or_ge off cs.length with h' | h'
        · exact h'
        · simp [List.getElem?_eq_none h'] at hv
      have hlt' : off < c.size := by omega
      refine ⟨v, c[off], h, hc off v _ hv (by simp [hlt']), ?_⟩
      have := loadVar_one (w := E.w) (a := ⟨b, off, none⟩) (y := c[off]) hT hagg' (by rw [obj_cell hh]; simp [hlt'])
      simpa [Instr.loadAt, Instr.sureAddr] using this
    · simp at h

theorem load_sound (hS : SysOK S P) {H : AH} {E : GE} (hr : HRel H E) {t : TypeId} {i : TI} (hi : S.T t = some i) {u : AV} {K : AV → Option R} {r : R} (h : loadK H i u K = some r) {x : Value} (hx : VRel E u x) :
    ∃ v y, K v = some r ∧ VRel E v y ∧ (Instr.loadAt t x).run P E.w = .ok y E.w := by
  have hT := hS.type _ _ hi
  unfold loadK at h
  split at h
  · rename_i v
    cases hx with
    | rop _ a f hc hf =>
    cases hagg : i.isAgg with
    | true =>
      cases v <;> simp only [hagg] at h <;> try (simp at h; done)
      rename_i cs
      split at h
      · rename_i hl
        obtain ⟨y, h1, h2⟩ := loadVar_agg (E := E) (a := a) hT hagg hl f (fun j hj => ⟨(hc j (by simpa [AV.cells, hl] using hj)).1, (hc j (by simpa [AV.cells, hl] using hj)).2.1⟩) (fun j c hj => hf j c (by simpa [AV.cells] using hj))
        exact ⟨_, y, h, h2, by simpa [Instr.loadAt, Instr.sureAddr] using h1⟩
      · simp at h
    | false =>
      cases v <;> simp only [hagg] at h <;> try (simp at h; done)
      all_goals
        have h0 := hc 0 (by simp [AV.cells])
        rw [Addr.add_zero'] at h0
        have := loadVar_one (w := E.w) (a := a) (y := f 0) hT hagg h0.1
        exact ⟨_, f 0, h, hf 0 _ rfl, by simpa [Instr.loadAt, Instr.sureAddr] using this⟩
  · split at h
    · rename_i id off _ cs ho
      obtain hO := hr.obj _ _ ho
      cases hO with
      | cells _ b c el hb hh hl hc h1 hS' =>
      cases hx with
      | ptr _ _ b' hid hb' =>
      rw [hb] at hb'
      obtain rfl := Option.some.inj hb'
      exact load_part hS hi h hh hl hc h1
    · rename_i id off _ u cs ho
      obtain hO := hr.obj _ _ ho
      cases hO with
      | tcells _ _ b c hb hh hl hc h1 hS' =>
      cases hx with
      | ptr _ _ b' hid hb' =>
      rw [hb] at hb'
      obtain rfl := Option.some.inj hb'
      exact load_part hS hi h hh (Nat.le_of_eq hl) hc h1
    · simp at h
  · simp at h

theorem splice_get {cs vs : List AV} {off j : Nat} (hl : off + vs.length ≤ cs.length) : (splice cs off vs)[j]? = if off ≤ j ∧ j < off + vs.length then vs[j - off]? else cs[j]? := by
  unfold splice
  by_cases h1 : j < off
  · rw [List.getElem?_append_left (by simp; omega), List.getElem?_take, if_pos h1, if_neg (by omega)]
  · rw [List.getElem?_append_right (by simp; omega)]
    simp only [List.length_take, Nat.min_eq_left (by omega : off ≤ cs.length)]
    by_cases h2 : j < off + vs.length
    · rw [List.getElem?_append_left (by omega), if_pos (by omega)]
    · rw [List.getElem?_append_right (by omega), if_neg (by omega), List.getElem?_drop]
      congr 1; omega

theorem splice_length {cs vs : List AV} {off : Nat} (hl : off + vs.length ≤ cs.length) : (splice cs off vs).length = cs.length := by
  unfold splice; simp; omega

/-- Cells of values that the abstract cells tell. -/
structure CRel (E : GE) (vs : List AV) (xs : List Value) : Prop where
  len : vs.length = xs.length
  rel : ∀ (j : Nat) v x, vs[j]? = some v → xs[j]? = some x → VRel E v x
  one : ∀ x, x ∈ xs → x.oneCell' = true

theorem cells_crel {E : GE} {v : AV} {x : Value} (h : VRel E v x) (hs : v.solid = true) : CRel E v.cells x.cells.toList := by
  obtain ⟨h1, h2, h3⟩ := cells_rel h hs
  refine ⟨by simpa using h1, fun j c y hc hy => h2 j c y hc (by simpa using hy), fun y hy => ?_⟩
  obtain ⟨j, hj⟩ := List.getElem?_of_mem hy
  exact h3 j y (by simpa using hj)

/-- A row of cells written into an object. -/
theorem write_cells {H : AH} {E : GE} (hr : HRel H E) {id : Nat} {cs : List AV} (ho : H.objs[id]? = some (.cells cs)) {b : Nat} (hb : E.ρ id = some b) {off : Nat} {vs : List AV} {xs : List Value} (hv : CRel E vs xs) (hl : off + vs.length ≤ cs.length) :
    ∃ w', (storeCells ⟨b, off, none⟩ xs).run P E.w = .ok () w' ∧ E.le (E.at w') ∧ HRel { H with objs := H.objs.set id (.cells (splice cs off vs)) } (E.at w') := by
  have hid := hr.idlt ho
  cases hr.obj _ _ ho with
  | cells _ b' c el hb' hh hlen hc h1 hS' hcp =>
  rw [hb] at hb'
  obtain rfl := Option.some.inj hb'
  have hrun := run_storeCells_at P b off el xs 0 c E.w hh (by have := hv.len; omega) hv.one
  have hcell : (E.w.setRow b (c.toList.take (off + 0) ++ xs ++ c.toList.drop (off + 0 + xs.length)).toArray).heap[b]? = some (.cells (c.toList.take (off + 0) ++ xs ++ c.toList.drop (off + 0 + xs.length)).toArray el (0, 0)) := by
    exact setRow_heap E.w b c _ el _ hh
  refine ⟨_, hrun, ?_⟩
  have hlx := hv.len
  have honly : Only b E.w (E.w.setRow b (c.toList.take (off + 0) ++ xs ++ c.toList.drop (off + 0 + xs.length)).toArray) := by
    constructor
    · rfl
    · rfl
    · rfl
    · simp [World.setRow]
    · intro k hk
      simp only [World.setRow, Array.getElem?_modify]
      rw [if_neg (by omega)]
  refine hr.write ho rfl hid hb hS' honly ?_
  have hle := le_write (.inl ⟨id, hid, hb⟩) hS' honly
  have hget : ∀ j : Nat, (c.toList.take (off + 0) ++ xs ++ c.toList.drop (off + 0 + xs.length))[j]? = if off ≤ j ∧ j < off + xs.length then xs[j - off]? else c[j]? := by
    intro j
    simp only [Nat.add_zero, List.append_assoc]
    by_cases h1 : j < off
    · rw [List.getElem?_append_left (by simp; omega), List.getElem?_take, if_pos h1, if_neg (by omega)]; simp
    · rw [List.getElem?_append_right (by simp; omega)]
      simp only [List.length_take, Array.length_toList, Nat.min_eq_left (by omega : off ≤ c.size)]
      by_cases h2 : j < off + xs.length
      · rw [List.getElem?_append_left (by omega), if_pos (by omega)]
      · rw [List.getElem?_append_right (by omega), if_neg (by omega), List.getElem?_drop]
        simp only [Array.getElem?_toList]
        congr 1; omega
  refine .cells _ b _ el hb hcell ?_ ?_ ?_ hS' (by have := hv.len; simp; show E.cp id ≤ _; omega)
  · rw [splice_length hl]; simp; omega
  · intro j v x hj hx
    rw [splice_get hl] at hj
    simp only [List.getElem?_toArray, hget] at hx
    split at hj
    · rename_i hin
      rw [if_pos (by omega)] at hx
      exact (hv.rel _ _ _ hj hx).mono hle
    · rename_i hin
      rw [if_neg (by omega)] at hx
      exact (hc _ _ _ hj hx).mono hle
  · intro j x hx
    simp only [List.getElem?_toArray, hget] at hx
    split at hx
    · exact hv.one _ (List.mem_of_getElem? hx)
    · exact h1 _ _ hx

/-- A row of cells written into an object. -/
theorem write_tcells {H : AH} {E : GE} (hr : HRel H E) {id : Nat} {u : TypeId} {cs : List AV} (ho : H.objs[id]? = some (.tcells u cs)) {b : Nat} (hb : E.ρ id = some b) {off : Nat} {vs : List AV} {xs : List Value} (hv : CRel E vs xs) (hl : off + vs.length ≤ cs.length) :
    ∃ w', (storeCells ⟨b, off, none⟩ xs).run P E.w = .ok () w' ∧ E.le (E.at w') ∧ HRel { H with objs := H.objs.set id (.tcells u (splice cs off vs)) } (E.at w') := by
  have hid := hr.idlt ho
  cases hr.obj _ _ ho with
  | tcells _ _ b' c hb' hh hlen hc h1 hS' =>
  rw [hb] at hb'
  obtain rfl := Option.some.inj hb'
  have hrun := run_storeCells_at P b off u xs 0 c E.w hh (by have := hv.len; omega) hv.one
  have hcell : (E.w.setRow b (c.toList.take (off + 0) ++ xs ++ c.toList.drop (off + 0 + xs.length)).toArray).heap[b]? = some (.cells (c.toList.take (off + 0) ++ xs ++ c.toList.drop (off + 0 + xs.length)).toArray u (0, 0)) := by
    exact setRow_heap E.w b c _ u _ hh
  refine ⟨_, hrun, ?_⟩
  have hlx := hv.len
  have honly : Only b E.w (E.w.setRow b (c.toList.take (off + 0) ++ xs ++ c.toList.drop (off + 0 + xs.length)).toArray) := by
    constructor
    · rfl
    · rfl
    · rfl
    · simp [World.setRow]
    · intro k hk
      simp only [World.setRow, Array.getElem?_modify]
      rw [if_neg (by omega)]
  refine hr.write ho rfl hid hb hS' honly ?_
  have hle := le_write (.inl ⟨id, hid, hb⟩) hS' honly
  have hget : ∀ j : Nat, (c.toList.take (off + 0) ++ xs ++ c.toList.drop (off + 0 + xs.length))[j]? = if off ≤ j ∧ j < off + xs.length then xs[j - off]? else c[j]? := by
    intro j
    simp only [Nat.add_zero, List.append_assoc]
    by_cases h1 : j < off
    · rw [List.getElem?_append_left (by simp; omega), List.getElem?_take, if_pos h1, if_neg (by omega)]; simp
    · rw [List.getElem?_append_right (by simp; omega)]
      simp only [List.length_take, Array.length_toList, Nat.min_eq_left (by omega : off ≤ c.size)]
      by_cases h2 : j < off + xs.length
      · rw [List.getElem?_append_left (by omega), if_pos (by omega)]
      · rw [List.getElem?_append_right (by omega), if_neg (by omega), List.getElem?_drop]
        simp only [Array.getElem?_toList]
        congr 1; omega
  refine .tcells u _ b _ hb hcell ?_ ?_ ?_ hS'
  · rw [splice_length hl]; simp; omega
  · intro j v x hj hx
    rw [splice_get hl] at hj
    simp only [List.getElem?_toArray, hget] at hx
    split at hj
    · rename_i hin
      rw [if_pos (by omega)] at hx
      exact (hv.rel _ _ _ hj hx).mono hle
    · rename_i hin
      rw [if_neg (by omega)] at hx
      exact (hc _ _ _ hj hx).mono hle
  · intro j x hx
    simp only [List.getElem?_toArray, hget] at hx
    split at hx
    · exact hv.one _ (List.mem_of_getElem? hx)
    · exact h1 _ _ hx

theorem store_sound (hS : SysOK S P) {H : AH} {E : GE} (hr : HRel H E) {t : TypeId} {i : TI} (hi : S.T t = some i) {u v : AV} {K : AH → Option R} {r : R} (h : storeK H i u v K = some r) {x y : Value} (hx : VRel E u x) (hy : VRel E v y) (hs : v.solid = true) :
    ∃ H' w', K H' = some r ∧ (Instr.storeAt t x y).run P E.w = .ok () w' ∧ E.le (E.at w') ∧ HRel H' (E.at w') := by
  have hT := hS.type _ _ hi
  unfold storeK at h
  split at h
  · rename_i id off
    split at h
    · rename_i cs ho
      split at h
      · rename_i hc
        simp only [Bool.and_eq_true, decide_eq_true_eq] at hc
        cases hx with
        | ptr _ _ b hid hb =>
        have hcr := cells_crel hy hs
        obtain ⟨w', h1, h2, h3⟩ := write_cells (P := P) hr ho hb hcr (off := off) (by omega)
        refine ⟨_, w', h, ?_, h2, h3⟩
        have hsz : y.cells.size = i.size := by have := hcr.len; simp at this; omega
        simpa [Instr.storeAt, Instr.sureAddr, storeVar, run_size hT, hsz] using h1
      · simp at h
    · rename_i u cs ho
      split at h
      · rename_i hc
        simp only [Bool.and_eq_true, decide_eq_true_eq] at hc
        cases hx with
        | ptr _ _ b hid hb =>
        have hcr := cells_crel hy hs
        obtain ⟨w', h1, h2, h3⟩ := write_tcells (P := P) hr ho hb hcr (off := off) (by omega)
        refine ⟨_, w', h, ?_, h2, h3⟩
        have hsz : y.cells.size = i.size := by have := hcr.len; simp at this; omega
        simpa [Instr.storeAt, Instr.sureAddr, storeVar, run_size hT, hsz] using h1
      · simp at h
    · simp at h
  · simp at h

/-- A new object of cells. -/
theorem new_cells {H : AH} {E : GE} (hr : HRel H E) {vs : List AV} {c : Array Value} (hv : CRel E vs c.toList) (el : TypeId) :
    E.le (E.new (.cells c el)) ∧ HRel { H with objs := H.objs ++ [.cells vs] } (E.new (.cells c el)) ∧ (E.new (.cells c el)).ρ H.objs.length = some E.w.heap.size ∧ H.objs.length < (E.new (.cells c el)).nid := by
  have hle := le_new E (.cells c el) hr.Slt
  have hρ : (E.new (.cells c el)).ρ E.nid = some E.w.heap.size := by simp [GE.new]
  have ho : ORel (E.new (.cells c el)) E.nid (.cells vs) := by
    refine .cells vs E.w.heap.size c el hρ ?_ (by have := hv.len; simp at this; omega) ?_ ?_ ?_ (by simp [GE.new, objCap])
    · show (E.w.heap.push _)[E.w.heap.size]? = _
      simp
    · intro j v x hj hx
      exact (hv.rel j v x hj (by simpa using hx)).mono hle
    · intro j x hx
      exact hv.one x (by simpa using Array.mem_of_getElem? hx)
    · intro o ho
      have := hr.Slt _ _ ho
      omega
  obtain ⟨h1, h2⟩ := hr.new ho
  refine ⟨h1, h2, ?_, ?_⟩
  · rw [← hr.nid]; exact hρ
  · rw [← hr.nid]; exact Nat.lt_succ_self _

/-- A new object of cells. -/
theorem new_tcells {H : AH} {E : GE} (hr : HRel H E) {vs : List AV} {c : Array Value} (hv : CRel E vs c.toList) (el : TypeId) :
    E.le (E.new (.cells c el)) ∧ HRel { H with objs := H.objs ++ [.tcells el vs] } (E.new (.cells c el)) ∧ (E.new (.cells c el)).ρ H.objs.length = some E.w.heap.size ∧ H.objs.length < (E.new (.cells c el)).nid := by
  have hle := le_new E (.cells c el) hr.Slt
  have hρ : (E.new (.cells c el)).ρ E.nid = some E.w.heap.size := by simp [GE.new]
  have ho : ORel (E.new (.cells c el)) E.nid (.tcells el vs) := by
    refine .tcells el vs E.w.heap.size c hρ ?_ (by have := hv.len; simp at this; omega) ?_ ?_ ?_
    · show (E.w.heap.push _)[E.w.heap.size]? = _
      simp
    · intro j v x hj hx
      exact (hv.rel j v x hj (by simpa using hx)).mono hle
    · intro j x hx
      exact hv.one x (by simpa using Array.mem_of_getElem? hx)
    · intro o ho
      have := hr.Slt _ _ ho
      omega
  obtain ⟨h1, h2⟩ := hr.new ho
  refine ⟨h1, h2, ?_, ?_⟩
  · rw [← hr.nid]; exact hρ
  · rw [← hr.nid]; exact Nat.lt_succ_self _

theorem box_sound {H : AH} {E : GE} (hr : HRel H E) {v : AV} {x : Value} (hx : VRel E v x) (hs : v.solid = true) (t : TypeId) :
    ∃ E', (Instr.box t x).run P E.w = .ok (.pointer (some ⟨E.w.heap.size, 0, none⟩)) E'.w ∧ E.le E' ∧ HRel { H with objs := H.objs ++ [.cells v.cells] } E' ∧ VRel E' (.ptr H.objs.length 0) (.pointer (some ⟨E.w.heap.size, 0, none⟩)) := by
  obtain ⟨h1, h2, h3, h4⟩ := new_cells hr (cells_crel hx hs) t
  exact ⟨_, by simp [Instr.box, newVar, newRow]; rfl, h1, h2, .ptr _ _ _ h4 h3⟩

theorem zero_rel {t : TypeId} {i : TI} (hT : TypeOK P t i) (w : World) : ∃ z, (zeroValue t).run P w = .ok z w ∧ i.zero.solid = true ∧ ∀ E, VRel E i.zero z := by
  obtain ⟨inf, z, h1, h2, h3, h4, h5, h6⟩ := hT.info
  exact ⟨z, by simp [zeroValue, run_info h1, h4], h6, fun E => h5 ▸ ofValue_rel E z⟩

theorem alloc_sound (hS : SysOK S P) {H : AH} {E : GE} (hr : HRel H E) {t : TypeId} {i : TI} (hi : S.T t = some i) :
    ∃ E', (Instr.alloc t true (.tuple #[])).run P E.w = .ok (.pointer (some ⟨E.w.heap.size, 0, none⟩)) E'.w ∧ E.le E' ∧ HRel { H with objs := H.objs ++ [allocO S t i] } E' ∧ VRel E' (.ptr H.objs.length 0) (.pointer (some ⟨E.w.heap.size, 0, none⟩)) := by
  obtain ⟨z, h1, h2, h3⟩ := zero_rel (hS.type _ _ hi) E.w
  unfold allocO
  split
  · obtain ⟨g1, g2, g3, g4⟩ := new_tcells hr (cells_crel (h3 E) h2) t
    exact ⟨_, by simp [Instr.alloc, h1, newVar, newRow]; rfl, g1, g2, .ptr _ _ _ g4 g3⟩
  · obtain ⟨g1, g2, g3, g4⟩ := new_cells hr (cells_crel (h3 E) h2) t
    exact ⟨_, by simp [Instr.alloc, h1, newVar, newRow]; rfl, g1, g2, .ptr _ _ _ g4 g3⟩

theorem birth_sound (hS : SysOK S P) {H H' : AH} {E : GE} (hr : HRel H E) {t : TypeId} {id : Nat} {v : AV} (h : birthK S H t id = some (v, H')) :
    ∃ E', (Instr.alloc t true (.tuple #[])).run P E.w = .ok (.pointer (some ⟨E.w.heap.size, 0, none⟩)) E'.w ∧ E.le E' ∧ HRel H' E' ∧ VRel E' v (.pointer (some ⟨E.w.heap.size, 0, none⟩)) := by
  unfold birthK at h
  split at h
  · rename_i i hi
    split at h
    · split at h
      · rename_i hid0
        simp only [Option.some.injEq, Prod.mk.injEq] at h
        obtain ⟨rfl, rfl⟩ := h
        obtain ⟨z, h1, h2, h3⟩ := zero_rel (hS.type _ _ hi) E.w
        have hc := cells_crel (h3 E) h2
        have hnone : E.ρ id = none := by
          cases hr.obj id _ hid0 with
          | unborn h0 _ => exact h0
        have hcp0 : E.cp id = 0 := by
          cases hr.obj id _ hid0 with
          | unborn _ h0 => exact h0
        have hle := le_born hnone (.cells z.cells t) hr.Slt
        have ho : ORel (E.born id (.cells z.cells t)) id (.cells i.zero.cells) := by
          refine .cells _ E.w.heap.size z.cells t (by simp [GE.born]) ?_ (by have := hc.len; simp at this; omega) ?_ ?_ ?_ (by show E.cp id ≤ _; rw [hcp0]; exact Nat.zero_le _)
          · show (E.w.heap.push _)[E.w.heap.size]? = _
            simp
          · intro j v x hj hx
            exact (hc.rel j v x hj (by simpa using hx)).mono hle
          · intro j x hx
            exact hc.one x (by simpa using Array.mem_of_getElem? hx)
          · intro o ho
            have := hr.Slt _ _ ho
            omega
        obtain ⟨g1, g2⟩ := hr.born hid0 ho
        exact ⟨_, by simp [Instr.alloc, h1, newVar, newRow]; rfl, g1, g2, .ptr _ _ _ (hr.idlt hid0) (by simp [GE.born])⟩
      · simp at h
    · simp at h
  · simp at h

/-- Addresses inside aggregates. -/
theorem run_size' (hS : SysOK S P) {t : TypeId} {i : TI} (hi : S.T t = some i) (w : World) : (sizeOf t).run P w = .ok i.size w := run_size (hS.type _ _ hi) w

theorem rop_part (hS : SysOK S P) {E : GE} {t : TypeId} {j : TI} (hj : S.T t = some j) {cs : List AV} {a : Addr} (hx : VRel E (.rop (.agg cs)) (.pointer (some a))) {off : Nat} {K : AV → Option R} {r : R}
    (h : partK j cs off K = some r) : ∃ v, K v = some r ∧ VRel E (.rop v) (.pointer (some (a.add off))) := by
  cases hx with
  | rop _ _ f hc hf =>
  simp only [AV.cells] at hc hf
  have hadd : ∀ m, off + m < cs.length → (a.add off).add m = a.add (off + m) ∧ (a.add off).block = a.block ∧ (a.add off).off + m = a.off + (off + m) := by
    intro m hm
    have e := addr_of_cell (hc (off + m) hm).1
    by_cases h0 : off = 0
    · subst h0; simp [Addr.add_zero']
    · have e1 : a.add off = ⟨a.block, a.off + off, none⟩ := by simp [Addr.add, h0]
      rw [e1, Addr.add_lit, e]
      exact ⟨by congr 1; omega, rfl, by show a.off + off + m = _; omega⟩
  unfold partK at h
  split at h
  · rename_i hagg
    split at h
    · rename_i hl
      refine ⟨_, h, .rop _ _ (fun m => f (off + m)) ?_ ?_⟩
      · intro m hm
        simp only [AV.cells, List.length_take, List.length_drop] at hm
        obtain ⟨e1, e2, e3⟩ := hadd m (by omega)
        rw [e1, e2, e3]
        exact hc (off + m) (by omega)
      · intro m c hm
        simp only [AV.cells, List.getElem?_take, List.getElem?_drop] at hm
        split at hm
        · exact hf _ _ hm
        · simp at hm
    · simp at h
  · split at h
    · rename_i v hv
      have hlt : off < cs.length := by
        rcases Nat.lt_or_ge off cs.length with h' | h'
        · exact h'
        · simp [List.getElem?_eq_none h'] at hv
      refine ⟨v, h, ?_⟩
      have hvr := hf off v hv
      have hone' := (hc off hlt).2.1
      have hcells : v.cells = [v] := by
        cases v <;> try rfl
        generalize f off = y at hvr hone'
        cases hvr; simp [Value.oneCell'] at hone'
      refine .rop _ _ (fun m => f (off + m)) ?_ ?_
      · intro m hm
        rw [hcells] at hm
        simp at hm
        subst hm
        obtain ⟨e1, e2, e3⟩ := hadd 0 (by omega)
        rw [e1, e2, e3]
        exact hc (off + 0) (by omega)
      · intro m c hm
        rw [hcells] at hm
        cases m with
        | zero => simp at hm; subst hm; simpa using hvr
        | succ m => simp at hm
    · simp at h

theorem fieldAddr_sound (hS : SysOK S P) {E : GE} {t : TypeId} {i : TI} (hi : S.T t = some i) {u : AV} {n : Nat} {K : AV → Option R} {r : R} (h : fieldAddrK i S.T u n K = some r) {x : Value} (hx : VRel E u x)  :
    ∃ v y, K v = some r ∧ VRel E v y ∧ (Instr.fieldAt t x n).run P E.w = .ok y E.w := by
  have hT := hS.type _ _ hi
  have hk := hT.kind
  unfold fieldAddrK at h
  split at h
  · rename_i fs hik
    rw [hik] at hk
    obtain ⟨fields, hu, hf, _⟩ := hk
    split at h
    · rename_i off ft hfn
      split at h
      · rename_i j hj
        split at h
        · simp at h
        · rename_i hsz
          have hfield : ∃ fd, fields[n]? = some fd ∧ fd.offset = off ∧ fd.type = ft := by
            rw [← hf] at hfn
            simp only [List.getElem?_map, Option.map_eq_some_iff, Array.getElem?_toList] at hfn
            obtain ⟨fd, h1, h2⟩ := hfn
            simp only [Prod.mk.injEq] at h2
            exact ⟨fd, h1, h2.1, h2.2⟩
          obtain ⟨fd, hfd, rfl, rfl⟩ := hfield
          have hrun : ∀ (a : Addr), (Instr.fieldAt t (.pointer (some a)) n).run P E.w = .ok (.pointer (some (a.add fd.offset))) E.w := by
            intro a
            simp [Instr.fieldAt, run_underlying hu, hfd, Instr.sureAddr, fieldPlace, run_size' hS hj, hsz]
          split at h
          · rename_i cs
            have hx' := hx
            cases hx with
            | rop _ a f hc hf' =>
            obtain ⟨v, h1, h2⟩ := rop_part hS hj hx' h
            exact ⟨_, _, h1, h2, hrun a⟩
          · rename_i id o
            cases hx with
            | ptr _ _ b hid hb =>
            refine ⟨_, _, h, .ptr _ _ b hid hb, ?_⟩
            rw [hrun]
            simp [Addr.add_lit]
          · simp at h
      · simp at h
    · simp at h
  · simp at h
end Go.Sx

/- THE ENGINE, 9: indexing, slicing, lengths. -/
set_option linter.unusedSimpArgs false
set_option linter.unusedVariables false
namespace Go.Sx
variable {S : Sys} {P : Program} {R : Type}

theorem add_add {w : World} {a : Addr} {k j : Nat} {x : Value} (h : w.cell? (a.add (k + j)) = some x) : (a.add k).add j = a.add (k + j) ∧ (a.add k).block = a.block ∧ (a.add k).off + j = a.off + (k + j) := by
  have e := addr_of_cell h
  by_cases h0 : k = 0
  · subst h0; simp [Addr.add_zero']
  · have e1 : a.add k = ⟨a.block, a.off + k, none⟩ := by simp [Addr.add, h0]
    rw [e1, Addr.add_lit, e]
    exact ⟨by congr 1; omega, rfl, by show a.off + k + j = _; omega⟩

theorem field_sound (hS : SysOK S P) {E : GE} {t : TypeId} {i : TI} (hi : S.T t = some i) {u : AV} {n : Nat} {K : AV → Option R} {r : R} (h : fieldK i S.T u n K = some r) {x : Value} (hx : VRel E u x) (w : World) :
    ∃ v y, K v = some r ∧ VRel E v y ∧ (Instr.field t x n).run P w = .ok y w := by
  have hT := hS.type _ _ hi
  have hk := hT.kind
  unfold fieldK at h
  split at h
  · rename_i fs hik
    rw [hik] at hk
    obtain ⟨fields, hu, hf, _⟩ := hk
    split at h
    · rename_i off ft hfn
      split at h
      · rename_i j hj
        have hfield : ∃ fd, fields[n]? = some fd ∧ fd.offset = off ∧ fd.type = ft := by
          rw [← hf] at hfn
          simp only [List.getElem?_map, Option.map_eq_some_iff, Array.getElem?_toList] at hfn
          obtain ⟨fd, h1, h2⟩ := hfn
          simp only [Prod.mk.injEq] at h2
          exact ⟨fd, h1, h2.1, h2.2⟩
        obtain ⟨fd, hfd, rfl, rfl⟩ := hfield
        split at h
        · rename_i cs
          have hx' := hx
          cases hx with
          | agg _ xs _ _ _ =>
          obtain ⟨v, y, h1, h2, h3⟩ := part_sound (hS.type _ _ hj) hx' h
          exact ⟨v, y, h1, h2, by simp [Instr.field, run_underlying hu, hfd, asAgg, h3]⟩
        · simp at h
      · simp at h
    · simp at h
  · simp at h

theorem asInt_inv {v : AV} {K : IntKind → Int → Option R} {r : R} (h : asIntK v K = some r) : ∃ k n, v = .int k n ∧ K k n = some r := by
  unfold asIntK at h
  split at h
  · exact ⟨_, _, rfl, h⟩
  · simp at h

theorem indexAddr_sound (hS : SysOK S P) {E : GE} {t : TypeId} {i : TI} (hi : S.T t = some i) {u v : AV} {K : AV → Option R} {r : R} (h : indexAddrK i S.T u v K = some r) {x y : Value} (hx : VRel E u x) (hy : VRel E v y) (w : World) :
    ∃ v z, K v = some r ∧ VRel E v z ∧ (Instr.indexAt t x y).run P w = .ok z w := by
  have hT := hS.type _ _ hi
  have hk := hT.kind
  unfold indexAddrK at h
  have h' := asInt_inv h
  clear h
  obtain ⟨k, n, rfl, h⟩ := h'
  have ey := rel_int hy
  subst ey
  split at h
  · rename_i e hik
    rw [hik] at hk
    have hu : P.underlying t = some (.slice e) := hk
    split at h
    · rename_i j hj
      have hsz := fun w => run_size' hS hj w
      split at h
      · rename_i f p sz xs
        split at h
        · rename_i hn
          split at h
          · rename_i hsj
            split at h
            · rename_i v hv
              cases hx with
              | inl _ _ _ _ a cap g h1 h2 h3 h4 h5 h6 =>
              have hlt : n.toNat < xs.length := by omega
              have hvs : v.cells.length = sz := h1 v (List.mem_of_getElem? hv)
              subst hsj
              refine ⟨_, .pointer (some (a.add (n.toNat * j.size))), h, ?_, ?_⟩
              · refine .rop _ _ (fun m => g n.toNat m) ?_ ?_
                · intro m hm
                  have hc' := h2 n.toNat m hlt (by omega)
                  obtain ⟨e1, e2, e3⟩ := add_add hc'.1
                  rw [e1, e2, e3]; exact hc'
                · intro m c hm
                  exact h3 _ _ _ _ hv hm
              · simp [Instr.indexAt, asIntOf, run_underlying hu, hn, hsz]
            · simp at h
          · simp at h
        · simp at h
      · rename_i id off len cap sz ag
        split at h
        · rename_i hn
          split at h
          · rename_i hs
            cases hx with
            | sl _ _ _ _ _ _ b c hid hb hl hc hag =>
            refine ⟨_, .pointer (some ⟨b, off + n.toNat * j.size, none⟩), h, .ptr _ _ b hid hb, ?_⟩
            simp [Instr.indexAt, asIntOf, run_underlying hu, hn, hsz, Addr.add_lit]
          · simp at h
        · simp at h
      · simp at h
    · simp at h
  · rename_i len e hik
    rw [hik] at hk
    have hu : P.underlying t = some (.array len e) := hk
    split at h
    · rename_i j hj
      have hsz := fun w => run_size' hS hj w
      split at h
      · rename_i cs
        split at h
        · rename_i hn
          have hx' := hx
          cases hx with
          | rop _ a f _ _ =>
          obtain ⟨v, h1, h2⟩ := rop_part hS hj hx' h
          exact ⟨_, _, h1, h2, by simp [Instr.indexAt, asIntOf, run_underlying hu, hn, hsz, Instr.sureAddr]⟩
        · simp at h
      · rename_i id o
        split at h
        · rename_i hn
          cases hx with
          | ptr _ _ b hid hb =>
          refine ⟨_, .pointer (some ⟨b, o + n.toNat * j.size, none⟩), h, .ptr _ _ b hid hb, ?_⟩
          simp [Instr.indexAt, asIntOf, run_underlying hu, hn, hsz, Instr.sureAddr, Addr.add_lit]
        · simp at h
      · simp at h
    · simp at h
  · simp at h

theorem index_sound (hS : SysOK S P) {E : GE} {t : TypeId} {i : TI} (hi : S.T t = some i) {u v : AV} {K : AV → Option R} {r : R} (h : indexK i S.T u v K = some r) {x y : Value} (hx : VRel E u x) (hy : VRel E v y) (w : World) :
    ∃ v z, K v = some r ∧ VRel E v z ∧ (Instr.index t x y).run P w = .ok z w := by
  have hT := hS.type _ _ hi
  have hk := hT.kind
  unfold indexK at h
  have h' := asInt_inv h
  clear h
  obtain ⟨k, n, rfl, h⟩ := h'
  have ey := rel_int hy
  subst ey
  split at h
  · rename_i len e cs hik
    rw [hik] at hk
    have hu : P.underlying t = some (.array len e) := hk
    split at h
    · rename_i j hj
      split at h
      · rename_i hn
        have hx' := hx
        cases hx with
        | agg _ xs _ _ _ =>
        obtain ⟨v, y, h1, h2, h3⟩ := part_sound (hS.type _ _ hj) hx' h
        exact ⟨v, y, h1, h2, by simp [Instr.index, asIntOf, run_underlying hu, hn, run_size' hS hj, h3]⟩
      · simp at h
    · simp at h
  · rename_i s hik
    rw [hik] at hk
    have hu : P.underlying t = some .string := hk
    split at h
    · rename_i hn
      split at h
      · rename_i b hb
        have ex := rel_str hx
        subst ex
        have hlt : n.toNat < s.length := by
          rcases Nat.lt_or_ge n.toNat s.length with h' | h'
          · exact h'
          · simp [List.getElem?_eq_none h'] at hb
        have hb' : (⟨s.toArray⟩ : ByteArray)[n.toNat]? = some b := by
          have hsz : (⟨s.toArray⟩ : ByteArray).size = s.length := rfl
          rw [getElem?_pos _ _ (by rw [hsz]; exact hlt)]
          congr 1
          have : s[n.toNat]? = some s[n.toNat] := by simp [hlt]
          rw [this] at hb
          exact Option.some.inj hb
        exact ⟨_, _, h, .int _ _, by simp [Instr.index, asIntOf, run_underlying hu, hn, hb']⟩
      · simp at h
    · simp at h
  · simp at h

theorem len_sound (hS : SysOK S P) {H : AH} {E : GE} (hr : HRel H E) {ts : Array TypeId} {ty : TypeId} {u : AV} {K : AV → Option R} {r : R} (h : lenK S H ts u K = some r) {x : Value} (hx : VRel E u x) :
    ∃ v y, K v = some r ∧ VRel E v y ∧ (Builtin.len_ ts ty #[x]).run P E.w = .ok y E.w := by
  unfold lenK at h
  split at h
  · simp at h
  · rename_i t ht
    split at h
    · simp at h
    · rename_i i hi
      have hk := (hS.type _ _ hi).kind
      split at h
      · rename_i s hik
        rw [hik] at hk
        rw [rel_str hx]
        have hs : (⟨s.toArray⟩ : ByteArray).size = s.length := rfl
        exact ⟨_, _, h, .int _ _, by simp [Builtin.len_, ht, run_underlying hk, goInt, hs]⟩
      · rename_i n _ hik
        rw [hik] at hk
        exact ⟨_, _, h, .int _ _, by simp [Builtin.len_, ht, run_underlying hk, goInt]⟩
      · rename_i e hik
        rw [hik] at hk
        rw [rel_nils hx]
        exact ⟨_, _, h, .int _ _, by simp [Builtin.len_, ht, run_underlying hk, goInt]⟩
      · rename_i e f p sz xs hik
        rw [hik] at hk
        cases hx
        exact ⟨_, _, h, .int _ _, by simp [Builtin.len_, ht, run_underlying hk, goInt]⟩
      · rename_i e _ _ _ _ _ _ hik
        rw [hik] at hk
        cases hx
        exact ⟨_, _, h, .int _ _, by simp [Builtin.len_, ht, run_underlying hk, goInt]⟩
      · rename_i hik
        rw [hik] at hk
        rw [rel_nilmap hx]
        exact ⟨_, _, h, .int _ _, by simp [Builtin.len_, ht, run_underlying hk, goInt]⟩
      · rename_i id hik
        rw [hik] at hk
        split at h
        · rename_i es bs0 ck0 ho
          cases hx with
          | map _ b hid hb =>
          cases hr.obj _ _ ho with
          | map _ _ clock b' ms hb' hh hl _ _ _ =>
          rw [hb] at hb'
          obtain rfl := Option.some.inj hb'
          refine ⟨_, _, h, .int _ _, ?_⟩
          have : (getObj b).run P E.w = .ok (.map ms ck0) E.w := by simp [getObj, Sem.run, hh]
          simp [Builtin.len_, ht, run_underlying hk, this, goInt, hl]
        · simp at h
      · simp at h

theorem bound_inv {v : AV} {y : Nat} {K : Nat → Option R} {r : R} (h : boundK v y K = some r) : ∃ k n, v = .int k n ∧ 0 ≤ n ∧ n ≤ (y : Int) ∧ K n.toNat = some r := by
  unfold boundK at h
  have h' := asInt_inv h
  clear h
  obtain ⟨k, n, rfl, h⟩ := h'
  split at h
  · rename_i hn; exact ⟨k, n, rfl, hn.1, hn.2, h⟩
  · simp at h

theorem run_bound (k : IntKind) (n : Int) (y : Nat) (c : BoundsCode) (h0 : 0 ≤ n) (h1 : n ≤ (y : Int)) (w : World) : (Instr.sliceBound (.int k n) y c).run P w = .ok n.toNat w := by
  simp [Instr.sliceBound, asIntOf, h0, h1]


theorem optBound_inv {v : Option AV} {y d : Nat} {K : Nat → Option R} {r : R} (h : optBoundK v y d K = some r) :
    (v = none ∧ K d = some r) ∨ ∃ k n, v = some (.int k n) ∧ 0 ≤ n ∧ n ≤ (y : Int) ∧ K n.toNat = some r := by
  cases v with
  | none => exact .inl ⟨rfl, h⟩
  | some v =>
    obtain ⟨k, n, rfl, h1, h2, h3⟩ := bound_inv h
    exact .inr ⟨k, n, rfl, h1, h2, h3⟩

/-- An optional operand and what it tells. -/
def ORelV (E : GE) (u : Option AV) (x : Option Value) : Prop := (u = none ∧ x = none) ∨ ∃ v y, u = some v ∧ x = some y ∧ VRel E v y

/-- The bounds of a slice expression without a third index. -/
theorem bounds2 {E : GE} {lo hi : Option AV} {xl xh : Option Value} (hl : ORelV E lo xl) (hh : ORelV E hi xh) (isSlice : Bool) (len cap : Nat) {y : Nat} (hy : y ≤ cap) {K : Nat → Nat → Option R} {r : R}
    (h : optBoundK hi y len (fun h => optBoundK lo h 0 fun l => K h l) = some r) :
    ∃ l h, K h l = some r ∧ l ≤ h ∧ (hi = none → h = len) ∧ (h ≤ y ∨ h = len) ∧ ∀ w, (Instr.sliceBounds isSlice len cap xl xh none).run P w = .ok (l, h, cap) w := by
  have low : ∀ (h : Nat) {r : R} {K : Nat → Option R}, optBoundK lo h 0 K = some r → ∃ l, K l = some r ∧ l ≤ h ∧ ∀ w, ((match xl with
    | some v => Instr.sliceBound v h .sliceB
    | none => pure 0 : Sem Nat)).run P w = .ok l w := by
    intro m r K hm
    rcases optBound_inv hm with ⟨h1, h2⟩ | ⟨k, n, h1, h2, h3, h4⟩
    · rcases hl with ⟨_, rfl⟩ | ⟨v, y, e, _⟩
      · exact ⟨0, h2, Nat.zero_le _, fun w => rfl⟩
      · rw [h1] at e; simp at e
    · rcases hl with ⟨e, _⟩ | ⟨v, y, e, rfl, hv⟩
      · rw [h1] at e; simp at e
      · rw [h1] at e
        obtain rfl := Option.some.inj e
        rw [rel_int hv]
        exact ⟨n.toNat, h4, by omega, fun w => run_bound k n m .sliceB h2 h3 w⟩
  rcases optBound_inv h with ⟨h1, h2⟩ | ⟨k, n, h1, h2, h3, h4⟩
  · rcases hh with ⟨_, rfl⟩ | ⟨v, y, e, _⟩
    · obtain ⟨l, g1, g2, g3⟩ := low _ h2
      refine ⟨l, len, g1, g2, fun _ => rfl, .inr rfl, fun w => ?_⟩
      have g3' := g3 w
      cases xl with
      | none => simp only [Sem.run_pure, Result.ok.injEq, and_true] at g3'; subst g3'; simp [Instr.sliceBounds]
      | some v => simp only at g3'; simp [Instr.sliceBounds, g3']
    · rw [h1] at e; simp at e
  · rcases hh with ⟨e, _⟩ | ⟨v, y', e, rfl, hv⟩
    · rw [h1] at e; simp at e
    · rw [h1] at e
      obtain rfl := Option.some.inj e
      rw [rel_int hv]
      obtain ⟨l, g1, g2, g3⟩ := low _ h4
      refine ⟨l, n.toNat, g1, g2, fun e => (by rw [h1] at e; simp at e), .inl (by omega), fun w => ?_⟩
      have g3' := g3 w
      have hb : ∀ c, (Instr.sliceBound (.int k n) cap c).run P w = .ok n.toNat w := fun c => run_bound k n cap c h2 (by omega) w
      cases xl with
      | none => simp only [Sem.run_pure, Result.ok.injEq, and_true] at g3'; subst g3'; simp [Instr.sliceBounds, hb]
      | some v => simp only at g3'; simp [Instr.sliceBounds, hb, g3']

/-- .. and with one. -/
theorem bounds3 {E : GE} {lo : Option AV} {hv mv : AV} {xl : Option Value} {xh xm : Value} (hl : ORelV E lo xl) (hh : VRel E hv xh) (hm : VRel E mv xm) (isSlice : Bool) (len cap : Nat) {y : Nat} (hy : y ≤ cap) {K : Nat → Nat → Nat → Option R} {r : R}
    (h : boundK mv y (fun m => boundK hv m fun h => optBoundK lo h 0 fun l => K m h l) = some r) :
    ∃ l h m, K m h l = some r ∧ l ≤ h ∧ h ≤ m ∧ m ≤ y ∧ ∀ w, (Instr.sliceBounds isSlice len cap xl (some xh) (some xm)).run P w = .ok (l, h, m) w := by
  obtain ⟨k1, n1, rfl, a1, a2, h⟩ := bound_inv h
  obtain ⟨k2, n2, rfl, b1, b2, h⟩ := bound_inv h
  rw [rel_int hh, rel_int hm]
  have q1 : ∀ c w, (Instr.sliceBound (.int k1 n1) cap c).run P w = .ok n1.toNat w := fun c w => run_bound k1 n1 cap c a1 (by omega) w
  have q2 : ∀ c w, (Instr.sliceBound (.int k2 n2) n1.toNat c).run P w = .ok n2.toNat w := fun c w => run_bound k2 n2 n1.toNat c b1 (by omega) w
  rcases optBound_inv h with ⟨h1, h2⟩ | ⟨k, n, h1, h2, h3, h4⟩
  · rcases hl with ⟨_, rfl⟩ | ⟨v, y, e, _⟩
    · exact ⟨0, n2.toNat, n1.toNat, h2, Nat.zero_le _, by omega, by omega, fun w => by simp [Instr.sliceBounds, q1, q2]⟩
    · rw [h1] at e; simp at e
  · rcases hl with ⟨e, _⟩ | ⟨v, y', e, rfl, hv⟩
    · rw [h1] at e; simp at e
    · rw [h1] at e
      obtain rfl := Option.some.inj e
      rw [rel_int hv]
      have q3 : ∀ c w, (Instr.sliceBound (.int k n) n2.toNat c).run P w = .ok n.toNat w := fun c w => run_bound k n n2.toNat c h2 (by omega) w
      exact ⟨n.toNat, n2.toNat, n1.toNat, h4, by omega, by omega, by omega, fun w => by simp [Instr.sliceBounds, q1, q2, q3]⟩

theorem mkstr (l : List UInt8) (a b : Nat) (hab : a ≤ b) : (⟨l.toArray⟩ : ByteArray).extract a b = ⟨((l.drop a).take (b - a)).toArray⟩ := by
  apply ByteArray.ext
  apply Array.ext'
  simp [List.extract_eq_take_drop]


/-- A part of a list in read-only memory. -/
theorem sub_rel {E : GE} {f : Bool} {p : Spare} {sz : Nat} {xs : List AV} {a : Addr} {cap : Nat} (hx : VRel E (.inl f p sz xs) (.slice (some a) xs.length cap)) {l h m : Nat} (hlh : l ≤ h) (hm : h ≤ m) (hc : h ≤ xs.length) {q : Spare}
    (hq : q = .unk ∨ (q = .zero ∧ m = h)) : VRel E (.inl f q sz ((xs.drop l).take (h - l))) (.slice (some (if m = l then a else a.add (l * sz))) (h - l) (m - l)) := by
  cases hx with
  | inl _ _ _ _ _ _ g h1 h2 h3 h4 h5 h6 =>
  have hlen : ((xs.drop l).take (h - l)).length = h - l := by simp; omega
  have key : VRel E (.inl f q sz ((xs.drop l).take (h - l))) (.slice (some (if m = l then a else a.add (l * sz))) ((xs.drop l).take (h - l)).length (m - l)) := by
    refine .inl f q sz _ _ _ (fun i j => g (l + i) j) ?_ ?_ ?_ (by omega) ?_ ?_
    · intro v hv
      exact h1 v (List.mem_of_mem_drop (List.mem_of_mem_take hv))
    · intro i j hi hj
      rw [hlen] at hi
      rw [if_neg (by omega)]
      have hc' := h2 (l + i) j (by omega) hj
      have e0 : (l + i) * sz + j = l * sz + (i * sz + j) := by rw [Nat.add_mul]; omega
      rw [e0] at hc'
      obtain ⟨e1, e2, e3⟩ := add_add hc'.1
      rw [e1, e2, e3]; exact hc'
    · intro i v j c hi hj
      simp only [List.getElem?_take, List.getElem?_drop] at hi
      split at hi
      · exact h3 _ _ _ _ hi hj
      · simp at hi
    · intro hf
      split
      · exact h5 hf
      · have : (a.add (l * sz)).block = a.block := by unfold Addr.add; split <;> rfl
        rw [this]; exact h5 hf
    · rcases hq with rfl | ⟨rfl, rfl⟩
      · trivial
      · show m - l = _; omega
  rwa [hlen] at key

theorem slice_sound (hS : SysOK S P) {E : GE} {t : TypeId} {i : TI} (hi : S.T t = some i) {u : AV} {lo hi' mx : Option AV} {K : AV → Option R} {r : R} (h : sliceK i S.T u lo hi' mx K = some r) {x : Value} {xl xh xm : Option Value}
    (hx : VRel E u x) (hl : ORelV E lo xl) (hh : ORelV E hi' xh) (hm : ORelV E mx xm) (w : World) :
    ∃ v z, K v = some r ∧ VRel E v z ∧ (Instr.sliceAt t x xl xh xm).run P w = .ok z w := by
  have hT := hS.type _ _ hi
  have hk := hT.kind
  unfold sliceK at h
  split at h
  · rename_i hik
    rw [hik] at hk
    have hu : P.underlying t = some .string := hk
    split at h
    · rename_i s
      rw [rel_str hx]
      rcases hm with ⟨_, rfl⟩ | ⟨v, y, e, _⟩
      · have hsz : (⟨s.toArray⟩ : ByteArray).size = s.length := rfl
        obtain ⟨l, h', h1, h2, h3, h4, h5⟩ := bounds2 (P := P) hl hh false s.length s.length (Nat.le_refl _) h
        refine ⟨_, _, h1, .str _, ?_⟩
        simp [Instr.sliceAt, Instr.slice, run_underlying hu, hsz, h5, mkstr s l h' h2]
      · simp at e
    · simp at h
  · rename_i e hik
    rw [hik] at hk
    have hu : P.underlying t = some (.slice e) := hk
    split at h
    · simp at h
    · rename_i j hj
      have hsz := fun w => run_size' hS hj w
      split at h
      · rw [rel_nils hx]
        split at h
        · rcases hm with ⟨_, rfl⟩ | ⟨v, y, e, _⟩
          · obtain ⟨l, h', h1, h2, h3, h4, h5⟩ := bounds2 (P := P) hl hh true 0 0 (Nat.le_refl _) h
            have e1 : l = 0 := by omega
            have e2 : h' = 0 := by omega
            subst e1; subst e2
            exact ⟨_, _, h1, .nils, by simp [Instr.sliceAt, Instr.slice, run_underlying hu, h5, hsz]⟩
          · simp at e
        · rename_i m
          split at h
          · rename_i hv
            rcases hm with ⟨e, _⟩ | ⟨v, y, e, rfl, hmv⟩
            · simp at e
            · obtain rfl := Option.some.inj e
              rcases hh with ⟨e, _⟩ | ⟨v', y', e, rfl, hhv⟩
              · simp at e
              · obtain rfl := Option.some.inj e
                obtain ⟨l, h', m', h1, h2, h3, h4, h5⟩ := bounds3 (P := P) hl hhv hmv true 0 0 (Nat.le_refl _) h
                have e1 : l = 0 := by omega
                have e2 : h' = 0 := by omega
                have e3 : m' = 0 := by omega
                subst e1; subst e2; subst e3
                exact ⟨_, _, h1, .nils, by simp [Instr.sliceAt, Instr.slice, run_underlying hu, h5, hsz]⟩
          · simp at h
      · rename_i f p sz xs
        split at h
        · rename_i hsj
          have hx' := hx
          cases hx with
          | inl _ _ _ _ a cap g h1 h2 h3 h4 h5 h6 =>
          split at h
          · rcases hm with ⟨_, rfl⟩ | ⟨v, y, e, _⟩
            · obtain ⟨l, h', g1, g2, g3, g4, g5⟩ := bounds2 (P := P) hl hh true xs.length cap h4 h
              have hle : h' ≤ xs.length := by omega
              have hrun : ∀ w, (Instr.sliceAt t (.slice (some a) xs.length cap) xl xh none).run P w = .ok (.slice (some (if cap = l then a else a.add (l * sz))) (h' - l) (cap - l)) w := by
                intro w
                subst hsj
                simp only [Instr.sliceAt, Instr.slice, Sem.run_bind, run_underlying hu, Result.andThen_ok, g5, hsz]
                by_cases e : cap = l <;> simp [e]
              split at g1
              · rename_i hc
                obtain ⟨rfl, rfl⟩ := hc
                refine ⟨_, _, g1, ?_, hrun w⟩
                have : (if cap = 0 then a else a.add (0 * sz)) = a := by simp [Addr.add_zero']
                rw [this]; simpa using hx'
              · exact ⟨_, _, g1, sub_rel hx' g2 (by omega) hle (.inl rfl), hrun w⟩
            · simp at e
          · rename_i m
            split at h
            · rename_i hv
              rcases hm with ⟨e, _⟩ | ⟨v, y, e, rfl, hmv⟩
              · simp at e
              · obtain rfl := Option.some.inj e
                rcases hh with ⟨e, _⟩ | ⟨v', y', e, rfl, hhv⟩
                · simp at e
                · obtain rfl := Option.some.inj e
                  obtain ⟨l, h', m', g1, g2, g3, g4, g5⟩ := bounds3 (P := P) hl hhv hmv true xs.length cap h4 h
                  refine ⟨_, .slice (some (if m' = l then a else a.add (l * sz))) (h' - l) (m' - l), g1, sub_rel hx' g2 g3 (by omega) ?_, ?_⟩
                  · split
                    · exact .inr ⟨rfl, by assumption⟩
                    · exact .inl rfl
                  · subst hsj
                    simp only [Instr.sliceAt, Instr.slice, Sem.run_bind, run_underlying hu, Result.andThen_ok, g5, hsz]
                    by_cases e : m' = l <;> simp [e]
            · simp at h
        · simp at h
      · rename_i id off len cap sz ag
        cases hx with
        | sl _ _ _ _ _ _ b c hid hb hlc hc hag hcp =>
        have hgd : cap.getD len ≤ c := by
          cases cap with
          | none => exact hlc
          | some c' => have := hc c' rfl; simp; omega
        split at h
        · rcases hm with ⟨_, rfl⟩ | ⟨v, y, e, _⟩
          · obtain ⟨l, h', g1, g2, g3, g4, g5⟩ := bounds2 (P := P) hl hh true len c hgd h
            have hle : h' ≤ c := by omega
            split at g1
            · rename_i hcl
              have hrun : (Instr.sliceAt t (.slice (some ⟨b, off, none⟩) len c) xl xh none).run P w = .ok (.slice (some ⟨b, if c = l then off else off + l * j.size, none⟩) (h' - l) (c - l)) w := by
                simp only [Instr.sliceAt, Instr.slice, Sem.run_bind, run_underlying hu, Result.andThen_ok, g5, hsz]
                by_cases e : c = l <;> simp [e, Addr.add_lit]
              have hoff : (if c = l then off else off + l * j.size) = (if cap = some l then off else off + l * j.size) := by
                cases cap with
                | some c' =>
                  have := hc c' rfl
                  subst this
                  simp
                | none =>
                  simp only [reduceCtorEq, if_false]
                  split
                  · rename_i e
                    rcases hcl with h0 | ⟨_, h0 | h0⟩
                    · simp at h0
                    · subst h0; simp
                    · omega
                  · rfl
              rw [hoff] at hrun
              refine ⟨_, _, g1, .sl _ _ _ _ _ _ b _ hid hb (by omega) ?_ hag ?_, hrun⟩
              · intro c' hc'
                cases cap with
                | none => simp at hc'
                | some c0 => have := hc c0 rfl; simp at hc'; omega
              · intro hcn
                cases cap with
                | some c0 => simp at hcn
                | none =>
                  have h0 := hcp rfl
                  rcases hcl with h1 | ⟨rfl, _⟩
                  · simp at h1
                  · simp only [reduceCtorEq, if_false]
                    have : l * j.size + (c - l) * j.size = c * j.size := by rw [← Nat.add_mul]; congr 1; omega
                    omega
            · simp at g1
          · simp at e
        · rename_i m
          split at h
          · rename_i hv
            rcases hm with ⟨e, _⟩ | ⟨v, y, e, rfl, hmv⟩
            · simp at e
            · obtain rfl := Option.some.inj e
              rcases hh with ⟨e, _⟩ | ⟨v', y', e, rfl, hhv⟩
              · simp at e
              · obtain rfl := Option.some.inj e
                obtain ⟨l, h', m', g1, g2, g3, g4, g5⟩ := bounds3 (P := P) hl hhv hmv true len c hgd h
                refine ⟨_, .slice (some ⟨b, if m' = l then off else off + l * j.size, none⟩) (h' - l) (m' - l), g1, .sl _ _ _ _ _ _ b _ hid hb (by omega) ?_ hag (by simp), ?_⟩
                · intro c' hc'; exact Option.some.inj hc'
                · simp only [Instr.sliceAt, Instr.slice, Sem.run_bind, run_underlying hu, Result.andThen_ok, g5, hsz]
                  by_cases e : m' = l <;> simp [e, Addr.add_lit]
          · simp at h
      · simp at h
  · rename_i n e hik
    rw [hik] at hk
    have hu : P.underlying t = some (.array n e) := hk
    split at h
    · simp at h
    · rename_i j hj
      have hsz := fun w => run_size' hS hj w
      split at h
      · rename_i id off
        cases hx with
        | ptr _ _ b hid hb =>
        rcases hm with ⟨_, rfl⟩ | ⟨v, y, e, _⟩
        · obtain ⟨l, h', g1, g2, g3, g4, g5⟩ := bounds2 (P := P) hl hh false n n (Nat.le_refl _) h
          refine ⟨_, .slice (some ⟨b, if n = l then off else off + l * j.size, none⟩) (h' - l) (n - l), g1, .sl _ _ _ _ _ _ b _ hid hb (by omega) ?_ ((hS.type _ _ hj).one) (by simp), ?_⟩
          · intro c' hc'; exact Option.some.inj hc'
          · simp only [Instr.sliceAt, Sem.run_bind, run_underlying hu, Result.andThen_ok, g5, hsz, Instr.sureAddr, Sem.run_pure]
            by_cases e : n = l <;> simp [e, Addr.add_lit]
        · simp at e
      · simp at h
  · simp at h
end Go.Sx

/- THE ENGINE, 10: aggregates and slices that are made. -/
set_option linter.unusedSimpArgs false
set_option linter.unusedVariables false
namespace Go.Sx
variable {S : Sys} {P : Program} {R : Type}

theorem fold_get (off : Nat) : ∀ (vs : List Value) (n : Nat) (cells : Array Value), off + n + vs.length ≤ cells.size →
    ((vs.zipIdx n).foldl (fun cs (p : Value × Nat) => cs.setIfInBounds (off + p.2) p.1) cells).size = cells.size ∧
    ∀ k : Nat, ((vs.zipIdx n).foldl (fun cs (p : Value × Nat) => cs.setIfInBounds (off + p.2) p.1) cells)[k]? = if off + n ≤ k ∧ k < off + n + vs.length then vs[k - (off + n)]? else cells[k]?
  | [], n, cells, _ => by
    simp
    intro k h1 h2; omega
  | v :: vs, n, cells, h => by
    simp only [List.zipIdx_cons, List.foldl_cons]
    simp only [List.length_cons] at h
    obtain ⟨h1, h2⟩ := fold_get off vs (n + 1) (cells.setIfInBounds (off + n) v) (by simp; omega)
    refine ⟨by simpa using h1, fun k => ?_⟩
    rw [h2]
    simp only [List.length_cons, Array.getElem?_setIfInBounds]
    by_cases e : k = off + n
    · subst e
      rw [if_neg (by omega), if_pos rfl, if_pos (by omega), if_pos (by omega)]
      simp
    · by_cases hin : off + (n + 1) ≤ k ∧ k < off + (n + 1) + vs.length
      · rw [if_pos hin, if_pos (by omega)]
        have : k - (off + n) = (k - (off + (n + 1))) + 1 := by omega
        rw [this, List.getElem?_cons_succ]
      · rw [if_neg hin, if_neg (by omega), if_neg (by omega)]

theorem crel_splice {E : GE} {cs vs : List AV} {xs ys : List Value} (h1 : CRel E cs xs) (h2 : CRel E vs ys) {off : Nat} (hl : off + vs.length ≤ cs.length) {zs : List Value}
    (hlen : zs.length = xs.length) (hz : ∀ k : Nat, zs[k]? = if off ≤ k ∧ k < off + ys.length then ys[k - off]? else xs[k]?) : CRel E (splice cs off vs) zs := by
  have e1 := h1.len
  have e2 := h2.len
  refine ⟨by rw [splice_length hl]; omega, ?_, ?_⟩
  · intro j v x hv hx
    rw [splice_get hl] at hv
    rw [hz] at hx
    split at hv
    · rw [if_pos (by omega)] at hx; exact h2.rel _ _ _ hv hx
    · rw [if_neg (by omega)] at hx; exact h1.rel _ _ _ hv hx
  · intro x hx
    obtain ⟨j, hj⟩ := List.getElem?_of_mem hx
    rw [hz] at hj
    split at hj
    · exact h2.one _ (List.mem_of_getElem? hj)
    · exact h1.one _ (List.mem_of_getElem? hj)

/-- Parts that tell parts. -/
inductive PRel (E : GE) : List (Nat × AV) → List (Nat × Value) → Prop
  | nil : PRel E [] []
  | cons (i : Nat) (v : AV) (x : Value) (us : List (Nat × AV)) (xs : List (Nat × Value)) (h : VRel E v x) (hs : v.solid = true) (hr : PRel E us xs) : PRel E ((i, v) :: us) ((i, x) :: xs)

theorem fill_sound {E : GE} {place : Nat → Option (Nat × Nat)} : ∀ {us : List (Nat × AV)} {xs : List (Nat × Value)}, PRel E us xs → ∀ {cs out : List AV} {cells : Array Value}, CRel E cs cells.toList → fillL place cs us = some out →
    ∃ arr, Instr.fill place cells xs = some arr ∧ CRel E out arr.toList := by
  intro us xs hp
  induction hp with
  | nil =>
    intro cs out cells hc h
    simp only [fillL, Option.some.injEq] at h
    subst h
    exact ⟨cells, rfl, hc⟩
  | cons i v x us xs hv hs hr ih =>
    intro cs out cells hc h
    simp only [fillL] at h
    split at h
    · simp at h
    · rename_i off size hpl
      split at h
      · rename_i hcond
        simp only [Bool.and_eq_true, decide_eq_true_eq] at hcond
        have hcr := cells_crel hv hs
        have hlen1 := hc.len
        have hlen2 := hcr.len
        simp only [Array.length_toList] at hlen1 hlen2
        obtain ⟨hf1, hf2⟩ := fold_get off x.cells.toList 0 cells (by simp; omega)
        have hspl : CRel E (splice cs off v.cells) (((x.cells.toList.zipIdx 0).foldl (fun cs (p : Value × Nat) => cs.setIfInBounds (off + p.2) p.1) cells)).toList := by
          refine crel_splice hc hcr (by omega) (by simpa using hf1) ?_
          intro k
          have := hf2 k
          simp only [Nat.add_zero, Array.getElem?_toList] at this ⊢
          simpa using this
        obtain ⟨arr, h1, h2⟩ := ih hspl h
        refine ⟨arr, ?_, h2⟩
        simp only [Instr.fill, hpl]
        rw [if_neg (by simp; omega)]
        rw [← h1]
        congr 1
        rw [← Array.foldl_toList]
        simp
      · simp at h

theorem fillL_mono {p q : Nat → Option (Nat × Nat)} (hpq : ∀ n x, p n = some x → q n = some x) : ∀ (us : List (Nat × AV)) (cs out : List AV), fillL p cs us = some out → fillL q cs us = some out
  | [], cs, out, h => h
  | (i, v) :: us, cs, out, h => by
    simp only [fillL] at h ⊢
    split at h
    · simp at h
    · rename_i off size hp
      rw [hpq _ _ hp]
      simp only
      split at h
      · rename_i hc
        rw [if_pos hc]
        exact fillL_mono hpq us _ _ h
      · simp at h

theorem mapM_places (w : World) : ∀ (l : List Field), l.all (fun f => (P.info? f.type).isSome) = true →
    (l.mapM (fun f => Prod.mk f.offset <$> sizeOf f.type) : Sem (List (Nat × Nat))).run P w = .ok (l.map fun f => (f.offset, P.cellsOf f.type)) w
  | [], _ => by simp
  | f :: l, h => by
    simp only [List.all_cons, Bool.and_eq_true] at h
    obtain ⟨i, hi⟩ := Option.isSome_iff_exists.1 h.1
    have ih := mapM_places w l h.2
    have hs : (sizeOf f.type).run P w = .ok (P.cellsOf f.type) w := by simp [sizeOf, run_info hi, Program.cellsOf, hi]
    simp only [List.mapM_cons, Sem.run_bind, Sem.run_map, hs, ih, Result.andThen_ok, Sem.run_pure, List.map_cons]

theorem build_sound (hS : SysOK S P) {E : GE} {t : TypeId} {i : TI} (hi : S.T t = some i) {us : List (Nat × AV)} {xs : Array (Nat × Value)} (hp : PRel E us xs.toList) {K : AV → Option R} {r : R} (h : buildK i S.T us K = some r) (w : World) :
    ∃ v y, K v = some r ∧ VRel E v y ∧ (Instr.build t xs).run P w = .ok y w := by
  have hT := hS.type _ _ hi
  have hk := hT.kind
  obtain ⟨z, hz1, hz2, hz3⟩ := zero_rel hT w
  have hzc := cells_crel (hz3 E) hz2
  have toV : ∀ (out : List AV) (arr : Array Value), CRel E out arr.toList → VRel E (.agg out) (.agg arr) := by
    intro out arr hc
    refine .agg _ _ (by have := hc.len; simpa using this) ?_ ?_
    · intro i c x h1 h2; exact hc.rel i c x h1 (by simpa using h2)
    · intro i x h2; exact hc.one x (by simpa using Array.mem_of_getElem? h2)
  unfold buildK at h
  split at h
  · rename_i fs hik
    rw [hik] at hk
    obtain ⟨fields, hu, hf, _, hinf⟩ := hk
    split at h
    · rename_i out hout
      have hpl1 : (fields.mapM (fun f => Prod.mk f.offset <$> sizeOf f.type) : Sem (Array (Nat × Nat))).run P w = .ok (fields.toList.map fun f => (f.offset, P.cellsOf f.type)).toArray w := by
        rw [Array.mapM_eq_mapM_toList]
        simp [mapM_places w fields.toList hinf]
      have hout' : fillL (fun n => (fields.toList.map fun f => (f.offset, P.cellsOf f.type)).toArray[n]?) i.zero.cells us = some out := by
        refine fillL_mono ?_ us _ _ hout
        intro n x hx
        unfold places at hx
        split at hx
        · rename_i off t' hn
          rw [← hf] at hn
          simp only [List.getElem?_map, Option.map_eq_some_iff] at hn
          obtain ⟨f, hf1, hf2⟩ := hn
          simp only [Prod.mk.injEq] at hf2
          obtain ⟨rfl, rfl⟩ := hf2
          simp only [Option.map_eq_some_iff] at hx
          obtain ⟨j, hj, rfl⟩ := hx
          obtain ⟨inf, z', g1, g2, _⟩ := (hS.type _ _ hj).info
          have hf1' : fields[n]? = some f := by simpa using hf1
          simp [hf1', Program.cellsOf, g1, g2]
        · simp at hx
      obtain ⟨arr, h1, h2⟩ := fill_sound hp hzc hout'
      refine ⟨_, _, h, toV _ _ h2, ?_⟩
      have hpl1' : (fields.mapM (fun f => do pure (f.offset, ← sizeOf f.type)) : Sem (Array (Nat × Nat))).run P w = .ok (fields.toList.map fun f => (f.offset, P.cellsOf f.type)).toArray w := hpl1
      simp only [Instr.build, Sem.run_bind, hz1, run_underlying hu, Result.andThen_ok, hpl1', h1, Sem.run_pure]
    · simp at h
  · rename_i n e hik
    rw [hik] at hk
    have hu : P.underlying t = some (.array n e) := hk
    split at h
    · simp at h
    · rename_i j hj
      split at h
      · rename_i out hout
        obtain ⟨arr, h1, h2⟩ := fill_sound hp hzc hout
        refine ⟨_, _, h, toV _ _ h2, ?_⟩
        simp [Instr.build, hz1, run_underlying hu, run_size' hS hj, h1]
      · simp at h
  · simp at h

end Go.Sx

/- THE ENGINE, 11: lists in memory that is made and never written again. -/
set_option linter.unusedSimpArgs false
set_option linter.unusedVariables false
namespace Go.Sx
variable {S : Sys} {P : Program} {R : Type}

theorem flat_length {sz : Nat} : ∀ (xs : List AV), (∀ v, v ∈ xs → v.cells.length = sz) → (flat xs).length = xs.length * sz
  | [], _ => by simp [flat]
  | v :: xs, h => by
    have := flat_length xs (fun v hv => h v (by simp [hv]))
    have hv := h v (by simp)
    simp only [flat, List.flatMap_cons, List.length_append, List.length_cons] at this ⊢
    rw [this, hv, Nat.add_mul]; omega

theorem flat_get {sz : Nat} : ∀ (xs : List AV), (∀ v, v ∈ xs → v.cells.length = sz) → ∀ (i : Nat) v j c, xs[i]? = some v → v.cells[j]? = some c → (flat xs)[i * sz + j]? = some c
  | [], _, i, v, j, c, hi, _ => by simp at hi
  | u :: xs, h, i, v, j, c, hi, hj => by
    have hu := h u (by simp)
    simp only [flat, List.flatMap_cons]
    cases i with
    | zero =>
      simp only [List.getElem?_cons_zero, Option.some.injEq] at hi
      subst hi
      simp only [Nat.zero_mul, Nat.zero_add]
      rw [List.getElem?_append_left]
      · exact hj
      · rcases Nat.lt_or_ge j u.cells.length with h' | h'
        · exact h'
        · simp [List.getElem?_eq_none h'] at hj
    | succ i =>
      simp only [List.getElem?_cons_succ] at hi
      rw [List.getElem?_append_right (by rw [hu, Nat.add_mul]; omega)]
      have := flat_get xs (fun v hv => h v (by simp [hv])) i v j c hi hj
      rw [← this]
      simp only [flat]
      congr 1
      rw [hu, Nat.add_mul]; omega

/-- What a new row of settled cells, with or without a token for its spare places, makes of the state. -/
def GE.row (E : GE) (o : Obj) (n : Nat) (tk : Option (Nat × Nat)) : GE :=
  { E with
    w := E.w.alloc o
    S := fun b k => E.S b k ∨ (b = E.w.heap.size ∧ k < n)
    nt := match tk with | some _ => E.nt + 1 | none => E.nt
    τ := match tk with
      | some (sz, ce) => fun t g => if t = E.nt then (if g = 0 then some (sz, E.w.heap.size, n, ce) else none) else E.τ t g
      | none => E.τ }

theorem row_w (E : GE) (o : Obj) (n : Nat) (tk : Option (Nat × Nat)) : (E.row o n tk).w = E.w.alloc o := rfl

theorem alloc_size (w : World) (o : Obj) : (w.alloc o).heap.size = w.heap.size + 1 := by
  show (w.heap.push o).size = _; simp

theorem alloc_get (w : World) (o : Obj) : (w.alloc o).heap[w.heap.size]? = some o := by
  show (w.heap.push o)[w.heap.size]? = _; simp

theorem row_le {H : AH} {E : GE} (hr : HRel H E) (o : Obj) (n : Nat) (tk : Option (Nat × Nat)) : E.le (E.row o n tk) where
  nid := Nat.le_refl _
  ρ := fun _ _ _ h => h
  nt := by cases tk <;> simp [GE.row]
  τ := by
    intro t g p ht hp
    cases tk with
    | none => exact hp
    | some q => simp only [GE.row]; rw [if_neg (by omega)]; exact hp
  S := fun _ _ h => .inl h
  cell := fun b k hb => cell_of_block (alloc_block _ _ _ (hr.Slt _ _ hb))
  base := rfl
  cp := fun _ _ => rfl
  low := rfl
  snew := by
    intro b k hb
    rcases hb with h | ⟨rfl, _⟩
    · exact .inl h
    · exact .inr (.inl (Nat.le_refl _))
  own := by
    intro b hb h
    rcases h with ⟨id, hid, hρ⟩ | ⟨t, g, p, ht, hp, hpb⟩
    · exact .inl ⟨id, hid, hρ⟩
    · cases tk with
      | none => exact .inr ⟨t, g, p, ht, hp, hpb⟩
      | some q =>
        simp only [GE.row] at ht hp
        by_cases e : t = E.nt
        · subst e
          simp only [if_true] at hp
          split at hp
          · simp only [Option.some.injEq] at hp; subst hp; simp at hpb; omega
          · simp at hp
        · rw [if_neg e] at hp
          exact .inr ⟨t, g, p, by omega, hp, hpb⟩
  os := rfl
  tape := rfl
  output := rfl
  size := by rw [row_w, alloc_size]; omega
  block := fun b hb _ => alloc_block _ _ _ hb

def AH.addTok (H : AH) (el : TypeId) : Option (Nat × Nat) → AH
  | some q => { H with toks := H.toks ++ [(0, q.1, el)] }
  | none => H

theorem row_rel {H : AH} {E : GE} (hr : HRel H E) {arr : Array Value} {el : TypeId} {n : Nat} {tk : Option (Nat × Nat)} (hn : n ≤ arr.size) (h1 : ∀ (j : Nat) x, arr[j]? = some x → x.oneCell' = true) (htk : ∀ q, tk = some q → n ≤ q.2 ∧ q.2 ≤ arr.size) :
    HRel (H.addTok el tk) (E.row (.cells arr el) n tk) := by
  have hle := row_le hr (.cells arr el) n tk
  have hidlt : ∀ i b, i < E.nid → E.ρ i = some b → b < E.w.heap.size := fun i b hi hb => hr.lt b (.inl ⟨i, hi, hb⟩)
  have hSl := hr.Slt
  have hτ : ∀ t g p, t < (E.row (.cells arr el) n tk).nt → (E.row (.cells arr el) n tk).τ t g = some p → (t < E.nt ∧ E.τ t g = some p) ∨ (∃ q, tk = some q ∧ t = E.nt ∧ g = 0 ∧ p = (q.1, E.w.heap.size, n, q.2)) := by
    intro t g p ht hp
    cases tk with
    | none => exact .inl ⟨ht, hp⟩
    | some q =>
      simp only [GE.row] at ht hp
      by_cases e : t = E.nt
      · subst e
        simp only [if_true] at hp
        split at hp
        · rename_i hg
          exact .inr ⟨q, rfl, rfl, hg, (Option.some.inj hp).symm⟩
        · simp at hp
      · rw [if_neg e] at hp
        exact .inl ⟨by omega, hp⟩
  have hobjs : (H.addTok el tk).objs = H.objs := by cases tk <;> rfl
  constructor
  · rw [hobjs]; exact hr.nid
  · cases tk with
    | none => exact hr.nt
    | some q => simp [GE.row, AH.addTok, hr.nt]
  · intro id o ho
    rw [hobjs] at ho
    have hid := hr.idlt ho
    refine (hr.obj id o ho).mono hle hid (fun b hb => alloc_block _ _ _ (hidlt id b hid hb)) ?_
    intro b o' hb hS
    rcases hS with h | ⟨h, _⟩
    · exact h
    · have := hidlt id b hid hb; omega
  · rw [hobjs]; exact hr.inj
  · intro t g sz u p ht hp
    have old : H.toks[t]? = some (g, sz, u) → E.τ t g = some p → ∃ b e ce c, p = (sz, b, e, ce) ∧ (E.row (.cells arr el) n tk).w.heap[b]? = some (.cells c u (0, 0)) ∧ e ≤ ce ∧ ce ≤ c.size ∧ (∀ (j : Nat) x, c[j]? = some x → x.oneCell' = true) ∧ ∀ o, e ≤ o → ¬ (E.row (.cells arr el) n tk).S b o := by
      intro ht hp
      obtain ⟨b, e, ce, c, rfl, g2, g3, g4, g5, g6⟩ := hr.tok t g sz u p ht hp
      have hb := hr.lt b (.inr ⟨t, g, _, hr.tlt ht, hp, rfl⟩)
      refine ⟨b, e, ce, c, rfl, (alloc_block _ _ _ hb).trans g2, g3, g4, g5, ?_⟩
      intro o ho hS
      rcases hS with h | ⟨h, _⟩
      · exact g6 o ho h
      · omega
    cases tk with
    | none => exact old ht hp
    | some q =>
      simp only [AH.addTok] at ht
      by_cases e : t = H.toks.length
      · subst e
        simp only [List.getElem?_append_right (Nat.le_refl _), Nat.sub_self, List.getElem?_cons_zero, Option.some.injEq, Prod.mk.injEq] at ht
        obtain ⟨rfl, rfl, rfl⟩ := ht
        obtain ⟨k1, k2⟩ := htk q rfl
        refine ⟨E.w.heap.size, n, q.2, arr, ?_, alloc_get _ _, k1, k2, h1, ?_⟩
        · simp [GE.row, hr.nt] at hp
          exact hp.symm
        · intro o ho hS
          rcases hS with h | ⟨_, h⟩
          · have := hSl _ _ h; omega
          · omega
      · have ht' : H.toks[t]? = some (g, sz, u) := by
          rw [List.getElem?_append_left] at ht
          · exact ht
          · rcases Nat.lt_or_ge t H.toks.length with h' | h'
            · exact h'
            · rw [List.getElem?_append_right h'] at ht
              have : t - H.toks.length ≠ 0 := by omega
              obtain ⟨m, hm⟩ : ∃ m, t - H.toks.length = m + 1 := ⟨t - H.toks.length - 1, by omega⟩
              rw [hm] at ht; simp at ht
        exact old ht' (by simpa [GE.row, hr.nt, e] using hp)
  · intro t g sz u g' ht hg
    cases tk with
    | none => exact hr.late t g sz u g' ht hg
    | some q =>
      simp only [GE.row]
      by_cases e : t = E.nt
      · subst e
        simp only [if_true]
        rw [if_neg (by omega)]
      · rw [if_neg e]
        simp only [AH.addTok] at ht
        have ht' : H.toks[t]? = some (g, sz, u) := by
          rw [List.getElem?_append_left] at ht
          · exact ht
          · rcases Nat.lt_or_ge t H.toks.length with h' | h'
            · exact h'
            · rw [List.getElem?_append_right h'] at ht
              have := hr.nt
              obtain ⟨m, hm⟩ : ∃ m, t - H.toks.length = m + 1 := ⟨t - H.toks.length - 1, by omega⟩
              rw [hm] at ht; simp at ht
        exact hr.late t g sz u g' ht' hg
  · intro t g p id b ht hp hid hb
    have hb' := hidlt id b hid hb
    rcases hτ t g p ht hp with ⟨h1, h2⟩ | ⟨q, _, _, _, rfl⟩
    · exact hr.tsep t g p id b h1 h2 hid hb
    · simp only; omega
  · intro t g p t' g' p' ht ht' hp hp' e
    rcases hτ t g p ht hp with ⟨a1, a2⟩ | ⟨q, _, rfl, _, rfl⟩ <;> rcases hτ t' g' p' ht' hp' with ⟨b1, b2⟩ | ⟨q', _, rfl, _, rfl⟩
    · exact hr.tinj t g p t' g' p' a1 b1 a2 b2 e
    · have := hr.lt p.2.1 (.inr ⟨t, g, p, a1, a2, rfl⟩); simp only at e; omega
    · have := hr.lt p'.2.1 (.inr ⟨t', g', p', b1, b2, rfl⟩); simp only at e; omega
    · rfl
  · intro t g p ht hp
    rcases hτ t g p ht hp with ⟨a1, a2⟩ | ⟨q, _, _, _, rfl⟩
    · exact hr.tbase t g p a1 a2
    · exact hr.hbase
  · intro b o hS
    rcases hS with h | ⟨rfl, h⟩
    · have := hr.set b o h
      rwa [← cell_of_block (w' := (E.row (.cells arr el) n tk).w) (alloc_block _ _ _ (hSl _ _ h))] at this
    · have : (E.row (.cells arr el) n tk).w.cell? ⟨E.w.heap.size, o, none⟩ = arr[o]? := obj_cell (E := E.row (.cells arr el) n tk) (alloc_get _ _)
      rw [this]
      simp; omega
  · intro b hb
    rw [row_w, alloc_size]
    rcases hb with ⟨id, hid, hρ⟩ | ⟨t, g, p, ht, hp, hpb⟩
    · have := hidlt id b hid hρ; omega
    · rcases hτ t g p ht hp with ⟨a1, a2⟩ | ⟨q, _, _, _, rfl⟩
      · have := hr.lt b (.inr ⟨t, g, p, a1, a2, hpb⟩); omega
      · simp only at hpb; omega
  · exact Nat.le_trans hr.hbase hle.size

/-- The list in it. -/
theorem row_val {H : AH} {E : GE} (hr : HRel H E) {arr : Array Value} {el : TypeId} {sz cap : Nat} {xs : List AV} {tk : Option (Nat × Nat)} (hsz : ∀ v, v ∈ xs → v.cells.length = sz) (hc : CRel E (flat xs) (arr.toList.take (xs.length * sz)))
    (h1 : ∀ (j : Nat) x, arr[j]? = some x → x.oneCell' = true) (hcap : xs.length ≤ cap) (hsize : arr.size = cap * sz) {p : Spare}
    (hp : (p = .unk) ∨ (p = .zero ∧ cap = xs.length) ∨ (p = .tok E.nt 0 ∧ tk = some (sz, cap * sz))) :
    VRel (E.row (.cells arr el) (xs.length * sz) tk) (.inl true p sz xs) (.slice (some ⟨E.w.heap.size, 0, none⟩) xs.length cap) := by
  have hmul : xs.length * sz ≤ arr.size := by rw [hsize]; exact Nat.mul_le_mul_right _ hcap
  have hle := row_le hr (.cells arr el) (xs.length * sz) tk
  refine .inl true p sz xs _ cap (fun i j => arr.getD (i * sz + j) undef) hsz ?_ ?_ hcap (fun _ => hr.hbase) ?_
  · intro i j hi hj
    have hlt : i * sz + j < xs.length * sz := by
      have : (i + 1) * sz ≤ xs.length * sz := Nat.mul_le_mul_right _ hi
      rw [Nat.add_mul] at this; omega
    have hlt' : i * sz + j < arr.size := by omega
    rw [Addr.add_lit, Nat.zero_add, obj_cell (E := E.row (.cells arr el) (xs.length * sz) tk) (alloc_get _ _)]
    refine ⟨by simp [Array.getD, hlt'], ?_, .inr ⟨rfl, hlt⟩⟩
    simp only [Array.getD, hlt', dite_true]
    exact h1 (i * sz + j) _ (by simp [hlt'])
  · intro i v j c hi hj
    have hf := flat_get xs hsz i v j c hi hj
    have hlt : i * sz + j < xs.length * sz := by
      rw [← flat_length xs hsz]
      rcases Nat.lt_or_ge (i * sz + j) (flat xs).length with h' | h'
      · exact h'
      · simp [List.getElem?_eq_none h'] at hf
    have hlt' : i * sz + j < arr.size := by omega
    simp only [Array.getD, hlt', dite_true]
    refine (hc.rel (i * sz + j) c _ hf ?_).mono hle
    rw [List.getElem?_take, if_pos hlt]
    simp [hlt']
  · rcases hp with rfl | ⟨rfl, hcl⟩ | ⟨rfl, rfl⟩
    · trivial
    · exact hcl
    · refine ⟨Nat.lt_succ_self _, rfl, ?_⟩
      simp [GE.row]

end Go.Sx

/- THE ENGINE, 12: lists that are read, copied, appended to. -/
set_option linter.unusedSimpArgs false
set_option linter.unusedVariables false
namespace Go.Sx
variable {S : Sys} {P : Program} {R : Type}

theorem flat_inv {n : Nat} (hn : 0 < n) : ∀ (xs : List AV), (∀ v, v ∈ xs → v.cells.length = n) → ∀ (m : Nat) c, (flat xs)[m]? = some c → ∃ v, xs[m / n]? = some v ∧ v.cells[m % n]? = some c
  | [], _, m, c, h => by simp [flat] at h
  | u :: xs, hs, m, c, h => by
    have hu := hs u (by simp)
    simp only [flat, List.flatMap_cons] at h
    by_cases hm : m < n
    · rw [List.getElem?_append_left (by omega)] at h
      exact ⟨u, by rw [Nat.div_eq_of_lt hm]; rfl, by rw [Nat.mod_eq_of_lt hm]; exact h⟩
    · rw [List.getElem?_append_right (by omega), hu] at h
      obtain ⟨v, h1, h2⟩ := flat_inv hn xs (fun v hv => hs v (by simp [hv])) (m - n) c h
      have e1 : m / n = (m - n) / n + 1 := by
        have := Nat.add_div_right (m - n) hn
        rw [← this]; congr 1; omega
      have e2 : m % n = (m - n) % n := by
        have := Nat.add_mod_right (m - n) n
        rw [← this]; congr 1; omega
      exact ⟨v, by rw [e1, List.getElem?_cons_succ]; exact h1, by rw [e2]; exact h2⟩

theorem chunks_spec {n : Nat} {ag : Bool} (hag : ag = false → n = 1) : ∀ (len : Nat) (cs : List AV), len * n ≤ cs.length → (∀ c, c ∈ cs → c.cells = [c]) →
    flat (chunks n ag len cs) = cs.take (len * n) ∧ (chunks n ag len cs).length = len ∧ ∀ v, v ∈ chunks n ag len cs → v.cells.length = n
  | 0, cs, _, _ => by simp [chunks, flat]
  | len + 1, cs, h, hc => by
    rw [Nat.add_mul] at h
    obtain ⟨h1, h2, h3⟩ := chunks_spec hag len (cs.drop n) (by simp; omega) (fun c hm => hc c (List.mem_of_mem_drop hm))
    have hhead : (if ag = true then AV.agg (cs.take n) else cs.getD 0 .top).cells = cs.take n ∧ (if ag = true then AV.agg (cs.take n) else cs.getD 0 .top).cells.length = n := by
      cases ag with
      | true => exact ⟨rfl, by show (cs.take n).length = n; simp; omega⟩
      | false =>
        have e := hag rfl
        subst e
        cases cs with
        | nil => simp at h
        | cons c cs =>
          have := hc c (by simp)
          simp [this]
    refine ⟨?_, by simp [chunks, h2], ?_⟩
    · simp only [chunks, flat, List.flatMap_cons] at h1 ⊢
      rw [hhead.1, h1, Nat.add_mul, Nat.one_mul, Nat.add_comm (len * n) n, List.take_add]
    · intro v hv
      simp only [chunks, List.mem_cons] at hv
      rcases hv with rfl | hv
      · exact hhead.2
      · exact h3 v hv

theorem chunks_take {n : Nat} {ag : Bool} : ∀ (len k : Nat) (cs : List AV), k ≤ len → (chunks n ag len cs).take k = chunks n ag k cs
  | 0, k, cs, h => by
    obtain rfl : k = 0 := by omega
    rfl
  | len + 1, 0, cs, _ => rfl
  | len + 1, k + 1, cs, h => by
    simp only [chunks, List.take_succ_cons]
    rw [chunks_take len k _ (by omega)]

theorem cell_plain {E : GE} {c : AV} {x : Value} (h : VRel E c x) (h1 : x.oneCell' = true) : c.cells = [c] := by
  cases c <;> try rfl
  cases h; simp [Value.oneCell'] at h1

/-- What a list of elements of n cells is, as a source. -/
structure Src (P : Program) (E : GE) (n : Nat) (ys : List AV) (x : Value) : Prop where
  len : (Builtin.lenOf x).run P E.w = .ok ys.length E.w
  sizes : ∀ v, v ∈ ys → v.cells.length = n
  first : ∀ k, k ≤ ys.length → ∃ arr : Array Value, (∀ d, (Builtin.firstCells n k x).run P { E.w with drawn := d } = .ok arr { E.w with drawn := d }) ∧ arr.size = k * n ∧ CRel E (flat (ys.take k)) arr.toList

theorem loadRange {E : GE} {a : Addr} {m : Nat} {f : Nat → Value} (h : ∀ j, j < m → E.w.cell? (a.add j) = some (f j)) (d : Nat) : (loadCells a m).run P { E.w with drawn := d } = .ok ((List.range m).map f).toArray { E.w with drawn := d } :=
  run_loadCells (P := P) { E.w with drawn := d } a m f (fun j hj => h j hj)

theorem src_sound {H : AH} {E : GE} (hr : HRel H E) {n : Nat} (hn : 0 < n) {v : AV} {ys : List AV} (h : srcOf H n v = some ys) {x : Value} (hx : VRel E v x) : Src P E n ys x := by
  unfold srcOf at h
  split at h
  · rename_i b
    split at h
    · rename_i hn1
      simp only [Option.some.injEq] at h
      subst h; subst hn1
      rw [rel_str hx]
      refine ⟨by simp [Builtin.lenOf]; rfl, ?_, ?_⟩
      · intro v hv
        simp only [List.mem_map] at hv
        obtain ⟨c, _, rfl⟩ := hv
        rfl
      · intro k hk
        simp only [List.length_map] at hk
        have hfl : ∀ l : List UInt8, flat (l.map fun c => AV.int .u8 c.toNat) = l.map fun c => AV.int .u8 c.toNat := by
          intro l
          induction l with
          | nil => rfl
          | cons c l ih => simp only [flat, List.map_cons, List.flatMap_cons] at ih ⊢; rw [ih]; rfl
        refine ⟨((b.take k).map fun c => Value.int .u8 c.toNat).toArray, ?_, by simp; omega, ?_⟩
        · intro d
          simp only [Builtin.firstCells, mkstr b 0 k (Nat.zero_le _), Sem.run_pure]
          congr 1
          simp
        · rw [← List.map_take, hfl]
          refine ⟨by simp, ?_, ?_⟩
          · intro j v x hv hx
            simp only [List.getElem?_map, Option.map_eq_some_iff, List.toList_toArray] at hv hx
            obtain ⟨c, hc, rfl⟩ := hv
            obtain ⟨c', hc', rfl⟩ := hx
            rw [hc] at hc'
            obtain rfl := Option.some.inj hc'
            exact .int _ _
          · intro x hx
            simp only [List.toList_toArray, List.mem_map] at hx
            obtain ⟨c, _, rfl⟩ := hx
            rfl
    · simp at h
  · unfold elemsK at h
    split at h
    · simp only [Option.some.injEq] at h
      subst h
      rw [rel_nils hx]
      refine ⟨by simp [Builtin.lenOf], by simp, ?_⟩
      intro k hk
      simp at hk
      subst hk
      exact ⟨#[], fun d => by simp [Builtin.firstCells], by simp, ⟨by simp [flat], by simp, by simp⟩⟩
    · rename_i f p sz xs _
      split at h
      · rename_i hsz
        simp only [Option.some.injEq] at h
        subst h; subst hsz
        cases hx with
        | inl _ _ _ _ a cap g h1 h2 h3 h4 h5 h6 =>
        refine ⟨by simp [Builtin.lenOf], h1, ?_⟩
        intro k hk
        have hidx : ∀ m, m < k * sz → m / sz < xs.length ∧ m % sz < sz ∧ m / sz * sz + m % sz = m ∧ m / sz < k := by
          intro m hm
          have q1 : m / sz < k := (Nat.div_lt_iff_lt_mul hn).2 hm
          exact ⟨by omega, Nat.mod_lt _ hn, by rw [Nat.mul_comm]; exact Nat.div_add_mod m sz, q1⟩
        refine ⟨((List.range (k * sz)).map fun m => g (m / sz) (m % sz)).toArray, fun d => ?_, by simp, ?_⟩
        · simp only [Builtin.firstCells]
          refine loadRange (P := P) (E := E) (f := fun m => g (m / sz) (m % sz)) ?_ d
          intro m hm
          obtain ⟨q1, q2, q3, _⟩ := hidx m hm
          have := (h2 _ _ q1 q2).1
          rwa [q3] at this
        · have hs' : ∀ v, v ∈ xs.take k → v.cells.length = sz := fun v hv => h1 v (List.mem_of_mem_take hv)
          refine ⟨by rw [flat_length _ hs']; simp [Nat.min_eq_left hk], ?_, ?_⟩
          · intro m c x hc hx
            obtain ⟨v, e1, e2⟩ := flat_inv hn _ hs' m c hc
            simp only [List.toList_toArray, List.getElem?_map, Option.map_eq_some_iff] at hx
            obtain ⟨m', hm', rfl⟩ := hx
            have hmlt : m < k * sz := by
              rcases Nat.lt_or_ge m (k * sz) with h' | h'
              · exact h'
              · simp [List.getElem?_eq_none (l := List.range (k * sz)) (by simpa using h')] at hm'
            rw [List.getElem?_range hmlt] at hm'
            obtain rfl := Option.some.inj hm'
            rw [List.getElem?_take] at e1
            split at e1
            · exact h3 _ _ _ _ e1 e2
            · simp at e1
          · intro x hx
            simp only [List.toList_toArray, List.mem_map, List.mem_range] at hx
            obtain ⟨m, hm, rfl⟩ := hx
            obtain ⟨q1, q2, q3, _⟩ := hidx m hm
            exact (h2 _ _ q1 q2).2.1
      · simp at h
    · rename_i id off len cap sz ag _
      split at h
      · rename_i hsz
        subst hsz
        split at h
        · rename_i cs ho
          split at h
          · rename_i hlen
            simp only [Option.some.injEq] at h
            subst h
            cases hx with
            | sl _ _ _ _ _ _ b c hid hb hlc hcap hag =>
            cases hr.obj _ _ ho with
            | cells _ b' arr el hb' hh hl hc h1 hS' =>
            rw [hb] at hb'
            obtain rfl := Option.some.inj hb'
            have hplain : ∀ c, c ∈ cs → c.cells = [c] := by
              intro c hm
              obtain ⟨j, hj⟩ := List.getElem?_of_mem hm
              have hlt : j < arr.size := by
                rcases Nat.lt_or_ge j cs.length with h' | h'
                · omega
                · simp [List.getElem?_eq_none h'] at hj
              exact cell_plain (hc j c arr[j] hj (by simp [hlt])) (h1 j _ (by simp [hlt]))
            obtain ⟨q1, q2, q3⟩ := chunks_spec (ag := ag) hag len (cs.drop off) (by simp; omega) (fun c hm => hplain c (List.mem_of_mem_drop hm))
            refine ⟨by simp [Builtin.lenOf, q2], q3, ?_⟩
            intro k hk
            rw [q2] at hk
            have hkn : k * sz ≤ len * sz := Nat.mul_le_mul_right _ hk
            rw [chunks_take len k _ hk]
            obtain ⟨r1, r2, r3⟩ := chunks_spec (ag := ag) hag k (cs.drop off) (by simp; omega) (fun c hm => hplain c (List.mem_of_mem_drop hm))
            refine ⟨((List.range (k * sz)).map fun m => arr.getD (off + m) undef).toArray, fun d => ?_, by simp, ?_⟩
            · simp only [Builtin.firstCells]
              refine loadRange (P := P) (E := E) (f := fun m => arr.getD (off + m) undef) ?_ d
              intro m hm
              have hlt : off + m < arr.size := by omega
              rw [Addr.add_lit, obj_cell hh]
              simp [Array.getD, hlt]
            · rw [r1]
              refine ⟨by simp; omega, ?_, ?_⟩
              · intro m c x hc' hx
                simp only [List.toList_toArray, List.getElem?_map, Option.map_eq_some_iff] at hx
                obtain ⟨m', hm', rfl⟩ := hx
                have hmlt : m < k * sz := by
                  rcases Nat.lt_or_ge m (k * sz) with h' | h'
                  · exact h'
                  · simp [List.getElem?_eq_none (l := List.range (k * sz)) (by simpa using h')] at hm'
                rw [List.getElem?_range hmlt] at hm'
                obtain rfl := Option.some.inj hm'
                rw [List.getElem?_take, if_pos hmlt, List.getElem?_drop] at hc'
                have hlt : off + m < arr.size := by omega
                simp only [Array.getD, hlt, dite_true]
                exact hc _ _ _ hc' (by simp [hlt])
              · intro x hx
                simp only [List.toList_toArray, List.mem_map, List.mem_range] at hx
                obtain ⟨m, hm, rfl⟩ := hx
                have hlt : off + m < arr.size := by omega
                simp only [Array.getD, hlt, dite_true]
                exact h1 (off + m) _ (by simp [hlt])
          · simp at h
        · simp at h
      · simp at h
    · simp at h

end Go.Sx

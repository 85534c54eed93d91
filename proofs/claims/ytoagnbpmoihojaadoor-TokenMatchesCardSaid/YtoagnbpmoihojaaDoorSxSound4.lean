/- THE ENGINE, 8: load, store, addresses, aggregates. -/
import Derived.Test.YtoagnbpmoihojaaDoorSxSound3
import Derived.Test.YtoagnbpmoihojaaDoorSxDen
set_option linter.unusedSimpArgs false
set_option linter.unusedVariables false
namespace Go.Sx
variable {S : Sys} {P : Program} {R : Type}

theorem solid_one {E : GE} {v : AV} {x : Value} (h : VRel E v x) (hs : v.solid = true) (hagg : ∀ cs, v ≠ .agg cs) : x.oneCell' = true := by
  cases h <;> simp_all [AV.solid, Value.oneCell']

/-- A value's cells. -/
theorem cells_rel {E : GE} {v : AV} {x : Value} (h : VRel E v x) (hs : v.solid = true) :
    v.cells.length = x.cells.size ∧ (∀ (j : Nat) c y, v.cells[j]? = some c → x.cells[j]? = some y → VRel E c y) ∧ ∀ (j : Nat) y, x.cells[j]? = some y → y.oneCell' = true := by
  by_cases ha : ∃ cs, v = .agg cs
  · obtain ⟨cs, rfl⟩ := ha
    cases h with
    | agg _ xs h1 h2 h3 => exact ⟨h1, h2, h3⟩
  · have ha' : ∀ cs, v ≠ .agg cs := fun cs e => ha ⟨cs, e⟩
    have h1 := solid_one h hs ha'
    have hv : v.cells = [v] := by cases v <;> simp_all [AV.cells]
    have hx : x.cells = #[x] := by cases x <;> simp_all [Value.cells, Value.oneCell']
    rw [hv, hx]
    refine ⟨rfl, ?_, ?_⟩
    · intro j c y hc hy
      cases j with
      | zero => simp at hc hy; subst hc; subst hy; exact h
      | succ j => simp at hc
    · intro j y hy
      cases j with
      | zero => simp at hy; subst hy; exact h1
      | succ j => simp at hy

theorem loadVar_agg {t : TypeId} {i : TI} (ht : TypeOK P t i) (hagg : i.isAgg = true) {E : GE} {a : Addr} {cs : List AV} (hl : cs.length = i.size) (x : Nat → Value)
    (hx : ∀ j, j < i.size → E.w.cell? (a.add j) = some (x j) ∧ (x j).oneCell' = true) (hr : ∀ j c, cs[j]? = some c → VRel E c (x j)) :
    ∃ y, (loadVar t a).run P E.w = .ok y E.w ∧ VRel E (.agg cs) y := by
  refine ⟨.agg ((List.range i.size).map x).toArray, ?_, ?_⟩
  · simp [loadVar, run_isAgg ht, hagg, run_size ht, run_loadCells (P := P) E.w a i.size x (fun j hj => (hx j hj).1)]
  · refine .agg _ _ (by simp [hl]) ?_ ?_
    · intro j c y hc hy
      simp only [List.getElem?_toArray, List.getElem?_map, Option.map_eq_some_iff] at hy
      obtain ⟨k, hk, rfl⟩ := hy
      have hj : j < i.size := by
        rcases Nat.lt_or_ge j i.size with h | h
        · exact h
        · simp [List.getElem?_eq_none (l := List.range i.size) (by simpa using h)] at hk
      rw [List.getElem?_range hj] at hk
      obtain rfl := Option.some.inj hk
      exact hr j c hc
    · intro j y hy
      simp only [List.getElem?_toArray, List.getElem?_map, Option.map_eq_some_iff] at hy
      obtain ⟨k, hk, rfl⟩ := hy
      have hj : j < i.size := by
        rcases Nat.lt_or_ge j i.size with h | h
        · exact h
        · simp [List.getElem?_eq_none (l := List.range i.size) (by simpa using h)] at hk
      rw [List.getElem?_range hj] at hk
      obtain rfl := Option.some.inj hk
      exact (hx j hj).2

theorem loadVar_one {t : TypeId} {i : TI} (ht : TypeOK P t i) (hagg : i.isAgg = false) {w : World} {a : Addr} {y : Value} (h : w.cell? a = some y) : (loadVar t a).run P w = .ok y w := by
  simp [loadVar, run_isAgg ht, hagg, h]

theorem obj_cell {E : GE} {b o : Nat} {c : Array Value} {el : TypeId} {fr : Nat × Nat} (hh : E.w.heap[b]? = some (.cells c el fr)) : E.w.cell? ⟨b, o, none⟩ = c[o]? := by
  simp [World.cell?, hh]

theorem load_sound (hS : SysOK S P) {H : AH} {E : GE} (hr : HRel H E) {t : TypeId} {i : TI} (hi : S.T t = some i) {u : AV} {K : AV → Option R} {r : R} (h : loadK H i u K = some r) {x : Value} (hx : VRel E u x) :
    ∃ v y, K v = some r ∧ VRel E v y ∧ (Instr.loadAt t x).run P E.w = .ok y E.w := by
  have hT := hS.type _ _ hi
  unfold loadK at h
  split at h
  · rename_i v
    cases hx with
    | rop _ a f hc hf =>
    cases hagg : i.isAgg with
    | true =>
      cases v <;> simp only [hagg] at h <;> try (simp at h; done)
      rename_i cs
      split at h
      · rename_i hl
        obtain ⟨y, h1, h2⟩ := loadVar_agg (E := E) (a := a) hT hagg hl f (fun j hj => ⟨(hc j (by simpa [AV.cells, hl] using hj)).1, (hc j (by simpa [AV.cells, hl] using hj)).2.1⟩) (fun j c hj => hf j c (by simpa [AV.cells] using hj))
        exact ⟨_, y, h, h2, by simpa [Instr.loadAt, Instr.sureAddr] using h1⟩
      · simp at h
    | false =>
      cases v <;> simp only [hagg] at h <;> try (simp at h; done)
      all_goals
        have h0 := hc 0 (by simp [AV.cells])
        rw [Addr.add_zero'] at h0
        have := loadVar_one (w := E.w) (a := a) (y := f 0) hT hagg h0.1
        exact ⟨_, f 0, h, hf 0 _ rfl, by simpa [Instr.loadAt, Instr.sureAddr] using this⟩
  · split at h
    · rename_i id off _ cs ho
      obtain hO := hr.obj _ _ ho
      cases hO with
      | cells _ b c el hb hh hl hc h1 hS' =>
      cases hx with
      | ptr _ _ b' hid hb' =>
      rw [hb] at hb'
      obtain rfl := Option.some.inj hb'
      unfold partK at h
      split at h
      · rename_i hagg
        split at h
        · rename_i hlen
          obtain ⟨y, h1', h2⟩ := loadVar_agg (E := E) (a := ⟨b, off, none⟩) (cs := (cs.drop off).take i.size) hT hagg (by simp; omega) (fun j => c.getD (off + j) undef)
            (by
              intro j hj
              have hlt : off + j < c.size := by omega
              rw [show (⟨b, off, none⟩ : Addr).add j = ⟨b, off + j, none⟩ from Addr.add_lit b off j, obj_cell hh]
              simp only [Array.getD, hlt, dite_true]
              exact ⟨by simp [hlt], h1 (off + j) _ (by simp [hlt])⟩)
            (by
              intro j d hj
              simp only [List.getElem?_take, List.getElem?_drop] at hj
              split at hj
              · rename_i hj'
                have hlt : off + j < c.size := by omega
                simp only [Array.getD, hlt, dite_true]
                exact hc _ _ _ hj (by simp [hlt])
              · simp at hj)
          exact ⟨_, y, h, h2, by simpa [Instr.loadAt, Instr.sureAddr] using h1'⟩
        · simp at h
      · rename_i hagg
        have hagg' : i.isAgg = false := by simpa using hagg
        split at h
        · rename_i v hv
          have hlt : off < cs.length := by
            rcases Nat.lt_or_ge off cs.length with h' | h'
            · exact h'
            · simp [List.getElem?_eq_none h'] at hv
          have hlt' : off < c.size := by omega
          refine ⟨v, c[off], h, hc off v _ hv (by simp [hlt']), ?_⟩
          have := loadVar_one (w := E.w) (a := ⟨b, off, none⟩) (y := c[off]) hT hagg' (by rw [obj_cell hh]; simp [hlt'])
          simpa [Instr.loadAt, Instr.sureAddr] using this
        · simp at h
    · simp at h
  · simp at h

theorem splice_get {cs vs : List AV} {off j : Nat} (hl : off + vs.length ≤ cs.length) : (splice cs off vs)[j]? = if off ≤ j ∧ j < off + vs.length then vs[j - off]? else cs[j]? := by
  unfold splice
  by_cases h1 : j < off
  · rw [List.getElem?_append_left (by simp; omega), List.getElem?_take, if_pos h1, if_neg (by omega)]
  · rw [List.getElem?_append_right (by simp; omega)]
    simp only [List.length_take, Nat.min_eq_left (by omega : off ≤ cs.length)]
    by_cases h2 : j < off + vs.length
    · rw [List.getElem?_append_left (by omega), if_pos (by omega)]
    · rw [List.getElem?_append_right (by omega), if_neg (by omega), List.getElem?_drop]
      congr 1; omega

theorem splice_length {cs vs : List AV} {off : Nat} (hl : off + vs.length ≤ cs.length) : (splice cs off vs).length = cs.length := by
  unfold splice; simp; omega

/-- Cells of values that the abstract cells tell. -/
structure CRel (E : GE) (vs : List AV) (xs : List Value) : Prop where
  len : vs.length = xs.length
  rel : ∀ (j : Nat) v x, vs[j]? = some v → xs[j]? = some x → VRel E v x
  one : ∀ x, x ∈ xs → x.oneCell' = true

theorem cells_crel {E : GE} {v : AV} {x : Value} (h : VRel E v x) (hs : v.solid = true) : CRel E v.cells x.cells.toList := by
  obtain ⟨h1, h2, h3⟩ := cells_rel h hs
  refine ⟨by simpa using h1, fun j c y hc hy => h2 j c y hc (by simpa using hy), fun y hy => ?_⟩
  obtain ⟨j, hj⟩ := List.getElem?_of_mem hy
  exact h3 j y (by simpa using hj)

/-- A row of cells written into an object. -/
theorem write_cells {H : AH} {E : GE} (hr : HRel H E) {id : Nat} {cs : List AV} (ho : H.objs[id]? = some (.cells cs)) {b : Nat} (hb : E.ρ id = some b) {off : Nat} {vs : List AV} {xs : List Value} (hv : CRel E vs xs) (hl : off + vs.length ≤ cs.length) :
    ∃ w', (storeCells ⟨b, off, none⟩ xs).run P E.w = .ok () w' ∧ E.le (E.at w') ∧ HRel { H with objs := H.objs.set id (.cells (splice cs off vs)) } (E.at w') := by
  have hid := hr.idlt ho
  cases hr.obj _ _ ho with
  | cells _ b' c el hb' hh hlen hc h1 hS' =>
  rw [hb] at hb'
  obtain rfl := Option.some.inj hb'
  have hrun := run_storeCells_at P b off el xs 0 c E.w hh (by have := hv.len; omega) hv.one
  have hcell : (E.w.setRow b (c.toList.take (off + 0) ++ xs ++ c.toList.drop (off + 0 + xs.length)).toArray).heap[b]? = some (.cells (c.toList.take (off + 0) ++ xs ++ c.toList.drop (off + 0 + xs.length)).toArray el (0, 0)) := by
    exact setRow_heap E.w b c _ el _ hh
  refine ⟨_, hrun, ?_⟩
  have hlx := hv.len
  have honly : Only b E.w (E.w.setRow b (c.toList.take (off + 0) ++ xs ++ c.toList.drop (off + 0 + xs.length)).toArray) := by
    constructor
    · rfl
    · rfl
    · rfl
    · simp [World.setRow]
    · intro k hk
      simp only [World.setRow, Array.getElem?_modify]
      rw [if_neg (by omega)]
  refine hr.write hid hb hS' honly ?_
  have hle := le_write (.inl ⟨id, hid, hb⟩) hS' honly
  have hget : ∀ j : Nat, (c.toList.take (off + 0) ++ xs ++ c.toList.drop (off + 0 + xs.length))[j]? = if off ≤ j ∧ j < off + xs.length then xs[j - off]? else c[j]? := by
    intro j
    simp only [Nat.add_zero, List.append_assoc]
    by_cases h1 : j < off
    · rw [List.getElem?_append_left (by simp; omega), List.getElem?_take, if_pos h1, if_neg (by omega)]; simp
    · rw [List.getElem?_append_right (by simp; omega)]
      simp only [List.length_take, Array.length_toList, Nat.min_eq_left (by omega : off ≤ c.size)]
      by_cases h2 : j < off + xs.length
      · rw [List.getElem?_append_left (by omega), if_pos (by omega)]
      · rw [List.getElem?_append_right (by omega), if_neg (by omega), List.getElem?_drop]
        simp only [Array.getElem?_toList]
        congr 1; omega
  refine .cells _ b _ el hb hcell ?_ ?_ ?_ hS'
  · rw [splice_length hl]; simp; omega
  · intro j v x hj hx
    rw [splice_get hl] at hj
    simp only [List.getElem?_toArray, hget] at hx
    split at hj
    · rename_i hin
      rw [if_pos (by omega)] at hx
      exact (hv.rel _ _ _ hj hx).mono hle
    · rename_i hin
      rw [if_neg (by omega)] at hx
      exact (hc _ _ _ hj hx).mono hle
  · intro j x hx
    simp only [List.getElem?_toArray, hget] at hx
    split at hx
    · exact hv.one _ (List.mem_of_getElem? hx)
    · exact h1 _ _ hx

theorem store_sound (hS : SysOK S P) {H : AH} {E : GE} (hr : HRel H E) {t : TypeId} {i : TI} (hi : S.T t = some i) {u v : AV} {K : AH → Option R} {r : R} (h : storeK H i u v K = some r) {x y : Value} (hx : VRel E u x) (hy : VRel E v y) (hs : v.solid = true) :
    ∃ H' w', K H' = some r ∧ (Instr.storeAt t x y).run P E.w = .ok () w' ∧ E.le (E.at w') ∧ HRel H' (E.at w') := by
  have hT := hS.type _ _ hi
  unfold storeK at h
  split at h
  · rename_i id off
    split at h
    · rename_i cs ho
      split at h
      · rename_i hc
        simp only [Bool.and_eq_true, decide_eq_true_eq] at hc
        cases hx with
        | ptr _ _ b hid hb =>
        have hcr := cells_crel hy hs
        obtain ⟨w', h1, h2, h3⟩ := write_cells (P := P) hr ho hb hcr (off := off) (by omega)
        refine ⟨_, w', h, ?_, h2, h3⟩
        have hsz : y.cells.size = i.size := by have := hcr.len; simp at this; omega
        simpa [Instr.storeAt, Instr.sureAddr, storeVar, run_size hT, hsz] using h1
      · simp at h
    · simp at h
  · simp at h

/-- A new object of cells. -/
theorem new_cells {H : AH} {E : GE} (hr : HRel H E) {vs : List AV} {c : Array Value} (hv : CRel E vs c.toList) (el : TypeId) :
    E.le (E.new (.cells c el)) ∧ HRel { H with objs := H.objs ++ [.cells vs] } (E.new (.cells c el)) ∧ (E.new (.cells c el)).ρ H.objs.length = some E.w.heap.size ∧ H.objs.length < (E.new (.cells c el)).nid := by
  have hle := le_new E (.cells c el) hr.Slt
  have hρ : (E.new (.cells c el)).ρ E.nid = some E.w.heap.size := by simp [GE.new]
  have ho : ORel (E.new (.cells c el)) E.nid (.cells vs) := by
    refine .cells vs E.w.heap.size c el hρ ?_ (by have := hv.len; simp at this; omega) ?_ ?_ ?_
    · show (E.w.heap.push _)[E.w.heap.size]? = _
      simp
    · intro j v x hj hx
      exact (hv.rel j v x hj (by simpa using hx)).mono hle
    · intro j x hx
      exact hv.one x (by simpa using Array.mem_of_getElem? hx)
    · intro o ho
      have := hr.Slt _ _ ho
      omega
  obtain ⟨h1, h2⟩ := hr.new ho
  refine ⟨h1, h2, ?_, ?_⟩
  · rw [← hr.nid]; exact hρ
  · rw [← hr.nid]; exact Nat.lt_succ_self _

theorem box_sound {H : AH} {E : GE} (hr : HRel H E) {v : AV} {x : Value} (hx : VRel E v x) (hs : v.solid = true) (t : TypeId) :
    ∃ E', (Instr.box t x).run P E.w = .ok (.pointer (some ⟨E.w.heap.size, 0, none⟩)) E'.w ∧ E.le E' ∧ HRel { H with objs := H.objs ++ [.cells v.cells] } E' ∧ VRel E' (.ptr H.objs.length 0) (.pointer (some ⟨E.w.heap.size, 0, none⟩)) := by
  obtain ⟨h1, h2, h3, h4⟩ := new_cells hr (cells_crel hx hs) t
  exact ⟨_, by simp [Instr.box, newVar, newRow]; rfl, h1, h2, .ptr _ _ _ h4 h3⟩

theorem zero_rel {t : TypeId} {i : TI} (hT : TypeOK P t i) (w : World) : ∃ z, (zeroValue t).run P w = .ok z w ∧ i.zero.solid = true ∧ ∀ E, VRel E i.zero z := by
  obtain ⟨inf, z, h1, h2, h3, h4, h5, h6⟩ := hT.info
  exact ⟨z, by simp [zeroValue, run_info h1, h4], h6, fun E => h5 ▸ ofValue_rel E z⟩

theorem alloc_sound (hS : SysOK S P) {H : AH} {E : GE} (hr : HRel H E) {t : TypeId} {i : TI} (hi : S.T t = some i) :
    ∃ E', (Instr.alloc t true (.tuple #[])).run P E.w = .ok (.pointer (some ⟨E.w.heap.size, 0, none⟩)) E'.w ∧ E.le E' ∧ HRel { H with objs := H.objs ++ [.cells i.zero.cells] } E' ∧ VRel E' (.ptr H.objs.length 0) (.pointer (some ⟨E.w.heap.size, 0, none⟩)) := by
  obtain ⟨z, h1, h2, h3⟩ := zero_rel (hS.type _ _ hi) E.w
  obtain ⟨g1, g2, g3, g4⟩ := new_cells hr (cells_crel (h3 E) h2) t
  exact ⟨_, by simp [Instr.alloc, h1, newVar, newRow]; rfl, g1, g2, .ptr _ _ _ g4 g3⟩

theorem birth_sound (hS : SysOK S P) {H H' : AH} {E : GE} (hr : HRel H E) {t : TypeId} {id : Nat} {v : AV} (h : birthK S H t id = some (v, H')) :
    ∃ E', (Instr.alloc t true (.tuple #[])).run P E.w = .ok (.pointer (some ⟨E.w.heap.size, 0, none⟩)) E'.w ∧ E.le E' ∧ HRel H' E' ∧ VRel E' v (.pointer (some ⟨E.w.heap.size, 0, none⟩)) := by
  unfold birthK at h
  split at h
  · rename_i i hi
    split at h
    · split at h
      · rename_i hid0
        simp only [Option.some.injEq, Prod.mk.injEq] at h
        obtain ⟨rfl, rfl⟩ := h
        obtain ⟨z, h1, h2, h3⟩ := zero_rel (hS.type _ _ hi) E.w
        have hc := cells_crel (h3 E) h2
        have hnone : E.ρ id = none := by
          cases hr.obj id _ hid0 with
          | unborn h0 => exact h0
        have hle := le_born hnone (.cells z.cells t) hr.Slt
        have ho : ORel (E.born id (.cells z.cells t)) id (.cells i.zero.cells) := by
          refine .cells _ E.w.heap.size z.cells t (by simp [GE.born]) ?_ (by have := hc.len; simp at this; omega) ?_ ?_ ?_
          · show (E.w.heap.push _)[E.w.heap.size]? = _
            simp
          · intro j v x hj hx
            exact (hc.rel j v x hj (by simpa using hx)).mono hle
          · intro j x hx
            exact hc.one x (by simpa using Array.mem_of_getElem? hx)
          · intro o ho
            have := hr.Slt _ _ ho
            omega
        obtain ⟨g1, g2⟩ := hr.born hid0 ho
        exact ⟨_, by simp [Instr.alloc, h1, newVar, newRow]; rfl, g1, g2, .ptr _ _ _ (hr.idlt hid0) (by simp [GE.born])⟩
      · simp at h
    · simp at h
  · simp at h

/-- Addresses inside aggregates. -/
theorem run_size' (hS : SysOK S P) {t : TypeId} {i : TI} (hi : S.T t = some i) (w : World) : (sizeOf t).run P w = .ok i.size w := run_size (hS.type _ _ hi) w

theorem rop_part (hS : SysOK S P) {E : GE} {t : TypeId} {j : TI} (hj : S.T t = some j) {cs : List AV} {a : Addr} (hx : VRel E (.rop (.agg cs)) (.pointer (some a))) {off : Nat} {K : AV → Option R} {r : R}
    (h : partK j cs off K = some r) : ∃ v, K v = some r ∧ VRel E (.rop v) (.pointer (some (a.add off))) := by
  cases hx with
  | rop _ _ f hc hf =>
  simp only [AV.cells] at hc hf
  have hadd : ∀ m, off + m < cs.length → (a.add off).add m = a.add (off + m) ∧ (a.add off).block = a.block ∧ (a.add off).off + m = a.off + (off + m) := by
    intro m hm
    have e := addr_of_cell (hc (off + m) hm).1
    by_cases h0 : off = 0
    · subst h0; simp [Addr.add_zero']
    · have e1 : a.add off = ⟨a.block, a.off + off, none⟩ := by simp [Addr.add, h0]
      rw [e1, Addr.add_lit, e]
      exact ⟨by congr 1; omega, rfl, by show a.off + off + m = _; omega⟩
  unfold partK at h
  split at h
  · rename_i hagg
    split at h
    · rename_i hl
      refine ⟨_, h, .rop _ _ (fun m => f (off + m)) ?_ ?_⟩
      · intro m hm
        simp only [AV.cells, List.length_take, List.length_drop] at hm
        obtain ⟨e1, e2, e3⟩ := hadd m (by omega)
        rw [e1, e2, e3]
        exact hc (off + m) (by omega)
      · intro m c hm
        simp only [AV.cells, List.getElem?_take, List.getElem?_drop] at hm
        split at hm
        · exact hf _ _ hm
        · simp at hm
    · simp at h
  · split at h
    · rename_i v hv
      have hlt : off < cs.length := by
        rcases Nat.lt_or_ge off cs.length with h' | h'
        · exact h'
        · simp [List.getElem?_eq_none h'] at hv
      refine ⟨v, h, ?_⟩
      have hvr := hf off v hv
      have hone' := (hc off hlt).2.1
      have hcells : v.cells = [v] := by
        cases v <;> try rfl
        generalize f off = y at hvr hone'
        cases hvr; simp [Value.oneCell'] at hone'
      refine .rop _ _ (fun m => f (off + m)) ?_ ?_
      · intro m hm
        rw [hcells] at hm
        simp at hm
        subst hm
        obtain ⟨e1, e2, e3⟩ := hadd 0 (by omega)
        rw [e1, e2, e3]
        exact hc (off + 0) (by omega)
      · intro m c hm
        rw [hcells] at hm
        cases m with
        | zero => simp at hm; subst hm; simpa using hvr
        | succ m => simp at hm
    · simp at h

theorem fieldAddr_sound (hS : SysOK S P) {E : GE} {t : TypeId} {i : TI} (hi : S.T t = some i) {u : AV} {n : Nat} {K : AV → Option R} {r : R} (h : fieldAddrK i S.T u n K = some r) {x : Value} (hx : VRel E u x)  :
    ∃ v y, K v = some r ∧ VRel E v y ∧ (Instr.fieldAt t x n).run P E.w = .ok y E.w := by
  have hT := hS.type _ _ hi
  have hk := hT.kind
  unfold fieldAddrK at h
  split at h
  · rename_i fs hik
    rw [hik] at hk
    obtain ⟨fields, hu, hf, _⟩ := hk
    split at h
    · rename_i off ft hfn
      split at h
      · rename_i j hj
        split at h
        · simp at h
        · rename_i hsz
          have hfield : ∃ fd, fields[n]? = some fd ∧ fd.offset = off ∧ fd.type = ft := by
            rw [← hf] at hfn
            simp only [List.getElem?_map, Option.map_eq_some_iff, Array.getElem?_toList] at hfn
            obtain ⟨fd, h1, h2⟩ := hfn
            simp only [Prod.mk.injEq] at h2
            exact ⟨fd, h1, h2.1, h2.2⟩
          obtain ⟨fd, hfd, rfl, rfl⟩ := hfield
          have hrun : ∀ (a : Addr), (Instr.fieldAt t (.pointer (some a)) n).run P E.w = .ok (.pointer (some (a.add fd.offset))) E.w := by
            intro a
            simp [Instr.fieldAt, run_underlying hu, hfd, Instr.sureAddr, fieldPlace, run_size' hS hj, hsz]
          split at h
          · rename_i cs
            have hx' := hx
            cases hx with
            | rop _ a f hc hf' =>
            obtain ⟨v, h1, h2⟩ := rop_part hS hj hx' h
            exact ⟨_, _, h1, h2, hrun a⟩
          · rename_i id o
            cases hx with
            | ptr _ _ b hid hb =>
            refine ⟨_, _, h, .ptr _ _ b hid hb, ?_⟩
            rw [hrun]
            simp [Addr.add_lit]
          · simp at h
      · simp at h
    · simp at h
  · simp at h
end Go.Sx

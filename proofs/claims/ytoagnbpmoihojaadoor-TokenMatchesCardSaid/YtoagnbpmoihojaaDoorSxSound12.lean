/- THE ENGINE, 16: slices that are made. -/
import Derived.Test.YtoagnbpmoihojaaDoorSxSound11
set_option linter.unusedSimpArgs false
set_option linter.unusedVariables false
namespace Go.Sx
variable {S : Sys} {P : Program} {R : Type}

theorem splice_set {n : Nat} : ∀ (xs : List AV) (i : Nat) (v : AV), (∀ u, u ∈ xs → u.cells.length = n) → v.cells.length = n → i < xs.length → splice (flat xs) (i * n) v.cells = flat (xs.set i v)
  | [], i, v, _, _, h => by simp at h
  | u :: xs, 0, v, hs, hv, _ => by
    have hu := hs u (by simp)
    simp only [splice, flat, List.set_cons_zero, List.flatMap_cons, Nat.zero_mul, List.take_zero, List.nil_append, Nat.zero_add]
    congr 1
    rw [List.drop_append_of_le_length (by omega), hv, ← hu, List.drop_length, List.nil_append]
  | u :: xs, i + 1, v, hs, hv, h => by
    have hu := hs u (by simp)
    have ih := splice_set xs i v (fun u hm => hs u (by simp [hm])) hv (by simpa using h)
    simp only [splice, flat, List.set_cons_succ, List.flatMap_cons] at ih ⊢
    rw [← ih]
    have e1 : (i + 1) * n = u.cells.length + i * n := by rw [hu, Nat.add_mul]; omega
    have e2 : (i + 1) * n + v.cells.length = u.cells.length + (i * n + v.cells.length) := by rw [e1]; omega
    rw [e2, e1, List.take_append, List.drop_append, List.take_of_length_le (by omega), List.drop_of_length_le (by omega)]
    simp

theorem setParts_fill {n : Nat} : ∀ (ps : List (Nat × AV)) (xs ys : List AV), (∀ u, u ∈ xs → u.cells.length = n) → sizesOk n (ps.map (·.2)) = true → setParts xs ps = some ys →
    fillL (fun i => some (i * n, n)) (flat xs) ps = some (flat ys) ∧ (∀ u, u ∈ ys → u.cells.length = n) ∧ ys.length = xs.length
  | [], xs, ys, hs, _, h => by
    simp only [setParts, Option.some.injEq] at h
    subst h
    exact ⟨rfl, hs, rfl⟩
  | (i, v) :: ps, xs, ys, hs, hz, h => by
    simp only [setParts] at h
    split at h
    · rename_i hi
      simp only [sizesOk, List.map_cons, List.all_cons, Bool.and_eq_true, beq_iff_eq] at hz
      have hs' : ∀ u, u ∈ xs.set i v → u.cells.length = n := by
        intro u hu
        rcases List.mem_or_eq_of_mem_set hu with h' | rfl
        · exact hs u h'
        · exact hz.1
      obtain ⟨h1, h2, h3⟩ := setParts_fill ps (xs.set i v) ys hs' hz.2 h
      refine ⟨?_, h2, by simpa using h3⟩
      simp only [fillL]
      have hin : i * n + n ≤ (flat xs).length := by
        rw [flat_length xs hs]
        have : (i + 1) * n ≤ xs.length * n := Nat.mul_le_mul_right _ hi
        rw [Nat.add_mul] at this; omega
      rw [if_pos (by simp only [hz.1, decide_true, Bool.true_and, decide_eq_true_eq]; exact hin), splice_set xs i v hs hz.1 hi]
      exact h1
    · simp at h

theorem zeros_crel {E : GE} {v : AV} {z : Value} (hz : CRel E v.cells z.cells.toList) {n : Nat} (hn : v.cells.length = n) (hpos : 0 < n) (len : Nat) :
    CRel E (flat (List.replicate len v)) ((Array.range (len * n)).map (z.cells[· % z.cells.size]!)).toList := by
  have hzs : z.cells.size = n := by have := hz.len; simp at this; omega
  have hs : ∀ u, u ∈ List.replicate len v → u.cells.length = n := fun u hu => by rw [List.eq_of_mem_replicate hu]; exact hn
  refine ⟨by rw [flat_length _ hs]; simp, ?_, ?_⟩
  · intro m c x hc hx
    obtain ⟨u, h1, h2⟩ := flat_inv hpos _ hs m c hc
    have hu := List.eq_of_mem_replicate (List.mem_of_getElem? h1)
    subst hu
    simp only [Array.toList_map, List.getElem?_map, Option.map_eq_some_iff, Array.toList_range] at hx
    obtain ⟨m', hm', rfl⟩ := hx
    have hmlt : m < len * n := by
      rcases Nat.lt_or_ge m (len * n) with h' | h'
      · exact h'
      · simp [List.getElem?_eq_none (l := List.range (len * n)) (by simpa using h')] at hm'
    rw [List.getElem?_range hmlt] at hm'
    obtain rfl := Option.some.inj hm'
    have hlt : m % n < z.cells.size := by rw [hzs]; exact Nat.mod_lt _ hpos
    refine hz.rel _ c _ h2 ?_
    rw [hzs]
    simp [hlt]
  · intro x hx
    simp only [Array.toList_map, List.mem_map, Array.toList_range, List.mem_range] at hx
    obtain ⟨m, hm, rfl⟩ := hx
    have hlt : m % z.cells.size < z.cells.size := Nat.mod_lt _ (by omega)
    exact hz.one _ (by simp [hlt])

theorem buildSlice_sound (hS : SysOK S P) {H : AH} {E : GE} (hr : HRel H E) {t : TypeId} {i : TI} (hi : S.T t = some i) {n : Nat} {us : List (Nat × AV)} {xs : Array (Nat × Value)} (hp : us.all (fun p => p.2.solid) = true → PRel E us xs.toList)
    {K : AV → AH → Option R} {r : R} (h : buildSliceK S H i n us K = some r) :
    ∃ v H' E' y, K v H' = some r ∧ E.le E' ∧ HRel H' E' ∧ VRel E' v y ∧ (Instr.buildSlice t n xs).run P E.w = .ok y E'.w := by
  have hk := (hS.type _ _ hi).kind
  unfold buildSliceK at h
  split at h
  · rename_i e hik
    rw [hik] at hk
    have hu : P.underlying t = some (.slice e) := hk
    split at h
    · simp at h
    · rename_i j hj
      split at h
      · rename_i hc
        obtain ⟨hsmall, hzl, hsz⟩ := hc
        have hpos : 0 < j.size := Nat.pos_of_ne_zero hsz
        split at h
        · rename_i ys hys
          split at h
          · rename_i hok
            simp only [Bool.and_eq_true] at hok
            obtain ⟨z, hz1, hz2, hz3⟩ := zero_rel (hS.type _ _ hj) E.w
            have hzc := cells_crel (hz3 E) hz2
            have hini := zeros_crel hzc hzl hpos n
            have hs0 : ∀ u, u ∈ List.replicate n j.zero → u.cells.length = j.size := fun u hu => by rw [List.eq_of_mem_replicate hu]; exact hzl
            obtain ⟨f1, f2, f3⟩ := setParts_fill us _ ys hs0 hok.1 hys
            have hp' := hp (by have := hok.2; rw [List.all_map] at this; exact this)
            obtain ⟨arr, a1, a2⟩ := fill_sound hp' hini f1
            have hyl : ys.length = n := by simpa using f3
            have hsize := fun w => run_size' hS hj w
            have hrun : (Instr.buildSlice t n xs).run P E.w = .ok (.slice (some ⟨E.w.heap.size, 0, none⟩) n n) (E.w.alloc (.cells arr e)) := by
              by_cases h0 : n * j.size = 0
              · have hn0 : n = 0 := by
                  rcases Nat.mul_eq_zero.1 h0 with h | h
                  · exact h
                  · exact absurd h hsz
                subst hn0
                have a1' : Instr.fill (fun i => some (i * j.size, j.size)) #[] xs.toList = some arr := by
                  rw [Nat.zero_mul, Array.range_zero'] at a1
                  simpa using a1
                simp [Instr.buildSlice, run_underlying hu, hsize, a1', newRow, Array.range_zero']
              · have hsm : ¬ (16777216 < n * j.size) := by omega
                simp [Instr.buildSlice, run_underlying hu, hsize, hsm, h0, hz1, a1, newRow]
            split at h
            · unfold newK at h
              obtain ⟨q1, q2, q3, q4⟩ := new_cells hr a2 e
              exact ⟨_, _, _, _, h, q1, q2, .sl _ _ _ _ _ _ _ _ q4 q3 (Nat.le_refl _) (by intro c' hc'; exact Option.some.inj hc') (hS.type _ _ hj).one, hrun⟩
            · have hdt := crel_detok f2 a2
              have hal : arr.size = n * j.size := by
                have := a2.len
                rw [flat_length ys f2, hyl] at this
                simpa using this.symm
              have h1' : ∀ (m : Nat) x, arr[m]? = some x → x.oneCell' = true := fun m x hx => a2.one x (by simpa using Array.mem_of_getElem? hx)
              have hle := row_le hr (.cells arr e) (n * j.size) none
              have hrel := row_rel hr (arr := arr) (el := e) (n := n * j.size) (tk := none) (by omega) h1' (by simp)
              have hval := row_val hr (arr := arr) (el := e) (sz := j.size) (cap := n) (xs := detokL ys) (tk := none) hdt.2 (by
                rw [detokL_length, hyl, List.take_of_length_le (by simp [hal])]; exact hdt.1) h1' (by rw [detokL_length, hyl]; exact Nat.le_refl _) hal (p := .zero) (.inr (.inl ⟨rfl, by rw [detokL_length, hyl]⟩))
              rw [detokL_length, hyl] at hval
              exact ⟨_, _, _, _, h, hle, hrel, hval, hrun⟩
          · simp at h
        · simp at h
      · simp at h
  · simp at h

theorem wrap_small {n : Int} (h0 : 0 ≤ n) (h1 : n < 9223372036854775808) : IntKind.i64.wrap n = n := by
  have e : n % (2 ^ 64 : Int) = n := Int.emod_eq_of_lt h0 (by omega)
  simp only [IntKind.wrap, IntKind.bits, IntKind.signed, e]
  rw [if_neg]
  simp
  omega

theorem makeSlice_sound (hS : SysOK S P) {H : AH} {E : GE} (hr : HRel H E) {t : TypeId} {i : TI} (hi : S.T t = some i) {u v : AV} {K : AV → AH → Option R} {r : R} (h : makeSliceK S H i u v K = some r) {x y : Value} (hx : VRel E u x) (hy : VRel E v y) :
    ∃ v H' E' z, K v H' = some r ∧ E.le E' ∧ HRel H' E' ∧ VRel E' v z ∧ (Instr.makeSlice t x y).run P E.w = .ok z E'.w := by
  have hk := (hS.type _ _ hi).kind
  unfold makeSliceK at h
  split at h
  · rename_i e hik
    rw [hik] at hk
    have hu : P.underlying t = some (.slice e) := hk
    split at h
    · simp at h
    · rename_i j hj
      have h' := asInt_inv h
      clear h
      obtain ⟨kl, l, rfl, h⟩ := h'
      have h' := asInt_inv h
      clear h
      obtain ⟨kc, c, rfl, h⟩ := h'
      rw [rel_int hx, rel_int hy]
      split at h
      · rename_i hc
        obtain ⟨_, _, c1, c2, c3, c4, c5, c6⟩ := hc
        have hpos : 0 < j.size := Nat.pos_of_ne_zero c6
        obtain ⟨inf, g1, g2, g3⟩ := run_typeInfo_bytes (hS.type _ _ hj) E.w
        obtain ⟨z, hz1, hz2, hz3⟩ := zero_rel (hS.type _ _ hj) E.w
        have hzc := cells_crel (hz3 E) hz2
        have hini := zeros_crel hzc c5 hpos c.toNat
        have hsize := fun w => run_size' hS hj w
        have wl := wrap_small c1 (by omega)
        have wc := wrap_small (n := c) (by omega) c3
        have hrun : (Instr.makeSlice t (.int kl l) (.int kc c)).run P E.w = .ok (.slice (some ⟨E.w.heap.size, 0, none⟩) l.toNat c.toNat) (E.w.alloc (.cells ((Array.range (c.toNat * j.size)).map (z.cells[· % z.cells.size]!)) e)) := by
          have b1 : ¬ (281474976710656 < (inf.bytes : Int) * c) := by rw [g2]; omega
          have b2 : ¬ (c < 0) := by omega
          have b3 : ¬ (l < 0) := by omega
          have b4 : ¬ (c < l) := by omega
          by_cases h0 : c.toNat * j.size = 0
          · have hn0 : c.toNat = 0 := by
              rcases Nat.mul_eq_zero.1 h0 with h | h
              · exact h
              · exact absurd h c6
            simp [Instr.makeSlice, run_underlying hu, asInt, asIntOf, g1, wl, wc, b1, b2, b3, b4, hsize, hn0, newRow, Array.range_zero']
          · simp [Instr.makeSlice, run_underlying hu, asInt, asIntOf, g1, wl, wc, b1, b2, b3, b4, hsize, h0, hz1, newRow]
        have hone : ∀ (m : Nat) x, ((Array.range (c.toNat * j.size)).map (z.cells[· % z.cells.size]!))[m]? = some x → x.oneCell' = true := fun m x hx => hini.one x (by simpa using Array.mem_of_getElem? hx)
        have hal : ((Array.range (c.toNat * j.size)).map (z.cells[· % z.cells.size]!)).size = c.toNat * j.size := by simp
        split at h
        · rename_i hl0
          obtain ⟨rfl, _⟩ := hl0
          have hle := row_le hr (.cells ((Array.range (c.toNat * j.size)).map (z.cells[· % z.cells.size]!)) e) (([] : List AV).length * j.size) (some (j.size, c.toNat * j.size))
          have hrel := row_rel hr (arr := (Array.range (c.toNat * j.size)).map (z.cells[· % z.cells.size]!)) (el := e) (n := ([] : List AV).length * j.size) (tk := some (j.size, c.toNat * j.size)) (by simp) hone (by
            intro q hq
            obtain rfl := Option.some.inj hq
            exact ⟨by simp, by rw [hal]; exact Nat.le_refl _⟩)
          have hval := row_val hr (arr := (Array.range (c.toNat * j.size)).map (z.cells[· % z.cells.size]!)) (el := e) (sz := j.size) (cap := c.toNat) (xs := []) (tk := some (j.size, c.toNat * j.size)) (by simp) ⟨by simp [flat], by simp [flat], by simp⟩ hone (by simp) hal (p := .tok E.nt 0) (.inr (.inr ⟨rfl, rfl⟩))
          refine ⟨_, _, _, _, h, hle, hrel, ?_, hrun⟩
          rw [← hr.nt]; exact hval
        · unfold newK at h
          obtain ⟨q1, q2, q3, q4⟩ := new_cells hr hini e
          exact ⟨_, _, _, _, h, q1, q2, .sl _ _ _ _ _ _ _ _ q4 q3 (by omega) (by intro c' hc'; exact Option.some.inj hc') (hS.type _ _ hj).one, hrun⟩
      · simp at h
  · simp at h

end Go.Sx

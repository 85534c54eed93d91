/- THE ENGINE, 12: lists that are read, copied, appended to. -/
import Derived.Test.YtoagnbpmoihojaaDoorSxSound7
set_option linter.unusedSimpArgs false
set_option linter.unusedVariables false
namespace Go.Sx
variable {S : Sys} {P : Program} {R : Type}

theorem flat_inv {n : Nat} (hn : 0 < n) : ∀ (xs : List AV), (∀ v, v ∈ xs → v.cells.length = n) → ∀ (m : Nat) c, (flat xs)[m]? = some c → ∃ v, xs[m / n]? = some v ∧ v.cells[m % n]? = some c
  | [], _, m, c, h => by simp [flat] at h
  | u :: xs, hs, m, c, h => by
    have hu := hs u (by simp)
    simp only [flat, List.flatMap_cons] at h
    by_cases hm : m < n
    · rw [List.getElem?_append_left (by omega)] at h
      exact ⟨u, by rw [Nat.div_eq_of_lt hm]; rfl, by rw [Nat.mod_eq_of_lt hm]; exact h⟩
    · rw [List.getElem?_append_right (by omega), hu] at h
      obtain ⟨v, h1, h2⟩ := flat_inv hn xs (fun v hv => hs v (by simp [hv])) (m - n) c h
      have e1 : m / n = (m - n) / n + 1 := by
        have := Nat.add_div_right (m - n) hn
        rw [← this]; congr 1; omega
      have e2 : m % n = (m - n) % n := by
        have := Nat.add_mod_right (m - n) n
        rw [← this]; congr 1; omega
      exact ⟨v, by rw [e1, List.getElem?_cons_succ]; exact h1, by rw [e2]; exact h2⟩

theorem chunks_spec {n : Nat} {ag : Bool} (hag : ag = false → n = 1) : ∀ (len : Nat) (cs : List AV), len * n ≤ cs.length → (∀ c, c ∈ cs → c.cells = [c]) →
    flat (chunks n ag len cs) = cs.take (len * n) ∧ (chunks n ag len cs).length = len ∧ ∀ v, v ∈ chunks n ag len cs → v.cells.length = n
  | 0, cs, _, _ => by simp [chunks, flat]
  | len + 1, cs, h, hc => by
    rw [Nat.add_mul] at h
    obtain ⟨h1, h2, h3⟩ := chunks_spec hag len (cs.drop n) (by simp; omega) (fun c hm => hc c (List.mem_of_mem_drop hm))
    have hhead : (if ag = true then AV.agg (cs.take n) else cs.getD 0 .top).cells = cs.take n ∧ (if ag = true then AV.agg (cs.take n) else cs.getD 0 .top).cells.length = n := by
      cases ag with
      | true => exact ⟨rfl, by show (cs.take n).length = n; simp; omega⟩
      | false =>
        have e := hag rfl
        subst e
        cases cs with
        | nil => simp at h
        | cons c cs =>
          have := hc c (by simp)
          simp [this]
    refine ⟨?_, by simp [chunks, h2], ?_⟩
    · simp only [chunks, flat, List.flatMap_cons] at h1 ⊢
      rw [hhead.1, h1, Nat.add_mul, Nat.one_mul, Nat.add_comm (len * n) n, List.take_add]
    · intro v hv
      simp only [chunks, List.mem_cons] at hv
      rcases hv with rfl | hv
      · exact hhead.2
      · exact h3 v hv

theorem chunks_take {n : Nat} {ag : Bool} : ∀ (len k : Nat) (cs : List AV), k ≤ len → (chunks n ag len cs).take k = chunks n ag k cs
  | 0, k, cs, h => by
    obtain rfl : k = 0 := by omega
    rfl
  | len + 1, 0, cs, _ => rfl
  | len + 1, k + 1, cs, h => by
    simp only [chunks, List.take_succ_cons]
    rw [chunks_take len k _ (by omega)]

theorem cell_plain {E : GE} {c : AV} {x : Value} (h : VRel E c x) (h1 : x.oneCell' = true) : c.cells = [c] := by
  cases c <;> try rfl
  cases h; simp [Value.oneCell'] at h1

/-- What a list of elements of n cells is, as a source. -/
structure Src (P : Program) (E : GE) (n : Nat) (ys : List AV) (x : Value) : Prop where
  len : (Builtin.lenOf x).run P E.w = .ok ys.length E.w
  sizes : ∀ v, v ∈ ys → v.cells.length = n
  first : ∀ k, k ≤ ys.length → ∃ arr : Array Value, (∀ d, (Builtin.firstCells n k x).run P { E.w with drawn := d } = .ok arr { E.w with drawn := d }) ∧ arr.size = k * n ∧ CRel E (flat (ys.take k)) arr.toList

theorem loadRange {E : GE} {a : Addr} {m : Nat} {f : Nat → Value} (h : ∀ j, j < m → E.w.cell? (a.add j) = some (f j)) (d : Nat) : (loadCells a m).run P { E.w with drawn := d } = .ok ((List.range m).map f).toArray { E.w with drawn := d } :=
  run_loadCells (P := P) { E.w with drawn := d } a m f (fun j hj => h j hj)

theorem src_sound {H : AH} {E : GE} (hr : HRel H E) {n : Nat} (hn : 0 < n) {v : AV} {ys : List AV} (h : srcOf H n v = some ys) {x : Value} (hx : VRel E v x) : Src P E n ys x := by
  unfold srcOf at h
  split at h
  · rename_i b
    split at h
    · rename_i hn1
      simp only [Option.some.injEq] at h
      subst h; subst hn1
      rw [rel_str hx]
      refine ⟨by simp [Builtin.lenOf]; rfl, ?_, ?_⟩
      · intro v hv
        simp only [List.mem_map] at hv
        obtain ⟨c, _, rfl⟩ := hv
        rfl
      · intro k hk
        simp only [List.length_map] at hk
        have hfl : ∀ l : List UInt8, flat (l.map fun c => AV.int .u8 c.toNat) = l.map fun c => AV.int .u8 c.toNat := by
          intro l
          induction l with
          | nil => rfl
          | cons c l ih => simp only [flat, List.map_cons, List.flatMap_cons] at ih ⊢; rw [ih]; rfl
        refine ⟨((b.take k).map fun c => Value.int .u8 c.toNat).toArray, ?_, by simp; omega, ?_⟩
        · intro d
          simp only [Builtin.firstCells, mkstr b 0 k (Nat.zero_le _), Sem.run_pure]
          congr 1
          simp
        · rw [← List.map_take, hfl]
          refine ⟨by simp, ?_, ?_⟩
          · intro j v x hv hx
            simp only [List.getElem?_map, Option.map_eq_some_iff, List.toList_toArray] at hv hx
            obtain ⟨c, hc, rfl⟩ := hv
            obtain ⟨c', hc', rfl⟩ := hx
            rw [hc] at hc'
            obtain rfl := Option.some.inj hc'
            exact .int _ _
          · intro x hx
            simp only [List.toList_toArray, List.mem_map] at hx
            obtain ⟨c, _, rfl⟩ := hx
            rfl
    · simp at h
  · unfold elemsK at h
    split at h
    · simp only [Option.some.injEq] at h
      subst h
      rw [rel_nils hx]
      refine ⟨by simp [Builtin.lenOf], by simp, ?_⟩
      intro k hk
      simp at hk
      subst hk
      exact ⟨#[], fun d => by simp [Builtin.firstCells], by simp, ⟨by simp [flat], by simp, by simp⟩⟩
    · rename_i f p sz xs _
      split at h
      · rename_i hsz
        simp only [Option.some.injEq] at h
        subst h; subst hsz
        cases hx with
        | inl _ _ _ _ a cap g h1 h2 h3 h4 h5 h6 =>
        refine ⟨by simp [Builtin.lenOf], h1, ?_⟩
        intro k hk
        have hidx : ∀ m, m < k * sz → m / sz < xs.length ∧ m % sz < sz ∧ m / sz * sz + m % sz = m ∧ m / sz < k := by
          intro m hm
          have q1 : m / sz < k := (Nat.div_lt_iff_lt_mul hn).2 hm
          exact ⟨by omega, Nat.mod_lt _ hn, by rw [Nat.mul_comm]; exact Nat.div_add_mod m sz, q1⟩
        refine ⟨((List.range (k * sz)).map fun m => g (m / sz) (m % sz)).toArray, fun d => ?_, by simp, ?_⟩
        · simp only [Builtin.firstCells]
          refine loadRange (P := P) (E := E) (f := fun m => g (m / sz) (m % sz)) ?_ d
          intro m hm
          obtain ⟨q1, q2, q3, _⟩ := hidx m hm
          have := (h2 _ _ q1 q2).1
          rwa [q3] at this
        · have hs' : ∀ v, v ∈ xs.take k → v.cells.length = sz := fun v hv => h1 v (List.mem_of_mem_take hv)
          refine ⟨by rw [flat_length _ hs']; simp [Nat.min_eq_left hk], ?_, ?_⟩
          · intro m c x hc hx
            obtain ⟨v, e1, e2⟩ := flat_inv hn _ hs' m c hc
            simp only [List.toList_toArray, List.getElem?_map, Option.map_eq_some_iff] at hx
            obtain ⟨m', hm', rfl⟩ := hx
            have hmlt : m < k * sz := by
              rcases Nat.lt_or_ge m (k * sz) with h' | h'
              · exact h'
              · simp [List.getElem?_eq_none (l := List.range (k * sz)) (by simpa using h')] at hm'
            rw [List.getElem?_range hmlt] at hm'
            obtain rfl := Option.some.inj hm'
            rw [List.getElem?_take] at e1
            split at e1
            · exact h3 _ _ _ _ e1 e2
            · simp at e1
          · intro x hx
            simp only [List.toList_toArray, List.mem_map, List.mem_range] at hx
            obtain ⟨m, hm, rfl⟩ := hx
            obtain ⟨q1, q2, q3, _⟩ := hidx m hm
            exact (h2 _ _ q1 q2).2.1
      · simp at h
    · rename_i id off len cap sz ag _
      split at h
      · rename_i hsz
        subst hsz
        split at h
        · rename_i cs ho
          split at h
          · rename_i hlen
            simp only [Option.some.injEq] at h
            subst h
            cases hx with
            | sl _ _ _ _ _ _ b c hid hb hlc hcap hag =>
            cases hr.obj _ _ ho with
            | cells _ b' arr el hb' hh hl hc h1 hS' =>
            rw [hb] at hb'
            obtain rfl := Option.some.inj hb'
            have hplain : ∀ c, c ∈ cs → c.cells = [c] := by
              intro c hm
              obtain ⟨j, hj⟩ := List.getElem?_of_mem hm
              have hlt : j < arr.size := by
                rcases Nat.lt_or_ge j cs.length with h' | h'
                · omega
                · simp [List.getElem?_eq_none h'] at hj
              exact cell_plain (hc j c arr[j] hj (by simp [hlt])) (h1 j _ (by simp [hlt]))
            obtain ⟨q1, q2, q3⟩ := chunks_spec (ag := ag) hag len (cs.drop off) (by simp; omega) (fun c hm => hplain c (List.mem_of_mem_drop hm))
            refine ⟨by simp [Builtin.lenOf, q2], q3, ?_⟩
            intro k hk
            rw [q2] at hk
            have hkn : k * sz ≤ len * sz := Nat.mul_le_mul_right _ hk
            rw [chunks_take len k _ hk]
            obtain ⟨r1, r2, r3⟩ := chunks_spec (ag := ag) hag k (cs.drop off) (by simp; omega) (fun c hm => hplain c (List.mem_of_mem_drop hm))
            refine ⟨((List.range (k * sz)).map fun m => arr.getD (off + m) undef).toArray, fun d => ?_, by simp, ?_⟩
            · simp only [Builtin.firstCells]
              refine loadRange (P := P) (E := E) (f := fun m => arr.getD (off + m) undef) ?_ d
              intro m hm
              have hlt : off + m < arr.size := by omega
              rw [Addr.add_lit, obj_cell hh]
              simp [Array.getD, hlt]
            · rw [r1]
              refine ⟨by simp; omega, ?_, ?_⟩
              · intro m c x hc' hx
                simp only [List.toList_toArray, List.getElem?_map, Option.map_eq_some_iff] at hx
                obtain ⟨m', hm', rfl⟩ := hx
                have hmlt : m < k * sz := by
                  rcases Nat.lt_or_ge m (k * sz) with h' | h'
                  · exact h'
                  · simp [List.getElem?_eq_none (l := List.range (k * sz)) (by simpa using h')] at hm'
                rw [List.getElem?_range hmlt] at hm'
                obtain rfl := Option.some.inj hm'
                rw [List.getElem?_take, if_pos hmlt, List.getElem?_drop] at hc'
                have hlt : off + m < arr.size := by omega
                simp only [Array.getD, hlt, dite_true]
                exact hc _ _ _ hc' (by simp [hlt])
              · intro x hx
                simp only [List.toList_toArray, List.mem_map, List.mem_range] at hx
                obtain ⟨m, hm, rfl⟩ := hx
                have hlt : off + m < arr.size := by omega
                simp only [Array.getD, hlt, dite_true]
                exact h1 (off + m) _ (by simp [hlt])
          · simp at h
        · simp at h
      · simp at h
    · simp at h

end Go.Sx

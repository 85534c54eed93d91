/- THE ENGINE, 13: append. -/
import Derived.Test.YtoagnbpmoihojaaDoorSxSound8
set_option linter.unusedSimpArgs false
set_option linter.unusedVariables false
namespace Go.Sx
variable {S : Sys} {P : Program} {R : Type}

theorem grow_le (m : Nat) : ∀ (r c : Nat), c ≤ m + (m + 768) / 4 → Builtin.growBy m r c ≤ m + (m + 768) / 4
  | 0, c, h => h
  | r + 1, c, h => by
    unfold Builtin.growBy
    split
    · exact h
    · exact grow_le m r _ (by omega)

theorem next_le {need old : Nat} (h : old < need) : Builtin.nextslicecap need old ≤ need + need / 2 + 512 := by
  unfold Builtin.nextslicecap
  split
  · omega
  · split
    · omega
    · have := grow_le need 4 old (by omega)
      omega

theorem run_typeInfo_bytes {t : TypeId} {i : TI} (hT : TypeOK P t i) (w : World) : ∃ x, (typeInfo t).run P w = .ok x w ∧ x.bytes = i.bytes ∧ x.size = i.size := by
  obtain ⟨x, z, h1, h2, h3, _⟩ := hT.info
  exact ⟨x, run_info h1 w, h3, h2⟩

theorem listType_ok (hS : SysOK S P) {t : Option TypeId} (h : listType S t = true) : ∃ t1, t = some t1 ∧ ((∃ e, P.underlying t1 = some (.slice e)) ∨ P.underlying t1 = some .string) := by
  unfold listType at h
  split at h
  · rename_i t1
    split at h
    · rename_i i hi
      have hk := (hS.type _ _ hi).kind
      refine ⟨t1, rfl, ?_⟩
      split at h
      · rename_i e hik; rw [hik] at hk; exact .inl ⟨e, hk⟩
      · rename_i hik; rw [hik] at hk; exact .inr hk
      · simp at h
    · simp at h
  · simp at h

/-- There is room. -/
theorem append_stay (hS : SysOK S P) {ts : Array TypeId} {ty t e : TypeId} {j : TI} (ht : ts[0]? = some t) (hu : P.underlying t = some (.slice e)) (hj : S.T e = some j) (hl : listType S ts[1]? = true) {w w' : World} {base : Option Addr} {n c m : Nat} {x : Value} {new : Array Value}
    (hx : (Builtin.lenOf x).run P w = .ok m w) (hnew : (Builtin.firstCells j.size m x).run P w = .ok new w) (hroom : n + m ≤ c)
    (hst : (match base with | some a => storeCells (a.add (n * j.size)) new.toList | none => pure () : Sem Unit).run P w = .ok () w') :
    (Builtin.append_ ts ty #[.slice base n c, x]).run P w = .ok (.slice base (n + m) c) w' := by
  obtain ⟨t1, h1, h2⟩ := listType_ok hS hl
  have hsz := fun w => run_size' hS hj w
  cases base with
  | none =>
    simp only [Sem.run_pure, Result.ok.injEq, true_and] at hst
    subst hst
    rcases h2 with ⟨e', h2⟩ | h2 <;>
      simp [Builtin.append_, ht, h1, run_underlying hu, run_underlying h2, hsz, hx, hroom, hnew]
  | some a =>
    simp only at hst
    rcases h2 with ⟨e', h2⟩ | h2 <;>
      simp [Builtin.append_, ht, h1, run_underlying hu, run_underlying h2, hsz, hx, hroom, hnew, hst]

/-- There is none: a new array. -/
theorem append_move (hS : SysOK S P) {ts : Array TypeId} {ty t e : TypeId} {j : TI} (ht : ts[0]? = some t) (hu : P.underlying t = some (.slice e)) (hj : S.T e = some j) (hl : listType S ts[1]? = true) {w : World} {base : Option Addr} {n c m : Nat} {x : Value} {old new : Array Value}
    (hx : (Builtin.lenOf x).run P w = .ok m w) (hnew : (Builtin.firstCells j.size m x).run P w.drew = .ok new w.drew) (hold : (Builtin.firstCells j.size n (.slice base n c)).run P w.drew = .ok old w.drew)
    (hroom : c < n + m) (hfit : fitsRoom (n + m) j.bytes = true) (hzc : j.zero.cells.length = j.size) :
    ∃ cap rest, n + m ≤ cap ∧ rest.size = (cap - (n + m)) * j.size ∧ (∀ y, y ∈ rest → y.oneCell' = true) ∧
      (Builtin.append_ ts ty #[.slice base n c, x]).run P w = .ok (.slice (some ⟨w.heap.size, 0, none⟩) (n + m) cap) (w.drew.alloc (.cells (old ++ new ++ rest) e)) := by
  obtain ⟨t1, h1, h2⟩ := listType_ok hS hl
  have hsz := fun w => run_size' hS hj w
  obtain ⟨inf, hi1, hi2, hi3⟩ := run_typeInfo_bytes (hS.type _ _ hj) w
  obtain ⟨inf', hi1', _, _⟩ := run_typeInfo_bytes (hS.type _ _ hj) w.drew
  obtain ⟨z, hz1, hz2, hz3⟩ := zero_rel (hS.type _ _ hj) w.drew
  simp only [fitsRoom, Bool.and_eq_true, decide_eq_true_eq] at hfit
  have hnext : Builtin.nextslicecap (n + m) c * j.bytes ≤ 281474976710656 := by
    have := next_le (need := n + m) (old := c) hroom
    exact Nat.le_trans (Nat.mul_le_mul_right _ this) hfit.1
  have hzc' : ∀ E : GE, CRel E j.zero.cells z.cells.toList := fun E => cells_crel (hz3 E) hz2
  have hzc' := hzc' ⟨w, 0, fun _ => none, 0, fun _ _ => none, fun _ _ => False, 0, 0⟩
  have hzsize : z.cells.size = j.size := by have := hzc'.len; simp at this; omega
  have hq : (Question.appendCap (n + m) c e).forced = false := rfl
  refine ⟨(Question.appendCap (n + m) c e).cut (w.tape w.drawn (Question.appendCap (n + m) c e)), Builtin.zeroCells z.cells ((Question.appendCap (n + m) c e).cut (w.tape w.drawn (Question.appendCap (n + m) c e)) - (n + m)), by simp only [Question.cut]; omega, ?_, ?_, ?_⟩
  · simp [Builtin.zeroCells, hzsize]
  · intro y hy
    simp only [Builtin.zeroCells, Array.mem_map, Array.mem_range] at hy
    obtain ⟨i, hi, rfl⟩ := hy
    have hpos : 0 < z.cells.size := by
      rcases Nat.eq_zero_or_pos z.cells.size with h0 | h0
      · rw [h0, Nat.mul_zero] at hi; omega
      · exact h0
    have hlt : i % z.cells.size < z.cells.size := Nat.mod_lt _ hpos
    exact hzc'.one _ (by simp [hlt])
  · have hn : ¬ n + m ≤ c := by omega
    have h63 : ¬ ((9223372036854775807 : Int) < (n : Int) + (m : Int)) := by omega
    have hbig : ¬ (281474976710656 < Builtin.nextslicecap (n + m) c * j.bytes) := by omega
    have hdrew : ({ w with drawn := w.drawn + 1 } : World) = w.drew := rfl
    rcases h2 with ⟨e', h2⟩ | h2 <;>
      simp [Builtin.append_, ht, h1, run_underlying hu, run_underlying h2, hsz, hx, hn, h63, hi1, hi2, hi1', hbig, hq, hdrew, hold, hnew, hz1, newRow]

/-- Where only the count of answers has moved. -/
theorem le_heap {E : GE} {w' : World} (hh : w'.heap = E.w.heap) (ho : w'.os = E.w.os) (ht : w'.tape = E.w.tape) (hu : w'.output = E.w.output) : E.le (E.at w') where
  nid := Nat.le_refl _
  ρ := fun _ _ _ h => h
  nt := Nat.le_refl _
  τ := fun _ _ _ _ h => h
  S := fun _ _ h => h
  cell := fun b o _ => by show w'.cell? _ = _; simp only [World.cell?, hh]
  base := rfl
  low := rfl
  snew := fun _ _ h => .inl h
  own := fun _ _ h => h
  os := ho
  tape := ht
  output := hu
  size := by show E.w.heap.size ≤ w'.heap.size; rw [hh]; exact Nat.le_refl _
  block := fun b _ _ => by show w'.heap[b]? = _; rw [hh]

theorem HRel.heap {H : AH} {E : GE} (h : HRel H E) {w' : World} (hh : w'.heap = E.w.heap) (ho : w'.os = E.w.os) (ht : w'.tape = E.w.tape) (hu : w'.output = E.w.output) : HRel H (E.at w') := by
  have hle := le_heap hh ho ht hu
  constructor
  · exact h.nid
  · exact h.nt
  · intro id o hi
    exact (h.obj id o hi).mono hle (h.idlt hi) (fun b _ => by show w'.heap[b]? = _; rw [hh]) (fun _ _ _ h => h)
  · exact h.inj
  · intro t g sz ht'
    obtain ⟨k, e, ce, c, el, h1, h2, h3⟩ := h.tok t g sz ht'
    exact ⟨k, e, ce, c, el, h1, by show w'.heap[k]? = _; rw [hh]; exact h2, h3⟩
  · exact h.late
  · exact h.tsep
  · exact h.tinj
  · exact h.tbase
  · intro b o hb
    have := h.set b o hb
    show (w'.cell? _).isSome = true
    simp only [World.cell?, hh] at this ⊢; exact this
  · intro b hb
    have := h.lt b hb
    show b < w'.heap.size
    rw [hh]; exact this
  · show E.base ≤ w'.heap.size
    rw [hh]; exact h.hbase

theorem detok_cells (v : AV) : (detok v).cells.length = v.cells.length := by
  cases v <;> simp [detok, AV.cells]
  rename_i cs
  induction cs with
  | nil => rfl
  | cons c cs ih => simp [detokL, ih]

theorem detokL_get : ∀ (vs : List AV) (i : Nat), (detokL vs)[i]? = (vs[i]?).map detok
  | [], i => by simp [detokL]
  | v :: vs, 0 => by simp [detokL]
  | v :: vs, i + 1 => by simp [detokL, detokL_get vs i]

theorem detokL_length : ∀ (vs : List AV), (detokL vs).length = vs.length
  | [] => rfl
  | v :: vs => by simp [detokL, detokL_length vs]

theorem detok_cells_get (v : AV) (j : Nat) (c : AV) (h : (detok v).cells[j]? = some c) : ∃ d, v.cells[j]? = some d ∧ c = detok d := by
  by_cases ha : ∃ cs, v = .agg cs
  · obtain ⟨cs, rfl⟩ := ha
    simp only [detok, AV.cells, detokL_get, Option.map_eq_some_iff] at h
    obtain ⟨d, h1, h2⟩ := h
    exact ⟨d, h1, h2.symm⟩
  · have hv : v.cells = [v] := by cases v <;> simp_all [AV.cells]
    have hd : (detok v).cells = [detok v] := by cases v <;> simp_all [AV.cells, detok]
    rw [hd] at h
    rw [hv]
    cases j with
    | zero => simp at h; exact ⟨v, rfl, h.symm⟩
    | succ j => simp at h

theorem detok_rel {E : GE} {v : AV} {x : Value} (h : VRel E v x) : VRel E (detok v) x := by
  induction h with
  | top v => exact .top v
  | bool b => exact .bool b
  | int k n => exact .int k n
  | str s => exact .str s
  | ptr id off b hid hb => exact .ptr id off b hid hb
  | nilptr => exact .nilptr
  | rop v a x hx hr ih =>
    refine .rop _ a x (fun j hj => hx j (by rwa [detok_cells] at hj)) (fun j c hc => ?_)
    obtain ⟨d, h1, rfl⟩ := detok_cells_get v j c hc
    exact ih j d h1
  | nils => exact .nils
  | inl f p sz xs a cap x hsz hx hr hcap hf hp ih =>
    have hl := detokL_length xs
    have key : VRel E (.inl f p.detok sz (detokL xs)) (.slice (some a) (detokL xs).length cap) := by
      refine .inl f _ sz (detokL xs) a cap x ?_ (fun i j hi hj => hx i j (by omega) hj) ?_ (by omega) hf ?_
      · intro v hv
        obtain ⟨i, hi⟩ := List.getElem?_of_mem hv
        rw [detokL_get, Option.map_eq_some_iff] at hi
        obtain ⟨u, hu, rfl⟩ := hi
        rw [detok_cells]; exact hsz u (List.mem_of_getElem? hu)
      · intro i v j c hi hj
        rw [detokL_get, Option.map_eq_some_iff] at hi
        obtain ⟨u, hu, rfl⟩ := hi
        obtain ⟨d, h1, rfl⟩ := detok_cells_get u j c hj
        exact ih i u j d hu h1
      · cases p with
        | unk => trivial
        | zero => rw [hl]; exact hp
        | tok t g => trivial
    rw [hl] at key
    exact key
  | sl id off len cap sz ag b c hid hb hl hc hag => exact .sl id off len cap sz ag b c hid hb hl hc hag
  | map id b hid hb => exact .map id b hid hb
  | nilmap => exact .nilmap
  | yield id b hid hb => exact .yield id b hid hb
  | func fn as bs xs ys hfn h1 _ h3 _ ih2 ih4 =>
    refine .func fn (detokL as) (detokL bs) xs ys hfn (by rw [detokL_length]; exact h1) ?_ (by rw [detokL_length]; exact h3) ?_
    · intro i v x hv hx
      rw [detokL_get, Option.map_eq_some_iff] at hv
      obtain ⟨u, hu, rfl⟩ := hv
      exact ih2 i u x hu hx
    · intro i v x hv hx
      rw [detokL_get, Option.map_eq_some_iff] at hv
      obtain ⟨u, hu, rfl⟩ := hv
      exact ih4 i u x hu hx
  | nilfunc => exact .nilfunc
  | iface t v x _ ih => exact .iface t _ x ih
  | niliface => exact .niliface
  | agg cs xs h1 _ h3 ih =>
    refine .agg (detokL cs) xs (by rw [detokL_length]; exact h1) ?_ h3
    intro i v x hv hx
    rw [detokL_get, Option.map_eq_some_iff] at hv
    obtain ⟨u, hu, rfl⟩ := hv
    exact ih i u x hu hx
  | tuple vs xs h1 _ ih =>
    refine .tuple (detokL vs) xs (by rw [detokL_length]; exact h1) ?_
    intro i v x hv hx
    rw [detokL_get, Option.map_eq_some_iff] at hv
    obtain ⟨u, hu, rfl⟩ := hv
    exact ih i u x hu hx

theorem flat_detok : ∀ (xs : List AV) (m : Nat) c, (flat (detokL xs))[m]? = some c → ∃ d, (flat xs)[m]? = some d ∧ c = detok d
  | [], m, c, h => by simp [detokL, flat] at h
  | v :: xs, m, c, h => by
    simp only [detokL, flat, List.flatMap_cons] at h ⊢
    by_cases hm : m < v.cells.length
    · rw [List.getElem?_append_left (by rw [detok_cells]; exact hm)] at h
      rw [List.getElem?_append_left hm]
      exact detok_cells_get v m c h
    · rw [List.getElem?_append_right (by rw [detok_cells]; omega), detok_cells] at h
      rw [List.getElem?_append_right (by omega)]
      exact flat_detok xs _ c h

theorem crel_detok {E : GE} {n : Nat} {xs : List AV} {ys : List Value} (hs : ∀ v, v ∈ xs → v.cells.length = n) (h : CRel E (flat xs) ys) : CRel E (flat (detokL xs)) ys ∧ (∀ v, v ∈ detokL xs → v.cells.length = n) := by
  have hs' : ∀ v, v ∈ detokL xs → v.cells.length = n := by
    intro v hv
    obtain ⟨i, hi⟩ := List.getElem?_of_mem hv
    rw [detokL_get, Option.map_eq_some_iff] at hi
    obtain ⟨u, hu, rfl⟩ := hi
    rw [detok_cells]; exact hs u (List.mem_of_getElem? hu)
  refine ⟨⟨?_, ?_, h.one⟩, hs'⟩
  · rw [flat_length _ hs', detokL_length, ← flat_length xs hs]; exact h.len
  · intro j v x hv hx
    obtain ⟨d, h1, rfl⟩ := flat_detok xs j v hv
    exact detok_rel (h.rel j d x h1 hx)

theorem crel_append {E : GE} {us vs : List AV} {xs ys : List Value} (h1 : CRel E us xs) (h2 : CRel E vs ys) : CRel E (us ++ vs) (xs ++ ys) := by
  have e1 := h1.len
  refine ⟨by simp [h1.len, h2.len], ?_, ?_⟩
  · intro j v x hv hx
    by_cases hj : j < us.length
    · rw [List.getElem?_append_left hj] at hv
      rw [List.getElem?_append_left (by omega)] at hx
      exact h1.rel j v x hv hx
    · rw [List.getElem?_append_right (by omega)] at hv hx
      rw [e1] at hv
      exact h2.rel _ v x hv hx
  · intro x hx
    rcases List.mem_append.1 hx with h | h
    · exact h1.one x h
    · exact h2.one x h

theorem CRel.mono {E E' : GE} (hle : E.le E') {vs : List AV} {xs : List Value} (h : CRel E vs xs) : CRel E' vs xs := ⟨h.len, fun j v x a b => (h.rel j v x a b).mono hle, h.one⟩

theorem flat_append (xs ys : List AV) : flat (xs ++ ys) = flat xs ++ flat ys := by simp [flat]

end Go.Sx

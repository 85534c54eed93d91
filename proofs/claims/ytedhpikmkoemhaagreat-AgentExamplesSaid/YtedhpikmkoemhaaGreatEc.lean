/- THE ENGINE, 13: append. -/
import Derived.Test.YtedhpikmkoemhaaGreatEb
set_option linter.unusedSimpArgs false
set_option linter.unusedVariables false
namespace Go.Sx
variable {S : Sys} {P : Program} {R : Type}

theorem grow_le (m : Nat) : ∀ (r c : Nat), c ≤ m + (m + 768) / 4 → Builtin.growBy m r c ≤ m + (m + 768) / 4
  | 0, c, h => h
  | r + 1, c, h => by
    unfold Builtin.growBy
    split
    · exact h
    · exact grow_le m r _ (by omega)

theorem next_le {need old : Nat} (h : old < need) : Builtin.nextslicecap need old ≤ need + need / 2 + 512 := by
  unfold Builtin.nextslicecap
  split
  · omega
  · split
    · omega
    · have := grow_le need 4 old (by omega)
      omega

theorem run_typeInfo_bytes {t : TypeId} {i : TI} (hT : TypeOK P t i) (w : World) : ∃ x, (typeInfo t).run P w = .ok x w ∧ x.bytes = i.bytes ∧ x.size = i.size := by
  obtain ⟨x, z, h1, h2, h3, _⟩ := hT.info
  exact ⟨x, run_info h1 w, h3, h2⟩

theorem listType_ok (hS : SysOK S P) {t : Option TypeId} (h : listType S t = true) : ∃ t1, t = some t1 ∧ ((∃ e, P.underlying t1 = some (.slice e)) ∨ P.underlying t1 = some .string) := by
  unfold listType at h
  split at h
  · rename_i t1
    split at h
    · rename_i i hi
      have hk := (hS.type _ _ hi).kind
      refine ⟨t1, rfl, ?_⟩
      split at h
      · rename_i e hik; rw [hik] at hk; exact .inl ⟨e, hk⟩
      · rename_i hik; rw [hik] at hk; exact .inr hk
      · simp at h
    · simp at h
  · simp at h

/-- There is room. -/
theorem append_stay (hS : SysOK S P) {ts : Array TypeId} {ty t e : TypeId} {j : TI} (ht : ts[0]? = some t) (hu : P.underlying t = some (.slice e)) (hj : S.T e = some j) (hl : listType S ts[1]? = true) {w w' : World} {base : Option Addr} {n c m : Nat} {x : Value} {new : Array Value}
    (hx : (Builtin.lenOf x).run P w = .ok m w) (hnew : (Builtin.firstCells j.size m x).run P w = .ok new w) (hroom : n + m ≤ c)
    (hst : (match base with | some a => storeCells (a.add (n * j.size)) new.toList | none => pure () : Sem Unit).run P w = .ok () w') :
    (Builtin.append_ ts ty #[.slice base n c, x]).run P w = .ok (.slice base (n + m) c) w' := by
  obtain ⟨t1, h1, h2⟩ := listType_ok hS hl
  have hsz := fun w => run_size' hS hj w
  cases base with
  | none =>
    simp only [Sem.run_pure, Result.ok.injEq, true_and] at hst
    subst hst
    rcases h2 with ⟨e', h2⟩ | h2 <;>
      simp [Builtin.append_, ht, h1, run_underlying hu, run_underlying h2, hsz, hx, hroom, hnew]
  | some a =>
    simp only at hst
    rcases h2 with ⟨e', h2⟩ | h2 <;>
      simp [Builtin.append_, ht, h1, run_underlying hu, run_underlying h2, hsz, hx, hroom, hnew, hst]

/-- There is none: a new array. -/
theorem append_move (hS : SysOK S P) {ts : Array TypeId} {ty t e : TypeId} {j : TI} (ht : ts[0]? = some t) (hu : P.underlying t = some (.slice e)) (hj : S.T e = some j) (hl : listType S ts[1]? = true) {w : World} {base : Option Addr} {n c m : Nat} {x : Value} {old new : Array Value}
    (hx : (Builtin.lenOf x).run P w = .ok m w) (hnew : (Builtin.firstCells j.size m x).run P w.drew = .ok new w.drew) (hold : (Builtin.firstCells j.size n (.slice base n c)).run P w.drew = .ok old w.drew)
    (hroom : c < n + m) (hfit : fitsRoom (n + m) j.bytes = true) (hzc : j.zero.cells.length = j.size) :
    ∃ cap rest, n + m ≤ cap ∧ rest.size = (cap - (n + m)) * j.size ∧ (∀ y, y ∈ rest → y.oneCell' = true) ∧
      (Builtin.append_ ts ty #[.slice base n c, x]).run P w = .ok (.slice (some ⟨w.heap.size, 0, none⟩) (n + m) cap) (w.drew.alloc (.cells (old ++ new ++ rest) e)) := by
  obtain ⟨t1, h1, h2⟩ := listType_ok hS hl
  have hsz := fun w => run_size' hS hj w
  obtain ⟨inf, hi1, hi2, hi3⟩ := run_typeInfo_bytes (hS.type _ _ hj) w
  obtain ⟨inf', hi1', _, _⟩ := run_typeInfo_bytes (hS.type _ _ hj) w.drew
  obtain ⟨z, hz1, hz2, hz3⟩ := zero_rel (hS.type _ _ hj) w.drew
  simp only [fitsRoom, Bool.and_eq_true, decide_eq_true_eq] at hfit
  have hnext : Builtin.nextslicecap (n + m) c * j.bytes ≤ 281474976710656 := by
    have := next_le (need := n + m) (old := c) hroom
    exact Nat.le_trans (Nat.mul_le_mul_right _ this) hfit.1
  have hzc' : ∀ E : GE, CRel E j.zero.cells z.cells.toList := fun E => cells_crel (hz3 E) hz2
  have hzc' := hzc' ⟨w, 0, fun _ => none, 0, fun _ _ => none, fun _ _ => False, 0, ⟨0, [], false⟩, fun _ => 0⟩
  have hzsize : z.cells.size = j.size := by have := hzc'.len; simp at this; omega
  have hq : (Question.appendCap (n + m) c e).forced = false := rfl
  refine ⟨(Question.appendCap (n + m) c e).cut (w.tape w.drawn (Question.appendCap (n + m) c e)), Builtin.zeroCells z.cells ((Question.appendCap (n + m) c e).cut (w.tape w.drawn (Question.appendCap (n + m) c e)) - (n + m)), by simp only [Question.cut]; omega, ?_, ?_, ?_⟩
  · simp [Builtin.zeroCells, hzsize]
  · intro y hy
    simp only [Builtin.zeroCells, Array.mem_map, Array.mem_range] at hy
    obtain ⟨i, hi, rfl⟩ := hy
    have hpos : 0 < z.cells.size := by
      rcases Nat.eq_zero_or_pos z.cells.size with h0 | h0
      · rw [h0, Nat.mul_zero] at hi; omega
      · exact h0
    have hlt : i % z.cells.size < z.cells.size := Nat.mod_lt _ hpos
    exact hzc'.one _ (by simp [hlt])
  · have hn : ¬ n + m ≤ c := by omega
    have h63 : ¬ ((9223372036854775807 : Int) < (n : Int) + (m : Int)) := by omega
    have hbig : ¬ (281474976710656 < Builtin.nextslicecap (n + m) c * j.bytes) := by omega
    have hdrew : ({ w with drawn := w.drawn + 1 } : World) = w.drew := rfl
    rcases h2 with ⟨e', h2⟩ | h2 <;>
      simp [Builtin.append_, ht, h1, run_underlying hu, run_underlying h2, hsz, hx, hn, h63, hi1, hi2, hi1', hbig, hq, hdrew, hold, hnew, hz1, newRow]

/-- Where only the count of answers has moved. -/
theorem le_heap {E : GE} {w' : World} (hh : w'.heap = E.w.heap) (ho : w'.os = E.w.os) (ht : w'.tape = E.w.tape) (hu : w'.output = E.w.output) : E.le (E.at w') where
  nid := Nat.le_refl _
  ρ := fun _ _ _ h => h
  nt := Nat.le_refl _
  τ := fun _ _ _ _ h => h
  S := fun _ _ h => h
  cell := fun b o _ => by show w'.cell? _ = _; simp only [World.cell?, hh]
  base := rfl
  cp := fun _ _ => rfl
  low := rfl
  snew := fun _ _ h => .inl h
  own := fun _ _ h => h
  os := ho
  tape := ht
  output := hu
  size := by show E.w.heap.size ≤ w'.heap.size; rw [hh]; exact Nat.le_refl _
  block := fun b _ _ => by show w'.heap[b]? = _; rw [hh]

theorem HRel.heap {H : AH} {E : GE} (h : HRel H E) {w' : World} (hh : w'.heap = E.w.heap) (ho : w'.os = E.w.os) (ht : w'.tape = E.w.tape) (hu : w'.output = E.w.output) : HRel H (E.at w') := by
  have hle := le_heap hh ho ht hu
  constructor
  · exact h.nid
  · exact h.nt
  · intro id o hi
    exact (h.obj id o hi).mono hle (h.idlt hi) (fun b _ => by show w'.heap[b]? = _; rw [hh]) (fun _ _ _ h => h)
  · exact h.inj
  · intro t g sz u p ht' hp
    obtain ⟨k, e, ce, c, h1, h2, h3⟩ := h.tok t g sz u p ht' hp
    exact ⟨k, e, ce, c, h1, by show w'.heap[k]? = _; rw [hh]; exact h2, h3⟩
  · exact h.late
  · exact h.tsep
  · exact h.tinj
  · exact h.tbase
  · intro b o hb
    have := h.set b o hb
    show (w'.cell? _).isSome = true
    simp only [World.cell?, hh] at this ⊢; exact this
  · intro b hb
    have := h.lt b hb
    show b < w'.heap.size
    rw [hh]; exact this
  · show E.base ≤ w'.heap.size
    rw [hh]; exact h.hbase

theorem detok_cells (v : AV) : (detok v).cells.length = v.cells.length := by
  cases v <;> simp [detok, AV.cells]
  rename_i cs
  induction cs with
  | nil => rfl
  | cons c cs ih => simp [detokL, ih]

theorem detokL_get : ∀ (vs : List AV) (i : Nat), (detokL vs)[i]? = (vs[i]?).map detok
  | [], i => by simp [detokL]
  | v :: vs, 0 => by simp [detokL]
  | v :: vs, i + 1 => by simp [detokL, detokL_get vs i]

theorem detokL_length : ∀ (vs : List AV), (detokL vs).length = vs.length
  | [] => rfl
  | v :: vs => by simp [detokL, detokL_length vs]

theorem detok_cells_get (v : AV) (j : Nat) (c : AV) (h : (detok v).cells[j]? = some c) : ∃ d, v.cells[j]? = some d ∧ c = detok d := by
  by_cases ha : ∃ cs, v = .agg cs
  · obtain ⟨cs, rfl⟩ := ha
    simp only [detok, AV.cells, detokL_get, Option.map_eq_some_iff] at h
    obtain ⟨d, h1, h2⟩ := h
    exact ⟨d, h1, h2.symm⟩
  · have hv : v.cells = [v] := by cases v <;> simp_all [AV.cells]
    have hd : (detok v).cells = [detok v] := by cases v <;> simp_all [AV.cells, detok]
    rw [hd] at h
    rw [hv]
    cases j with
    | zero => simp at h; exact ⟨v, rfl, h.symm⟩
    | succ j => simp at h

theorem detok_rel {E : GE} {v : AV} {x : Value} (h : VRel E v x) : VRel E (detok v) x := by
  induction h with
  | top v => exact .top v
  | bool b => exact .bool b
  | int k n => exact .int k n
  | str s => exact .str s
  | ptr id off b hid hb => exact .ptr id off b hid hb
  | nilptr => exact .nilptr
  | rop v a x hx hr ih =>
    refine .rop _ a x (fun j hj => hx j (by rwa [detok_cells] at hj)) (fun j c hc => ?_)
    obtain ⟨d, h1, rfl⟩ := detok_cells_get v j c hc
    exact ih j d h1
  | nils => exact .nils
  | inl f p sz xs a cap x hsz hx hr hcap hf hp ih =>
    have hl := detokL_length xs
    have key : VRel E (.inl f p.detok sz (detokL xs)) (.slice (some a) (detokL xs).length cap) := by
      refine .inl f _ sz (detokL xs) a cap x ?_ (fun i j hi hj => hx i j (by omega) hj) ?_ (by omega) hf ?_
      · intro v hv
        obtain ⟨i, hi⟩ := List.getElem?_of_mem hv
        rw [detokL_get, Option.map_eq_some_iff] at hi
        obtain ⟨u, hu, rfl⟩ := hi
        rw [detok_cells]; exact hsz u (List.mem_of_getElem? hu)
      · intro i v j c hi hj
        rw [detokL_get, Option.map_eq_some_iff] at hi
        obtain ⟨u, hu, rfl⟩ := hi
        obtain ⟨d, h1, rfl⟩ := detok_cells_get u j c hj
        exact ih i u j d hu h1
      · cases p with
        | unk => trivial
        | zero => rw [hl]; exact hp
        | tok t g => trivial
    rw [hl] at key
    exact key
  | sl id off len cap sz ag b c hid hb hl hc hag hcp => exact .sl id off len cap sz ag b c hid hb hl hc hag hcp
  | map id b hid hb => exact .map id b hid hb
  | nilmap => exact .nilmap
  | yield id b hid hb => exact .yield id b hid hb
  | func fn as bs xs ys hfn h1 _ h3 _ ih2 ih4 =>
    refine .func fn (detokL as) (detokL bs) xs ys hfn (by rw [detokL_length]; exact h1) ?_ (by rw [detokL_length]; exact h3) ?_
    · intro i v x hv hx
      rw [detokL_get, Option.map_eq_some_iff] at hv
      obtain ⟨u, hu, rfl⟩ := hv
      exact ih2 i u x hu hx
    · intro i v x hv hx
      rw [detokL_get, Option.map_eq_some_iff] at hv
      obtain ⟨u, hu, rfl⟩ := hv
      exact ih4 i u x hu hx
  | nilfunc => exact .nilfunc
  | iface t v x _ ih => exact .iface t _ x ih
  | niliface => exact .niliface
  | agg cs xs h1 _ h3 ih =>
    refine .agg (detokL cs) xs (by rw [detokL_length]; exact h1) ?_ h3
    intro i v x hv hx
    rw [detokL_get, Option.map_eq_some_iff] at hv
    obtain ⟨u, hu, rfl⟩ := hv
    exact ih i u x hu hx
  | tuple vs xs h1 _ ih =>
    refine .tuple (detokL vs) xs (by rw [detokL_length]; exact h1) ?_
    intro i v x hv hx
    rw [detokL_get, Option.map_eq_some_iff] at hv
    obtain ⟨u, hu, rfl⟩ := hv
    exact ih i u x hu hx

theorem flat_detok : ∀ (xs : List AV) (m : Nat) c, (flat (detokL xs))[m]? = some c → ∃ d, (flat xs)[m]? = some d ∧ c = detok d
  | [], m, c, h => by simp [detokL, flat] at h
  | v :: xs, m, c, h => by
    simp only [detokL, flat, List.flatMap_cons] at h ⊢
    by_cases hm : m < v.cells.length
    · rw [List.getElem?_append_left (by rw [detok_cells]; exact hm)] at h
      rw [List.getElem?_append_left hm]
      exact detok_cells_get v m c h
    · rw [List.getElem?_append_right (by rw [detok_cells]; omega), detok_cells] at h
      rw [List.getElem?_append_right (by omega)]
      exact flat_detok xs _ c h

theorem crel_detok {E : GE} {n : Nat} {xs : List AV} {ys : List Value} (hs : ∀ v, v ∈ xs → v.cells.length = n) (h : CRel E (flat xs) ys) : CRel E (flat (detokL xs)) ys ∧ (∀ v, v ∈ detokL xs → v.cells.length = n) := by
  have hs' : ∀ v, v ∈ detokL xs → v.cells.length = n := by
    intro v hv
    obtain ⟨i, hi⟩ := List.getElem?_of_mem hv
    rw [detokL_get, Option.map_eq_some_iff] at hi
    obtain ⟨u, hu, rfl⟩ := hi
    rw [detok_cells]; exact hs u (List.mem_of_getElem? hu)
  refine ⟨⟨?_, ?_, h.one⟩, hs'⟩
  · rw [flat_length _ hs', detokL_length, ← flat_length xs hs]; exact h.len
  · intro j v x hv hx
    obtain ⟨d, h1, rfl⟩ := flat_detok xs j v hv
    exact detok_rel (h.rel j d x h1 hx)

theorem crel_append {E : GE} {us vs : List AV} {xs ys : List Value} (h1 : CRel E us xs) (h2 : CRel E vs ys) : CRel E (us ++ vs) (xs ++ ys) := by
  have e1 := h1.len
  refine ⟨by simp [h1.len, h2.len], ?_, ?_⟩
  · intro j v x hv hx
    by_cases hj : j < us.length
    · rw [List.getElem?_append_left hj] at hv
      rw [List.getElem?_append_left (by omega)] at hx
      exact h1.rel j v x hv hx
    · rw [List.getElem?_append_right (by omega)] at hv hx
      rw [e1] at hv
      exact h2.rel _ v x hv hx
  · intro x hx
    rcases List.mem_append.1 hx with h | h
    · exact h1.one x h
    · exact h2.one x h

theorem CRel.mono {E E' : GE} (hle : E.le E') {vs : List AV} {xs : List Value} (h : CRel E vs xs) : CRel E' vs xs := ⟨h.len, fun j v x a b => (h.rel j v x a b).mono hle, h.one⟩

theorem flat_append (xs ys : List AV) : flat (xs ++ ys) = flat xs ++ flat ys := by simp [flat]

end Go.Sx

/- THE ENGINE, 14: append, the operation. -/
set_option linter.unusedSimpArgs false
set_option linter.unusedVariables false
namespace Go.Sx
variable {S : Sys} {P : Program} {R : Type}

def GE.grow (E : GE) (w' : World) (t g sz b e k ce : Nat) : GE :=
  { E with
    w := w'
    S := fun b' o => E.S b' o ∨ (b' = b ∧ e ≤ o ∧ o < e + k)
    τ := fun t' g' => if t' = t ∧ g' = g + 1 then some (sz, b, e + k, ce) else E.τ t' g' }

/-- What lies in a block behind a row of cells is written. -/
theorem stored {w : World} {b e : Nat} {c : Array Value} {el : TypeId} {xs : List Value} (hh : w.heap[b]? = some (.cells c el (0, 0))) (hl : e + xs.length ≤ c.size) (h1 : ∀ x, x ∈ xs → x.oneCell' = true) :
    ∃ (w' : World) (c' : Array Value), (storeCells ⟨b, e, none⟩ xs).run P w = .ok () w' ∧ Only b w w' ∧ w'.heap[b]? = some (.cells c' el (0, 0)) ∧ c'.size = c.size ∧ ∀ j : Nat, c'[j]? = if e ≤ j ∧ j < e + xs.length then xs[j - e]? else c[j]? := by
  have hrun := run_storeCells_at P b e el xs 0 c w hh (by omega) h1
  refine ⟨_, (c.toList.take (e + 0) ++ xs ++ c.toList.drop (e + 0 + xs.length)).toArray, hrun, ?_, setRow_heap w b c _ el _ hh, by simp; omega, ?_⟩
  · constructor
    · rfl
    · rfl
    · rfl
    · simp [World.setRow]
    · intro k hk
      simp only [World.setRow, Array.getElem?_modify]
      rw [if_neg (by omega)]
  · intro j
    simp only [Nat.add_zero, List.append_assoc, List.getElem?_toArray]
    by_cases h1 : j < e
    · rw [List.getElem?_append_left (by simp; omega), List.getElem?_take, if_pos h1, if_neg (by omega)]; simp
    · rw [List.getElem?_append_right (by simp; omega)]
      simp only [List.length_take, Array.length_toList, Nat.min_eq_left (by omega : e ≤ c.size)]
      by_cases h2 : j < e + xs.length
      · rw [List.getElem?_append_left (by omega), if_pos (by omega)]
      · rw [List.getElem?_append_right (by omega), if_neg (by omega), List.getElem?_drop]
        simp only [Array.getElem?_toList]
        congr 1; omega

theorem grow_sound {H : AH} {E : GE} (hr : HRel H E) {t g sz : Nat} {u : TypeId} (ht : H.toks[t]? = some (g, sz, u)) {b e ce : Nat} (hτ : E.τ t g = some (sz, b, e, ce)) {xs : List Value} (hl : e + xs.length ≤ ce) (h1 : ∀ x, x ∈ xs → x.oneCell' = true) :
    ∃ w', (storeCells ⟨b, e, none⟩ xs).run P E.w = .ok () w' ∧ E.le (E.grow w' t g sz b e xs.length ce) ∧ HRel { H with toks := H.toks.set t (g + 1, sz, u) } (E.grow w' t g sz b e xs.length ce) ∧
      (∀ j, j < xs.length → w'.cell? ⟨b, e + j, none⟩ = xs[j]?) := by
  obtain ⟨b', e', ce', c, g1, g2, g3, g4, g5, g6⟩ := hr.tok t g sz u _ ht hτ
  simp only [Prod.mk.injEq, true_and] at g1
  obtain ⟨rfl, rfl, rfl⟩ := g1
  have htlt := hr.tlt ht
  obtain ⟨w', c', s1, s2, s3, s4, s5⟩ := stored (P := P) (e := e) g2 (by omega) h1
  have hown : E.owned b := .inr ⟨t, g, _, htlt, hτ, rfl⟩
  have hnone := hr.late t g sz u (g + 1) ht (Nat.lt_succ_self _)
  have hle : E.le (E.grow w' t g sz b e xs.length ce) := by
    refine ⟨⟨?_, ?_, ?_, ?_, ?_, ?_, ?_, fun _ _ => rfl⟩, rfl, ?_, ?_, ?_, ?_, ?_, ?_, ?_⟩
    · exact Nat.le_refl _
    · exact fun _ _ _ h => h
    · exact Nat.le_refl _
    · intro t' g' p ht' hp
      simp only [GE.grow]
      rw [if_neg]
      · exact hp
      · rintro ⟨rfl, rfl⟩
        rw [hnone] at hp; simp at hp
    · exact fun _ _ h => .inl h
    · intro k o hk
      by_cases e1 : k = b
      · subst e1
        have ho : o < e := by
          rcases Nat.lt_or_ge o e with h' | h'
          · exact h'
          · exact absurd hk (g6 o h')
        show w'.cell? _ = _
        have hnot : ¬ (e ≤ o ∧ o < e + xs.length) := by omega
        simp only [World.cell?, s3, g2, s5, hnot, if_false]
      · exact cell_of_block (s2.block k e1)
    · rfl
    · intro k o hk
      rcases hk with h | ⟨rfl, _⟩
      · exact .inl h
      · exact .inr (.inr hown)
    · intro k hk h
      rcases h with ⟨id, hid, hρ⟩ | ⟨t', g', p, ht', hp, hpb⟩
      · exact .inl ⟨id, hid, hρ⟩
      · simp only [GE.grow] at hp
        split at hp
        · simp only [Option.some.injEq] at hp; subst hp; simp at hpb; subst hpb; exact hown
        · exact .inr ⟨t', g', p, ht', hp, hpb⟩
    · exact s2.os
    · exact s2.tape
    · exact s2.output
    · exact Nat.le_of_eq s2.size.symm
    · intro k _ hn
      exact s2.block k (fun e => hn (e ▸ hown))
  have hτ' : ∀ t' g' p, (E.grow w' t g sz b e xs.length ce).τ t' g' = some p → (E.τ t' g' = some p) ∨ (t' = t ∧ g' = g + 1 ∧ p = (sz, b, e + xs.length, ce)) := by
    intro t' g' p hp
    simp only [GE.grow] at hp
    split at hp
    · rename_i h; exact .inr ⟨h.1, h.2, (Option.some.inj hp).symm⟩
    · exact .inl hp
  have hblk : ∀ t' g' p, t' < E.nt → (E.grow w' t g sz b e xs.length ce).τ t' g' = some p → ∃ g'' q, E.τ t' g'' = some q ∧ q.2.1 = p.2.1 := by
    intro t' g' p ht' hp
    rcases hτ' t' g' p hp with h | ⟨rfl, rfl, rfl⟩
    · exact ⟨g', p, h, rfl⟩
    · exact ⟨g, _, hτ, rfl⟩
  refine ⟨w', s1, hle, ?_, ?_⟩
  · constructor
    · exact hr.nid
    · simpa [GE.grow] using hr.nt
    · intro id o ho
      have hid := hr.idlt ho
      have hne : ∀ k, E.ρ id = some k → k ≠ b := fun k hk e => hr.tsep t g _ id k htlt hτ hid hk e.symm
      refine (hr.obj id o ho).mono hle hid (fun k hk => s2.block k (hne k hk)) ?_
      intro k o' hk hS
      rcases hS with h | ⟨h, _⟩
      · exact h
      · exact absurd h (hne k hk)
    · exact hr.inj
    · intro t' g' sz' u' p' ht' hp'
      simp only [List.getElem?_set] at ht'
      by_cases e1 : t = t'
      · subst e1
        rw [if_pos rfl] at ht'
        split at ht'
        · simp only [Option.some.injEq, Prod.mk.injEq] at ht'
          obtain ⟨rfl, rfl, rfl⟩ := ht'
          refine ⟨b, e + xs.length, ce, c', by simp [GE.grow] at hp'; exact hp'.symm, s3, hl, by omega, ?_, ?_⟩
          · intro j x hx
            rw [s5] at hx
            split at hx
            · exact h1 x (List.mem_of_getElem? hx)
            · exact g5 j x hx
          · intro o ho hS
            rcases hS with h | ⟨_, h⟩
            · exact g6 o (by omega) h
            · omega
        · simp at ht'
      · rw [if_neg e1] at ht'
        have hp2 : E.τ t' g' = some p' := by
          rcases hτ' t' g' p' hp' with h | ⟨h, _⟩
          · exact h
          · exact absurd h.symm e1
        obtain ⟨k, e2, ce2, c2, rfl, q2, q3, q4, q5, q6⟩ := hr.tok t' g' sz' u' p' ht' hp2
        have hkb : k ≠ b := fun e3 => e1 (hr.tinj t g _ t' g' _ htlt (hr.tlt ht') hτ hp2 e3.symm)
        refine ⟨k, e2, ce2, c2, rfl, (s2.block k hkb).trans q2, q3, q4, q5, ?_⟩
        intro o ho hS
        rcases hS with h | ⟨h, _⟩
        · exact q6 o ho h
        · exact hkb h
    · intro t' g' sz' u' g'' ht' hg
      simp only [List.getElem?_set] at ht'
      simp only [GE.grow]
      by_cases e1 : t = t'
      · subst e1
        rw [if_pos rfl] at ht'
        split at ht'
        · simp only [Option.some.injEq, Prod.mk.injEq] at ht'
          obtain ⟨rfl, rfl, rfl⟩ := ht'
          rw [if_neg (by omega)]
          exact hr.late t g sz u g'' ht (by omega)
        · simp at ht'
      · rw [if_neg e1] at ht'
        rw [if_neg (fun h => e1 h.1.symm)]
        exact hr.late t' g' sz' u' g'' ht' hg
    · intro t' g' p id k ht' hp hid hk
      obtain ⟨g'', q, q1, q2⟩ := hblk t' g' p ht' hp
      rw [← q2]
      exact hr.tsep t' g'' q id k ht' q1 hid hk
    · intro t1 g1 p t2 g2 q h1' h2' hp hq e1
      obtain ⟨g1', p', a1, a2⟩ := hblk t1 g1 p h1' hp
      obtain ⟨g2', q', b1, b2⟩ := hblk t2 g2 q h2' hq
      exact hr.tinj t1 g1' p' t2 g2' q' h1' h2' a1 b1 (by rw [a2, b2]; exact e1)
    · intro t' g' p ht' hp
      obtain ⟨g'', q, q1, q2⟩ := hblk t' g' p ht' hp
      rw [← q2]
      exact hr.tbase t' g'' q ht' q1
    · intro k o hS
      show (w'.cell? _).isSome = true
      rcases hS with h | ⟨rfl, h2, h3⟩
      · have := hr.set k o h
        rw [← hle.cell k o h] at this
        exact this
      · simp only [World.cell?, s3]
        simp; omega
    · intro k hk
      show k < w'.heap.size
      rw [s2.size]
      rcases hk with ⟨id, hid, hρ⟩ | ⟨t', g', p, ht', hp, hpb⟩
      · exact hr.lt k (.inl ⟨id, hid, hρ⟩)
      · obtain ⟨g'', q, q1, q2⟩ := hblk t' g' p ht' hp
        exact hr.lt k (.inr ⟨t', g'', q, ht', q1, by rw [q2]; exact hpb⟩)
    · show E.base ≤ w'.heap.size
      rw [s2.size]; exact hr.hbase
  · intro j hj
    simp only [World.cell?, s3]
    simp [s5, hj]

/-- The list behind it. -/
theorem grow_val {H : AH} {E : GE} {f : Bool} {t g sz : Nat} {xs ys : List AV} {a : Addr} {cap : Nat} (hx : VRel E (.inl f (.tok t g) sz xs) (.slice (some a) xs.length cap)) {new : List Value} (hc : CRel E (flat ys) new) (hs : ∀ v, v ∈ ys → v.cells.length = sz)
    (hcap : xs.length + ys.length ≤ cap) {w' : World} (hle : E.le (E.grow w' t g sz a.block (a.off + xs.length * sz) new.length (a.off + cap * sz))) (hcell : ∀ j, j < new.length → w'.cell? ⟨a.block, a.off + xs.length * sz + j, none⟩ = new[j]?) (hbase : t < E.nt) :
    VRel (E.grow w' t g sz a.block (a.off + xs.length * sz) new.length (a.off + cap * sz)) (.inl f (.tok t (g + 1)) sz (xs ++ ys)) (.slice (some a) (xs ++ ys).length cap) := by
  have hlen := hc.len
  rw [flat_length ys hs] at hlen
  cases hx with
  | inl _ _ _ _ _ _ x h1 h2 h3 h4 h5 h6 =>
  obtain ⟨k1, k2, k3⟩ := h6
  refine .inl f _ sz (xs ++ ys) a cap (fun i j => if i < xs.length then x i j else new.getD ((i - xs.length) * sz + j) undef) ?_ ?_ ?_ (by simp; omega) h5 ?_
  · intro v hv
    rcases List.mem_append.1 hv with h | h
    · exact h1 v h
    · exact hs v h
  · intro i j hi hj
    simp only [List.length_append] at hi
    by_cases hlt : i < xs.length
    · simp only [hlt, if_true]
      obtain ⟨q1, q2, q3⟩ := h2 i j hlt hj
      exact ⟨cell_mono hle.topre q1 q3, q2, .inl q3⟩
    · simp only [hlt, if_false]
      have hm : (i - xs.length) * sz + j < new.length := by
        have : (i - xs.length + 1) * sz ≤ ys.length * sz := Nat.mul_le_mul_right _ (by omega)
        rw [Nat.add_mul] at this; omega
      have ea : a.add (i * sz + j) = ⟨a.block, a.off + xs.length * sz + ((i - xs.length) * sz + j), none⟩ := by
        obtain ⟨ab, ao, asp⟩ := a
        simp only at k2
        subst k2
        rw [Addr.add_lit]
        congr 1
        have : i * sz = xs.length * sz + (i - xs.length) * sz := by rw [← Nat.add_mul]; congr 1; omega
        show ao + (i * sz + j) = ao + xs.length * sz + ((i - xs.length) * sz + j)
        omega
      refine ⟨?_, ?_, ?_⟩
      · rw [ea]
        show w'.cell? _ = _
        rw [hcell _ hm]
        simp [List.getD, hm]
      · have : new.getD ((i - xs.length) * sz + j) undef = new[(i - xs.length) * sz + j] := by simp [List.getD, hm]
        rw [this]
        exact hc.one _ (List.getElem_mem hm)
      · refine .inr ⟨rfl, ?_, ?_⟩
        · have : xs.length * sz ≤ i * sz := Nat.mul_le_mul_right _ (by omega)
          omega
        · have : i * sz = xs.length * sz + (i - xs.length) * sz := by rw [← Nat.add_mul]; congr 1; omega
          omega
  · intro i v j c hi hj
    by_cases hlt : i < xs.length
    · simp only [hlt, if_true]
      rw [List.getElem?_append_left hlt] at hi
      exact (h3 i v j c hi hj).mono hle
    · simp only [hlt, if_false]
      rw [List.getElem?_append_right (by omega)] at hi
      have hf := flat_get ys hs _ v j c hi hj
      have hm : (i - xs.length) * sz + j < new.length := by
        rw [← hc.len]
        rcases Nat.lt_or_ge ((i - xs.length) * sz + j) (flat ys).length with h' | h'
        · exact h'
        · simp [List.getElem?_eq_none h'] at hf
      refine (hc.rel _ c _ hf ?_).mono hle
      simp [List.getD, hm]
  · refine ⟨hbase, k2, ?_⟩
    simp only [GE.grow, and_self, if_true, List.length_append]
    have : a.off + xs.length * sz + new.length = a.off + (xs.length + ys.length) * sz := by rw [← hlen, Nat.add_mul]; omega
    rw [this]

end Go.Sx

/- THE ENGINE, 15: append and copy, as operations. -/
set_option linter.unusedSimpArgs false
set_option linter.unusedVariables false
namespace Go.Sx
variable {S : Sys} {P : Program} {R : Type}

theorem ge_at_w (E : GE) : E.at E.w = E := rfl
theorem at_at (E : GE) (w w' : World) : (E.at w).at w' = E.at w' := rfl

/-- A list settled in a new array. -/
theorem append_new {H : AH} {E : GE} (hr : HRel H E) {sz cap : Nat} {zs : List AV} {old new rest : Array Value} {el : TypeId} (hs : ∀ v, v ∈ zs → v.cells.length = sz) (hc : CRel E (flat zs) (old ++ new).toList)
    (hcap : zs.length ≤ cap) (hrest : rest.size = (cap - zs.length) * sz) (h1 : ∀ y, y ∈ rest → y.oneCell' = true) :
    ∃ E', E.le E' ∧ HRel { H with toks := H.toks ++ [(0, sz, el)] } E' ∧ VRel E' (.inl true (.tok H.toks.length 0) sz zs) (.slice (some ⟨E.w.heap.size, 0, none⟩) zs.length cap) ∧ E'.w = E.w.drew.alloc (.cells (old ++ new ++ rest) el) := by
  have hd := hr.heap (w' := E.w.drew) rfl rfl rfl rfl
  have hdl := le_heap (E := E) (w' := E.w.drew) rfl rfl rfl rfl
  have hlen := hc.len
  rw [flat_length zs hs] at hlen
  have hsize : (old ++ new ++ rest).size = cap * sz := by
    simp only [Array.length_toList, Array.size_append] at hlen ⊢
    rw [hrest, ← hlen, ← Nat.add_mul]
    congr 1; omega
  have h1' : ∀ (j : Nat) x, (old ++ new ++ rest)[j]? = some x → x.oneCell' = true := by
    intro j x hx
    have hm := Array.mem_of_getElem? hx
    rcases Array.mem_append.1 hm with h | h
    · exact hc.one x (by simpa using h)
    · exact h1 x h
  have hle2 := row_le hd (.cells (old ++ new ++ rest) el) (zs.length * sz) (some (sz, cap * sz))
  have hrel2 := row_rel hd (arr := old ++ new ++ rest) (el := el) (n := zs.length * sz) (tk := some (sz, cap * sz)) (by rw [hsize]; exact Nat.mul_le_mul_right _ hcap) h1' (by
    intro q hq
    obtain rfl := Option.some.inj hq
    exact ⟨Nat.mul_le_mul_right _ hcap, by rw [hsize]; exact Nat.le_refl _⟩)
  have hval := row_val hd (arr := old ++ new ++ rest) (el := el) (sz := sz) (cap := cap) (xs := zs) (tk := some (sz, cap * sz)) hs (by
      have : (old ++ new ++ rest).toList.take (zs.length * sz) = (old ++ new).toList := by
        rw [Array.toList_append, List.take_append_of_le_length (by rw [← hlen]; exact Nat.le_refl _), hlen, List.take_length]
      rw [this]; exact hc.mono hdl) h1' hcap hsize (p := .tok E.nt 0) (.inr (.inr ⟨rfl, rfl⟩))
  refine ⟨_, hdl.trans hle2, hrel2, ?_, rfl⟩
  rw [← hr.nt]; exact hval

/-- A token's place moves to a new block. -/
theorem retok {H : AH} {E0 E : GE} (hle0 : E0.le E) (hr : HRel H E) {t g sz : Nat} {el : TypeId} (ht : H.toks[t]? = some (g, sz, el)) {b n ce : Nat} {c : Array Value} (hnew : E0.w.heap.size ≤ b) (hfree : ¬ E.owned b) (hh : E.w.heap[b]? = some (.cells c el (0, 0)))
    (hn : n ≤ ce) (hce : ce ≤ c.size) (h1 : ∀ (j : Nat) x, c[j]? = some x → x.oneCell' = true) (hS : ∀ o, n ≤ o → ¬ E.S b o) (hb0 : E.base ≤ b) :
    E0.le { E with τ := fun t' g' => if t' = t ∧ g' = g + 1 then some (sz, b, n, ce) else E.τ t' g' } ∧
    HRel { H with toks := H.toks.set t (g + 1, sz, el) } { E with τ := fun t' g' => if t' = t ∧ g' = g + 1 then some (sz, b, n, ce) else E.τ t' g' } ∧
    (∀ v x, VRel E v x → VRel { E with τ := fun t' g' => if t' = t ∧ g' = g + 1 then some (sz, b, n, ce) else E.τ t' g' } v x) := by
  have htlt := hr.tlt ht
  have hnone := hr.late t g sz el (g + 1) ht (Nat.lt_succ_self _)
  have hblt : b < E.w.heap.size := by
    rcases Nat.lt_or_ge b E.w.heap.size with h' | h'
    · exact h'
    · simp [Array.getElem?_eq_none h'] at hh
  have hτ' : ∀ t' g' p, (if t' = t ∧ g' = g + 1 then some (sz, b, n, ce) else E.τ t' g') = some p → (E.τ t' g' = some p) ∨ (t' = t ∧ g' = g + 1 ∧ p = (sz, b, n, ce)) := by
    intro t' g' p hp
    split at hp
    · rename_i h; exact .inr ⟨h.1, h.2, (Option.some.inj hp).symm⟩
    · exact .inl hp
  have hkeep : ∀ t' g' p, E.τ t' g' = some p → (if t' = t ∧ g' = g + 1 then some (sz, b, n, ce) else E.τ t' g') = some p := by
    intro t' g' p hp
    rw [if_neg]
    · exact hp
    · rintro ⟨rfl, rfl⟩
      rw [hnone] at hp; simp at hp
  have hmono : ∀ v x, VRel E v x → VRel { E with τ := fun t' g' => if t' = t ∧ g' = g + 1 then some (sz, b, n, ce) else E.τ t' g' } v x := by
    intro v x hv
    induction hv with
    | top v => exact .top v
    | bool b => exact .bool b
    | int k n => exact .int k n
    | str s => exact .str s
    | ptr id off b hid hb => exact .ptr id off b hid hb
    | nilptr => exact .nilptr
    | rop v a x hx hr ih => exact .rop v a x hx ih
    | nils => exact .nils
    | inl f p sz xs a cap x hsz hx hr hcap hf hp ih =>
      refine .inl f p sz xs a cap x hsz hx ih hcap hf ?_
      cases p with
      | unk => trivial
      | zero => exact hp
      | tok t g => exact ⟨hp.1, hp.2.1, hkeep _ _ _ hp.2.2⟩
    | sl id off len cap sz ag b c hid hb hl hc hag hcp => exact .sl id off len cap sz ag b c hid hb hl hc hag hcp
    | map id b hid hb => exact .map id b hid hb
    | nilmap => exact .nilmap
    | func fn as bs xs ys hfn h1 _ h3 _ ih2 ih4 => exact .func fn as bs xs ys hfn h1 ih2 h3 ih4
    | yield id b hid hb => exact .yield id b hid hb
    | nilfunc => exact .nilfunc
    | iface t v x _ ih => exact .iface t v x ih
    | niliface => exact .niliface
    | agg cs xs h1 _ h3 ih => exact .agg cs xs h1 ih h3
    | tuple vs xs h1 _ ih => exact .tuple vs xs h1 ih
  refine ⟨?_, ?_, hmono⟩
  · refine ⟨⟨?_, ?_, ?_, ?_, ?_, ?_, ?_, hle0.cp⟩, hle0.low, ?_, ?_, ?_, ?_, ?_, ?_, ?_⟩
    · exact hle0.nid
    · exact hle0.ρ
    · exact hle0.nt
    · exact fun t' g' p a b => hkeep _ _ _ (hle0.τ t' g' p a b)
    · exact hle0.S
    · exact hle0.cell
    · exact hle0.base
    · exact hle0.snew
    · intro k hk h
      rcases h with ⟨id, hid, hρ⟩ | ⟨t', g', p, ht', hp, hpb⟩
      · exact hle0.own k hk (.inl ⟨id, hid, hρ⟩)
      · rcases hτ' t' g' p hp with h | ⟨_, _, rfl⟩
        · exact hle0.own k hk (.inr ⟨t', g', p, ht', h, hpb⟩)
        · simp only at hpb; omega
    · exact hle0.os
    · exact hle0.tape
    · exact hle0.output
    · exact hle0.size
    · exact hle0.block
  · constructor
    · exact hr.nid
    · simpa using hr.nt
    · intro id o ho
      cases hr.obj id o ho with
      | cells cs k c el hb hh hl hc h1 hS' hcp => exact .cells cs k c el hb hh hl (fun j v x a d => hmono _ _ (hc j v x a d)) h1 hS' hcp
      | miter0 k hb hh => exact .miter0 k hb hh
      | miter m since seen last k k' hm hk hb hh => exact .miter m since seen last k k' hm hk hb hh
      | map es bs clock k ms hb hh hl hs hk hv => exact .map es bs clock k ms hb hh hl hs (fun j e m a d => hmono _ _ (hk j e m a d)) (fun j e m a d => hmono _ _ (hv j e m a d))
      | siter s pos k hb hh => exact .siter s pos k hb hh
      | loop s ps x y st k r hb hh h1 h2 h3 h4 h5 => exact .loop s ps x y st k r hb hh ⟨h1.1, fun j v x a d => hmono _ _ (h1.2 j v x a d)⟩ h2 h3 h4 h5
      | dead => exact .dead
      | tcells u cs k c hb hh hl hc h1 hS' => exact .tcells u cs k c hb hh hl (fun j v x a d => hmono _ _ (hc j v x a d)) h1 hS'
      | unborn h0 h1 => exact .unborn h0 h1
    · exact hr.inj
    · intro t' g' sz' u' p' ht' hp'
      simp only [List.getElem?_set] at ht'
      by_cases e1 : t = t'
      · subst e1
        rw [if_pos rfl] at ht'
        split at ht'
        · simp only [Option.some.injEq, Prod.mk.injEq] at ht'
          obtain ⟨rfl, rfl, rfl⟩ := ht'
          exact ⟨b, n, ce, c, by simp at hp'; exact hp'.symm, hh, hn, hce, h1, hS⟩
        · simp at ht'
      · rw [if_neg e1] at ht'
        have hp2 : E.τ t' g' = some p' := by
          rcases hτ' t' g' p' hp' with h | ⟨h, _⟩
          · exact h
          · exact absurd h.symm e1
        exact hr.tok t' g' sz' u' p' ht' hp2
    · intro t' g' sz' u' g'' ht' hg
      simp only [List.getElem?_set] at ht'
      simp only
      by_cases e1 : t = t'
      · subst e1
        rw [if_pos rfl] at ht'
        split at ht'
        · simp only [Option.some.injEq, Prod.mk.injEq] at ht'
          obtain ⟨rfl, rfl, rfl⟩ := ht'
          rw [if_neg (by omega)]
          exact hr.late t g sz el g'' ht (by omega)
        · simp at ht'
      · rw [if_neg e1] at ht'
        rw [if_neg (fun h => e1 h.1.symm)]
        exact hr.late t' g' sz' u' g'' ht' hg
    · intro t' g' p id k ht' hp hid hk
      rcases hτ' t' g' p hp with h | ⟨_, _, rfl⟩
      · exact hr.tsep t' g' p id k ht' h hid hk
      · intro e; exact hfree (.inl ⟨id, hid, by rw [hk]; exact congrArg some e.symm⟩)
    · intro t1 g1 p t2 g2 q h1' h2' hp hq e1
      rcases hτ' t1 g1 p hp with h | ⟨rfl, _, rfl⟩ <;> rcases hτ' t2 g2 q hq with h' | ⟨rfl, _, rfl⟩
      · exact hr.tinj t1 g1 p t2 g2 q h1' h2' h h' e1
      · exact absurd (.inr ⟨t1, g1, p, h1', h, e1⟩) hfree
      · exact absurd (.inr ⟨t2, g2, q, h2', h', e1.symm⟩) hfree
      · rfl
    · intro t' g' p ht' hp
      rcases hτ' t' g' p hp with h | ⟨_, _, rfl⟩
      · exact hr.tbase t' g' p ht' h
      · exact hb0
    · exact hr.set
    · intro k hk
      rcases hk with ⟨id, hid, hρ⟩ | ⟨t', g', p, ht', hp, hpb⟩
      · exact hr.lt k (.inl ⟨id, hid, hρ⟩)
      · rcases hτ' t' g' p hp with h | ⟨_, _, rfl⟩
        · exact hr.lt k (.inr ⟨t', g', p, ht', h, hpb⟩)
        · simp only at hpb; show k < E.w.heap.size; omega
    · exact hr.hbase

theorem append_retok {H : AH} {E : GE} (hr : HRel H E) {t g sz cap : Nat} {el : TypeId} (ht : H.toks[t]? = some (g, sz, el)) {f : Bool} {zs : List AV} {old new rest : Array Value} (hs : ∀ v, v ∈ zs → v.cells.length = sz) (hc : CRel E (flat zs) (old ++ new).toList)
    (hcap : zs.length ≤ cap) (hrest : rest.size = (cap - zs.length) * sz) (h1 : ∀ y, y ∈ rest → y.oneCell' = true) :
    ∃ E', E.le E' ∧ HRel { H with toks := H.toks.set t (g + 1, sz, el) } E' ∧ VRel E' (.inl f (.tok t (g + 1)) sz zs) (.slice (some ⟨E.w.heap.size, 0, none⟩) zs.length cap) ∧ E'.w = E.w.drew.alloc (.cells (old ++ new ++ rest) el) := by
  have hd := hr.heap (w' := E.w.drew) rfl rfl rfl rfl
  have hdl := le_heap (E := E) (w' := E.w.drew) rfl rfl rfl rfl
  have hlen := hc.len
  rw [flat_length zs hs] at hlen
  have hsize : (old ++ new ++ rest).size = cap * sz := by
    simp only [Array.length_toList, Array.size_append] at hlen ⊢
    rw [hrest, ← hlen, ← Nat.add_mul]
    congr 1; omega
  have h1' : ∀ (j : Nat) x, (old ++ new ++ rest)[j]? = some x → x.oneCell' = true := by
    intro j x hx
    have hm := Array.mem_of_getElem? hx
    rcases Array.mem_append.1 hm with h | h
    · exact hc.one x (by simpa using h)
    · exact h1 x h
  have hle2 := row_le hd (.cells (old ++ new ++ rest) el) (zs.length * sz) none
  have hrel2 := row_rel hd (arr := old ++ new ++ rest) (el := el) (n := zs.length * sz) (tk := none) (by rw [hsize]; exact Nat.mul_le_mul_right _ hcap) h1' (by simp)
  have hval := row_val hd (arr := old ++ new ++ rest) (el := el) (sz := sz) (cap := cap) (xs := zs) (tk := none) hs (by
      have : (old ++ new ++ rest).toList.take (zs.length * sz) = (old ++ new).toList := by
        rw [Array.toList_append, List.take_append_of_le_length (by rw [← hlen]; exact Nat.le_refl _), hlen, List.take_length]
      rw [this]; exact hc.mono hdl) h1' hcap hsize (p := .unk) (.inl rfl)
  have hfree : ¬ ((E.at E.w.drew).row (.cells (old ++ new ++ rest) el) (zs.length * sz) none).owned E.w.heap.size := by
    intro h
    have := hd.lt E.w.heap.size h
    exact Nat.lt_irrefl _ this
  obtain ⟨q1, q2, q3⟩ := retok (hdl.trans hle2) (H := H) hrel2 ht (b := E.w.heap.size) (n := zs.length * sz) (ce := cap * sz) (Nat.le_refl _) hfree (alloc_get _ _) (Nat.mul_le_mul_right _ hcap) (by rw [hsize]; exact Nat.le_refl _) h1' (by
    intro o ho hS
    rcases hS with h | ⟨_, h⟩
    · have := hr.Slt _ _ h; omega
    · omega) hr.hbase
  refine ⟨_, q1, q2, ?_, rfl⟩
  have := q3 _ _ hval
  cases this with
  | inl _ _ _ _ _ _ x a1 a2 a3 a4 a5 a6 =>
  refine .inl f _ sz zs _ cap x a1 a2 a3 a4 (fun _ => hr.hbase) ⟨hr.tlt ht, rfl, ?_⟩
  simp

/-- A new object whose first cells are told. -/
theorem new_prefix {H : AH} {E : GE} (hr : HRel H E) {vs : List AV} {c : Array Value} (hv : CRel E vs (c.toList.take vs.length)) (h1 : ∀ y, y ∈ c → y.oneCell' = true) (el : TypeId) :
    E.le (E.new (.cells c el)) ∧ HRel { H with objs := H.objs ++ [.cells vs] } (E.new (.cells c el)) ∧ (E.new (.cells c el)).ρ H.objs.length = some E.w.heap.size ∧ H.objs.length < (E.new (.cells c el)).nid := by
  have hle := le_new E (.cells c el) hr.Slt
  have hρ : (E.new (.cells c el)).ρ E.nid = some E.w.heap.size := by simp [GE.new]
  have hl := hv.len
  have ho : ORel (E.new (.cells c el)) E.nid (.cells vs) := by
    refine .cells vs E.w.heap.size c el hρ ?_ (by simp at hl; omega) ?_ ?_ ?_ (by simp [GE.new, objCap])
    · show (E.w.heap.push _)[E.w.heap.size]? = _
      simp
    · intro j v x hj hx
      have hlt : j < vs.length := by
        rcases Nat.lt_or_ge j vs.length with h' | h'
        · exact h'
        · simp [List.getElem?_eq_none h'] at hj
      exact (hv.rel j v x hj (by rw [List.getElem?_take, if_pos hlt]; simpa using hx)).mono hle
    · intro j x hx
      exact h1 x (Array.mem_of_getElem? hx)
    · intro o ho
      have := hr.Slt _ _ ho
      omega
  obtain ⟨h1, h2⟩ := hr.new ho
  refine ⟨h1, h2, ?_, ?_⟩
  · rw [← hr.nid]; exact hρ
  · rw [← hr.nid]; exact Nat.lt_succ_self _

/-- .. behind an append. -/
theorem append_obj {H : AH} {E : GE} (hr : HRel H E) {vs : List AV} {old new rest : Array Value} {el : TypeId} (hc : CRel E vs (old ++ new).toList) (h1 : ∀ y, y ∈ rest → y.oneCell' = true) {n cap sz : Nat} {ag : Bool} (hn : n ≤ cap) (hag : ag = false → sz = 1) (hsz : cap * sz ≤ (old ++ new ++ rest).size) :
    ∃ E', E.le E' ∧ HRel { H with objs := H.objs ++ [.cells vs] } E' ∧ VRel E' (.sl H.objs.length 0 n none sz ag) (.slice (some ⟨E.w.heap.size, 0, none⟩) n cap) ∧ E'.w = E.w.drew.alloc (.cells (old ++ new ++ rest) el) := by
  have hd := hr.heap (w' := E.w.drew) rfl rfl rfl rfl
  have hdl := le_heap (E := E) (w' := E.w.drew) rfl rfl rfl rfl
  have hl := hc.len
  obtain ⟨q1, q2, q3, q4⟩ := new_prefix hd (vs := vs) (c := old ++ new ++ rest) (by
    have : (old ++ new ++ rest).toList.take vs.length = (old ++ new).toList := by
      rw [Array.toList_append, List.take_append_of_le_length (by omega), hl, List.take_length]
    rw [this]; exact hc.mono hdl) (by
    intro y hy
    rcases Array.mem_append.1 hy with h | h
    · exact hc.one y (by simpa using h)
    · exact h1 y h) el
  refine ⟨_, hdl.trans q1, q2, .sl _ _ _ _ _ _ _ _ q4 q3 hn (by simp) hag (fun _ => ?_), rfl⟩
  rw [← hr.nid]
  show 0 + cap * sz ≤ (if E.nid = E.nid then objCap (.cells (old ++ new ++ rest) el) else _)
  rw [if_pos rfl]
  simpa [objCap] using hsz

/-- An object is given up. -/
theorem HRel.kill {H : AH} {E : GE} (hr : HRel H E) {id : Nat} {o : AObj} (ho : H.objs[id]? = some o) : HRel { H with objs := H.objs.set id (.dead true) } E := by
  constructor
  · simpa using hr.nid
  · exact hr.nt
  · intro i o' hi
    simp only [List.getElem?_set] at hi
    by_cases e : id = i
    · rw [if_pos e] at hi
      split at hi
      · simp only [Option.some.injEq] at hi; subst hi; exact .dead
      · simp at hi
    · rw [if_neg e] at hi; exact hr.obj i o' hi
  · intro i j b o1 o2 ho1 ho2 l1 l2
    have hback : ∀ (i : Nat) o1, (H.objs.set id (.dead true))[i]? = some o1 → o1.live = true → H.objs[i]? = some o1 := by
      intro i o1 hi hlo
      simp only [List.getElem?_set] at hi
      by_cases e : id = i
      · rw [if_pos e] at hi
        split at hi
        · simp only [Option.some.injEq] at hi; subst hi; simp [AObj.live] at hlo
        · simp at hi
      · rw [if_neg e] at hi; exact hi
    exact hr.inj i j b o1 o2 (hback i o1 ho1 l1) (hback j o2 ho2 l2) l1 l2
  · exact hr.tok
  · exact hr.late
  · exact hr.tsep
  · exact hr.tinj
  · exact hr.tbase
  · exact hr.set
  · exact hr.lt
  · exact hr.hbase

/-- Where an append finds room: the memory bears another number. -/
def GE.regrow (E : GE) (b cap : Nat) (w' : World) : GE := { E with w := w', nid := E.nid + 1, ρ := fun i => if i = E.nid then some b else E.ρ i, cp := fun i => if i = E.nid then cap else E.cp i }

theorem regrow_sound {H : AH} {E : GE} (hr : HRel H E) {id b : Nat} {cs : List AV} (ho : H.objs[id]? = some (.cells cs)) (hb : E.ρ id = some b) {vs : List AV} {xs : List Value} (hv : CRel E vs xs) (hl : cs.length + vs.length ≤ E.cp id) :
    ∃ w', (storeCells ⟨b, cs.length, none⟩ xs).run P E.w = .ok () w' ∧ E.le (E.regrow b (E.cp id) w') ∧ HRel { H with objs := H.objs.set id (.dead true) ++ [.cells (cs ++ vs)] } (E.regrow b (E.cp id) w') := by
  have hid := hr.idlt ho
  cases hr.obj _ _ ho with
  | cells _ b' c el hb' hh hlen hc h1 hS' hcp =>
  rw [hb] at hb'
  obtain rfl := Option.some.inj hb'
  have hlx := hv.len
  have hrun := run_storeCells_at P b cs.length el xs 0 c E.w hh (by omega) hv.one
  have hcell : (E.w.setRow b (c.toList.take (cs.length + 0) ++ xs ++ c.toList.drop (cs.length + 0 + xs.length)).toArray).heap[b]? = some (.cells (c.toList.take (cs.length + 0) ++ xs ++ c.toList.drop (cs.length + 0 + xs.length)).toArray el (0, 0)) := setRow_heap E.w b c _ el _ hh
  have honly : Only b E.w (E.w.setRow b (c.toList.take (cs.length + 0) ++ xs ++ c.toList.drop (cs.length + 0 + xs.length)).toArray) := by
    constructor
    · rfl
    · rfl
    · rfl
    · simp [World.setRow]
    · intro k hk
      simp only [World.setRow, Array.getElem?_modify]
      rw [if_neg (by omega)]
  obtain ⟨hle1, hr1⟩ := hr.write ho rfl hid hb hS' honly (o' := .dead true) .dead
  generalize hw : E.w.setRow b (c.toList.take (cs.length + 0) ++ xs ++ c.toList.drop (cs.length + 0 + xs.length)).toArray = w' at hrun hcell honly hle1 hr1
  refine ⟨w', hrun, ?_⟩
  have hget : ∀ j : Nat, (c.toList.take (cs.length + 0) ++ xs ++ c.toList.drop (cs.length + 0 + xs.length))[j]? = if cs.length ≤ j ∧ j < cs.length + xs.length then xs[j - cs.length]? else c[j]? := by
    intro j
    simp only [Nat.add_zero, List.append_assoc]
    by_cases h1 : j < cs.length
    · rw [List.getElem?_append_left (by simp; omega), List.getElem?_take, if_pos h1, if_neg (by omega)]; simp
    · rw [List.getElem?_append_right (by simp; omega)]
      simp only [List.length_take, Array.length_toList, Nat.min_eq_left (by omega : cs.length ≤ c.size)]
      by_cases h2 : j < cs.length + xs.length
      · rw [List.getElem?_append_left (by omega), if_pos (by omega)]
      · rw [List.getElem?_append_right (by omega), if_neg (by omega), List.getElem?_drop]
        simp only [Array.getElem?_toList]
        congr 1; omega
  have hpre : (E.at w').pre (E.regrow b (E.cp id) w') := by
    refine ⟨Nat.le_succ _, fun i k hi hk => ?_, Nat.le_refl _, fun _ _ _ _ h => h, fun _ _ h => h, fun _ _ _ => rfl, rfl, fun i hi => ?_⟩
    · have hi' : i < E.nid := hi
      simp only [GE.regrow]
      rw [if_neg (by omega)]; exact hk
    · have hi' : i < E.nid := hi
      simp only [GE.regrow]
      rw [if_neg (by omega)]; rfl
  have hρ : ∀ i k, i < E.nid + 1 → (E.regrow b (E.cp id) w').ρ i = some k → (i = E.nid ∧ k = b) ∨ (i < E.nid ∧ E.ρ i = some k) := by
    intro i k hi hk
    simp only [GE.regrow] at hk
    by_cases e : i = E.nid
    · rw [if_pos e] at hk; exact .inl ⟨e, (Option.some.inj hk).symm⟩
    · rw [if_neg e] at hk; exact .inr ⟨by omega, hk⟩
  have hown : ∀ k, (E.regrow b (E.cp id) w').owned k → E.owned k := by
    intro k hk
    rcases hk with ⟨i, hi, hi2⟩ | ⟨t, g, p, ht, hp, hpb⟩
    · rcases hρ i k hi hi2 with ⟨_, rfl⟩ | ⟨h1, h2⟩
      · exact .inl ⟨id, hid, hb⟩
      · exact .inl ⟨i, h1, h2⟩
    · exact .inr ⟨t, g, p, ht, hp, hpb⟩
  have hle2 : (E.at w').le (E.regrow b (E.cp id) w') := ⟨hpre, rfl, fun _ _ h => .inl h, fun k _ hk => hown k hk, rfl, rfl, rfl, Nat.le_refl _, fun _ _ _ => rfl⟩
  have hle := hle1.trans hle2
  refine ⟨hle, ?_⟩
  have hn := hr.nid
  have hlset : (H.objs.set id (.dead true)).length = E.nid := by simp [hn]
  constructor
  · show E.nid + 1 = _
    simp [hn]
  · exact hr.nt
  · intro i o' hi
    by_cases e : i = E.nid
    · subst e
      rw [List.getElem?_append_right (by omega)] at hi
      simp only [hlset, Nat.sub_self, List.getElem?_cons_zero, Option.some.injEq] at hi
      subst hi
      refine .cells _ b _ el (by simp [GE.regrow]) hcell (by simp; omega) ?_ ?_ hS' ?_
      · intro j v x hj hx
        simp only [List.getElem?_toArray, hget] at hx
        by_cases hjl : j < cs.length
        · rw [List.getElem?_append_left hjl] at hj
          rw [if_neg (by omega)] at hx
          exact (hc _ _ _ hj hx).mono hle
        · rw [List.getElem?_append_right (by omega)] at hj
          have hjv : j - cs.length < vs.length := (List.getElem?_eq_some_iff.1 hj).1
          rw [if_pos (by omega)] at hx
          exact (hv.rel _ _ _ hj hx).mono hle
      · intro j x hx
        simp only [List.getElem?_toArray, hget] at hx
        split at hx
        · exact hv.one _ (List.mem_of_getElem? hx)
        · exact h1 _ _ hx
      · show (if E.nid = E.nid then E.cp id else _) ≤ _
        rw [if_pos rfl]
        simp
        omega
    · have hi' : i < (H.objs.set id (.dead true)).length := by
        have := (List.getElem?_eq_some_iff.1 hi).1
        simp at this ⊢; omega
      rw [List.getElem?_append_left hi'] at hi
      exact (hr1.obj i o' hi).pmono hpre (by show i < E.nid; omega) (fun _ _ => rfl) (fun _ _ _ h => h) (fun h0 => by simp only [GE.regrow]; rw [if_neg e]; exact h0)
  · intro i j k o1 o2 ho1 ho2 l1 l2 h1 h2
    have hlen' : ∀ (i : Nat) o', (H.objs.set id (.dead true) ++ [.cells (cs ++ vs)])[i]? = some o' → i < E.nid + 1 := by
      intro i o' hi
      have := (List.getElem?_eq_some_iff.1 hi).1
      simp at this; omega
    have hold : ∀ (i : Nat) o', i < E.nid → (H.objs.set id (.dead true) ++ [.cells (cs ++ vs)])[i]? = some o' → (H.objs.set id (.dead true))[i]? = some o' := by
      intro i o' hi ho'
      rwa [List.getElem?_append_left (by omega)] at ho'
    have hdead : ∀ (i : Nat) o', (H.objs.set id (.dead true))[i]? = some o' → o'.live = true → E.ρ i = some b → False := by
      intro i o' hi hlo hib
      simp only [List.getElem?_set] at hi
      by_cases e : id = i
      · rw [if_pos e] at hi
        split at hi
        · simp only [Option.some.injEq] at hi
          subst hi; simp [AObj.live] at hlo
        · simp at hi
      · rw [if_neg e] at hi
        exact e (hr.inj id i b _ o' ho hi rfl hlo hb hib)
    rcases hρ i k (hlen' i o1 ho1) h1 with ⟨rfl, rfl⟩ | ⟨hi', h1'⟩ <;> rcases hρ j _ (hlen' j o2 ho2) h2 with ⟨rfl, e⟩ | ⟨hj', h2'⟩
    · rfl
    · exact (hdead j o2 (hold j o2 hj' ho2) l2 h2').elim
    · subst e; exact (hdead i o1 (hold i o1 hi' ho1) l1 h1').elim
    · exact hr1.inj i j k o1 o2 (hold i o1 hi' ho1) (hold j o2 hj' ho2) l1 l2 h1' h2'
  · exact hr1.tok
  · exact hr1.late
  · intro t g p i k ht hp hi hk
    rcases hρ i k hi hk with ⟨rfl, rfl⟩ | ⟨h1, h2⟩
    · exact hr.tsep t g p id _ ht hp hid hb
    · exact hr.tsep t g p i k ht hp h1 h2
  · exact hr.tinj
  · exact hr.tbase
  · exact hr1.set
  · intro k hk
    exact hr1.lt k (hown k hk)
  · exact hr1.hbase

theorem append_sound (hS : SysOK S P) {H : AH} {E : GE} (hr : HRel H E) {ts : Array TypeId} {ty : TypeId} {s x : AV} {K : AV → AH → Option R} {r : R} (h : appendK S H ts s x K = some r) {xs xx : Value} (hs : VRel E s xs) (hx : VRel E x xx) :
    ∃ v H' E' y, K v H' = some r ∧ E.le E' ∧ HRel H' E' ∧ VRel E' v y ∧ (Builtin.append_ ts ty #[xs, xx]).run P E.w = .ok y E'.w := by
  unfold appendK at h
  split at h
  · simp at h
  · rename_i t ht
    split at h
    · simp at h
    · rename_i i hi
      have hk := (hS.type _ _ hi).kind
      split at h
      · rename_i e hik
        rw [hik] at hk
        have hu : P.underlying t = some (.slice e) := hk
        split at h
        · simp at h
        · rename_i j hj
          split at h
          · simp at h
          · rename_i ys hys
            split at h
            · rename_i hcond
              obtain ⟨hz, hsz, hlt⟩ := hcond
              have hpos : 0 < j.size := Nat.pos_of_ne_zero hsz
              have hsrc := src_sound (P := P) hr hpos hys hx
              obtain ⟨new, hn1, hn2, hn3⟩ := hsrc.first ys.length (Nat.le_refl _)
              rw [List.take_length] at hn3
              have hn1' : (Builtin.firstCells j.size ys.length xx).run P E.w = .ok new E.w := hn1 E.w.drawn
              have hn1d : (Builtin.firstCells j.size ys.length xx).run P E.w.drew = .ok new E.w.drew := hn1 (E.w.drawn + 1)
              have hdt := crel_detok hsrc.sizes hn3
              have hzero : ∀ base c n, n ≤ c → ys.length = 0 → (Builtin.append_ ts ty #[.slice base n c, xx]).run P E.w = .ok (.slice base n c) E.w := by
                intro base c n hnc hy0
                have hnew0 : new = #[] := by
                  rw [hy0, Nat.zero_mul] at hn2
                  exact Array.eq_empty_of_size_eq_zero hn2
                have := append_stay (P := P) hS (ty := ty) ht hu hj hlt (w := E.w) (w' := E.w) (base := base) (n := n) (c := c) hsrc.len hn1' (by omega) (by
                  subst hnew0
                  cases base <;> simp [storeCells])
                simpa [hy0] using this
              split at h
              · rw [rel_nils hs]
                split at h
                · rename_i hy0
                  exact ⟨_, _, E, _, h, GE.le.refl E, hr, .nils, hzero none 0 0 (Nat.le_refl _) hy0⟩
                · rename_i hy0
                  split at h
                  · rename_i hfit
                    obtain ⟨cap, rest, m1, m2, m3, m4⟩ := append_move (P := P) hS (ty := ty) ht hu hj hlt (w := E.w) (base := none) (n := 0) (c := 0) (old := #[]) hsrc.len hn1d (by simp [Builtin.firstCells]) (by omega) (by simpa using hfit) hz
                    rw [Nat.zero_add] at m1 m2 m4
                    split at h
                    · unfold newK at h
                      obtain ⟨E', q1, q2, q3, q4⟩ := append_obj hr (old := #[]) (new := new) (rest := rest) (el := e) (vs := flat ys) (by simpa using hn3) m3 (n := ys.length) (cap := cap) (sz := j.size) (ag := j.isAgg) m1 (hS.type _ _ hj).one (by
                        have e2 := m2
                        simp only [Array.size_append, hn2, e2]
                        simp only [Array.size_empty, Nat.zero_add, ← Nat.add_mul]
                        exact Nat.mul_le_mul_right _ (by omega))
                      exact ⟨_, _, E', _, h, q1, q2, q3, by rw [m4, q4]⟩
                    · obtain ⟨E', q1, q2, q3, q4⟩ := append_new hr (old := #[]) (new := new) (rest := rest) (el := e) hdt.2 (by simpa using hdt.1) (by rw [detokL_length]; exact m1) (by rw [detokL_length]; exact m2) m3
                      rw [detokL_length] at q3
                      exact ⟨_, _, E', _, h, q1, q2, q3, by rw [m4, q4]⟩
                  · simp at h
              · rename_i f p sz zs
                cases hs with
                | inl _ _ _ _ a cap0 g h1 h2 h3 h4 h5 h6 =>
                have hs' : VRel E (.inl f p sz zs) (.slice (some a) zs.length cap0) := .inl f p sz zs a cap0 g h1 h2 h3 h4 h5 h6
                split at h
                · rename_i hy0
                  exact ⟨_, _, E, _, h, GE.le.refl E, hr, hs', hzero (some a) cap0 zs.length h4 hy0⟩
                · rename_i hy0
                  split at h
                  · rename_i hc
                    obtain ⟨hfit, rfl⟩ := hc
                    have hzsrc := src_sound (P := P) hr hpos (v := .inl f p j.size zs) (ys := zs) (by simp [srcOf, elemsK]) hs'
                    obtain ⟨old, ho1, ho2, ho3⟩ := hzsrc.first zs.length (Nat.le_refl _)
                    rw [List.take_length] at ho3
                    have hboth : CRel E (flat (zs ++ detokL ys)) (old ++ new).toList := by
                      rw [flat_append, Array.toList_append]; exact crel_append ho3 hdt.1
                    have hbs : ∀ v, v ∈ zs ++ detokL ys → v.cells.length = j.size := by
                      intro v hv
                      rcases List.mem_append.1 hv with h' | h'
                      · exact h1 v h'
                      · exact hdt.2 v h'
                    have hlen2 : (zs ++ detokL ys).length = zs.length + ys.length := by simp [detokL_length]
                    split at h
                    · have hcz : cap0 = zs.length := h6
                      obtain ⟨cap, rest, m1, m2, m3, m4⟩ := append_move (P := P) hS (ty := ty) ht hu hj hlt (w := E.w) (base := some a) (n := zs.length) (c := cap0) (old := old) hsrc.len hn1d (ho1 (E.w.drawn + 1)) (by omega) hfit hz
                      obtain ⟨E', q1, q2, q3, q4⟩ := append_new hr (old := old) (new := new) (rest := rest) (el := e) hbs hboth (by rw [hlen2]; exact m1) (by rw [hlen2]; exact m2) m3
                      rw [hlen2] at q3
                      exact ⟨_, _, E', _, h, q1, q2, q3, by rw [m4, q4]⟩
                    · rename_i t' g'
                      split at h
                      · rename_i htok
                        obtain ⟨k1, k2, k3⟩ := h6
                        by_cases hroom : zs.length + ys.length ≤ cap0
                        · have hnl : new.toList.length = ys.length * j.size := by simpa using hn2
                          have hmul : (zs.length + ys.length) * j.size ≤ cap0 * j.size := Nat.mul_le_mul_right _ hroom
                          rw [Nat.add_mul] at hmul
                          obtain ⟨w', s1, s2, s3, s4⟩ := grow_sound (P := P) hr htok k3 (xs := new.toList) (by omega) hn3.one
                          have hval := grow_val (H := H) (ys := detokL ys) hs' hdt.1 hdt.2 (by rw [detokL_length]; exact hroom) s2 s4 (hr.tlt htok)
                          rw [hlen2] at hval
                          refine ⟨_, _, _, _, h, s2, s3, hval, ?_⟩
                          have ea : a.add (zs.length * j.size) = ⟨a.block, a.off + zs.length * j.size, none⟩ := by
                            obtain ⟨ab, ao, asp⟩ := a
                            simp only at k2
                            subst k2
                            rw [Addr.add_lit]
                          exact append_stay (P := P) hS (ty := ty) ht hu hj hlt (w := E.w) (base := some a) (n := zs.length) (c := cap0) hsrc.len hn1' hroom (by show (storeCells (a.add (zs.length * j.size)) new.toList).run P E.w = .ok () w'; rw [ea]; exact s1)
                        · obtain ⟨cap, rest, m1, m2, m3, m4⟩ := append_move (P := P) hS (ty := ty) ht hu hj hlt (w := E.w) (base := some a) (n := zs.length) (c := cap0) (old := old) hsrc.len hn1d (ho1 (E.w.drawn + 1)) (by omega) hfit hz
                          obtain ⟨E', q1, q2, q3, q4⟩ := append_retok hr htok (f := f) (old := old) (new := new) (rest := rest) (el := e) hbs hboth (by rw [hlen2]; exact m1) (by rw [hlen2]; exact m2) m3
                          rw [hlen2] at q3
                          exact ⟨_, _, E', _, h, q1, q2, q3, by rw [m4, q4]⟩
                      · simp at h
                    · simp at h
                  · simp at h
              · rename_i id off len cap sz ag
                have hs' := hs
                cases hs with
                | sl _ _ _ _ _ _ b c hid hb hlc hcap hag hcp =>
                split at h
                · rename_i hy0
                  exact ⟨_, _, E, _, h, GE.le.refl E, hr, hs', hzero _ c len hlc hy0⟩
                · rename_i hy0
                  split at h
                  · simp at h
                  · rename_i hszj
                    have hszj' : sz = j.size := by omega
                    subst hszj'
                    split at h
                    · split at h
                      · rename_i cs ho
                        split at h
                        · rename_i hc
                          obtain ⟨rfl, hcl, hfit⟩ := hc
                          have hfl := flat_length ys hsrc.sizes
                          have hsl := src_sound (P := P) hr hpos (v := .sl id 0 len none j.size ag) (ys := chunks j.size ag len (cs.drop 0)) (by simp [srcOf, elemsK, ho, hcl]) hs'
                          have hplain : ∀ c, c ∈ cs.drop 0 → c.cells = [c] := by
                            intro d hd
                            have hd' := List.mem_of_mem_drop hd
                            obtain ⟨m, hm⟩ := List.getElem?_of_mem hd'
                            cases hr.obj _ _ ho with
                            | cells _ b' arr el hb' hh hl hc h1 hS' _ =>
                            have hlt' : m < arr.size := by
                              rcases Nat.lt_or_ge m cs.length with h' | h'
                              · omega
                              · simp [List.getElem?_eq_none h'] at hm
                            exact cell_plain (hc m d arr[m] hm (by simp [hlt'])) (h1 m _ (by simp [hlt']))
                          obtain ⟨c1, c2, c3⟩ := chunks_spec (ag := ag) hag len (cs.drop 0) (by simp; omega) hplain
                          have hag' : j.isAgg = false → j.size = 1 := (hS.type _ _ hj).one
                          unfold newK at h
                          by_cases hroom : len + ys.length ≤ c
                          · have hcp' := hcp rfl
                            have hmul : (len + ys.length) * j.size ≤ c * j.size := Nat.mul_le_mul_right _ hroom
                            rw [Nat.add_mul] at hmul
                            obtain ⟨w', s1, s2, s3⟩ := regrow_sound (P := P) hr ho hb hn3 (by omega)
                            have hid0 := hr.nid
                            refine ⟨_, _, E.regrow b (E.cp id) w', .slice (some ⟨b, 0, none⟩) (len + ys.length) c, h, s2, ?_, ?_, ?_⟩
                            · exact s3
                            · refine .sl _ _ _ _ _ _ b c ?_ ?_ hroom (by simp) hag' ?_
                              · show (H.objs.set id (.dead true)).length < E.nid + 1
                                simp; omega
                              · show (if (H.objs.set id (.dead true)).length = E.nid then some b else _) = some b
                                rw [if_pos (by simp; omega)]
                              · intro _
                                show 0 + c * j.size ≤ (if (H.objs.set id (.dead true)).length = E.nid then E.cp id else _)
                                rw [if_pos (by simp; omega)]
                                exact hcp'
                            · have := append_stay (P := P) hS (ty := ty) ht hu hj hlt (w := E.w) (w' := w') (base := some ⟨b, 0, none⟩) (n := len) (c := c) hsrc.len hn1' hroom (by
                                show (storeCells ((⟨b, 0, none⟩ : Addr).add (len * j.size)) new.toList).run P E.w = .ok () w'
                                rw [Addr.add_lit, Nat.zero_add, ← hcl]; exact s1)
                              exact this
                          · obtain ⟨old, ho1, ho2, ho3⟩ := hsl.first len (by rw [c2]; exact Nat.le_refl _)
                            rw [List.take_of_length_le (by rw [c2]; exact Nat.le_refl _), c1] at ho3
                            obtain ⟨cap, rest, m1, m2, m3, m4⟩ := append_move (P := P) hS (ty := ty) ht hu hj hlt (w := E.w) (base := some ⟨b, 0, none⟩) (n := len) (c := c) (old := old) hsrc.len hn1d (ho1 (E.w.drawn + 1)) (by omega) hfit hz
                            have hboth : CRel E (cs ++ flat ys) (old ++ new).toList := by
                              rw [Array.toList_append]
                              refine crel_append ?_ hn3
                              rw [List.drop_zero, ← hcl, List.take_length] at ho3
                              exact ho3
                            have hkill : HRel { H with objs := H.objs.set id (.dead true) } E := hr.kill ho
                            obtain ⟨E', q1, q2, q3, q4⟩ := append_obj hkill (old := old) (new := new) (rest := rest) (el := e) hboth m3 (n := len + ys.length) (cap := cap) (sz := j.size) (ag := j.isAgg) m1 hag' (by
                              have e1 := hboth.len
                              simp only [List.length_append, Array.length_toList, hfl] at e1
                              have e3 : (old ++ new).size = len * j.size + ys.length * j.size := by omega
                              rw [Array.size_append, e3, m2, ← Nat.add_mul, ← Nat.add_mul]
                              exact Nat.mul_le_mul_right _ (by omega))
                            exact ⟨_, _, E', _, h, q1, q2, q3, by rw [m4, q4]⟩
                        · simp at h
                      · simp at h
                    · rename_i c0
                      have hcc := hcap c0 rfl
                      subst hcc
                      split at h
                      · rename_i cs ho
                        have hfl := flat_length ys hsrc.sizes
                        split at h
                        · rename_i hroom
                          split at h
                          · rename_i hin
                            rw [Nat.add_mul] at hin
                            obtain ⟨w', s1, s2, s3⟩ := write_cells (P := P) hr ho hb hn3 (off := off + len * j.size) (by omega)
                            refine ⟨_, _, E.at w', _, h, s2, s3, ?_, append_stay (P := P) hS (ty := ty) ht hu hj hlt (w := E.w) (base := some ⟨b, off, none⟩) (n := len) (c := c) hsrc.len hn1' hroom ?_⟩
                            · exact .sl _ _ _ _ _ _ b c hid hb hroom hcap hag (by simp)
                            · show (storeCells ((⟨b, off, none⟩ : Addr).add (len * j.size)) new.toList).run P E.w = .ok () w'
                              rw [Addr.add_lit]; exact s1
                          · simp at h
                        · rename_i hroom
                          split at h
                          · rename_i hc
                            obtain ⟨hfit, hin⟩ := hc
                            have hsl := src_sound (P := P) hr hpos (v := .sl id off len (some c) j.size ag) (ys := chunks j.size ag len (cs.drop off)) (by simp [srcOf, elemsK, ho, hin]) hs'
                            have hplain : ∀ c, c ∈ cs.drop off → c.cells = [c] := by
                              intro d hd
                              have hd' := List.mem_of_mem_drop hd
                              obtain ⟨m, hm⟩ := List.getElem?_of_mem hd'
                              cases hr.obj _ _ ho with
                              | cells _ b' arr el hb' hh hl hc h1 hS' =>
                              have hlt' : m < arr.size := by
                                rcases Nat.lt_or_ge m cs.length with h' | h'
                                · omega
                                · simp [List.getElem?_eq_none h'] at hm
                              exact cell_plain (hc m d arr[m] hm (by simp [hlt'])) (h1 m _ (by simp [hlt']))
                            obtain ⟨c1, c2, c3⟩ := chunks_spec (ag := ag) hag len (cs.drop off) (by simp; omega) hplain
                            obtain ⟨old, ho1, ho2, ho3⟩ := hsl.first len (by rw [c2]; exact Nat.le_refl _)
                            rw [List.take_of_length_le (by rw [c2]; exact Nat.le_refl _), c1] at ho3
                            obtain ⟨cap, rest, m1, m2, m3, m4⟩ := append_move (P := P) hS (ty := ty) ht hu hj hlt (w := E.w) (base := some ⟨b, off, none⟩) (n := len) (c := c) (old := old) hsrc.len hn1d (ho1 (E.w.drawn + 1)) (by omega) hfit hz
                            unfold newK at h
                            have hboth : CRel E ((cs.drop off).take (len * j.size) ++ flat ys) (old ++ new).toList := by
                              rw [Array.toList_append]; exact crel_append ho3 hn3
                            obtain ⟨E', q1, q2, q3, q4⟩ := append_obj hr (old := old) (new := new) (rest := rest) (el := e) hboth m3 (n := len + ys.length) (cap := cap) (sz := j.size) (ag := j.isAgg) m1 (hS.type _ _ hj).one (by
                              have e1 := hboth.len
                              simp only [List.length_append, List.length_take, List.length_drop, Array.length_toList, hfl] at e1
                              have e3 : (old ++ new).size = len * j.size + ys.length * j.size := by omega
                              rw [Array.size_append, e3, m2, ← Nat.add_mul, ← Nat.add_mul]
                              exact Nat.mul_le_mul_right _ (by omega))
                            exact ⟨_, _, E', _, h, q1, q2, q3, by rw [m4, q4]⟩
                          · simp at h
                      · simp at h
              · simp at h
            · simp at h
      · simp at h


theorem copy_sound (hS : SysOK S P) {H : AH} {E : GE} (hr : HRel H E) {ts : Array TypeId} {ty : TypeId} {d x : AV} {K : AV → AH → Option R} {r : R} (h : copyK S H ts d x K = some r) {xd xx : Value} (hd : VRel E d xd) (hx : VRel E x xx) :
    ∃ v H' E' y, K v H' = some r ∧ E.le E' ∧ HRel H' E' ∧ VRel E' v y ∧ (Builtin.copy_ ts ty #[xd, xx]).run P E.w = .ok y E'.w := by
  unfold copyK at h
  split at h
  · simp at h
  · rename_i t ht
    split at h
    · simp at h
    · rename_i i hi
      have hk := (hS.type _ _ hi).kind
      split at h
      · rename_i e hik
        rw [hik] at hk
        have hu : P.underlying t = some (.slice e) := hk
        split at h
        · simp at h
        · rename_i j hj
          split at h
          · simp at h
          · rename_i ys hys
            split at h
            · simp at h
            · rename_i hsz
              have hpos : 0 < j.size := Nat.pos_of_ne_zero hsz
              have hsrc := src_sound (P := P) hr hpos hys hx
              have hsize := fun w => run_size' hS hj w
              have hrun : ∀ (base : Option Addr) (n c : Nat) (new : Array Value) (w' : World), (Builtin.firstCells j.size (min ys.length n) xx).run P E.w = .ok new E.w →
                  (match base with | some a => storeCells a new.toList | none => pure () : Sem Unit).run P E.w = .ok () w' →
                  (Builtin.copy_ ts ty #[.slice base n c, xx]).run P E.w = .ok (.int .i64 (min ys.length n : Nat)) w' := by
                intro base n c new w' h1 h2
                have h1' : (Builtin.firstCells j.size (Nat.min ys.length n) xx).run P E.w = .ok new E.w := h1
                cases base with
                | none =>
                  simp only [Sem.run_pure, Result.ok.injEq, true_and] at h2
                  subst h2
                  simp [Builtin.copy_, ht, run_underlying hu, hsrc.len, hsize, h1, goInt]
                | some a =>
                  simp only at h2
                  simp [Builtin.copy_, ht, run_underlying hu, hsrc.len, hsize, h1, goInt, h2]
              have hempty : ∀ base n c, min ys.length n = 0 → (Builtin.copy_ ts ty #[.slice base n c, xx]).run P E.w = .ok (.int .i64 0) E.w := by
                intro base n c h0
                obtain ⟨new, g1, g2, g3⟩ := hsrc.first (min ys.length n) (Nat.min_le_left _ _)
                have hnew : new = #[] := by
                  rw [h0, Nat.zero_mul] at g2
                  exact Array.eq_empty_of_size_eq_zero g2
                have := hrun base n c new E.w (g1 E.w.drawn) (by subst hnew; cases base <;> simp [storeCells])
                rw [h0] at this
                exact this
              split at h
              · rw [rel_nils hd]
                exact ⟨_, _, E, _, h, GE.le.refl E, hr, .int _ _, hempty none 0 0 (by simp)⟩
              · rename_i f p sz zs
                split at h
                · rename_i h0
                  cases hd with
                  | inl _ _ _ _ a cap g h1 h2 h3 h4 h5 h6 =>
                  exact ⟨_, _, E, _, h, GE.le.refl E, hr, .int _ _, hempty _ _ _ h0⟩
                · simp at h
              · rename_i id off len cap sz ag
                cases hd with
                | sl _ _ _ _ _ _ b c hid hb hlc hcap hag =>
                split at h
                · rename_i cs ho
                  split at h
                  · rename_i hc
                    obtain ⟨hin, rfl⟩ := hc
                    obtain ⟨new, g1, g2, g3⟩ := hsrc.first (min ys.length len) (Nat.min_le_left _ _)
                    have hs' : ∀ v, v ∈ ys.take (min ys.length len) → v.cells.length = j.size := fun v hv => hsrc.sizes v (List.mem_of_mem_take hv)
                    have hfl := flat_length _ hs'
                    have hmul : min ys.length len * j.size ≤ len * j.size := Nat.mul_le_mul_right _ (Nat.min_le_right _ _)
                    have hlt : (ys.take (min ys.length len)).length = min ys.length len := by simp
                    rw [hlt] at hfl
                    obtain ⟨w', s1, s2, s3⟩ := write_cells (P := P) hr ho hb g3 (off := off) (by omega)
                    exact ⟨_, _, E.at w', _, h, s2, s3, .int _ _, hrun (some ⟨b, off, none⟩) len c new w' (g1 E.w.drawn) s1⟩
                  · simp at h
                · simp at h
              · simp at h
      · simp at h

end Go.Sx

/- THE ENGINE, 16: slices that are made. -/
set_option linter.unusedSimpArgs false
set_option linter.unusedVariables false
namespace Go.Sx
variable {S : Sys} {P : Program} {R : Type}

theorem splice_set {n : Nat} : ∀ (xs : List AV) (i : Nat) (v : AV), (∀ u, u ∈ xs → u.cells.length = n) → v.cells.length = n → i < xs.length → splice (flat xs) (i * n) v.cells = flat (xs.set i v)
  | [], i, v, _, _, h => by simp at h
  | u :: xs, 0, v, hs, hv, _ => by
    have hu := hs u (by simp)
    simp only [splice, flat, List.set_cons_zero, List.flatMap_cons, Nat.zero_mul, List.take_zero, List.nil_append, Nat.zero_add]
    congr 1
    rw [List.drop_append_of_le_length (by omega), hv, ← hu, List.drop_length, List.nil_append]
  | u :: xs, i + 1, v, hs, hv, h => by
    have hu := hs u (by simp)
    have ih := splice_set xs i v (fun u hm => hs u (by simp [hm])) hv (by simpa using h)
    simp only [splice, flat, List.set_cons_succ, List.flatMap_cons] at ih ⊢
    rw [← ih]
    have e1 : (i + 1) * n = u.cells.length + i * n := by rw [hu, Nat.add_mul]; omega
    have e2 : (i + 1) * n + v.cells.length = u.cells.length + (i * n + v.cells.length) := by rw [e1]; omega
    rw [e2, e1, List.take_append, List.drop_append, List.take_of_length_le (by omega), List.drop_of_length_le (by omega)]
    simp

theorem setParts_fill {n : Nat} : ∀ (ps : List (Nat × AV)) (xs ys : List AV), (∀ u, u ∈ xs → u.cells.length = n) → sizesOk n (ps.map (·.2)) = true → setParts xs ps = some ys →
    fillL (fun i => some (i * n, n)) (flat xs) ps = some (flat ys) ∧ (∀ u, u ∈ ys → u.cells.length = n) ∧ ys.length = xs.length
  | [], xs, ys, hs, _, h => by
    simp only [setParts, Option.some.injEq] at h
    subst h
    exact ⟨rfl, hs, rfl⟩
  | (i, v) :: ps, xs, ys, hs, hz, h => by
    simp only [setParts] at h
    split at h
    · rename_i hi
      simp only [sizesOk, List.map_cons, List.all_cons, Bool.and_eq_true, beq_iff_eq] at hz
      have hs' : ∀ u, u ∈ xs.set i v → u.cells.length = n := by
        intro u hu
        rcases List.mem_or_eq_of_mem_set hu with h' | rfl
        · exact hs u h'
        · exact hz.1
      obtain ⟨h1, h2, h3⟩ := setParts_fill ps (xs.set i v) ys hs' hz.2 h
      refine ⟨?_, h2, by simpa using h3⟩
      simp only [fillL]
      have hin : i * n + n ≤ (flat xs).length := by
        rw [flat_length xs hs]
        have : (i + 1) * n ≤ xs.length * n := Nat.mul_le_mul_right _ hi
        rw [Nat.add_mul] at this; omega
      rw [if_pos (by simp only [hz.1, decide_true, Bool.true_and, decide_eq_true_eq]; exact hin), splice_set xs i v hs hz.1 hi]
      exact h1
    · simp at h

theorem zeros_crel {E : GE} {v : AV} {z : Value} (hz : CRel E v.cells z.cells.toList) {n : Nat} (hn : v.cells.length = n) (hpos : 0 < n) (len : Nat) :
    CRel E (flat (List.replicate len v)) ((Array.range (len * n)).map (z.cells[· % z.cells.size]!)).toList := by
  have hzs : z.cells.size = n := by have := hz.len; simp at this; omega
  have hs : ∀ u, u ∈ List.replicate len v → u.cells.length = n := fun u hu => by rw [List.eq_of_mem_replicate hu]; exact hn
  refine ⟨by rw [flat_length _ hs]; simp, ?_, ?_⟩
  · intro m c x hc hx
    obtain ⟨u, h1, h2⟩ := flat_inv hpos _ hs m c hc
    have hu := List.eq_of_mem_replicate (List.mem_of_getElem? h1)
    subst hu
    simp only [Array.toList_map, List.getElem?_map, Option.map_eq_some_iff, Array.toList_range] at hx
    obtain ⟨m', hm', rfl⟩ := hx
    have hmlt : m < len * n := by
      rcases Nat.lt_or_ge m (len * n) with h' | h'
      · exact h'
      · simp [List.getElem?_eq_none (l := List.range (len * n)) (by simpa using h')] at hm'
    rw [List.getElem?_range hmlt] at hm'
    obtain rfl := Option.some.inj hm'
    have hlt : m % n < z.cells.size := by rw [hzs]; exact Nat.mod_lt _ hpos
    refine hz.rel _ c _ h2 ?_
    rw [hzs]
    simp [hlt]
  · intro x hx
    simp only [Array.toList_map, List.mem_map, Array.toList_range, List.mem_range] at hx
    obtain ⟨m, hm, rfl⟩ := hx
    have hlt : m % z.cells.size < z.cells.size := Nat.mod_lt _ (by omega)
    exact hz.one _ (by simp [hlt])

theorem buildSlice_sound (hS : SysOK S P) {H : AH} {E : GE} (hr : HRel H E) {t : TypeId} {i : TI} (hi : S.T t = some i) {n : Nat} {us : List (Nat × AV)} {xs : Array (Nat × Value)} (hp : us.all (fun p => p.2.solid) = true → PRel E us xs.toList)
    {K : AV → AH → Option R} {r : R} (h : buildSliceK S H i n us K = some r) :
    ∃ v H' E' y, K v H' = some r ∧ E.le E' ∧ HRel H' E' ∧ VRel E' v y ∧ (Instr.buildSlice t n xs).run P E.w = .ok y E'.w := by
  have hk := (hS.type _ _ hi).kind
  unfold buildSliceK at h
  split at h
  · rename_i e hik
    rw [hik] at hk
    have hu : P.underlying t = some (.slice e) := hk
    split at h
    · simp at h
    · rename_i j hj
      split at h
      · rename_i hc
        obtain ⟨hsmall, hzl, hsz⟩ := hc
        have hpos : 0 < j.size := Nat.pos_of_ne_zero hsz
        split at h
        · rename_i ys hys
          split at h
          · rename_i hok
            simp only [Bool.and_eq_true] at hok
            obtain ⟨z, hz1, hz2, hz3⟩ := zero_rel (hS.type _ _ hj) E.w
            have hzc := cells_crel (hz3 E) hz2
            have hini := zeros_crel hzc hzl hpos n
            have hs0 : ∀ u, u ∈ List.replicate n j.zero → u.cells.length = j.size := fun u hu => by rw [List.eq_of_mem_replicate hu]; exact hzl
            obtain ⟨f1, f2, f3⟩ := setParts_fill us _ ys hs0 hok.1 hys
            have hp' := hp (by have := hok.2; rw [List.all_map] at this; exact this)
            obtain ⟨arr, a1, a2⟩ := fill_sound hp' hini f1
            have hyl : ys.length = n := by simpa using f3
            have hsize := fun w => run_size' hS hj w
            have hrun : (Instr.buildSlice t n xs).run P E.w = .ok (.slice (some ⟨E.w.heap.size, 0, none⟩) n n) (E.w.alloc (.cells arr e)) := by
              by_cases h0 : n * j.size = 0
              · have hn0 : n = 0 := by
                  rcases Nat.mul_eq_zero.1 h0 with h | h
                  · exact h
                  · exact absurd h hsz
                subst hn0
                have a1' : Instr.fill (fun i => some (i * j.size, j.size)) #[] xs.toList = some arr := by
                  rw [Nat.zero_mul, Array.range_zero'] at a1
                  simpa using a1
                simp [Instr.buildSlice, run_underlying hu, hsize, a1', newRow, Array.range_zero']
              · have hsm : ¬ (16777216 < n * j.size) := by omega
                simp [Instr.buildSlice, run_underlying hu, hsize, hsm, h0, hz1, a1, newRow]
            split at h
            · unfold newK at h
              obtain ⟨q1, q2, q3, q4⟩ := new_cells hr a2 e
              exact ⟨_, _, _, _, h, q1, q2, .sl _ _ _ _ _ _ _ _ q4 q3 (Nat.le_refl _) (by intro c' hc'; exact Option.some.inj hc') (hS.type _ _ hj).one (by simp), hrun⟩
            · have hdt := crel_detok f2 a2
              have hal : arr.size = n * j.size := by
                have := a2.len
                rw [flat_length ys f2, hyl] at this
                simpa using this.symm
              have h1' : ∀ (m : Nat) x, arr[m]? = some x → x.oneCell' = true := fun m x hx => a2.one x (by simpa using Array.mem_of_getElem? hx)
              have hle := row_le hr (.cells arr e) (n * j.size) none
              have hrel := row_rel hr (arr := arr) (el := e) (n := n * j.size) (tk := none) (by omega) h1' (by simp)
              have hval := row_val hr (arr := arr) (el := e) (sz := j.size) (cap := n) (xs := detokL ys) (tk := none) hdt.2 (by
                rw [detokL_length, hyl, List.take_of_length_le (by simp [hal])]; exact hdt.1) h1' (by rw [detokL_length, hyl]; exact Nat.le_refl _) hal (p := .zero) (.inr (.inl ⟨rfl, by rw [detokL_length, hyl]⟩))
              rw [detokL_length, hyl] at hval
              exact ⟨_, _, _, _, h, hle, hrel, hval, hrun⟩
          · simp at h
        · simp at h
      · simp at h
  · simp at h

theorem wrap_small {n : Int} (h0 : 0 ≤ n) (h1 : n < 9223372036854775808) : IntKind.i64.wrap n = n := by
  have e : n % (2 ^ 64 : Int) = n := Int.emod_eq_of_lt h0 (by omega)
  simp only [IntKind.wrap, IntKind.bits, IntKind.signed, e]
  rw [if_neg]
  simp
  omega

theorem makeSlice_sound (hS : SysOK S P) {H : AH} {E : GE} (hr : HRel H E) {t : TypeId} {i : TI} (hi : S.T t = some i) {u v : AV} {K : AV → AH → Option R} {r : R} (h : makeSliceK S H i u v K = some r) {x y : Value} (hx : VRel E u x) (hy : VRel E v y) :
    ∃ v H' E' z, K v H' = some r ∧ E.le E' ∧ HRel H' E' ∧ VRel E' v z ∧ (Instr.makeSlice t x y).run P E.w = .ok z E'.w := by
  have hk := (hS.type _ _ hi).kind
  unfold makeSliceK at h
  split at h
  · rename_i e hik
    rw [hik] at hk
    have hu : P.underlying t = some (.slice e) := hk
    split at h
    · simp at h
    · rename_i j hj
      have h' := asInt_inv h
      clear h
      obtain ⟨kl, l, rfl, h⟩ := h'
      have h' := asInt_inv h
      clear h
      obtain ⟨kc, c, rfl, h⟩ := h'
      rw [rel_int hx, rel_int hy]
      split at h
      · rename_i hc
        obtain ⟨_, _, c1, c2, c3, c4, c5, c6⟩ := hc
        have hpos : 0 < j.size := Nat.pos_of_ne_zero c6
        obtain ⟨inf, g1, g2, g3⟩ := run_typeInfo_bytes (hS.type _ _ hj) E.w
        obtain ⟨z, hz1, hz2, hz3⟩ := zero_rel (hS.type _ _ hj) E.w
        have hzc := cells_crel (hz3 E) hz2
        have hini := zeros_crel hzc c5 hpos c.toNat
        have hsize := fun w => run_size' hS hj w
        have wl := wrap_small c1 (by omega)
        have wc := wrap_small (n := c) (by omega) c3
        have hrun : (Instr.makeSlice t (.int kl l) (.int kc c)).run P E.w = .ok (.slice (some ⟨E.w.heap.size, 0, none⟩) l.toNat c.toNat) (E.w.alloc (.cells ((Array.range (c.toNat * j.size)).map (z.cells[· % z.cells.size]!)) e)) := by
          have b1 : ¬ (281474976710656 < (inf.bytes : Int) * c) := by rw [g2]; omega
          have b2 : ¬ (c < 0) := by omega
          have b3 : ¬ (l < 0) := by omega
          have b4 : ¬ (c < l) := by omega
          by_cases h0 : c.toNat * j.size = 0
          · have hn0 : c.toNat = 0 := by
              rcases Nat.mul_eq_zero.1 h0 with h | h
              · exact h
              · exact absurd h c6
            simp [Instr.makeSlice, run_underlying hu, asInt, asIntOf, g1, wl, wc, b1, b2, b3, b4, hsize, hn0, newRow, Array.range_zero']
          · simp [Instr.makeSlice, run_underlying hu, asInt, asIntOf, g1, wl, wc, b1, b2, b3, b4, hsize, h0, hz1, newRow]
        have hone : ∀ (m : Nat) x, ((Array.range (c.toNat * j.size)).map (z.cells[· % z.cells.size]!))[m]? = some x → x.oneCell' = true := fun m x hx => hini.one x (by simpa using Array.mem_of_getElem? hx)
        have hal : ((Array.range (c.toNat * j.size)).map (z.cells[· % z.cells.size]!)).size = c.toNat * j.size := by simp
        split at h
        · rename_i hl0
          obtain ⟨rfl, _⟩ := hl0
          have hle := row_le hr (.cells ((Array.range (c.toNat * j.size)).map (z.cells[· % z.cells.size]!)) e) (([] : List AV).length * j.size) (some (j.size, c.toNat * j.size))
          have hrel := row_rel hr (arr := (Array.range (c.toNat * j.size)).map (z.cells[· % z.cells.size]!)) (el := e) (n := ([] : List AV).length * j.size) (tk := some (j.size, c.toNat * j.size)) (by simp) hone (by
            intro q hq
            obtain rfl := Option.some.inj hq
            exact ⟨by simp, by rw [hal]; exact Nat.le_refl _⟩)
          have hval := row_val hr (arr := (Array.range (c.toNat * j.size)).map (z.cells[· % z.cells.size]!)) (el := e) (sz := j.size) (cap := c.toNat) (xs := []) (tk := some (j.size, c.toNat * j.size)) (by simp) ⟨by simp [flat], by simp [flat], by simp⟩ hone (by simp) hal (p := .tok E.nt 0) (.inr (.inr ⟨rfl, rfl⟩))
          refine ⟨_, _, _, _, h, hle, hrel, ?_, hrun⟩
          rw [← hr.nt]; exact hval
        · unfold newK at h
          obtain ⟨q1, q2, q3, q4⟩ := new_cells hr hini e
          exact ⟨_, _, _, _, h, q1, q2, .sl _ _ _ _ _ _ _ _ q4 q3 (by omega) (by intro c' hc'; exact Option.some.inj hc') (hS.type _ _ hj).one (by simp), hrun⟩
      · simp at h
  · simp at h

end Go.Sx

/- THE ENGINE, 14: append, the operation. -/
import Derived.Test.YtoagnbpmoihojaaDoorSxSound9
set_option linter.unusedSimpArgs false
set_option linter.unusedVariables false
namespace Go.Sx
variable {S : Sys} {P : Program} {R : Type}

def GE.grow (E : GE) (w' : World) (t g sz b e k ce : Nat) : GE :=
  { E with
    w := w'
    S := fun b' o => E.S b' o ∨ (b' = b ∧ e ≤ o ∧ o < e + k)
    τ := fun t' g' => if t' = t ∧ g' = g + 1 then some (sz, b, e + k, ce) else E.τ t' g' }

/-- What lies in a block behind a row of cells is written. -/
theorem stored {w : World} {b e : Nat} {c : Array Value} {el : TypeId} {xs : List Value} (hh : w.heap[b]? = some (.cells c el (0, 0))) (hl : e + xs.length ≤ c.size) (h1 : ∀ x, x ∈ xs → x.oneCell' = true) :
    ∃ (w' : World) (c' : Array Value), (storeCells ⟨b, e, none⟩ xs).run P w = .ok () w' ∧ Only b w w' ∧ w'.heap[b]? = some (.cells c' el (0, 0)) ∧ c'.size = c.size ∧ ∀ j : Nat, c'[j]? = if e ≤ j ∧ j < e + xs.length then xs[j - e]? else c[j]? := by
  have hrun := run_storeCells_at P b e el xs 0 c w hh (by omega) h1
  refine ⟨_, (c.toList.take (e + 0) ++ xs ++ c.toList.drop (e + 0 + xs.length)).toArray, hrun, ?_, setRow_heap w b c _ el _ hh, by simp; omega, ?_⟩
  · constructor
    · rfl
    · rfl
    · rfl
    · simp [World.setRow]
    · intro k hk
      simp only [World.setRow, Array.getElem?_modify]
      rw [if_neg (by omega)]
  · intro j
    simp only [Nat.add_zero, List.append_assoc, List.getElem?_toArray]
    by_cases h1 : j < e
    · rw [List.getElem?_append_left (by simp; omega), List.getElem?_take, if_pos h1, if_neg (by omega)]; simp
    · rw [List.getElem?_append_right (by simp; omega)]
      simp only [List.length_take, Array.length_toList, Nat.min_eq_left (by omega : e ≤ c.size)]
      by_cases h2 : j < e + xs.length
      · rw [List.getElem?_append_left (by omega), if_pos (by omega)]
      · rw [List.getElem?_append_right (by omega), if_neg (by omega), List.getElem?_drop]
        simp only [Array.getElem?_toList]
        congr 1; omega

theorem grow_sound {H : AH} {E : GE} (hr : HRel H E) {t g sz : Nat} (ht : H.toks[t]? = some (g, sz)) {b e ce : Nat} (hτ : E.τ t g = some (sz, b, e, ce)) {xs : List Value} (hl : e + xs.length ≤ ce) (h1 : ∀ x, x ∈ xs → x.oneCell' = true) :
    ∃ w', (storeCells ⟨b, e, none⟩ xs).run P E.w = .ok () w' ∧ E.le (E.grow w' t g sz b e xs.length ce) ∧ HRel { H with toks := H.toks.set t (g + 1, sz) } (E.grow w' t g sz b e xs.length ce) ∧
      (∀ j, j < xs.length → w'.cell? ⟨b, e + j, none⟩ = xs[j]?) := by
  obtain ⟨b', e', ce', c, el, g1, g2, g3, g4, g5, g6⟩ := hr.tok t g sz ht
  rw [hτ] at g1
  simp only [Option.some.injEq, Prod.mk.injEq, true_and] at g1
  obtain ⟨rfl, rfl, rfl⟩ := g1
  have htlt := hr.tlt ht
  obtain ⟨w', c', s1, s2, s3, s4, s5⟩ := stored (P := P) (e := e) g2 (by omega) h1
  have hown : E.owned b := .inr ⟨t, g, _, htlt, hτ, rfl⟩
  have hnone := hr.late t g sz (g + 1) ht (Nat.lt_succ_self _)
  have hle : E.le (E.grow w' t g sz b e xs.length ce) := by
    refine ⟨⟨?_, ?_, ?_, ?_, ?_, ?_, ?_⟩, rfl, ?_, ?_, ?_, ?_, ?_, ?_, ?_⟩
    · exact Nat.le_refl _
    · exact fun _ _ _ h => h
    · exact Nat.le_refl _
    · intro t' g' p ht' hp
      simp only [GE.grow]
      rw [if_neg]
      · exact hp
      · rintro ⟨rfl, rfl⟩
        rw [hnone] at hp; simp at hp
    · exact fun _ _ h => .inl h
    · intro k o hk
      by_cases e1 : k = b
      · subst e1
        have ho : o < e := by
          rcases Nat.lt_or_ge o e with h' | h'
          · exact h'
          · exact absurd hk (g6 o h')
        show w'.cell? _ = _
        have hnot : ¬ (e ≤ o ∧ o < e + xs.length) := by omega
        simp only [World.cell?, s3, g2, s5, hnot, if_false]
      · exact cell_of_block (s2.block k e1)
    · rfl
    · intro k o hk
      rcases hk with h | ⟨rfl, _⟩
      · exact .inl h
      · exact .inr (.inr hown)
    · intro k hk h
      rcases h with ⟨id, hid, hρ⟩ | ⟨t', g', p, ht', hp, hpb⟩
      · exact .inl ⟨id, hid, hρ⟩
      · simp only [GE.grow] at hp
        split at hp
        · simp only [Option.some.injEq] at hp; subst hp; simp at hpb; subst hpb; exact hown
        · exact .inr ⟨t', g', p, ht', hp, hpb⟩
    · exact s2.os
    · exact s2.tape
    · exact s2.output
    · exact Nat.le_of_eq s2.size.symm
    · intro k _ hn
      exact s2.block k (fun e => hn (e ▸ hown))
  have hτ' : ∀ t' g' p, (E.grow w' t g sz b e xs.length ce).τ t' g' = some p → (E.τ t' g' = some p) ∨ (t' = t ∧ g' = g + 1 ∧ p = (sz, b, e + xs.length, ce)) := by
    intro t' g' p hp
    simp only [GE.grow] at hp
    split at hp
    · rename_i h; exact .inr ⟨h.1, h.2, (Option.some.inj hp).symm⟩
    · exact .inl hp
  have hblk : ∀ t' g' p, t' < E.nt → (E.grow w' t g sz b e xs.length ce).τ t' g' = some p → ∃ g'' q, E.τ t' g'' = some q ∧ q.2.1 = p.2.1 := by
    intro t' g' p ht' hp
    rcases hτ' t' g' p hp with h | ⟨rfl, rfl, rfl⟩
    · exact ⟨g', p, h, rfl⟩
    · exact ⟨g, _, hτ, rfl⟩
  refine ⟨w', s1, hle, ?_, ?_⟩
  · constructor
    · exact hr.nid
    · simpa [GE.grow] using hr.nt
    · intro id o ho
      have hid := hr.idlt ho
      have hne : ∀ k, E.ρ id = some k → k ≠ b := fun k hk e => hr.tsep t g _ id k htlt hτ hid hk e.symm
      refine (hr.obj id o ho).mono hle hid (fun k hk => s2.block k (hne k hk)) ?_
      intro k o' hk hS
      rcases hS with h | ⟨h, _⟩
      · exact h
      · exact absurd h (hne k hk)
    · exact hr.inj
    · intro t' g' sz' ht'
      simp only [List.getElem?_set] at ht'
      by_cases e1 : t = t'
      · subst e1
        rw [if_pos rfl] at ht'
        split at ht'
        · simp only [Option.some.injEq, Prod.mk.injEq] at ht'
          obtain ⟨rfl, rfl⟩ := ht'
          refine ⟨b, e + xs.length, ce, c', el, by simp [GE.grow], s3, hl, by omega, ?_, ?_⟩
          · intro j x hx
            rw [s5] at hx
            split at hx
            · exact h1 x (List.mem_of_getElem? hx)
            · exact g5 j x hx
          · intro o ho hS
            rcases hS with h | ⟨_, h⟩
            · exact g6 o (by omega) h
            · omega
        · simp at ht'
      · rw [if_neg e1] at ht'
        obtain ⟨k, e2, ce2, c2, el2, q1, q2, q3, q4, q5, q6⟩ := hr.tok t' g' sz' ht'
        have hkb : k ≠ b := fun e3 => e1 (hr.tinj t g _ t' g' _ htlt (hr.tlt ht') hτ q1 e3.symm)
        refine ⟨k, e2, ce2, c2, el2, hle.τ t' g' _ (hr.tlt ht') q1, (s2.block k hkb).trans q2, q3, q4, q5, ?_⟩
        intro o ho hS
        rcases hS with h | ⟨h, _⟩
        · exact q6 o ho h
        · exact hkb h
    · intro t' g' sz' g'' ht' hg
      simp only [List.getElem?_set] at ht'
      simp only [GE.grow]
      by_cases e1 : t = t'
      · subst e1
        rw [if_pos rfl] at ht'
        split at ht'
        · simp only [Option.some.injEq, Prod.mk.injEq] at ht'
          obtain ⟨rfl, rfl⟩ := ht'
          rw [if_neg (by omega)]
          exact hr.late t g sz g'' ht (by omega)
        · simp at ht'
      · rw [if_neg e1] at ht'
        rw [if_neg (fun h => e1 h.1.symm)]
        exact hr.late t' g' sz' g'' ht' hg
    · intro t' g' p id k ht' hp hid hk
      obtain ⟨g'', q, q1, q2⟩ := hblk t' g' p ht' hp
      rw [← q2]
      exact hr.tsep t' g'' q id k ht' q1 hid hk
    · intro t1 g1 p t2 g2 q h1' h2' hp hq e1
      obtain ⟨g1', p', a1, a2⟩ := hblk t1 g1 p h1' hp
      obtain ⟨g2', q', b1, b2⟩ := hblk t2 g2 q h2' hq
      exact hr.tinj t1 g1' p' t2 g2' q' h1' h2' a1 b1 (by rw [a2, b2]; exact e1)
    · intro t' g' p ht' hp
      obtain ⟨g'', q, q1, q2⟩ := hblk t' g' p ht' hp
      rw [← q2]
      exact hr.tbase t' g'' q ht' q1
    · intro k o hS
      show (w'.cell? _).isSome = true
      rcases hS with h | ⟨rfl, h2, h3⟩
      · have := hr.set k o h
        rw [← hle.cell k o h] at this
        exact this
      · simp only [World.cell?, s3]
        simp; omega
    · intro k hk
      show k < w'.heap.size
      rw [s2.size]
      rcases hk with ⟨id, hid, hρ⟩ | ⟨t', g', p, ht', hp, hpb⟩
      · exact hr.lt k (.inl ⟨id, hid, hρ⟩)
      · obtain ⟨g'', q, q1, q2⟩ := hblk t' g' p ht' hp
        exact hr.lt k (.inr ⟨t', g'', q, ht', q1, by rw [q2]; exact hpb⟩)
    · show E.base ≤ w'.heap.size
      rw [s2.size]; exact hr.hbase
  · intro j hj
    simp only [World.cell?, s3]
    simp [s5, hj]

/-- The list behind it. -/
theorem grow_val {H : AH} {E : GE} {f : Bool} {t g sz : Nat} {xs ys : List AV} {a : Addr} {cap : Nat} (hx : VRel E (.inl f (.tok t g) sz xs) (.slice (some a) xs.length cap)) {new : List Value} (hc : CRel E (flat ys) new) (hs : ∀ v, v ∈ ys → v.cells.length = sz)
    (hcap : xs.length + ys.length ≤ cap) {w' : World} (hle : E.le (E.grow w' t g sz a.block (a.off + xs.length * sz) new.length (a.off + cap * sz))) (hcell : ∀ j, j < new.length → w'.cell? ⟨a.block, a.off + xs.length * sz + j, none⟩ = new[j]?) (hbase : t < E.nt) :
    VRel (E.grow w' t g sz a.block (a.off + xs.length * sz) new.length (a.off + cap * sz)) (.inl f (.tok t (g + 1)) sz (xs ++ ys)) (.slice (some a) (xs ++ ys).length cap) := by
  have hlen := hc.len
  rw [flat_length ys hs] at hlen
  cases hx with
  | inl _ _ _ _ _ _ x h1 h2 h3 h4 h5 h6 =>
  obtain ⟨k1, k2, k3⟩ := h6
  refine .inl f _ sz (xs ++ ys) a cap (fun i j => if i < xs.length then x i j else new.getD ((i - xs.length) * sz + j) undef) ?_ ?_ ?_ (by simp; omega) h5 ?_
  · intro v hv
    rcases List.mem_append.1 hv with h | h
    · exact h1 v h
    · exact hs v h
  · intro i j hi hj
    simp only [List.length_append] at hi
    by_cases hlt : i < xs.length
    · simp only [hlt, if_true]
      obtain ⟨q1, q2, q3⟩ := h2 i j hlt hj
      exact ⟨cell_mono hle.topre q1 q3, q2, .inl q3⟩
    · simp only [hlt, if_false]
      have hm : (i - xs.length) * sz + j < new.length := by
        have : (i - xs.length + 1) * sz ≤ ys.length * sz := Nat.mul_le_mul_right _ (by omega)
        rw [Nat.add_mul] at this; omega
      have ea : a.add (i * sz + j) = ⟨a.block, a.off + xs.length * sz + ((i - xs.length) * sz + j), none⟩ := by
        obtain ⟨ab, ao, asp⟩ := a
        simp only at k2
        subst k2
        rw [Addr.add_lit]
        congr 1
        have : i * sz = xs.length * sz + (i - xs.length) * sz := by rw [← Nat.add_mul]; congr 1; omega
        show ao + (i * sz + j) = ao + xs.length * sz + ((i - xs.length) * sz + j)
        omega
      refine ⟨?_, ?_, ?_⟩
      · rw [ea]
        show w'.cell? _ = _
        rw [hcell _ hm]
        simp [List.getD, hm]
      · have : new.getD ((i - xs.length) * sz + j) undef = new[(i - xs.length) * sz + j] := by simp [List.getD, hm]
        rw [this]
        exact hc.one _ (List.getElem_mem hm)
      · refine .inr ⟨rfl, ?_, ?_⟩
        · have : xs.length * sz ≤ i * sz := Nat.mul_le_mul_right _ (by omega)
          omega
        · have : i * sz = xs.length * sz + (i - xs.length) * sz := by rw [← Nat.add_mul]; congr 1; omega
          omega
  · intro i v j c hi hj
    by_cases hlt : i < xs.length
    · simp only [hlt, if_true]
      rw [List.getElem?_append_left hlt] at hi
      exact (h3 i v j c hi hj).mono hle
    · simp only [hlt, if_false]
      rw [List.getElem?_append_right (by omega)] at hi
      have hf := flat_get ys hs _ v j c hi hj
      have hm : (i - xs.length) * sz + j < new.length := by
        rw [← hc.len]
        rcases Nat.lt_or_ge ((i - xs.length) * sz + j) (flat ys).length with h' | h'
        · exact h'
        · simp [List.getElem?_eq_none h'] at hf
      refine (hc.rel _ c _ hf ?_).mono hle
      simp [List.getD, hm]
  · refine ⟨hbase, k2, ?_⟩
    simp only [GE.grow, and_self, if_true, List.length_append]
    have : a.off + xs.length * sz + new.length = a.off + (xs.length + ys.length) * sz := by rw [← hlen, Nat.add_mul]; omega
    rw [this]

end Go.Sx

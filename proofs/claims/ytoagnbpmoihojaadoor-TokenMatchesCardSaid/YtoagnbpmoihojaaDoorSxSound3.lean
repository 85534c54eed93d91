/- THE ENGINE, 7: objects: made, read, written. -/
import Derived.Test.YtoagnbpmoihojaaDoorSxSound2
import Derived.Laws.Cells
set_option linter.unusedSimpArgs false
set_option linter.unusedVariables false
namespace Go.Sx
variable {S : Sys} {P : Program} {R : Type}

def GE.at (E : GE) (w : World) : GE := { E with w := w }

/-- A world that differs from another at one block alone. -/
structure Only (b : Nat) (w w' : World) : Prop where
  os : w'.os = w.os
  tape : w'.tape = w.tape
  output : w'.output = w.output
  size : w'.heap.size = w.heap.size
  block : ∀ k, k ≠ b → w'.heap[k]? = w.heap[k]?

theorem cell_of_block {w w' : World} {b o : Nat} (h : w'.heap[b]? = w.heap[b]?) : w'.cell? ⟨b, o, none⟩ = w.cell? ⟨b, o, none⟩ := by
  simp only [World.cell?, h]

theorem le_write {E : GE} {b : Nat} (ho : E.owned b) (hS : ∀ o, ¬ E.S b o) {w' : World} (h : Only b E.w w') : E.le (E.at w') where
  nid := Nat.le_refl _
  ρ := fun _ _ _ h => h
  nt := Nat.le_refl _
  τ := fun _ _ _ _ h => h
  S := fun _ _ h => h
  cell := fun k o hk => cell_of_block (h.block k (fun e => hS o (e ▸ hk)))
  base := rfl
  low := rfl
  snew := fun _ _ h => .inl h
  own := fun _ _ h => h
  os := h.os
  tape := h.tape
  output := h.output
  size := Nat.le_of_eq h.size.symm
  block := fun k _ hn => h.block k (fun e => hn (e ▸ ho))

/-- Another object lies as it lay. -/
theorem ORel.pmono {E E' : GE} (hle : E.pre E') {id : Nat} {o : AObj} (h : ORel E id o) (hid : id < E.nid) (hsame : ∀ b, E.ρ id = some b → E'.w.heap[b]? = E.w.heap[b]?) (hS : ∀ b o, E.ρ id = some b → E'.S b o → E.S b o) (hun : E.ρ id = none → E'.ρ id = none := by first | exact fun h => h | assumption) : ORel E' id o := by
  cases h with
  | cells cs b c el hb hh hl hc h1 hS' => exact .cells cs b c el (hle.ρ id b hid hb) ((hsame b hb).trans hh) hl (fun j v x a d => (hc j v x a d).pmono hle) h1 (fun o ho => hS' o (hS b o hb ho))
  | map es b ms clock hb hh hl hk hv => exact .map es b ms clock (hle.ρ id b hid hb) ((hsame b hb).trans hh) hl (fun j e m a d => (hk j e m a d).pmono hle) (fun j e m a d => (hv j e m a d).pmono hle)
  | siter s pos b hb hh => exact .siter s pos b (hle.ρ id b hid hb) ((hsame b hb).trans hh)
  | loop s ps x y st b r hb hh h1 h2 h3 h4 h5 => exact .loop s ps x y st b r (hle.ρ id b hid hb) ((hsame b hb).trans hh) (h1.pmono hle) h2 h3 h4 h5
  | dead => exact .dead
  | unborn h0 => exact .unborn (hun h0)

theorem ORel.mono {E E' : GE} (hle : E.le E') {id : Nat} {o : AObj} (h : ORel E id o) (hid : id < E.nid) (hsame : ∀ b, E.ρ id = some b → E'.w.heap[b]? = E.w.heap[b]?) (hS : ∀ b o, E.ρ id = some b → E'.S b o → E.S b o) (hun : E.ρ id = none → E'.ρ id = none := by first | exact fun h => h | assumption) : ORel E' id o := h.pmono hle.topre hid hsame hS hun

theorem HRel.write {H : AH} {E : GE} (h : HRel H E) {id b : Nat} (hid : id < E.nid) (hρ : E.ρ id = some b) (hS : ∀ o, ¬ E.S b o) {w' : World} (hw : Only b E.w w') {o' : AObj} (ho : ORel (E.at w') id o') :
    E.le (E.at w') ∧ HRel { H with objs := H.objs.set id o' } (E.at w') := by
  have hle := le_write (.inl ⟨id, hid, hρ⟩) hS hw
  refine ⟨hle, ?_⟩
  constructor
  · simpa [GE.at] using h.nid
  · exact h.nt
  · intro i o hi
    simp only [List.getElem?_set] at hi
    by_cases e : id = i
    · subst e
      rw [if_pos rfl] at hi
      split at hi
      · simp only [Option.some.injEq] at hi; subst hi; exact ho
      · simp at hi
    · rw [if_neg e] at hi
      have hlt : i < E.nid := by
        rw [h.nid]
        rcases Nat.lt_or_ge i H.objs.length with h' | h'
        · exact h'
        · simp [List.getElem?_eq_none h'] at hi
      exact (h.obj i o hi).mono hle hlt (fun k hk => hw.block k (fun e' => e (h.inj _ _ _ hid hlt hρ (e' ▸ hk)))) (fun _ _ _ h => h)
  · exact h.inj
  · intro t g sz ht
    obtain ⟨k, e, ce, c, el, h1, h2, h3, h4, h5, h6⟩ := h.tok t g sz ht
    have hlt : t < E.nt := by
      rw [h.nt]
      rcases Nat.lt_or_ge t H.toks.length with h' | h'
      · exact h'
      · simp [List.getElem?_eq_none h'] at ht
    exact ⟨k, e, ce, c, el, h1, (hw.block k (h.tsep t g _ id b hlt h1 hid hρ)).trans h2, h3, h4, h5, h6⟩
  · exact h.late
  · exact h.tsep
  · exact h.tinj
  · exact h.tbase
  · intro k o hk
    have : k ≠ b := fun e => hS o (e ▸ hk)
    have := h.set k o hk
    rwa [← cell_of_block (w' := w') (hw.block k ‹_›)] at this
  · intro k hk
    have := h.lt k hk
    show k < w'.heap.size
    rw [hw.size]; exact this
  · show E.base ≤ w'.heap.size
    rw [hw.size]; exact h.hbase

def GE.new (E : GE) (o : Obj) : GE := { E with w := E.w.alloc o, nid := E.nid + 1, ρ := fun i => if i = E.nid then some E.w.heap.size else E.ρ i }

theorem alloc_block (w : World) (o : Obj) (k : Nat) (h : k < w.heap.size) : (w.alloc o).heap[k]? = w.heap[k]? := Go.RowKit.Below.heap_alloc w o k h

theorem le_new (E : GE) (o : Obj) (hS : ∀ b o, E.S b o → b < E.w.heap.size) : E.le (E.new o) where
  nid := Nat.le_succ _
  ρ := fun id b hid hb => by simp [GE.new, Nat.ne_of_lt hid, hb]
  nt := Nat.le_refl _
  τ := fun _ _ _ _ h => h
  S := fun _ _ h => h
  cell := by
    intro b o' hb
    exact cell_of_block (alloc_block _ _ _ (hS _ _ hb))
  base := rfl
  low := rfl
  snew := fun _ _ h => .inl h
  own := by
    intro b hb h
    rcases h with ⟨id, hid, hρ⟩ | ⟨t, g, p, ht, hp, hpb⟩
    · simp only [GE.new] at hid hρ
      by_cases e : id = E.nid
      · simp [e] at hρ; omega
      · simp only [e, if_false] at hρ
        exact .inl ⟨id, by omega, hρ⟩
    · exact .inr ⟨t, g, p, ht, hp, hpb⟩
  os := rfl
  tape := rfl
  output := rfl
  size := by show E.w.heap.size ≤ (E.w.heap.push o).size; simp
  block := fun b hb _ => alloc_block _ _ _ hb

theorem block_of_cell {w : World} {b o : Nat} (h : (w.cell? ⟨b, o, none⟩).isSome = true) : b < w.heap.size := by
  rcases Nat.lt_or_ge b w.heap.size with h' | h'
  · exact h'
  · simp [World.cell?, Array.getElem?_eq_none h'] at h

theorem HRel.Slt {H : AH} {E : GE} (h : HRel H E) : ∀ b o, E.S b o → b < E.w.heap.size := fun b o hb => block_of_cell (h.set b o hb)

theorem HRel.idlt {H : AH} {E : GE} (h : HRel H E) {id : Nat} {o : AObj} (ho : H.objs[id]? = some o) : id < E.nid := by
  rw [h.nid]
  rcases Nat.lt_or_ge id H.objs.length with h' | h'
  · exact h'
  · simp [List.getElem?_eq_none h'] at ho
theorem HRel.tlt {H : AH} {E : GE} (h : HRel H E) {t : Nat} {p : Nat × Nat} (ho : H.toks[t]? = some p) : t < E.nt := by
  rw [h.nt]
  rcases Nat.lt_or_ge t H.toks.length with h' | h'
  · exact h'
  · simp [List.getElem?_eq_none h'] at ho

theorem HRel.new {H : AH} {E : GE} (h : HRel H E) {ob : Obj} {o : AObj} (ho : ORel (E.new ob) E.nid o) :
    E.le (E.new ob) ∧ HRel { H with objs := H.objs ++ [o] } (E.new ob) := by
  have hle := le_new E ob h.Slt
  have hlt : ∀ i b, i < E.nid → E.ρ i = some b → b < E.w.heap.size := fun i b hi hb => h.lt b (.inl ⟨i, hi, hb⟩)
  have hρ : ∀ i b, i < E.nid + 1 → (E.new ob).ρ i = some b → (i = E.nid ∧ b = E.w.heap.size) ∨ (i < E.nid ∧ E.ρ i = some b) := by
    intro i b hi hb
    simp only [GE.new] at hb
    by_cases e : i = E.nid
    · simp [e] at hb; exact .inl ⟨e, hb.symm⟩
    · simp only [e, if_false] at hb; exact .inr ⟨by omega, hb⟩
  refine ⟨hle, ?_⟩
  constructor
  · show E.nid + 1 = (H.objs ++ [o]).length
    simp [h.nid]
  · exact h.nt
  · intro i o' hi
    by_cases e : i = E.nid
    · subst e
      rw [h.nid, List.getElem?_append_right (Nat.le_refl _)] at hi
      simp at hi
      subst hi; exact ho
    · have hi' : i < H.objs.length := by
        rcases Nat.lt_or_ge i (H.objs ++ [o]).length with h' | h'
        · have := h.nid; simp at h'; omega
        · simp only [List.getElem?_eq_none h'] at hi; simp at hi
      rw [List.getElem?_append_left hi'] at hi
      exact (h.obj i o' hi).mono hle (h.nid ▸ hi') (fun b hb => alloc_block _ _ _ (hlt i b (h.nid ▸ hi') hb)) (fun _ _ _ h => h) (fun h0 => by have := h.nid; simp only [GE.new]; rw [if_neg (by omega)]; exact h0)
  · intro i j b hi hj h1 h2
    rcases hρ i b hi h1 with ⟨rfl, rfl⟩ | ⟨hi', h1'⟩ <;> rcases hρ j _ hj h2 with ⟨rfl, e⟩ | ⟨hj', h2'⟩
    · rfl
    · have := hlt j _ hj' h2'; omega
    · have := hlt i _ hi' h1'; omega
    · exact h.inj i j b hi' hj' h1' h2'
  · intro t g sz ht
    obtain ⟨k, e, ce, c, el, h1, h2, h3, h4, h5, h6⟩ := h.tok t g sz ht
    exact ⟨k, e, ce, c, el, h1, (alloc_block _ _ _ (h.lt k (.inr ⟨t, g, _, h.tlt ht, h1, rfl⟩))).trans h2, h3, h4, h5, h6⟩
  · exact h.late
  · intro t g p id b ht hp hid hb
    rcases hρ id b hid hb with ⟨rfl, rfl⟩ | ⟨hid', hb'⟩
    · have := h.lt p.2.1 (.inr ⟨t, g, p, ht, hp, rfl⟩); omega
    · exact h.tsep t g p id b ht hp hid' hb'
  · exact h.tinj
  · exact h.tbase
  · intro b o' hb
    have hb' : E.S b o' := hb
    have := h.set b o' hb'
    rwa [← cell_of_block (w' := (E.new ob).w) (alloc_block _ _ _ (h.Slt _ _ hb'))] at this
  · intro b hb
    have hsz : (E.new ob).w.heap.size = E.w.heap.size + 1 := by show (E.w.heap.push ob).size = _; simp
    rw [hsz]
    by_cases e : b < E.w.heap.size
    · omega
    · rcases hb with ⟨id, hid, hid2⟩ | ⟨t, g, p, ht, hp, hpb⟩
      · rcases hρ id b hid hid2 with ⟨_, rfl⟩ | ⟨h1, h2⟩
        · omega
        · have := hlt id b h1 h2; omega
      · have := h.lt b (.inr ⟨t, g, p, ht, hp, hpb⟩); omega
  · exact Nat.le_trans h.hbase hle.size

/-- A number given ahead gets its memory. -/
def GE.born (E : GE) (id : Nat) (o : Obj) : GE := { E with w := E.w.alloc o, ρ := fun i => if i = id then some E.w.heap.size else E.ρ i }

theorem le_born {E : GE} {id : Nat} (h0 : E.ρ id = none) (o : Obj) (hS : ∀ b o, E.S b o → b < E.w.heap.size) : E.le (E.born id o) where
  nid := Nat.le_refl _
  ρ := fun i b hi hb => by
    have : i ≠ id := fun e => by subst e; rw [h0] at hb; cases hb
    simp [GE.born, this, hb]
  nt := Nat.le_refl _
  τ := fun _ _ _ _ h => h
  S := fun _ _ h => h
  cell := by
    intro b o' hb
    exact cell_of_block (alloc_block _ _ _ (hS _ _ hb))
  base := rfl
  low := rfl
  snew := fun _ _ h => .inl h
  own := by
    intro b hb h
    rcases h with ⟨i, hi, hρ⟩ | ⟨t, g, p, ht, hp, hpb⟩
    · simp only [GE.born] at hi hρ
      by_cases e : i = id
      · simp [e] at hρ; omega
      · simp only [e, if_false] at hρ
        exact .inl ⟨i, hi, hρ⟩
    · exact .inr ⟨t, g, p, ht, hp, hpb⟩
  os := rfl
  tape := rfl
  output := rfl
  size := by show E.w.heap.size ≤ (E.w.heap.push o).size; simp
  block := fun b hb _ => alloc_block _ _ _ hb

theorem HRel.born {H : AH} {E : GE} (h : HRel H E) {id : Nat} (hid0 : H.objs[id]? = some (.dead false)) {ob : Obj} {o : AObj} (ho : ORel (E.born id ob) id o) :
    E.le (E.born id ob) ∧ HRel { H with objs := H.objs.set id o } (E.born id ob) := by
  have hnone : E.ρ id = none := by
    cases h.obj id _ hid0 with
    | unborn h0 => exact h0
  have hle := le_born hnone ob h.Slt
  have hid := h.idlt hid0
  have hlt : ∀ i b, i < E.nid → E.ρ i = some b → b < E.w.heap.size := fun i b hi hb => h.lt b (.inl ⟨i, hi, hb⟩)
  have hρ : ∀ i b, i < E.nid → (E.born id ob).ρ i = some b → (i = id ∧ b = E.w.heap.size) ∨ E.ρ i = some b := by
    intro i b hi hb
    simp only [GE.born] at hb
    by_cases e : i = id
    · simp [e] at hb; exact .inl ⟨e, hb.symm⟩
    · simp only [e, if_false] at hb; exact .inr hb
  refine ⟨hle, ?_⟩
  constructor
  · show E.nid = (H.objs.set id o).length
    simp [h.nid]
  · exact h.nt
  · intro i o' hi
    by_cases e : i = id
    · subst e
      have hl : i < H.objs.length := h.nid ▸ hid
      simp only [List.getElem?_set_self hl, Option.some.injEq] at hi
      subst hi; exact ho
    · simp only [List.getElem?_set_ne (Ne.symm e)] at hi
      exact (h.obj i o' hi).mono hle (h.idlt hi) (fun b hb => alloc_block _ _ _ (hlt i b (h.idlt hi) hb)) (fun _ _ _ h => h) (fun h0 => by simp only [GE.born]; rw [if_neg e]; exact h0)
  · intro i j b hi hj h1 h2
    rcases hρ i b hi h1 with ⟨rfl, rfl⟩ | h1' <;> rcases hρ j _ hj h2 with ⟨rfl, e⟩ | h2'
    · rfl
    · have := hlt j _ hj h2'; omega
    · have := hlt i _ hi h1'; omega
    · exact h.inj i j b hi hj h1' h2'
  · intro t g sz ht
    obtain ⟨k, e, ce, c, el, h1, h2, h3, h4, h5, h6⟩ := h.tok t g sz ht
    exact ⟨k, e, ce, c, el, h1, (alloc_block _ _ _ (h.lt k (.inr ⟨t, g, _, h.tlt ht, h1, rfl⟩))).trans h2, h3, h4, h5, h6⟩
  · exact h.late
  · intro t g p i b ht hp hi hb
    rcases hρ i b hi hb with ⟨rfl, rfl⟩ | hb'
    · have := h.lt p.2.1 (.inr ⟨t, g, p, ht, hp, rfl⟩); omega
    · exact h.tsep t g p i b ht hp hi hb'
  · exact h.tinj
  · exact h.tbase
  · intro b o' hb
    have hb' : E.S b o' := hb
    have := h.set b o' hb'
    rwa [← cell_of_block (w' := (E.born id ob).w) (alloc_block _ _ _ (h.Slt _ _ hb'))] at this
  · intro b hb
    have hsz : (E.born id ob).w.heap.size = E.w.heap.size + 1 := by show (E.w.heap.push ob).size = _; simp
    rw [hsz]
    by_cases e : b < E.w.heap.size
    · omega
    · rcases hb with ⟨i, hi, hi2⟩ | ⟨t, g, p, ht, hp, hpb⟩
      · rcases hρ i b hi hi2 with ⟨_, rfl⟩ | h2
        · omega
        · have := hlt i b hi h2; omega
      · have := h.lt b (.inr ⟨t, g, p, ht, hp, hpb⟩); omega
  · exact Nat.le_trans h.hbase hle.size

/-- Numbers given ahead. -/
def GE.reserved (E : GE) (n : Nat) : GE := { E with nid := E.nid + n, ρ := fun i => if i < E.nid then E.ρ i else none }

theorem reserve_sound {H : AH} {E : GE} (h : HRel H E) (n : Nat) : E.le (E.reserved n) ∧ HRel { H with objs := H.objs ++ List.replicate n (.dead false) } (E.reserved n) := by
  have hρ : ∀ i b, i < E.nid + n → (E.reserved n).ρ i = some b → i < E.nid ∧ E.ρ i = some b := by
    intro i b hi hb
    simp only [GE.reserved] at hb
    split at hb
    · exact ⟨‹_›, hb⟩
    · cases hb
  have hle : E.le (E.reserved n) := by
    refine ⟨⟨Nat.le_add_right _ _, ?_, Nat.le_refl _, fun _ _ _ _ h => h, fun _ _ h => h, fun _ _ _ => rfl, rfl⟩, rfl, fun _ _ h => .inl h, ?_, rfl, rfl, rfl, Nat.le_refl _, fun _ _ _ => rfl⟩
    · intro i b hi hb
      simp only [GE.reserved]
      rw [if_pos hi]; exact hb
    · intro b _ hb
      rcases hb with ⟨i, hi, hi2⟩ | h
      · exact .inl ⟨i, hρ i b hi hi2⟩
      · exact .inr h
  refine ⟨hle, ?_⟩
  constructor
  · show E.nid + n = _
    simp [h.nid]
  · exact h.nt
  · intro i o hi
    rcases Nat.lt_or_ge i H.objs.length with hl | hl
    · rw [List.getElem?_append_left hl] at hi
      exact (h.obj i o hi).mono hle (h.idlt hi) (fun _ _ => rfl) (fun _ _ _ h => h) (fun h0 => by simp only [GE.reserved]; split <;> first | exact h0 | rfl)
    · rw [List.getElem?_append_right hl] at hi
      have := List.mem_of_getElem? hi
      rw [List.mem_replicate] at this
      rw [this.2]
      refine .unborn ?_
      simp only [GE.reserved]
      have := h.nid
      rw [if_neg (by omega)]
  · intro i j b hi hj h1 h2
    exact h.inj i j b (hρ i b hi h1).1 (hρ j b hj h2).1 (hρ i b hi h1).2 (hρ j b hj h2).2
  · exact h.tok
  · exact h.late
  · intro t g p i b ht hp hi hb
    exact h.tsep t g p i b ht hp (hρ i b hi hb).1 (hρ i b hi hb).2
  · exact h.tinj
  · exact h.tbase
  · exact h.set
  · intro b hb
    rcases hb with ⟨i, hi, hi2⟩ | hb
    · exact h.lt b (.inl ⟨i, hρ i b hi hi2⟩)
    · exact h.lt b (.inr hb)
  · exact h.hbase

theorem Fixed.mono {E E' : GE} (hle : E.le E') {p : Nat × Array Value} (h : Fixed E p) : Fixed E' p := by
  obtain ⟨⟨el, fr, h1⟩, h2, o, h3⟩ := h
  have hlt : p.1 < E.w.heap.size := by
    rcases Nat.lt_or_ge p.1 E.w.heap.size with h' | h'
    · exact h'
    · simp [Array.getElem?_eq_none h'] at h1
  exact ⟨⟨el, fr, (hle.block _ hlt h2).trans h1⟩, fun ho => h2 (hle.own _ hlt ho), o, hle.S _ _ h3⟩
theorem Rel.mono {H H' : AH} {E E' : GE} (hle : E.le E') (hr : Rel S H E) (h : HRel H' E') : Rel S H' E' := ⟨h, fun n => (hr.g n).mono hle, fun p hp => (hr.x p hp).mono hle⟩

end Go.Sx

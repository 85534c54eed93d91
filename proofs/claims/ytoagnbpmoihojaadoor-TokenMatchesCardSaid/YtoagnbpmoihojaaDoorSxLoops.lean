/- THE ENGINE, 20b: memory beside the objects; the records of loops over functions. -/
import Derived.Test.YtoagnbpmoihojaaDoorSxSound16
import Derived.LoopNIn
import Derived.Scope
set_option linter.unusedSimpArgs false
set_option linter.unusedVariables false
namespace Go.Sx
variable {S : Sys} {P : Program}

/-- Memory that is neither ours nor settled may turn. -/
theorem HRel.still {H : AH} {E : GE} (h : HRel H E) {w' : World} (hb : ∀ b, E.owned b ∨ (∃ o, E.S b o) → w'.heap[b]? = E.w.heap[b]?) (hs : E.w.heap.size ≤ w'.heap.size) : E.pre (E.at w') ∧ HRel H (E.at w') := by
  have hp : E.pre (E.at w') := ⟨Nat.le_refl _, fun _ _ _ h => h, Nat.le_refl _, fun _ _ _ _ h => h, fun _ _ h => h, fun b o hS => cell_of_block (hb b (.inr ⟨o, hS⟩)), rfl⟩
  refine ⟨hp, ?_⟩
  constructor
  · exact h.nid
  · exact h.nt
  · intro id o hi
    exact (h.obj id o hi).pmono hp (h.idlt hi) (fun b hρ => hb b (.inl (.inl ⟨id, h.idlt hi, hρ⟩))) (fun _ _ _ h => h)
  · exact h.inj
  · intro t g sz ht'
    obtain ⟨k, e, ce, c, el, h1, h2, h3⟩ := h.tok t g sz ht'
    exact ⟨k, e, ce, c, el, h1, (hb k (.inl (.inr ⟨t, g, _, h.tlt ht', h1, rfl⟩))).trans h2, h3⟩
  · exact h.late
  · exact h.tsep
  · exact h.tinj
  · exact h.tbase
  · intro b o hS
    have := h.set b o hS
    show (w'.cell? _).isSome = true
    rw [cell_of_block (hb b (.inr ⟨o, hS⟩))]; exact this
  · intro b hb'
    exact Nat.lt_of_lt_of_le (h.lt b hb') hs
  · exact Nat.le_trans h.hbase hs

theorem Rel.pmono {H H' : AH} {E E' : GE} (hr : Rel S H E) (hp : E.pre E') (h' : HRel H' E') (hx : ∀ p, p ∈ S.fixed → Fixed E' p) : Rel S H' E' := ⟨h', fun n => (hr.g n).pmono hp, hx⟩
theorem Fixed.still {E : GE} {w' : World} (hb : ∀ b, E.owned b ∨ (∃ o, E.S b o) → w'.heap[b]? = E.w.heap[b]?) {p : Nat × Array Value} (h : Fixed E p) : Fixed (E.at w') p := by
  obtain ⟨⟨el, fr, h1⟩, h2, h3⟩ := h
  exact ⟨⟨el, fr, (hb _ (.inr h3)).trans h1⟩, h2, h3⟩

theorem le_alloc {H : AH} {E : GE} (h : HRel H E) (o : Obj) : E.le (E.at (E.w.alloc o)) where
  nid := Nat.le_refl _
  ρ := fun _ _ _ h => h
  nt := Nat.le_refl _
  τ := fun _ _ _ _ h => h
  S := fun _ _ h => h
  cell := fun b o' hS => cell_of_block (alloc_block _ _ _ (h.Slt b o' hS))
  base := rfl
  low := rfl
  snew := fun _ _ h => .inl h
  own := fun _ _ h => h
  os := rfl
  tape := rfl
  output := rfl
  size := by show E.w.heap.size ≤ (E.w.heap.push o).size; simp
  block := fun b hb _ => alloc_block _ _ _ hb

theorem HRel.alloc {H : AH} {E : GE} (h : HRel H E) (o : Obj) : HRel H (E.at (E.w.alloc o)) :=
  (h.still (fun b hb => alloc_block _ _ _ (by rcases hb with hb | ⟨o', hb⟩; exact h.lt b hb; exact h.Slt b o' hb)) (by show E.w.heap.size ≤ (E.w.heap.push o).size; simp)).2

/-- Memory from E0's time on that is not ours may turn. -/
theorem le_still {H : AH} {E0 E : GE} (hr : HRel H E) (h : E0.le E) {b : Nat} (hb : E0.w.heap.size ≤ b) (hS : ∀ o, ¬ E.S b o) {w' : World} (hw : Only b E.w w') : E0.le (E.at w') where
  nid := h.nid
  ρ := h.ρ
  nt := h.nt
  τ := h.τ
  S := h.S
  cell := by
    intro k o hk
    have hk' := h.S k o hk
    have : k ≠ b := fun e => hS o (e ▸ hk')
    exact (cell_of_block (hw.block k this)).trans (h.cell k o hk)
  base := h.base
  low := h.low
  snew := h.snew
  own := h.own
  os := hw.os.trans h.os
  tape := hw.tape.trans h.tape
  output := hw.output.trans h.output
  size := by show E0.w.heap.size ≤ w'.heap.size; rw [hw.size]; exact h.size
  block := by
    intro k hk hn
    have : k ≠ b := by omega
    exact (hw.block k this).trans (h.block k hk hn)

theorem only_put {w : World} {b : Nat} (o : Obj) : Only b w (w.putObj b o) := ⟨rfl, rfl, rfl, World.putObj_size, fun k hk => World.putObj_heap_other hk⟩

theorem no_settled {H : AH} {E : GE} (h : HRel H E) {b : Nat} {o : Obj} (ho : E.w.heap[b]? = some o) (hc : ∀ c el fr, o ≠ .cells c el fr) : ∀ k, ¬ E.S b k := by
  intro k hk
  have := h.set b k hk
  simp only [World.cell?, ho] at this
  cases o <;> simp at this
  exact hc _ _ _ rfl

/-- The state with another floor for marks. -/
def GE.lowed (E : GE) (n : Nat) : GE := { E with low := n }
theorem pre_lowed (E : GE) (n : Nat) : E.pre (E.lowed n) := ⟨Nat.le_refl _, fun _ _ _ h => h, Nat.le_refl _, fun _ _ _ _ h => h, fun _ _ h => h, fun _ _ _ => rfl, rfl⟩
theorem HRel.lowed {H : AH} {E : GE} (h : HRel H E) (n : Nat) : HRel H (E.lowed n) :=
  ⟨h.nid, h.nt, fun id o hi => (h.obj id o hi).pmono (pre_lowed E n) (h.idlt hi) (fun _ _ => rfl) (fun _ _ _ h => h), h.inj, h.tok, h.late, h.tsep, h.tinj, h.tbase, h.set, h.lt, h.hbase⟩
theorem Rel.lowed {H : AH} {E : GE} (h : Rel S H E) (n : Nat) : Rel S H (E.lowed n) := h.pmono (pre_lowed E n) (h.h.lowed n) h.x
theorem le_lowed {E E' : GE} {n : Nat} (h : (E.lowed n).le E') : E.le (E'.lowed E.low) where
  nid := h.nid
  ρ := h.ρ
  nt := h.nt
  τ := h.τ
  S := h.S
  cell := h.cell
  base := h.base
  low := rfl
  snew := h.snew
  own := h.own
  os := h.os
  tape := h.tape
  output := h.output
  size := h.size
  block := h.block

theorem stepR_scope {b : Frame} {a : Act} {k : List Item} {cs : List Frame} {w : World} {c : Code} : step P (lone (b.atR a (.code (.scope c) :: k)) cs w) = .next (lone (b.atR a (.code c :: .inScope c :: k)) cs w) :=
  step_lone_go (by simp [stepG, stepG.exec, Frame.atR])
theorem stepR_inScope {b : Frame} {a : Act} {k : List Item} {cs : List Frame} {w : World} {c : Code} : step P (lone (b.atR a (.inScope c :: k)) cs w) = .next (lone (b.atR a k) cs w) :=
  step_lone_go (by simp [stepG, stepG.exec, Frame.atR])

theorem wpIn_scope_straight {F : Fence} {n : Nat} {Q : Exit → Act → World → Prop} {a : Act} {w : World} {c : Code} (h : c.wpIn F n P (Exit.noGoto Q) a w) : (Code.scope c).wpIn F n P Q a w := by
  intro b k cs hro hb hr
  obtain ⟨e, a₁, w₁, hq, harr⟩ := h b (.inScope c :: k) cs hro hb hr
  have s0 : StepsIn (Machine.fenced P F) P (lone (b.atR a (.code (.scope c) :: k)) cs w) (lone (b.atR a (.code c :: .inScope c :: k)) cs w) := .one (fenced_calm hb hr rfl) stepR_scope
  cases e with
  | normal => exact ⟨.normal, a₁, w₁, hq, StepsIn.trans s0 (StepsIn.trans harr (.one (fenced_calm hb hr rfl) stepR_inScope))⟩
  | exit id =>
    refine ⟨.exit id, a₁, w₁, hq, fun k' hk => StepsIn.trans s0 (harr.1 k' (by simp [exitTo, hk])), fun hro' hk => ?_⟩
    obtain ⟨k₁, h1, h2⟩ := harr.2 hro' (by simp [exitTo, hk])
    exact ⟨k₁, h1, StepsIn.trans s0 h2⟩
  | goto l => exact hq.elim
  | ret => exact ⟨_, a₁, w₁, hq, .of_steps s0 harr⟩
  | panic ch => exact ⟨_, a₁, w₁, hq, .of_steps s0 harr⟩
  | outgrown => exact ⟨_, a₁, w₁, hq, .of_steps s0 harr⟩

end Go.Sx

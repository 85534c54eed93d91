/- Calls told ahead, level 2: their soundness. -/
import Derived.Test.YtedhpikmkoemhaaGreatAgE1
import Derived.Test.YtedhpikmkoemhaaGreatAgR2a
import Derived.Test.YtedhpikmkoemhaaGreatAgR2b
set_option maxRecDepth 100000
set_option linter.unusedSimpArgs false
set_option linter.unusedVariables false
namespace Go.Proofs.YtedhpikmkoemhaaGreat
open Go.Sx Go.RowKit
theorem g130_ok {ts : List AV} {v : AV} (h : g130 ts = some v) : Told 130 ts v := by
  unfold g130 at h
  split at h
  · rename_i he
    obtain rfl := Option.some.inj h
    rw [eqAL_eq he]
    exact told_of ext1 qp130_0_run
  split at h
  · rename_i he
    obtain rfl := Option.some.inj h
    rw [eqAL_eq he]
    exact told_of ext1 qp130_1_run
  split at h
  · rename_i he
    obtain rfl := Option.some.inj h
    rw [eqAL_eq he]
    exact told_of ext1 qp130_2_run
  split at h
  · rename_i he
    obtain rfl := Option.some.inj h
    rw [eqAL_eq he]
    exact told_of ext1 qp130_3_run
  split at h
  · rename_i he
    obtain rfl := Option.some.inj h
    rw [eqAL_eq he]
    exact told_of ext1 qp130_4_run
  cases h
theorem ext2 : ExtOK (bS e2 hN) Tryz.prog := by
  refine ⟨?_, fun f g h => by cases h⟩
  intro f g h
  replace h : e2 f = some g := h
  unfold e2 at h
  split at h
  · rename_i hf
    obtain rfl := Nat.eq_of_beq_eq_true hf
    obtain rfl := Option.some.inj h
    exact ⟨⟨_, Tryz.func130, rfl, of_decide_eq_true (by kernel_rfl)⟩, fun ts v hv E xs hr hx => g130_ok hv e2 hN E xs hr hx⟩
  obtain ⟨h1, h2⟩ := ext1.val f g h
  exact ⟨h1, fun ts v hv E xs hr hx => h2 ts v hv E xs ⟨hr.h, hr.g, hr.x⟩ hx⟩
end Go.Proofs.YtedhpikmkoemhaaGreat

/- Calls told ahead, level 4: their soundness. -/
import Derived.Test.YtedhpikmkoemhaaGreatAgE3
import Derived.Test.YtedhpikmkoemhaaGreatAgR4a
import Derived.Test.YtedhpikmkoemhaaGreatAgR4b
set_option maxRecDepth 100000
set_option linter.unusedSimpArgs false
set_option linter.unusedVariables false
namespace Go.Proofs.YtedhpikmkoemhaaGreat
open Go.Sx Go.RowKit
theorem g61_ok {ts : List AV} {v : AV} (h : g61 ts = some v) : Told 61 ts v := by
  unfold g61 at h
  split at h
  · rename_i he
    obtain rfl := Option.some.inj h
    rw [eqAL_eq he]
    exact told_of ext3 qp61_0_run
  split at h
  · rename_i he
    obtain rfl := Option.some.inj h
    rw [eqAL_eq he]
    exact told_of ext3 qp61_1_run
  split at h
  · rename_i he
    obtain rfl := Option.some.inj h
    rw [eqAL_eq he]
    exact told_of ext3 qp61_2_run
  split at h
  · rename_i he
    obtain rfl := Option.some.inj h
    rw [eqAL_eq he]
    exact told_of ext3 qp61_3_run
  cases h
theorem ext4 : ExtOK (bS e4 hN) Tryz.prog := by
  refine ⟨?_, fun f g h => by cases h⟩
  intro f g h
  replace h : e4 f = some g := h
  unfold e4 at h
  split at h
  · rename_i hf
    obtain rfl := Nat.eq_of_beq_eq_true hf
    obtain rfl := Option.some.inj h
    exact ⟨⟨_, Tryz.func61, rfl, of_decide_eq_true (by kernel_rfl)⟩, fun ts v hv E xs hr hx => g61_ok hv e4 hN E xs hr hx⟩
  obtain ⟨h1, h2⟩ := ext3.val f g h
  exact ⟨h1, fun ts v hv E xs hr hx => h2 ts v hv E xs ⟨hr.h, hr.g, hr.x⟩ hx⟩
end Go.Proofs.YtedhpikmkoemhaaGreat

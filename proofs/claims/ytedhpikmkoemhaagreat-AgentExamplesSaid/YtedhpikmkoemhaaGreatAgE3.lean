/- Calls told ahead, level 3: their soundness. -/
import Derived.Test.YtedhpikmkoemhaaGreatAgE2
import Derived.Test.YtedhpikmkoemhaaGreatAgR3a
import Derived.Test.YtedhpikmkoemhaaGreatAgR3b
set_option maxRecDepth 100000
set_option linter.unusedSimpArgs false
set_option linter.unusedVariables false
namespace Go.Proofs.YtedhpikmkoemhaaGreat
open Go.Sx Go.RowKit
theorem g122_ok {ts : List AV} {v : AV} (h : g122 ts = some v) : Told 122 ts v := by
  unfold g122 at h
  split at h
  · rename_i he
    obtain rfl := Option.some.inj h
    rw [eqAL_eq he]
    exact told_of ext2 qp122_0_run
  split at h
  · rename_i he
    obtain rfl := Option.some.inj h
    rw [eqAL_eq he]
    exact told_of ext2 qp122_1_run
  split at h
  · rename_i he
    obtain rfl := Option.some.inj h
    rw [eqAL_eq he]
    exact told_of ext2 qp122_2_run
  split at h
  · rename_i he
    obtain rfl := Option.some.inj h
    rw [eqAL_eq he]
    exact told_of ext2 qp122_3_run
  cases h
theorem ext3 : ExtOK (bS e3 hN) Tryz.prog := by
  refine ⟨?_, fun f g h => by cases h⟩
  intro f g h
  replace h : e3 f = some g := h
  unfold e3 at h
  split at h
  · rename_i hf
    obtain rfl := Nat.eq_of_beq_eq_true hf
    obtain rfl := Option.some.inj h
    exact ⟨⟨_, Tryz.func122, rfl, of_decide_eq_true (by kernel_rfl)⟩, fun ts v hv E xs hr hx => g122_ok hv e3 hN E xs hr hx⟩
  obtain ⟨h1, h2⟩ := ext2.val f g h
  exact ⟨h1, fun ts v hv E xs hr hx => h2 ts v hv E xs ⟨hr.h, hr.g, hr.x⟩ hx⟩
end Go.Proofs.YtedhpikmkoemhaaGreat

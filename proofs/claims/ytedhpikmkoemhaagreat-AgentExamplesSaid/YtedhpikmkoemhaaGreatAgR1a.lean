/- Calls told ahead, level 1: the runs. -/
import Derived.Test.YtedhpikmkoemhaaGreatAgLv
set_option maxRecDepth 100000
set_option linter.unusedSimpArgs false
set_option linter.unusedVariables false
namespace Go.Proofs.YtedhpikmkoemhaaGreat
open Go.Sx Go.RowKit
theorem qp44_0_run : tellsV (callE (bS extA hN) 600 44 qp44_0a ⟨[], []⟩) qp44_0v = true := by kernel_rfl
theorem qp44_1_run : tellsV (callE (bS extA hN) 600 44 qp44_1a ⟨[], []⟩) qp44_1v = true := by kernel_rfl
theorem qp206_0_run : tellsV (callE (bS extA hN) 600 206 qp206_0a ⟨[], []⟩) qp206_0v = true := by kernel_rfl
theorem qp363_0_run : tellsV (callE (bS extA hN) 600 363 qp363_0a ⟨[], []⟩) qp363_0v = true := by kernel_rfl
theorem qp363_1_run : tellsV (callE (bS extA hN) 600 363 qp363_1a ⟨[], []⟩) qp363_1v = true := by kernel_rfl
theorem qp363_2_run : tellsV (callE (bS extA hN) 600 363 qp363_2a ⟨[], []⟩) qp363_2v = true := by kernel_rfl
theorem qp363_3_run : tellsV (callE (bS extA hN) 600 363 qp363_3a ⟨[], []⟩) qp363_3v = true := by kernel_rfl
theorem qp363_4_run : tellsV (callE (bS extA hN) 600 363 qp363_4a ⟨[], []⟩) qp363_4v = true := by kernel_rfl
theorem qp342_0_run : tellsV (callE (bS extA hN) 600 342 qp342_0a ⟨[], []⟩) qp342_0v = true := by kernel_rfl
end Go.Proofs.YtedhpikmkoemhaaGreat

/- Calls told ahead, level 1: the runs. -/
import Derived.Test.YtedhpikmkoemhaaGreatAgLv
set_option maxRecDepth 100000
set_option linter.unusedSimpArgs false
set_option linter.unusedVariables false
namespace Go.Proofs.YtedhpikmkoemhaaGreat
open Go.Sx Go.RowKit
theorem qp134_2_run : tellsV (callE (bS extA hN) 600 134 qp134_2a ⟨[], []⟩) qp134_2v = true := by kernel_rfl
theorem qp134_3_run : tellsV (callE (bS extA hN) 600 134 qp134_3a ⟨[], []⟩) qp134_3v = true := by kernel_rfl
theorem qp199_0_run : tellsV (callE (bS extA hN) 600 199 qp199_0a ⟨[], []⟩) qp199_0v = true := by kernel_rfl
theorem qp199_1_run : tellsV (callE (bS extA hN) 600 199 qp199_1a ⟨[], []⟩) qp199_1v = true := by kernel_rfl
theorem qp199_2_run : tellsV (callE (bS extA hN) 600 199 qp199_2a ⟨[], []⟩) qp199_2v = true := by kernel_rfl
theorem qp199_3_run : tellsV (callE (bS extA hN) 600 199 qp199_3a ⟨[], []⟩) qp199_3v = true := by kernel_rfl
end Go.Proofs.YtedhpikmkoemhaaGreat

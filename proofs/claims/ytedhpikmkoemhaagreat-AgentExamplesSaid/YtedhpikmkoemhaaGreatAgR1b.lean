/- Calls told ahead, level 1: the runs. -/
import Derived.Test.YtedhpikmkoemhaaGreatAgLv
set_option maxRecDepth 100000
set_option linter.unusedSimpArgs false
set_option linter.unusedVariables false
namespace Go.Proofs.YtedhpikmkoemhaaGreat
open Go.Sx Go.RowKit
theorem qp342_1_run : tellsV (callE (bS extA hN) 600 342 qp342_1a ⟨[], []⟩) qp342_1v = true := by kernel_rfl
theorem qp342_2_run : tellsV (callE (bS extA hN) 600 342 qp342_2a ⟨[], []⟩) qp342_2v = true := by kernel_rfl
theorem qp342_3_run : tellsV (callE (bS extA hN) 600 342 qp342_3a ⟨[], []⟩) qp342_3v = true := by kernel_rfl
theorem qp342_4_run : tellsV (callE (bS extA hN) 600 342 qp342_4a ⟨[], []⟩) qp342_4v = true := by kernel_rfl
theorem qp131_0_run : tellsV (callE (bS extA hN) 600 131 qp131_0a ⟨[], []⟩) qp131_0v = true := by kernel_rfl
theorem qp131_1_run : tellsV (callE (bS extA hN) 600 131 qp131_1a ⟨[], []⟩) qp131_1v = true := by kernel_rfl
theorem qp131_2_run : tellsV (callE (bS extA hN) 600 131 qp131_2a ⟨[], []⟩) qp131_2v = true := by kernel_rfl
theorem qp134_0_run : tellsV (callE (bS extA hN) 600 134 qp134_0a ⟨[], []⟩) qp134_0v = true := by kernel_rfl
theorem qp134_1_run : tellsV (callE (bS extA hN) 600 134 qp134_1a ⟨[], []⟩) qp134_1v = true := by kernel_rfl
end Go.Proofs.YtedhpikmkoemhaaGreat

/- Calls told ahead, level 2: the runs. -/
import Derived.Test.YtedhpikmkoemhaaGreatAgLv
set_option maxRecDepth 100000
set_option linter.unusedSimpArgs false
set_option linter.unusedVariables false
namespace Go.Proofs.YtedhpikmkoemhaaGreat
open Go.Sx Go.RowKit
theorem qp130_0_run : tellsV (callE (bS e1 hN) 600 130 qp130_0a ⟨[], []⟩) qp130_0v = true := by kernel_rfl
theorem qp130_1_run : tellsV (callE (bS e1 hN) 600 130 qp130_1a ⟨[], []⟩) qp130_1v = true := by kernel_rfl
theorem qp130_2_run : tellsV (callE (bS e1 hN) 600 130 qp130_2a ⟨[], []⟩) qp130_2v = true := by kernel_rfl
end Go.Proofs.YtedhpikmkoemhaaGreat

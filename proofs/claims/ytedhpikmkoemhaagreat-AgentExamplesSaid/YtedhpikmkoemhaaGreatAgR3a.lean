/- Calls told ahead, level 3: the runs. -/
import Derived.Test.YtedhpikmkoemhaaGreatAgLv
set_option maxRecDepth 100000
set_option linter.unusedSimpArgs false
set_option linter.unusedVariables false
namespace Go.Proofs.YtedhpikmkoemhaaGreat
open Go.Sx Go.RowKit
theorem qp122_0_run : tellsV (callE (bS e2 hN) 600 122 qp122_0a ⟨[], []⟩) qp122_0v = true := by kernel_rfl
theorem qp122_1_run : tellsV (callE (bS e2 hN) 600 122 qp122_1a ⟨[], []⟩) qp122_1v = true := by kernel_rfl
theorem qp122_2_run : tellsV (callE (bS e2 hN) 600 122 qp122_2a ⟨[], []⟩) qp122_2v = true := by kernel_rfl
end Go.Proofs.YtedhpikmkoemhaaGreat

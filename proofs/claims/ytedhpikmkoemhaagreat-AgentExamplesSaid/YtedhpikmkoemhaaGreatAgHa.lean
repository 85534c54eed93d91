/- Calls with objects told ahead: the runs. -/
import Derived.Test.YtedhpikmkoemhaaGreatAgLv
set_option maxRecDepth 100000
set_option linter.unusedSimpArgs false
set_option linter.unusedVariables false
namespace Go.Proofs.YtedhpikmkoemhaaGreat
open Go.Sx Go.RowKit
theorem qc8_0_run : tellsH (callE (bS e4 hN) 600 8 qc8_0a qh0) qc8_0v qh0 = true := by kernel_rfl
theorem qc8_1_run : tellsH (callE (bS e4 hN) 600 8 qc8_1a qh0) qc8_1v qh0 = true := by kernel_rfl
theorem qc8_2_run : tellsH (callE (bS e4 hN) 600 8 qc8_2a qh0) qc8_2v qh1 = true := by kernel_rfl
end Go.Proofs.YtedhpikmkoemhaaGreat

/- Calls with objects told ahead: the runs. -/
import Derived.Test.YtedhpikmkoemhaaGreatAgLv
set_option maxRecDepth 100000
set_option linter.unusedSimpArgs false
set_option linter.unusedVariables false
namespace Go.Proofs.YtedhpikmkoemhaaGreat
open Go.Sx Go.RowKit
theorem qc11_0_run : tellsH (callE (bS e4 hN) 600 11 qc11_0a qh6) qc11_0v qh9 = true := by kernel_rfl
theorem qc11_1_run : tellsH (callE (bS e4 hN) 600 11 qc11_1a qh10) qc11_1v qh11 = true := by kernel_rfl
theorem qc11_2_run : tellsH (callE (bS e4 hN) 600 11 qc11_2a qh12) qc11_2v qh7 = true := by kernel_rfl
end Go.Proofs.YtedhpikmkoemhaaGreat

/- Calls with objects told ahead: the runs. -/
import Derived.Test.YtedhpikmkoemhaaGreatAgLv
set_option maxRecDepth 100000
set_option linter.unusedSimpArgs false
set_option linter.unusedVariables false
namespace Go.Proofs.YtedhpikmkoemhaaGreat
open Go.Sx Go.RowKit
theorem qc11_6_run : tellsH (callE (bS e4 hN) 600 11 qc11_6a qh14) qc11_6v qh15 = true := by kernel_rfl
theorem qc17_0_run : tellsH (callE (bS e4 hN) 600 17 qc17_0a qh16) qc17_0v qh16 = true := by kernel_rfl
theorem qc17_1_run : tellsH (callE (bS e4 hN) 600 17 qc17_1a qh16) qc17_1v qh10 = true := by kernel_rfl
end Go.Proofs.YtedhpikmkoemhaaGreat

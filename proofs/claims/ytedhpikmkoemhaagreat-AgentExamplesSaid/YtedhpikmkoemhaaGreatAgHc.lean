/- Calls with objects told ahead: the runs. -/
import Derived.Test.YtedhpikmkoemhaaGreatAgLv
set_option maxRecDepth 100000
set_option linter.unusedSimpArgs false
set_option linter.unusedVariables false
namespace Go.Proofs.YtedhpikmkoemhaaGreat
open Go.Sx Go.RowKit
theorem qc10_1_run : tellsH (callE (bS e4 hN) 600 10 qc10_1a qh6) qc10_1v qh6 = true := by kernel_rfl
theorem qc10_2_run : tellsH (callE (bS e4 hN) 600 10 qc10_2a qh6) qc10_2v qh6 = true := by kernel_rfl
theorem qc10_3_run : tellsH (callE (bS e4 hN) 600 10 qc10_3a qh6) qc10_3v qh6 = true := by kernel_rfl
end Go.Proofs.YtedhpikmkoemhaaGreat

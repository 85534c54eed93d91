/- Calls with objects told ahead: the runs. -/
import Derived.Test.YtedhpikmkoemhaaGreatAgLv
set_option maxRecDepth 100000
set_option linter.unusedSimpArgs false
set_option linter.unusedVariables false
namespace Go.Proofs.YtedhpikmkoemhaaGreat
open Go.Sx Go.RowKit
theorem qc8_3_run : tellsH (callE (bS e4 hN) 600 8 qc8_3a qh2) qc8_3v qh3 = true := by kernel_rfl
theorem qc8_4_run : tellsH (callE (bS e4 hN) 600 8 qc8_4a qh4) qc8_4v qh5 = true := by kernel_rfl
theorem qc10_0_run : tellsH (callE (bS e4 hN) 600 10 qc10_0a qh1) qc10_0v qh6 = true := by kernel_rfl
end Go.Proofs.YtedhpikmkoemhaaGreat

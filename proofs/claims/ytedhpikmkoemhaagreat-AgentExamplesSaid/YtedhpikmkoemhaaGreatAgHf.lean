/- Calls with objects told ahead: the runs. -/
import Derived.Test.YtedhpikmkoemhaaGreatAgLv
set_option maxRecDepth 100000
set_option linter.unusedSimpArgs false
set_option linter.unusedVariables false
namespace Go.Proofs.YtedhpikmkoemhaaGreat
open Go.Sx Go.RowKit
theorem qc11_3_run : tellsH (callE (bS e4 hN) 600 11 qc11_3a qh7) qc11_3v qh7 = true := by kernel_rfl
theorem qc11_4_run : tellsH (callE (bS e4 hN) 600 11 qc11_4a qh3) qc11_4v qh3 = true := by kernel_rfl
theorem qc11_5_run : tellsH (callE (bS e4 hN) 600 11 qc11_5a qh8) qc11_5v qh13 = true := by kernel_rfl
end Go.Proofs.YtedhpikmkoemhaaGreat

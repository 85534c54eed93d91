/- Calls with objects told ahead: the runs. -/
import Derived.Test.YtedhpikmkoemhaaGreatAgLv
set_option maxRecDepth 100000
set_option linter.unusedSimpArgs false
set_option linter.unusedVariables false
namespace Go.Proofs.YtedhpikmkoemhaaGreat
open Go.Sx Go.RowKit
theorem qc10_4_run : tellsH (callE (bS e4 hN) 600 10 qc10_4a qh7) qc10_4v qh7 = true := by kernel_rfl
theorem qc10_5_run : tellsH (callE (bS e4 hN) 600 10 qc10_5a qh3) qc10_5v qh3 = true := by kernel_rfl
theorem qc10_6_run : tellsH (callE (bS e4 hN) 600 10 qc10_6a qh5) qc10_6v qh8 = true := by kernel_rfl
end Go.Proofs.YtedhpikmkoemhaaGreat

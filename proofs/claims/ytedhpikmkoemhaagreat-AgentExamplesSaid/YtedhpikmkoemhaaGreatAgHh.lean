/- Calls with objects told ahead: the runs. -/
import Derived.Test.YtedhpikmkoemhaaGreatAgLv
set_option maxRecDepth 100000
set_option linter.unusedSimpArgs false
set_option linter.unusedVariables false
namespace Go.Proofs.YtedhpikmkoemhaaGreat
open Go.Sx Go.RowKit
theorem qc17_2_run : tellsH (callE (bS e4 hN) 600 17 qc17_2a qh3) qc17_2v qh3 = true := by kernel_rfl
theorem qc17_3_run : tellsH (callE (bS e4 hN) 600 17 qc17_3a qh13) qc17_3v qh14 = true := by kernel_rfl
end Go.Proofs.YtedhpikmkoemhaaGreat

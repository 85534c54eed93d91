/- Calls told ahead, level 4: the runs. -/
import Derived.Test.YtedhpikmkoemhaaGreatAgLv
set_option maxRecDepth 100000
set_option linter.unusedSimpArgs false
set_option linter.unusedVariables false
namespace Go.Proofs.YtedhpikmkoemhaaGreat
open Go.Sx Go.RowKit
theorem qp61_3_run : tellsV (callE (bS e3 hN) 600 61 qp61_3a ⟨[], []⟩) qp61_3v = true := by kernel_rfl
end Go.Proofs.YtedhpikmkoemhaaGreat

/- Calls told ahead, level 3: the runs. -/
import Derived.Test.YtedhpikmkoemhaaGreatAgLv
set_option maxRecDepth 100000
set_option linter.unusedSimpArgs false
set_option linter.unusedVariables false
namespace Go.Proofs.YtedhpikmkoemhaaGreat
open Go.Sx Go.RowKit
theorem qp122_3_run : tellsV (callE (bS e2 hN) 600 122 qp122_3a ⟨[], []⟩) qp122_3v = true := by kernel_rfl
end Go.Proofs.YtedhpikmkoemhaaGreat

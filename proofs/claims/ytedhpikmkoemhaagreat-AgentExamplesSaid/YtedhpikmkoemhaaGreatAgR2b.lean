/- Calls told ahead, level 2: the runs. -/
import Derived.Test.YtedhpikmkoemhaaGreatAgLv
set_option maxRecDepth 100000
set_option linter.unusedSimpArgs false
set_option linter.unusedVariables false
namespace Go.Proofs.YtedhpikmkoemhaaGreat
open Go.Sx Go.RowKit
theorem qp130_3_run : tellsV (callE (bS e1 hN) 600 130 qp130_3a ⟨[], []⟩) qp130_3v = true := by kernel_rfl
theorem qp130_4_run : tellsV (callE (bS e1 hN) 600 130 qp130_4a ⟨[], []⟩) qp130_4v = true := by kernel_rfl
end Go.Proofs.YtedhpikmkoemhaaGreat

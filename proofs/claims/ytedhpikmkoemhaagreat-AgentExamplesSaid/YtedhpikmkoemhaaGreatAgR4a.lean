/- Calls told ahead, level 4: the runs. -/
import Derived.Test.YtedhpikmkoemhaaGreatAgLv
set_option maxRecDepth 100000
set_option linter.unusedSimpArgs false
set_option linter.unusedVariables false
namespace Go.Proofs.YtedhpikmkoemhaaGreat
open Go.Sx Go.RowKit
theorem qp61_0_run : tellsV (callE (bS e3 hN) 600 61 qp61_0a ⟨[], []⟩) qp61_0v = true := by kernel_rfl
theorem qp61_1_run : tellsV (callE (bS e3 hN) 600 61 qp61_1a ⟨[], []⟩) qp61_1v = true := by kernel_rfl
theorem qp61_2_run : tellsV (callE (bS e3 hN) 600 61 qp61_2a ⟨[], []⟩) qp61_2v = true := by kernel_rfl
end Go.Proofs.YtedhpikmkoemhaaGreat

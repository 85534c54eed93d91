/- AgentExamples: the run. -/
import Derived.Test.YtedhpikmkoemhaaGreatAgLv
set_option maxRecDepth 100000
set_option linter.unusedSimpArgs false
set_option linter.unusedVariables false
namespace Go.Proofs.YtedhpikmkoemhaaGreat
open Go.Sx Go.RowKit
theorem agentExamples_run : tellsTrue (callE (bS e4 hX) 600 3 [] ⟨[], []⟩) = true := by kernel_rfl
end Go.Proofs.YtedhpikmkoemhaaGreat

/- AgentExamples: the row's closed facts, piece A. -/
import Derived.Test.YtedhpikmkoemhaaGreatRows
import Derived.ProofKit
import Derived.JoinedOf
set_option maxRecDepth 100000
namespace Go.Proofs.YtedhpikmkoemhaaGreat
open Go
theorem Tryz.facts3_laid : laidOutB Tryz.checked.prog = true := by kernel_rfl
end Go.Proofs.YtedhpikmkoemhaaGreat

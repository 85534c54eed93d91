/- AgentExamples: the row's closed facts, piece B. -/
import Derived.Test.YtedhpikmkoemhaaGreatRows
import Derived.ProofKit
import Derived.JoinedOf
set_option maxRecDepth 100000
namespace Go.Proofs.YtedhpikmkoemhaaGreat
open Go
theorem Tryz.facts3_unf : (Rows.agentExamplesRow.unfollowed == Tryz.checked.prog.unfollowed 3) = true := by kernel_rfl
end Go.Proofs.YtedhpikmkoemhaaGreat

/- AgentExamples: the row's closed facts, piece F. -/
import Derived.Test.YtedhpikmkoemhaaGreatRows
import Derived.ProofKit
import Derived.JoinedOf
set_option maxRecDepth 100000
namespace Go.Proofs.YtedhpikmkoemhaaGreat
open Go
theorem Tryz.facts3_rec : (Rows.agentExamplesRow.recurses == Tryz.checked.prog.recurses 3) = true := by kernel_rfl
end Go.Proofs.YtedhpikmkoemhaaGreat

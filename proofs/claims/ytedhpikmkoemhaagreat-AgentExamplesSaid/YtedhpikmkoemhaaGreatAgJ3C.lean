/- AgentExamples: the row's closed facts, piece C. -/
import Derived.Test.YtedhpikmkoemhaaGreatRows
import Derived.ProofKit
import Derived.JoinedOf
set_option maxRecDepth 100000
namespace Go.Proofs.YtedhpikmkoemhaaGreat
open Go
theorem Tryz.facts3_inp : (Rows.agentExamplesRow.inPlace == Tryz.checked.prog.inPlace 3) = true := by kernel_rfl
end Go.Proofs.YtedhpikmkoemhaaGreat

/- AgentExamples: the row's closed facts, piece G. -/
import Derived.Test.YtedhpikmkoemhaaGreatRows
import Derived.ProofKit
import Derived.JoinedOf
set_option maxRecDepth 100000
namespace Go.Proofs.YtedhpikmkoemhaaGreat
open Go
theorem Tryz.facts3_heard : Tryz.checked.prog.stopsHeard = true := by kernel_rfl
theorem Tryz.facts3_enter : Tryz.checked.prog.mayEnter = true := by kernel_rfl
theorem Tryz.facts3_lift : (Rows.agentExamplesRow.lifted == Tryz.checked.prog.liftsFinal) = true := by kernel_rfl
theorem Tryz.facts3_make : (Tryz.checked.prog.make == some Rows.agentExamplesRow.make) = true := by kernel_rfl
end Go.Proofs.YtedhpikmkoemhaaGreat

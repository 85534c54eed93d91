/- AgentExamples: the row's closed facts, piece joined. -/
import Derived.Test.YtedhpikmkoemhaaGreatRows
import Derived.ProofKit
import Derived.JoinedOf
import Derived.Test.YtedhpikmkoemhaaGreatAgJ3A
import Derived.Test.YtedhpikmkoemhaaGreatAgJ3B
import Derived.Test.YtedhpikmkoemhaaGreatAgJ3C
import Derived.Test.YtedhpikmkoemhaaGreatAgJ3D
import Derived.Test.YtedhpikmkoemhaaGreatAgJ3F
import Derived.Test.YtedhpikmkoemhaaGreatAgJ3G
set_option maxRecDepth 100000
namespace Go.Proofs.YtedhpikmkoemhaaGreat
open Go
theorem andT {a b : Bool} (h : a = true) (k : b = true) : (a && b) = true := by rw [h, k]; rfl
theorem Tryz.joined3 : joinedFacts Tryz.checked.prog 3 Tryz.f3 Rows.agentExamplesSpec Rows.agentExamplesRow = true := by
  unfold joinedFacts
  exact (andT (andT (andT (andT (andT (andT (andT (andT (andT (andT (andT (andT (andT (andT (andT (andT (andT (andT (andT (andT (andT (andT (andT (andT (andT (andT (andT (andT (andT (andT (andT (by kernel_rfl) Tryz.facts3_laid) (by kernel_rfl)) (by kernel_rfl)) (by kernel_rfl)) (by kernel_rfl)) (by kernel_rfl)) (by kernel_rfl)) (by kernel_rfl)) Tryz.facts3_inp) Tryz.facts3_unf) Tryz.facts3_rec) Tryz.facts3_nam) (by kernel_rfl)) (by kernel_rfl)) (by kernel_rfl)) (by kernel_rfl)) (by kernel_rfl)) (by kernel_rfl)) (by kernel_rfl)) (by kernel_rfl)) (by kernel_rfl)) (by kernel_rfl)) (by kernel_rfl)) Tryz.facts3_heard) Tryz.facts3_enter) Tryz.facts3_lift) Tryz.facts3_make) (by kernel_rfl)) (by kernel_rfl)) (by kernel_rfl)) (by kernel_rfl))
end Go.Proofs.YtedhpikmkoemhaaGreat

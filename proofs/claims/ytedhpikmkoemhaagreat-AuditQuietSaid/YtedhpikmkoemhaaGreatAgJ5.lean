/- AuditQuiet: the row's closed facts, piece joined. -/
import Derived.Test.YtedhpikmkoemhaaGreatRows
import Derived.ProofKit
import Derived.JoinedOf
import Derived.Test.YtedhpikmkoemhaaGreatAgJ5A
import Derived.Test.YtedhpikmkoemhaaGreatAgJ5B
import Derived.Test.YtedhpikmkoemhaaGreatAgJ5C
import Derived.Test.YtedhpikmkoemhaaGreatAgJ5D
import Derived.Test.YtedhpikmkoemhaaGreatAgJ5F
import Derived.Test.YtedhpikmkoemhaaGreatAgJ5G
set_option maxRecDepth 100000
namespace Go.Proofs.YtedhpikmkoemhaaGreat
open Go
theorem andT {a b : Bool} (h : a = true) (k : b = true) : (a && b) = true := by rw [h, k]; rfl
theorem Tryz.joined5 : joinedFacts Tryz.checked.prog 5 Tryz.f5 Rows.auditQuietSpec Rows.auditQuietRow = true := by
  unfold joinedFacts
  exact (andT (andT (andT (andT (andT (andT (andT (andT (andT (andT (andT (andT (andT (andT (andT (andT (andT (andT (andT (andT (andT (andT (andT (andT (andT (andT (andT (andT (andT (andT (andT (by kernel_rfl) Tryz.facts5_laid) (by kernel_rfl)) (by kernel_rfl)) (by kernel_rfl)) (by kernel_rfl)) (by kernel_rfl)) (by kernel_rfl)) (by kernel_rfl)) Tryz.facts5_inp) Tryz.facts5_unf) Tryz.facts5_rec) Tryz.facts5_nam) (by kernel_rfl)) (by kernel_rfl)) (by kernel_rfl)) (by kernel_rfl)) (by kernel_rfl)) (by kernel_rfl)) (by kernel_rfl)) (by kernel_rfl)) (by kernel_rfl)) (by kernel_rfl)) (by kernel_rfl)) Tryz.facts5_heard) Tryz.facts5_enter) Tryz.facts5_lift) Tryz.facts5_make) (by kernel_rfl)) (by kernel_rfl)) (by kernel_rfl)) (by kernel_rfl))
end Go.Proofs.YtedhpikmkoemhaaGreat

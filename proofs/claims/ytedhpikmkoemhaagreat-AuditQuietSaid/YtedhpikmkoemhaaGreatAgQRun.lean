/- AuditQuiet: the run. -/
import Derived.Test.YtedhpikmkoemhaaGreatAgSys
set_option maxRecDepth 100000
namespace Go.Proofs.YtedhpikmkoemhaaGreat
open Go.Sx
theorem auditQuiet_run : tellsTrue (callE Tryz.aS 60 5 [] ⟨[], []⟩) = true := by kernel_rfl

end Go.Proofs.YtedhpikmkoemhaaGreat

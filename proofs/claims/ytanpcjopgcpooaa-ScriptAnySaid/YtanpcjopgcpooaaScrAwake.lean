/- The chapter's examples: run by the kernel. -/
import Derived.Test.YtanpcjopgcpooaaScrSys
set_option maxRecDepth 100000
namespace Go.Proofs.Ytanpcjopgcpooaa
open Go.Sx
theorem awake_run : tellsTrue (callE (Scr.S 100000) 100 11 [] ⟨[], []⟩) = true := by kernel_rfl
end Go.Proofs.Ytanpcjopgcpooaa

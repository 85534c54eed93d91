/- The reference's numbers put onto a text. -/
import Derived.Test.YtanpcjopgcpooaaScrAns
set_option maxRecDepth 100000
set_option linter.unusedSimpArgs false
set_option linter.unusedVariables false
namespace Go.Proofs.Ytanpcjopgcpooaa
open Go.Sx
end Go.Proofs.Ytanpcjopgcpooaa

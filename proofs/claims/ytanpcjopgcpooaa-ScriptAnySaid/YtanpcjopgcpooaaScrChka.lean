/- The checks of what is read. -/
import Derived.Test.YtanpcjopgcpooaaScrLevb
set_option maxRecDepth 100000
set_option linter.unusedSimpArgs false
set_option linter.unusedVariables false
namespace Go.Proofs.Ytanpcjopgcpooaa
open Go.Sx
theorem chk149_01 (e d cpu mem disk : Int) (a0 : Bool) (l0 w0 b0 m0 p0 : Int) : runI (TS h3) (cV 12 10) 12 Try.f149 [.agg [.int .i64 d, .int .i64 cpu, .int .i64 mem, .int .i64 disk, .nils, .inl false .unk 6 [.agg [.bool a0, .int .i64 l0, .int .i64 w0, .int .i64 b0, .int .i64 m0, .int .i64 p0]]]] ⟨[], []⟩ ansR = br (decide (d < (0 : Int))) (fun _ => some (.int .i64 3)) (fun _ => br (decide (d > (2147483648 : Int))) (fun _ => some (.int .i64 3)) (fun _ => br (decide (cpu < (0 : Int))) (fun _ => some (.int .i64 3)) (fun _ => br (decide (cpu > (1099511627776 : Int))) (fun _ => some (.int .i64 3)) (fun _ => br (decide (mem < (0 : Int))) (fun _ => some (.int .i64 3)) (fun _ => br (decide (mem > (1099511627776 : Int))) (fun _ => some (.int .i64 3)) (fun _ => br (decide (disk < (0 : Int))) (fun _ => some (.int .i64 3)) (fun _ => br (decide (disk > (1099511627776 : Int))) (fun _ => some (.int .i64 3)) (fun _ => br (decide (l0 < (1 : Int))) (fun _ => some (.int .i64 3)) (fun _ => br (decide (l0 > (8 : Int))) (fun _ => some (.int .i64 3)) (fun _ => br (decide (w0 < (1 : Int))) (fun _ => some (.int .i64 3)) (fun _ => br (decide (w0 > (1099511627776 : Int))) (fun _ => some (.int .i64 3)) (fun _ => br (decide (m0 < (1 : Int))) (fun _ => some (.int .i64 3)) (fun _ => br (decide (m0 > (1099511627776 : Int))) (fun _ => some (.int .i64 3)) (fun _ => br (decide (b0 < (1 : Int))) (fun _ => some (.int .i64 3)) (fun _ => br (decide (b0 > m0)) (fun _ => some (.int .i64 3)) (fun _ => br (decide (p0 < (0 : Int))) (fun _ => some (.int .i64 3)) (fun _ => br (decide (p0 > (1000 : Int))) (fun _ => some (.int .i64 3)) (fun _ => some (.int .i64 0))))))))))))))))))) := by kernel_rfl
end Go.Proofs.Ytanpcjopgcpooaa
set_option maxRecDepth 100000
set_option linter.unusedSimpArgs false
set_option linter.unusedVariables false
namespace Go.Proofs.Ytanpcjopgcpooaa
open Go.Sx
end Go.Proofs.Ytanpcjopgcpooaa
set_option maxRecDepth 100000
set_option linter.unusedSimpArgs false
set_option linter.unusedVariables false
namespace Go.Proofs.Ytanpcjopgcpooaa
open Go.Sx
theorem chk149_11 (e d cpu mem disk q : Int) (a0 : Bool) (l0 w0 b0 m0 p0 : Int) : runI (TS h3) (cV 12 10) 12 Try.f149 [.agg [.int .i64 d, .int .i64 cpu, .int .i64 mem, .int .i64 disk, .inl false .unk 1 [.int .i64 q], .inl false .unk 6 [.agg [.bool a0, .int .i64 l0, .int .i64 w0, .int .i64 b0, .int .i64 m0, .int .i64 p0]]]] ⟨[], []⟩ ansR = br (decide (d < (0 : Int))) (fun _ => some (.int .i64 3)) (fun _ => br (decide (d > (2147483648 : Int))) (fun _ => some (.int .i64 3)) (fun _ => br (decide (cpu < (0 : Int))) (fun _ => some (.int .i64 3)) (fun _ => br (decide (cpu > (1099511627776 : Int))) (fun _ => some (.int .i64 3)) (fun _ => br (decide (mem < (0 : Int))) (fun _ => some (.int .i64 3)) (fun _ => br (decide (mem > (1099511627776 : Int))) (fun _ => some (.int .i64 3)) (fun _ => br (decide (disk < (0 : Int))) (fun _ => some (.int .i64 3)) (fun _ => br (decide (disk > (1099511627776 : Int))) (fun _ => some (.int .i64 3)) (fun _ => br (decide (q < (1 : Int))) (fun _ => some (.int .i64 3)) (fun _ => br (decide (q > (65535 : Int))) (fun _ => some (.int .i64 3)) (fun _ => br (decide (q ≤ (0 : Int))) (fun _ => some (.int .i64 13)) (fun _ => br (decide (l0 < (1 : Int))) (fun _ => some (.int .i64 3)) (fun _ => br (decide (l0 > (8 : Int))) (fun _ => some (.int .i64 3)) (fun _ => br (decide (w0 < (1 : Int))) (fun _ => some (.int .i64 3)) (fun _ => br (decide (w0 > (1099511627776 : Int))) (fun _ => some (.int .i64 3)) (fun _ => br (decide (m0 < (1 : Int))) (fun _ => some (.int .i64 3)) (fun _ => br (decide (m0 > (1099511627776 : Int))) (fun _ => some (.int .i64 3)) (fun _ => br (decide (b0 < (1 : Int))) (fun _ => some (.int .i64 3)) (fun _ => br (decide (b0 > m0)) (fun _ => some (.int .i64 3)) (fun _ => br (decide (p0 < (0 : Int))) (fun _ => some (.int .i64 3)) (fun _ => br (decide (p0 > (1000 : Int))) (fun _ => some (.int .i64 3)) (fun _ => some (.int .i64 0)))))))))))))))))))))) := by kernel_rfl
end Go.Proofs.Ytanpcjopgcpooaa
set_option maxRecDepth 100000
set_option linter.unusedSimpArgs false
set_option linter.unusedVariables false
namespace Go.Proofs.Ytanpcjopgcpooaa
open Go.Sx
end Go.Proofs.Ytanpcjopgcpooaa

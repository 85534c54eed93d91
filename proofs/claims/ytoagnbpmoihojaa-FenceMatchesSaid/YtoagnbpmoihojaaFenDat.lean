/- The engine's tables for the laws of the fence. -/
import Derived.Test.YtoagnbpmoihojaaFenSys
import Derived.Test.YtoagnbpmoihojaaEj
set_option maxRecDepth 100000
namespace Go.Proofs.Ytoagnbpmoihojaa
open Go.Sx

noncomputable def Try.D : Go.Sx.Sys := { Try.S with room := 2, eta := fun t => [0, 27, 36, 47, 50, 51, 70, 74, 77].any (Nat.beq t) }
theorem Try.okD : SysOK Try.D Try.prog := ⟨Try.ok.type, Try.ok.func, Try.ok.glob⟩
theorem Try.extOKD : ExtOK Try.D Try.prog := ⟨(by intro f g h; cases h), (by intro f g h; cases h)⟩
noncomputable def tabF : TabT := tabP Try.D fun f => (Try.pure_.get f).isSome
theorem tabF_ok : TabOK Try.D tabF := tabP_ok fun _ h => h
noncomputable def cF (fuel : Nat) : CallI := callI Try.D tabF fuel 6
end Go.Proofs.Ytoagnbpmoihojaa

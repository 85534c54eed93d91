/- The engine's tables for the laws of reports whose arguments are lists. -/
import Derived.Test.YtoagnbpmoihojaaDoorRepSys
import Derived.Test.YtoagnbpmoihojaaDoorEj
set_option maxRecDepth 100000
namespace Go.Proofs.YtoagnbpmoihojaaDoor
open Go.Sx

noncomputable def Rep.D (m : Array Value) : Go.Sx.Sys := { Rep.S m 0 with eta := fun t => Nat.beq t 0 || etaRep t }
theorem Rep.okD (m : Array Value) : SysOK (Rep.D m) Tryd.prog :=
  have h := Rep.ok m 0
  ⟨h.type, h.func, h.glob⟩
theorem Rep.extOKD (m : Array Value) : ExtOK (Rep.D m) Tryd.prog := by
  have h := Rep.extOK m 0
  constructor
  · intro f g hf
    obtain ⟨h1, h2⟩ := h.val f g hf
    exact ⟨h1, fun ts v hg E xs hr hx => h2 ts v hg E xs ⟨hr.h, hr.g, hr.x⟩ hx⟩
  · intro f g hf args H v H' hg E xs hr hx
    exact h.obj f g hf args H v H' hg E xs ⟨hr.h, hr.g, hr.x⟩ hx

/-- Functions that are called with trees: their calls are taken as they are. -/
noncomputable def tabD0 (m : Array Value) : TabT := tabP (Rep.D m) fun f => (Rep.pure_.get f).isSome
theorem tabD0_ok (m : Array Value) : TabOK (Rep.D m) (tabD0 m) := tabP_ok fun f h => h
noncomputable def cD (m : Array Value) (fuel : Nat) : CallI := callI (Rep.D m) (tabD0 m) fuel 2
end Go.Proofs.YtoagnbpmoihojaaDoor

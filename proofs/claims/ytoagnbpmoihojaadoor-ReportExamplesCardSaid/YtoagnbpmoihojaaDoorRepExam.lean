/- ReportExamples, run. -/
import Derived.Test.YtoagnbpmoihojaaDoorRepWorld
import Derived.Test.YtoagnbpmoihojaaDoorEh
set_option maxRecDepth 100000
set_option linter.unusedSimpArgs false
set_option linter.unusedVariables false
namespace Go.Proofs.YtoagnbpmoihojaaDoor
open Go.Sx Go.ChangeShapes Go.WideShapes Go.ChangeAt Go.RowKit

theorem repExam_run (m : Array Value) : tellsTrue (callE (Rep.S m 100000) 30 6 [] ⟨[], []⟩) = true := by kernel_rfl

theorem reportExamples_calls (m : Array Value) {W : World} (hfx : ∀ p, p ∈ (Rep.S m).fixed → Fixed (GE.start W) p) {args : Array Value} (ha : args = #[]) : Calls Tryd.prog 6 args W fun e W' => e = .returned (.bool true) ∧ Below W.heap.size W W' := by
  subst ha
  obtain ⟨H', h⟩ := tells_true (repExam_run m)
  exact calls_true (Rep.ok m 100000) (Rep.extOK m 100000) Tryd.mixed h (fun n => .top _) hfx ⟨rfl, by intro i v x hv; simp at hv⟩
end Go.Proofs.YtoagnbpmoihojaaDoor

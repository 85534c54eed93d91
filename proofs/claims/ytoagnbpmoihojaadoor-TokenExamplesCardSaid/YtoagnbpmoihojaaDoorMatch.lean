/- TokenMatches, on unknown tokens. -/
import Derived.Test.YtoagnbpmoihojaaDoorFmt2
set_option maxRecDepth 100000
set_option linter.unusedSimpArgs false
set_option linter.unusedVariables false
namespace Go.Proofs.YtoagnbpmoihojaaDoor
open Go.Sx

theorem matches_form (m : Array Value) (a b c d e f : Int) (H : AH) : callI (Tryd.S m) tabM 6 4 9 [tok a b c, tok d e f] H some =
    br (fmtS a b c == fmtS a b c) (fun _ => br (checkE a b c == checkE a b c) (fun _ => br (checkE a b c == checkE a b c) (fun _ => br (lessE a b c d e f == lessE a b c d e f)
      (fun _ => br (lessE d e f a b c == lessE d e f a b c) (fun _ => some (.bool true, H)) (fun _ => some (.bool false, H)))
      (fun _ => some (.bool false, H))) (fun _ => some (.bool false, H))) (fun _ => some (.bool false, H))) (fun _ => some (.bool false, H)) := by kernel_rfl

theorem matches_law (m : Array Value) (a b c d e f : Int) (H : AH) : callL (Tryd.S m) 9 [tok a b c, tok d e f] H = some (.bool true, H) := by
  refine callL_I (tabM_ok m) (fuel := 6) (n := 4) ?_
  rw [matches_form]
  simp [br]
end Go.Proofs.YtoagnbpmoihojaaDoor

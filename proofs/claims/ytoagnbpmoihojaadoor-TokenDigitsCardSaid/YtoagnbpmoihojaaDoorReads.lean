/- TokenReads, on unknown texts. -/
import Derived.Test.YtoagnbpmoihojaaDoorParse2
set_option maxRecDepth 100000
set_option linter.unusedSimpArgs false
set_option linter.unusedVariables false
namespace Go.Proofs.YtoagnbpmoihojaaDoor
open Go.Sx

def cutN (k : Int) (s : List UInt8) : Int := if k < (s.length : Int) then k else (s.length : Int)
def cutL (k : Int) (s : List UInt8) : List UInt8 := (s.drop 0).take ((cutN k s).toNat - 0)

theorem cut_ok (k : Int) (hk : 0 ≤ k) (s : List UInt8) : (0 ≤ cutN k s ∧ cutN k s ≤ (s.length : Int)) ∧ ((cutL k s).length : Int) ≤ k := by
  unfold cutL cutN
  split <;> simp <;> omega

theorem reads_form (m : Array Value) (s : List UInt8) (H : AH) : callI (Tryd.S m) tabR 6 2 10 [.str s] H some =
    if 0 ≤ cutN 400 s ∧ cutN 400 s ≤ (s.length : Int) then
      br (decide ((cutL 400 s).length ≤ 1000000)) (fun _ => br (decide ((cutL 400 s).length ≤ 1000000)) (fun _ =>
        br ((parseE (cutL 400 s)).1.1 == (parseE (cutL 400 s)).1.1 && ((parseE (cutL 400 s)).1.2.1 == (parseE (cutL 400 s)).1.2.1 && ((parseE (cutL 400 s)).1.2.2 == (parseE (cutL 400 s)).1.2.2 && true)))
          (fun _ => br ((parseE (cutL 400 s)).2 == (parseE (cutL 400 s)).2) (fun _ => some (.bool true, H)) (fun _ => some (.bool false, H)))
          (fun _ => some (.bool false, H))) (fun _ => none)) (fun _ => none)
    else none := by kernel_rfl

theorem reads_law (m : Array Value) (s : List UInt8) (H : AH) : callL (Tryd.S m) 10 [.str s] H = some (.bool true, H) := by
  refine callL_I (tabR_ok m) (fuel := 6) (n := 2) ?_
  have h := cut_ok 400 (by omega) s
  have hc : (cutL 400 s).length ≤ 1000000 := by
    have := h.2
    omega
  rw [reads_form, if_pos h.1, decide_eq_true hc]
  simp [br]
end Go.Proofs.YtoagnbpmoihojaaDoor

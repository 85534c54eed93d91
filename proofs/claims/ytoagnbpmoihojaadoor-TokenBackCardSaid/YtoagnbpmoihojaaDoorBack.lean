/- TokenBack, on unknown tokens and texts. -/
import Derived.Test.YtoagnbpmoihojaaDoorPlain
set_option maxRecDepth 100000
set_option linter.unusedSimpArgs false
set_option linter.unusedVariables false
namespace Go.Proofs.YtoagnbpmoihojaaDoor
open Go.Sx

/-- What becomes of the text. -/
def backS (s : List UInt8) (H : AH) : Option (AV × AH) :=
  br ((parseE s).2 != 0) (fun _ => br ((parseE s).1.1 == 0 && ((parseE s).1.2.1 == 0 && ((parseE s).1.2.2 == 0 && true))) (fun _ => some (.bool true, H)) (fun _ => some (.bool false, H)))
    (fun _ => br (fmtS (parseE s).1.1 (parseE s).1.2.1 (parseE s).1.2.2 == s) (fun _ => br (checkE (parseE s).1.1 (parseE s).1.2.1 (parseE s).1.2.2 == 0) (fun _ => br (checkE (parseE s).1.1 (parseE s).1.2.1 (parseE s).1.2.2 == 0)
      (fun _ => some (.bool true, H)) (fun _ => some (.bool false, H))) (fun _ => some (.bool false, H))) (fun _ => some (.bool false, H)))

theorem back_form (m : Array Value) (a b c : Int) (s : List UInt8) (H : AH) : callI (Tryd.S m) tabR 6 2 12 [tok a b c, .str s] H some =
    if 0 ≤ cutN 200 s ∧ cutN 200 s ≤ (s.length : Int) then
      br (checkE a b c != checkE a b c) (fun _ => some (.bool false, H))
        (fun _ => br (checkE a b c == 0)
          (fun _ => br (decide ((fmtS a b c).length ≤ 1000000)) (fun _ => br (!((parseE (fmtS a b c)).1.1 == a && ((parseE (fmtS a b c)).1.2.1 == b && ((parseE (fmtS a b c)).1.2.2 == c && true)))) (fun _ => some (.bool false, H))
            (fun _ => br ((parseE (fmtS a b c)).2 != 0) (fun _ => some (.bool false, H)) (fun _ => br (decide ((cutL 200 s).length ≤ 1000000)) (fun _ => backS (cutL 200 s) H) (fun _ => none)))) (fun _ => none))
          (fun _ => br (decide ((cutL 200 s).length ≤ 1000000)) (fun _ => backS (cutL 200 s) H) (fun _ => none)))
    else none := by kernel_rfl

theorem backS_true (s : List UInt8) (H : AH) : backS s H = some (.bool true, H) := by
  unfold backS
  by_cases h : (parseE s).2 = 0
  · have hp : parseE s = (((parseE s).1.1, (parseE s).1.2.1, (parseE s).1.2.2), 0) := by rw [← h]
    obtain ⟨h1, h2⟩ := fmt_parse hp
    simp [br, h, h1, h2]
  · have h1 := parse_err s h
    have h2 : ((parseE s).2 != 0) = true := by simpa using h
    rw [h2, h1]
    rfl

theorem fmt_length (a b c : Int) : (fmtS a b c).length ≤ 1000000 := by
  unfold fmtS
  split
  · rename_i h
    have := bits_ok h
    simp only [List.length_append, List.length_singleton]
    omega
  · simp

theorem back_law (m : Array Value) (a b c : Int) (s : List UInt8) (H : AH) : callL (Tryd.S m) 12 [tok a b c, .str s] H = some (.bool true, H) := by
  refine callL_I (tabR_ok m) (fuel := 6) (n := 2) ?_
  have h := cut_ok 200 (by omega) s
  have hc : (cutL 200 s).length ≤ 1000000 := by
    have := h.2
    omega
  rw [back_form, if_pos h.1, decide_eq_true hc, decide_eq_true (fmt_length a b c), backS_true]
  by_cases hk : checkE a b c = 0
  · rw [parse_fmt hk]
    simp [br, hk]
  · have h2 : (checkE a b c == 0) = false := by simpa using hk
    rw [h2]
    simp [br]
end Go.Proofs.YtoagnbpmoihojaaDoor

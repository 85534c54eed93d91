/- token.Less and the reference's, on unknown tokens. -/
import Derived.Test.YtoagnbpmoihojaaDoorExt
import Derived.Test.YtoagnbpmoihojaaDoorEi
set_option maxRecDepth 100000
set_option linter.unusedSimpArgs false
set_option linter.unusedVariables false
namespace Go.Proofs.YtoagnbpmoihojaaDoor
open Go.Sx

def tok (a b c : Int) : AV := .agg [.int .i64 a, .int .i64 b, .int .i64 c]
def checkE (a b c : Int) : Int := if a < 0 ∨ a > 2147483648 ∨ b < 0 ∨ b > 3 ∨ c < 1 ∨ c > 1099511627776 then 3 else 0
def lessE (a b c d e f : Int) : Bool := if a ≠ d then decide (a < d) else if b ≠ e then decide (b < e) else decide (c < f)

theorem br_eq {R : Type} (b : Bool) (f g : Unit → Option R) : br b f g = if b = true then f () else g () := by cases b <;> rfl

theorem check31_form (m : Array Value) (a b c : Int) : runC (Tryd.S m) (callF (Tryd.S m) 4) 6 Tryd.f31 [tok a b c] ⟨[], []⟩ =
    br (decide (a < 0)) (fun _ => some (.int .i64 3)) (fun _ => br (decide (a > 2147483648)) (fun _ => some (.int .i64 3)) (fun _ => br (decide (b < 0)) (fun _ => some (.int .i64 3)) (fun _ => br (decide (b > 3)) (fun _ => some (.int .i64 3))
      (fun _ => br (decide (c < 1)) (fun _ => some (.int .i64 3)) (fun _ => br (decide (c > 1099511627776)) (fun _ => some (.int .i64 3)) (fun _ => some (.int .i64 0))))))) := by kernel_rfl
theorem less33_form (m : Array Value) (a b c d e f : Int) : runC (Tryd.S m) (callF (Tryd.S m) 4) 6 Tryd.f33 [tok a b c, tok d e f] ⟨[], []⟩ =
    br (a != d) (fun _ => some (.bool (decide (a < d)))) (fun _ => br (b != e) (fun _ => some (.bool (decide (b < e)))) (fun _ => br (c != f) (fun _ => some (.bool (decide (c < f)))) (fun _ => some (.bool false)))) := by kernel_rfl

theorem res1 (H : AH) (a b c : Int) : resolveL H [tok a b c] = some [tok a b c] := rfl
theorem res2 (H : AH) (a b c d e f : Int) : resolveL H [tok a b c, tok d e f] = some [tok a b c, tok d e f] := rfl

theorem check31 (m : Array Value) (a b c : Int) (H : AH) : callL (Tryd.S m) 31 [tok a b c] H = some (.int .i64 (checkE a b c), H) := by
  refine callL_C (callF_le 4) (n := 6) (fn := Tryd.f31) (by kernel_rfl) (by kernel_rfl) (by kernel_rfl) (res1 H a b c) (v := .int .i64 (checkE a b c)) ?_ rfl
  rw [check31_form]
  simp only [br_eq, decide_eq_true_eq, checkE]
  repeat' split
  all_goals first | rfl | (exfalso; omega)

theorem less33 (m : Array Value) (a b c d e f : Int) (H : AH) : callL (Tryd.S m) 33 [tok a b c, tok d e f] H = some (.bool (lessE a b c d e f), H) := by
  refine callL_C (callF_le 4) (n := 6) (fn := Tryd.f33) (by kernel_rfl) (by kernel_rfl) (by kernel_rfl) (res2 H a b c d e f) (v := .bool (lessE a b c d e f)) ?_ rfl
  rw [less33_form]
  simp only [br_eq, bne_iff_ne, ne_eq, lessE, ite_not]
  repeat' split
  all_goals simp_all

theorem awake35 (m : Array Value) (H : AH) : callL (Tryd.S m) 35 [] H = some (.bool true, H) := (callF_le 20).fn 35 [] H _ (by kernel_rfl)
end Go.Proofs.YtoagnbpmoihojaaDoor

/- TokenDigits: the law. -/
import Derived.Test.YtoagnbpmoihojaaDoorDigits2
set_option maxRecDepth 100000
set_option linter.unusedSimpArgs false
set_option linter.unusedVariables false
namespace Go.Proofs.YtoagnbpmoihojaaDoor
open Go.Sx

theorem digits_I (m : Array Value) (F : Nat) (a b c d e f : Int) (H : AH) (hF : F = (fmtS a b c).length + 1) : callI (Tryd.S m) tabM F 2 14 [tok a b c, tok d e f] H some = some (.bool true, H) := by
  refine (call14 m F a b c d e f H).trans ((dig_pre14 m F a b c d e f _).trans ?_)
  by_cases h1 : checkE a b c = 0
  · have e1 : (checkE a b c == 0) = true := by simpa using h1
    have e2 : (checkE a b c != 0) = false := by simpa using h1
    by_cases h2 : checkE d e f = 0
    · have e3 : (checkE d e f == 0) = true := by simpa using h2
      have e4 : (!(fmtS a b c == fmtS d e f) == (a == d && (b == e && (c == f && true)))) = false := by
        rw [fmt_inj h1 h2]
        cases (a == d && (b == e && (c == f && true))) <;> rfl
      simp only [e1, e3, e4, e2, br]
      exact hrun14 m F (some true) H h1 hF
    · have e3 : (checkE d e f == 0) = false := by simpa using h2
      simp only [e1, e3, e2, br]
      exact hrun14 m F (some false) H h1 hF
  · have e1 : (checkE a b c == 0) = false := by simpa using h1
    have e2 : (checkE a b c != 0) = true := by simpa using h1
    have e3 : (fmtS a b c == []) = true := by
      unfold fmtS
      rw [if_neg h1]
      rfl
    simp only [e1, e2, e3, br]
    exact hout14 a b c d e f H

theorem digits_law (m : Array Value) (a b c d e f : Int) (H : AH) : callL (Tryd.S m) 14 [tok a b c, tok d e f] H = some (.bool true, H) :=
  callL_I (tabM_ok m) (digits_I m _ a b c d e f H rfl)
end Go.Proofs.YtoagnbpmoihojaaDoor

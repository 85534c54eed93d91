/- report.Line on an unknown status. -/
import Derived.Test.YtoagnbpmoihojaaDoorRepWord
set_option maxRecDepth 100000
set_option linter.unusedSimpArgs false
set_option linter.unusedVariables false
namespace Go.Proofs.YtoagnbpmoihojaaDoor
open Go.Sx

def rIn {R : Type} (n : Int) (A : Option R) : Option R := br (decide (-9223372036854775808 ≤ n) && decide (n ≤ 9223372036854775807)) (fun _ => A) (fun _ => none)
def rWord {R : Type} (s : List UInt8) (xs : List AV) (g : Nat) (A : Option R) : Option R := if (s ≠ [] ∧ s.length ≤ 1000) ∧ (xs ≠ [] ∧ xs.length ≤ 100000) ∧ g = g ∧ 5 = 5 then A else none
def rEnd {R : Type} (xs : List AV) (g : Nat) (A : List UInt8 → Option R) : Option R := if 74 = 74 ∧ (byteL xs).isSome = true ∧ 0 < (textOf xs).length ∧ (textOf xs).length ≤ 100000 ∧ g = g ∧ 5 = 5 then A (textOf xs) else none

def headL (a b : Int) : List UInt8 := itoaL a ++ [47] ++ itoaL b

theorem line_form (m : Array Value) (H : AH) (a b st i n c : Int) (al : Bool) : callI (Rep.S m) tabL 8 6 15 [.agg (stA a b st i n c al)] H some =
    br (decide (0 ≤ st) && decide (st < 256))
      (fun _ => br (decide (st < 8))
        (fun _ => rIn a (if (itoaL a).length + [(47 : UInt8)].length ≤ 9223372036854775807 then rIn b (if (itoaL a ++ [47]).length + (itoaL b).length ≤ 9223372036854775807 then
          (if headL a b ≠ [] ∧ (headL a b).length ≤ 1000 then
            rWord (nameL st) (byteV (headL a b)) 0 (rIn i (rWord (itoaL i) (byteV (headL a b) ++ byteV (32 :: nameL st)) 2
              (rIn n (rWord (itoaL n) (byteV (headL a b) ++ byteV (32 :: nameL st) ++ byteV (32 :: itoaL i)) 4
                (rIn c (rWord (itoaL c) (byteV (headL a b) ++ byteV (32 :: nameL st) ++ byteV (32 :: itoaL i) ++ byteV (32 :: itoaL n)) 6
                  (br al
                    (fun _ => rWord [117, 112] (byteV (headL a b) ++ byteV (32 :: nameL st) ++ byteV (32 :: itoaL i) ++ byteV (32 :: itoaL n) ++ byteV (32 :: itoaL c)) 8
                      (rEnd (byteV (headL a b) ++ byteV (32 :: nameL st) ++ byteV (32 :: itoaL i) ++ byteV (32 :: itoaL n) ++ byteV (32 :: itoaL c) ++ byteV (32 :: [117, 112])) 10 fun t => some (.tuple [.str t, .int .i64 0], H)))
                    (fun _ => rWord [100, 111, 119, 110] (byteV (headL a b) ++ byteV (32 :: nameL st) ++ byteV (32 :: itoaL i) ++ byteV (32 :: itoaL n) ++ byteV (32 :: itoaL c)) 8
                      (rEnd (byteV (headL a b) ++ byteV (32 :: nameL st) ++ byteV (32 :: itoaL i) ++ byteV (32 :: itoaL n) ++ byteV (32 :: itoaL c) ++ byteV (32 :: [100, 111, 119, 110])) 10 fun t => some (.tuple [.str t, .int .i64 0], H))))))))))
          else none) else none) else none))
        (fun _ => some (.tuple [.str [], .int .i64 2], H)))
      (fun _ => none) := by kernel_rfl
end Go.Proofs.YtoagnbpmoihojaaDoor

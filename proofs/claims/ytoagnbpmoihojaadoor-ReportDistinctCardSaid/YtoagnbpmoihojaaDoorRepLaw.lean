/- The reference's Line, and the laws of lines. -/
import Derived.Test.YtoagnbpmoihojaaDoorRepTab
set_option maxRecDepth 100000
set_option linter.unusedSimpArgs false
set_option linter.unusedVariables false
namespace Go.Proofs.YtoagnbpmoihojaaDoor
open Go.Sx

def tabR16 : TabT := fun f => match Nat.beq f 44, Nat.beq f 18 with
  | true, _ => some fun args H _ K => match args with
    | [.int .i64 n] => rIn n (K (.str (itoaL n), H))
    | _ => none
  | _, true => some fun args H _ K => match args with
    | [.int .u8 st] => br (decide (0 ≤ st) && decide (st < 256)) (fun _ => br (decide (st < 8)) (fun _ => K (.tuple [.str (nameL st), .int .i64 0], H)) (fun _ => K (.tuple [.str [], .int .i64 3], H))) (fun _ => none)
    | _ => none
  | _, _ => none

theorem tabR16_ok (m : Array Value) : TabOK (Rep.S m) tabR16 := by
  intro f g hg args H R K r h
  unfold tabR16 at hg
  split at hg
  · have hf : f = 44 := Nat.eq_of_beq_eq_true ‹Nat.beq f 44 = true›
    subst hf
    obtain rfl := Option.some.inj hg
    simp only at h
    split at h
    · obtain ⟨h1, h2⟩ := brb h
      simp only [Bool.and_eq_true, decide_eq_true_eq] at h1
      exact ⟨_, number44 m h1.1 h1.2 H, h2⟩
    · simp at h
  · have hf : f = 18 := Nat.eq_of_beq_eq_true ‹Nat.beq f 18 = true›
    subst hf
    obtain rfl := Option.some.inj hg
    simp only at h
    split at h
    · rename_i st
      obtain ⟨h1, h2⟩ := brb h
      simp only [Bool.and_eq_true, decide_eq_true_eq] at h1
      refine ⟨_, state18 m h1.1 h1.2 H, ?_⟩
      unfold stateV
      simp only [br_eq, decide_eq_true_eq] at h2
      split at h2
      · rename_i h8
        rw [if_pos h8]; exact h2
      · rename_i h8
        rw [if_neg h8]; exact h2
    · simp at h
  · simp at hg
theorem line16_form (m : Array Value) (a b st i n c : Int) (al : Bool) (H : AH) :
  callI (Rep.S m) tabR16 8 6 16 [.agg (stA a b st i n c al)] H some =
  br (decide ((0 : Int) ≤ st) && decide (st < (256 : Int)))
    (fun _ => br (decide (st < (8 : Int)))
      (fun _ => br (decide ((-9223372036854775808 : Int) ≤ a) && decide (a ≤ (9223372036854775807 : Int)))
        (fun _ => (if (itoaL a).length + (#[47] : Array UInt8).toList.length ≤ 9223372036854775807 then br (decide ((-9223372036854775808 : Int) ≤ b) && decide (b ≤ (9223372036854775807 : Int)))
            (fun _ => (if (itoaL a ++ [47]).length + (itoaL b).length ≤ 9223372036854775807 then (if (itoaL a ++ (#[47] : Array UInt8).toList ++ itoaL b).length + (#[32] : Array UInt8).toList.length ≤
      9223372036854775807 then (if (itoaL a ++ [47] ++ itoaL b ++ [32]).length + (nameL st).length ≤ 9223372036854775807 then (if (itoaL a ++ (#[47] : Array UInt8).toList ++ itoaL b ++ (#[32] : Array UInt8).toList ++ nameL st).length +
        (#[32] : Array UInt8).toList.length ≤
      9223372036854775807 then br (decide ((-9223372036854775808 : Int) ≤ i) && decide (i ≤ (9223372036854775807 : Int)))
                      (fun _ => (if (itoaL a ++ [47] ++ itoaL b ++ [32] ++ nameL st ++ [32]).length + (itoaL i).length ≤ 9223372036854775807 then (if (itoaL a ++ (#[47] : Array UInt8).toList ++ itoaL b ++ (#[32] : Array UInt8).toList ++ nameL st ++
              (#[32] : Array UInt8).toList ++
            itoaL i).length +
        (#[32] : Array UInt8).toList.length ≤
      9223372036854775807 then br (decide ((-9223372036854775808 : Int) ≤ n) && decide (n ≤ (9223372036854775807 : Int)))
                            (fun _ => (if (itoaL a ++ [47] ++ itoaL b ++ [32] ++ nameL st ++ [32] ++ itoaL i ++ [32]).length + (itoaL n).length ≤
      9223372036854775807 then (if (itoaL a ++ (#[47] : Array UInt8).toList ++ itoaL b ++ (#[32] : Array UInt8).toList ++ nameL st ++
                  (#[32] : Array UInt8).toList ++
                itoaL i ++
              (#[32] : Array UInt8).toList ++
            itoaL n).length +
        (#[32] : Array UInt8).toList.length ≤
      9223372036854775807 then br (decide ((-9223372036854775808 : Int) ≤ c) && decide (c ≤ (9223372036854775807 : Int)))
                                  (fun _ => (if (itoaL a ++ [47] ++ itoaL b ++ [32] ++ nameL st ++ [32] ++ itoaL i ++ [32] ++ itoaL n ++ [32]).length +
        (itoaL c).length ≤
      9223372036854775807 then br (al)
                                      (fun _ => (if (itoaL a ++ (#[47] : Array UInt8).toList ++ itoaL b ++ (#[32] : Array UInt8).toList ++ nameL st ++
                      (#[32] : Array UInt8).toList ++
                    itoaL i ++
                  (#[32] : Array UInt8).toList ++
                itoaL n ++
              (#[32] : Array UInt8).toList ++
            itoaL c).length +
        (#[32, 117, 112] : Array UInt8).toList.length ≤
      9223372036854775807 then some
      (AV.tuple
          [AV.str
              (itoaL a ++ [47] ++ itoaL b ++ [32] ++ nameL st ++ [32] ++ itoaL i ++ [32] ++ itoaL n ++ [32] ++ itoaL c ++
                [32, 117, 112]),
            AV.int IntKind.i64 ((0 : Int))],
        H)
                                        else none))
                                      (fun _ => (if (itoaL a ++ (#[47] : Array UInt8).toList ++ itoaL b ++ (#[32] : Array UInt8).toList ++ nameL st ++
                      (#[32] : Array UInt8).toList ++
                    itoaL i ++
                  (#[32] : Array UInt8).toList ++
                itoaL n ++
              (#[32] : Array UInt8).toList ++
            itoaL c).length +
        (#[32, 100, 111, 119, 110] : Array UInt8).toList.length ≤
      9223372036854775807 then some
      (AV.tuple
          [AV.str
              (itoaL a ++ [47] ++ itoaL b ++ [32] ++ nameL st ++ [32] ++ itoaL i ++ [32] ++ itoaL n ++ [32] ++ itoaL c ++
                [32, 100, 111, 119, 110]),
            AV.int IntKind.i64 ((0 : Int))],
        H)
                                        else none))
                                    else none))
                                  (fun _ => none)
                                else none)
                              else none))
                            (fun _ => none)
                          else none)
                        else none))
                      (fun _ => none)
                    else none)
                  else none)
                else none)
              else none))
            (fun _ => none)
          else none))
        (fun _ => none))
      (fun _ => some (AV.tuple [AV.str [], AV.int IntKind.i64 ((2 : Int))], H)))
    (fun _ => none) := by kernel_rfl

-- PROOFS
theorem line16 (m : Array Value) {a b st i n c : Int} {al : Bool} (ha : inR a) (hb : inR b) (h0 : 0 ≤ st) (h1 : st < 256) (hi : inR i) (hn : inR n) (hc : inR c) (H : AH) : callL (Rep.S m) 16 [.agg (stA a b st i n c al)] H = some (lineV a b st i n c al, H) := by
  refine callL_I (tabR16_ok m) (fuel := 8) (n := 6) ?_
  rw [line16_form]
  have e (n : Int) (h : inR n) : (decide ((-9223372036854775808 : Int) ≤ n) && decide (n ≤ (9223372036854775807 : Int))) = true := by
    simp only [Bool.and_eq_true, decide_eq_true_eq]; exact h
  have e0 : (decide ((0 : Int) ≤ st) && decide (st < (256 : Int))) = true := by
    simp only [Bool.and_eq_true, decide_eq_true_eq]; exact ⟨h0, h1⟩
  have la := itoa_len ha
  have lb := itoa_len hb
  have li := itoa_len hi
  have ln := itoa_len hn
  have lc := itoa_len hc
  unfold lineV
  rw [e0, e a ha, e b hb, e i hi, e n hn, e c hc]
  by_cases h8 : st < 8
  · have ls := name_len h0 h8
    rw [decide_eq_true h8, if_pos h8]
    simp only [br]
    repeat rw [if_pos (by simp only [List.length_append, List.length_cons, List.length_nil]; omega)]
    unfold lineL headL
    cases al <;> simp
  · rw [decide_eq_false h8, if_neg h8]
    rfl

-- DEFS
def tabQ : TabT := fun f => match Nat.beq f 15 || Nat.beq f 16, Nat.beq f 17 || Nat.beq f 18, Nat.beq f 19 with
  | true, _, _ => some fun args H _ K => match args with
    | [.agg [.int .i64 a, .int .i64 b, .int .u8 st, .int .i64 i, .int .i64 n, .int .i64 c, .bool al]] => br (decide (0 ≤ st) && decide (st < 256)) (fun _ => rIn a (rIn b (rIn i (rIn n (rIn c (br (decide (st < 8))
      (fun _ => K (.tuple [.str (lineL a b st i n c al), .int .i64 0], H)) (fun _ => K (.tuple [.str [], .int .i64 2], H)))))))) (fun _ => none)
    | _ => none
  | _, true, _ => some fun args H _ K => match args with
    | [.int .u8 st] => br (decide (0 ≤ st) && decide (st < 256)) (fun _ => br (decide (st < 8)) (fun _ => K (.tuple [.str (nameL st), .int .i64 0], H)) (fun _ => K (.tuple [.str [], .int .i64 3], H))) (fun _ => none)
    | _ => none
  | _, _, true => some fun args H _ K => match args with
    | [] => K (.bool true, H)
    | _ => none
  | _, _, _ => none

theorem lines_form (m : Array Value) (a b st i n c : Int) (al : Bool) (H : AH) :
  callI (Rep.S m) tabQ 8 6 3 [.agg (stA a b st i n c al)] H some =
  br (decide ((0 : Int) ≤ st) && decide (st < (256 : Int)))
    (fun _ => br (decide ((-9223372036854775808 : Int) ≤ a) && decide (a ≤ (9223372036854775807 : Int)))
      (fun _ => br (decide ((-9223372036854775808 : Int) ≤ b) && decide (b ≤ (9223372036854775807 : Int)))
        (fun _ => br (decide ((-9223372036854775808 : Int) ≤ i) && decide (i ≤ (9223372036854775807 : Int)))
          (fun _ => br (decide ((-9223372036854775808 : Int) ≤ n) && decide (n ≤ (9223372036854775807 : Int)))
            (fun _ => br (decide ((-9223372036854775808 : Int) ≤ c) && decide (c ≤ (9223372036854775807 : Int)))
              (fun _ => br (decide (st < (8 : Int)))
                (fun _ => br (decide ((0 : Int) ≤ st) && decide (st < (256 : Int)))
                  (fun _ => br (decide ((-9223372036854775808 : Int) ≤ a) && decide (a ≤ (9223372036854775807 : Int)))
                    (fun _ => br (decide ((-9223372036854775808 : Int) ≤ b) && decide (b ≤ (9223372036854775807 : Int)))
                      (fun _ => br (decide ((-9223372036854775808 : Int) ≤ i) && decide (i ≤ (9223372036854775807 : Int)))
                        (fun _ => br (decide ((-9223372036854775808 : Int) ≤ n) && decide (n ≤ (9223372036854775807 : Int)))
                          (fun _ => br (decide ((-9223372036854775808 : Int) ≤ c) && decide (c ≤ (9223372036854775807 : Int)))
                            (fun _ => br (decide (st < (8 : Int)))
                              (fun _ => br (decide ((0 : Int) ≤ st) && decide (st < (256 : Int)))
                                (fun _ => br (decide (st < (8 : Int)))
                                  (fun _ => br (decide ((0 : Int) ≤ st) && decide (st < (256 : Int)))
                                    (fun _ => br (decide (st < (8 : Int)))
                                      (fun _ => br (lineL a b st i n c al == lineL a b st i n c al)
                                        (fun _ => br (nameL st == nameL st)
                                          (fun _ => some (AV.bool true, H))
                                          (fun _ => some (AV.bool false, H)))
                                        (fun _ => some (AV.bool false, H)))
                                      (fun _ => br (lineL a b st i n c al == lineL a b st i n c al)
                                        (fun _ => br (nameL st == [])
                                          (fun _ => some (AV.bool false, H))
                                          (fun _ => some (AV.bool false, H)))
                                        (fun _ => some (AV.bool false, H))))
                                    (fun _ => none))
                                  (fun _ => br (decide ((0 : Int) ≤ st) && decide (st < (256 : Int)))
                                    (fun _ => br (decide (st < (8 : Int)))
                                      (fun _ => br (lineL a b st i n c al == lineL a b st i n c al)
                                        (fun _ => br ([] == nameL st)
                                          (fun _ => some (AV.bool false, H))
                                          (fun _ => some (AV.bool false, H)))
                                        (fun _ => some (AV.bool false, H)))
                                      (fun _ => br (lineL a b st i n c al == lineL a b st i n c al)
                                        (fun _ => some (AV.bool true, H))
                                        (fun _ => some (AV.bool false, H))))
                                    (fun _ => none)))
                                (fun _ => none))
                              (fun _ => br (decide ((0 : Int) ≤ st) && decide (st < (256 : Int)))
                                (fun _ => br (decide (st < (8 : Int)))
                                  (fun _ => br (decide ((0 : Int) ≤ st) && decide (st < (256 : Int)))
                                    (fun _ => br (decide (st < (8 : Int)))
                                      (fun _ => br (lineL a b st i n c al == [])
                                        (fun _ => some (AV.bool false, H))
                                        (fun _ => some (AV.bool false, H)))
                                      (fun _ => br (lineL a b st i n c al == [])
                                        (fun _ => some (AV.bool false, H))
                                        (fun _ => some (AV.bool false, H))))
                                    (fun _ => none))
                                  (fun _ => br (decide ((0 : Int) ≤ st) && decide (st < (256 : Int)))
                                    (fun _ => br (decide (st < (8 : Int)))
                                      (fun _ => br (lineL a b st i n c al == [])
                                        (fun _ => some (AV.bool false, H))
                                        (fun _ => some (AV.bool false, H)))
                                      (fun _ => br (lineL a b st i n c al == [])
                                        (fun _ => some (AV.bool false, H))
                                        (fun _ => some (AV.bool false, H))))
                                    (fun _ => none)))
                                (fun _ => none)))
                            (fun _ => none))
                          (fun _ => none))
                        (fun _ => none))
                      (fun _ => none))
                    (fun _ => none))
                  (fun _ => none))
                (fun _ => br (decide ((0 : Int) ≤ st) && decide (st < (256 : Int)))
                  (fun _ => br (decide ((-9223372036854775808 : Int) ≤ a) && decide (a ≤ (9223372036854775807 : Int)))
                    (fun _ => br (decide ((-9223372036854775808 : Int) ≤ b) && decide (b ≤ (9223372036854775807 : Int)))
                      (fun _ => br (decide ((-9223372036854775808 : Int) ≤ i) && decide (i ≤ (9223372036854775807 : Int)))
                        (fun _ => br (decide ((-9223372036854775808 : Int) ≤ n) && decide (n ≤ (9223372036854775807 : Int)))
                          (fun _ => br (decide ((-9223372036854775808 : Int) ≤ c) && decide (c ≤ (9223372036854775807 : Int)))
                            (fun _ => br (decide (st < (8 : Int)))
                              (fun _ => br (decide ((0 : Int) ≤ st) && decide (st < (256 : Int)))
                                (fun _ => br (decide (st < (8 : Int)))
                                  (fun _ => br (decide ((0 : Int) ≤ st) && decide (st < (256 : Int)))
                                    (fun _ => br (decide (st < (8 : Int)))
                                      (fun _ => br ([] == lineL a b st i n c al)
                                        (fun _ => some (AV.bool false, H))
                                        (fun _ => some (AV.bool false, H)))
                                      (fun _ => br ([] == lineL a b st i n c al)
                                        (fun _ => some (AV.bool false, H))
                                        (fun _ => some (AV.bool false, H))))
                                    (fun _ => none))
                                  (fun _ => br (decide ((0 : Int) ≤ st) && decide (st < (256 : Int)))
                                    (fun _ => br (decide (st < (8 : Int)))
                                      (fun _ => br ([] == lineL a b st i n c al)
                                        (fun _ => some (AV.bool false, H))
                                        (fun _ => some (AV.bool false, H)))
                                      (fun _ => br ([] == lineL a b st i n c al)
                                        (fun _ => some (AV.bool false, H))
                                        (fun _ => some (AV.bool false, H))))
                                    (fun _ => none)))
                                (fun _ => none))
                              (fun _ => br (decide ((0 : Int) ≤ st) && decide (st < (256 : Int)))
                                (fun _ => br (decide (st < (8 : Int)))
                                  (fun _ => br (decide ((0 : Int) ≤ st) && decide (st < (256 : Int)))
                                    (fun _ => br (decide (st < (8 : Int)))
                                      (fun _ => br (nameL st == nameL st)
                                        (fun _ => some (AV.bool true, H))
                                        (fun _ => some (AV.bool false, H)))
                                      (fun _ => br (nameL st == [])
                                        (fun _ => some (AV.bool false, H))
                                        (fun _ => some (AV.bool false, H))))
                                    (fun _ => none))
                                  (fun _ => br (decide ((0 : Int) ≤ st) && decide (st < (256 : Int)))
                                    (fun _ => br (decide (st < (8 : Int)))
                                      (fun _ => br ([] == nameL st)
                                        (fun _ => some (AV.bool false, H))
                                        (fun _ => some (AV.bool false, H)))
                                      (fun _ => some (AV.bool true, H)))
                                    (fun _ => none)))
                                (fun _ => none)))
                            (fun _ => none))
                          (fun _ => none))
                        (fun _ => none))
                      (fun _ => none))
                    (fun _ => none))
                  (fun _ => none)))
              (fun _ => none))
            (fun _ => none))
          (fun _ => none))
        (fun _ => none))
      (fun _ => none))
    (fun _ => none) := by kernel_rfl

theorem distinct_form (m : Array Value) (a b st i n c : Int) (al : Bool) (a' b' st' i' n' c' : Int) (al' : Bool) (H : AH) :
  callI (Rep.S m) tabQ 8 6 4 [.agg (stA a b st i n c al), .agg (stA a' b' st' i' n' c' al')] H some =
  br (decide ((0 : Int) ≤ st) && decide (st < (256 : Int)))
    (fun _ => br (decide ((-9223372036854775808 : Int) ≤ a) && decide (a ≤ (9223372036854775807 : Int)))
      (fun _ => br (decide ((-9223372036854775808 : Int) ≤ b) && decide (b ≤ (9223372036854775807 : Int)))
        (fun _ => br (decide ((-9223372036854775808 : Int) ≤ i) && decide (i ≤ (9223372036854775807 : Int)))
          (fun _ => br (decide ((-9223372036854775808 : Int) ≤ n) && decide (n ≤ (9223372036854775807 : Int)))
            (fun _ => br (decide ((-9223372036854775808 : Int) ≤ c) && decide (c ≤ (9223372036854775807 : Int)))
              (fun _ => br (decide (st < (8 : Int)))
                (fun _ => br (decide ((0 : Int) ≤ st') && decide (st' < (256 : Int)))
                  (fun _ => br (decide ((-9223372036854775808 : Int) ≤ a') && decide (a' ≤ (9223372036854775807 : Int)))
                    (fun _ => br (decide ((-9223372036854775808 : Int) ≤ b') && decide (b' ≤ (9223372036854775807 : Int)))
                      (fun _ => br (decide ((-9223372036854775808 : Int) ≤ i') && decide (i' ≤ (9223372036854775807 : Int)))
                        (fun _ => br (decide ((-9223372036854775808 : Int) ≤ n') && decide (n' ≤ (9223372036854775807 : Int)))
                          (fun _ => br (decide ((-9223372036854775808 : Int) ≤ c') && decide (c' ≤ (9223372036854775807 : Int)))
                            (fun _ => br (decide (st' < (8 : Int)))
                              (fun _ => br (!true == decide (st ≤ (7 : Int)))
                                (fun _ => some (AV.bool false, H))
                                (fun _ => br (!true == decide (st' ≤ (7 : Int)))
                                  (fun _ => some (AV.bool false, H))
                                  (fun _ => br ((lineL a b st i n c al == lineL a' b' st' i' n' c' al') ==
      (a == a' && (b == b' && (st == st' && (i == i' && (n == n' && (c == c' && (al == al' && true))))))))
                                    (fun _ => some (AV.bool true, H))
                                    (fun _ => some (AV.bool false, H)))))
                              (fun _ => br (!true == decide (st ≤ (7 : Int)))
                                (fun _ => some (AV.bool false, H))
                                (fun _ => br (!false == decide (st' ≤ (7 : Int)))
                                  (fun _ => some (AV.bool false, H))
                                  (fun _ => some (AV.bool true, H)))))
                            (fun _ => none))
                          (fun _ => none))
                        (fun _ => none))
                      (fun _ => none))
                    (fun _ => none))
                  (fun _ => none))
                (fun _ => br (decide ((0 : Int) ≤ st') && decide (st' < (256 : Int)))
                  (fun _ => br (decide ((-9223372036854775808 : Int) ≤ a') && decide (a' ≤ (9223372036854775807 : Int)))
                    (fun _ => br (decide ((-9223372036854775808 : Int) ≤ b') && decide (b' ≤ (9223372036854775807 : Int)))
                      (fun _ => br (decide ((-9223372036854775808 : Int) ≤ i') && decide (i' ≤ (9223372036854775807 : Int)))
                        (fun _ => br (decide ((-9223372036854775808 : Int) ≤ n') && decide (n' ≤ (9223372036854775807 : Int)))
                          (fun _ => br (decide ((-9223372036854775808 : Int) ≤ c') && decide (c' ≤ (9223372036854775807 : Int)))
                            (fun _ => br (decide (st' < (8 : Int)))
                              (fun _ => br (!false == decide (st ≤ (7 : Int)))
                                (fun _ => some (AV.bool false, H))
                                (fun _ => br (!true == decide (st' ≤ (7 : Int)))
                                  (fun _ => some (AV.bool false, H))
                                  (fun _ => some (AV.bool true, H))))
                              (fun _ => br (!false == decide (st ≤ (7 : Int)))
                                (fun _ => some (AV.bool false, H))
                                (fun _ => br (!false == decide (st' ≤ (7 : Int)))
                                  (fun _ => some (AV.bool false, H))
                                  (fun _ => some (AV.bool true, H)))))
                            (fun _ => none))
                          (fun _ => none))
                        (fun _ => none))
                      (fun _ => none))
                    (fun _ => none))
                  (fun _ => none)))
              (fun _ => none))
            (fun _ => none))
          (fun _ => none))
        (fun _ => none))
      (fun _ => none))
    (fun _ => none) := by kernel_rfl
-- PROOFS
theorem awake19 (m : Array Value) (H : AH) : callL (Rep.S m) 19 [] H = some (.bool true, H) := callL_I (tabNone _) (fuel := 8) (n := 8) (by kernel_rfl)

theorem tabQ_ok (m : Array Value) : TabOK (Rep.S m) tabQ := by
  intro f g hg args H R K r h
  unfold tabQ at hg
  split at hg
  · have hf := ‹(Nat.beq f 15 || Nat.beq f 16) = true›
    obtain rfl := Option.some.inj hg
    simp only at h
    split at h
    · rename_i a b st i n c al
      obtain ⟨h1, h⟩ := brb h
      simp only [Bool.and_eq_true, decide_eq_true_eq] at h1
      obtain ⟨ha, h⟩ := brb h
      obtain ⟨hb, h⟩ := brb h
      obtain ⟨hi, h⟩ := brb h
      obtain ⟨hn, h⟩ := brb h
      obtain ⟨hc, h⟩ := brb h
      simp only [Bool.and_eq_true, decide_eq_true_eq] at ha hb hi hn hc
      refine ⟨(lineV a b st i n c al, H), ?_, ?_⟩
      · rw [Bool.or_eq_true] at hf
        rcases hf with hf | hf
        · obtain rfl := Nat.eq_of_beq_eq_true hf
          exact line15 m ha hb h1.1 h1.2 hi hn hc H
        · obtain rfl := Nat.eq_of_beq_eq_true hf
          exact line16 m ha hb h1.1 h1.2 hi hn hc H
      · unfold lineV
        simp only [br_eq, decide_eq_true_eq] at h
        split at h
        · rename_i h8
          rw [if_pos h8]; exact h
        · rename_i h8
          rw [if_neg h8]; exact h
    · simp at h
  · have hf := ‹(Nat.beq f 17 || Nat.beq f 18) = true›
    obtain rfl := Option.some.inj hg
    simp only at h
    split at h
    · rename_i st
      obtain ⟨h1, h2⟩ := brb h
      simp only [Bool.and_eq_true, decide_eq_true_eq] at h1
      refine ⟨(stateV st, H), ?_, ?_⟩
      · rw [Bool.or_eq_true] at hf
        rcases hf with hf | hf
        · obtain rfl := Nat.eq_of_beq_eq_true hf
          exact state17 m h1.1 h1.2 H
        · obtain rfl := Nat.eq_of_beq_eq_true hf
          exact state18 m h1.1 h1.2 H
      unfold stateV
      simp only [br_eq, decide_eq_true_eq] at h2
      split at h2
      · rename_i h8
        rw [if_pos h8]; exact h2
      · rename_i h8
        rw [if_neg h8]; exact h2
    · simp at h
  · have hf : f = 19 := Nat.eq_of_beq_eq_true ‹Nat.beq f 19 = true›
    subst hf
    obtain rfl := Option.some.inj hg
    simp only at h
    split at h
    · exact ⟨_, awake19 m H, h⟩
    · simp at h
  · simp at hg

theorem inRb {n : Int} (h : inR n) : (decide ((-9223372036854775808 : Int) ≤ n) && decide (n ≤ (9223372036854775807 : Int))) = true := by
  simp only [Bool.and_eq_true, decide_eq_true_eq]; exact h
theorem inB {st : Int} (h0 : 0 ≤ st) (h1 : st < 256) : (decide ((0 : Int) ≤ st) && decide (st < (256 : Int))) = true := by
  simp only [Bool.and_eq_true, decide_eq_true_eq]; exact ⟨h0, h1⟩

theorem lines_law (m : Array Value) {a b st i n c : Int} {al : Bool} (ha : inR a) (hb : inR b) (h0 : 0 ≤ st) (h1 : st < 256) (hi : inR i) (hn : inR n) (hc : inR c) (H : AH) : callL (Rep.S m) 3 [.agg (stA a b st i n c al)] H = some (.bool true, H) := by
  refine callL_I (tabQ_ok m) (fuel := 8) (n := 6) ?_
  rw [lines_form, inB h0 h1, inRb ha, inRb hb, inRb hi, inRb hn, inRb hc]
  by_cases h8 : st < 8
  · rw [decide_eq_true h8]
    simp [br]
  · rw [decide_eq_false h8]
    simp [br]
-- DEFS
end Go.Proofs.YtoagnbpmoihojaaDoor

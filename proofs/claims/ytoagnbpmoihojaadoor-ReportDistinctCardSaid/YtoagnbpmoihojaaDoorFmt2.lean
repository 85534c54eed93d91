/- token.Format and the reference's answer the same, on unknown tokens. -/
import Derived.Test.YtoagnbpmoihojaaDoorFmt
set_option maxRecDepth 100000
set_option linter.unusedSimpArgs false
set_option linter.unusedVariables false
namespace Go.Proofs.YtoagnbpmoihojaaDoor
open Go.Sx

def fmtS (a b c : Int) : List UInt8 := if checkE a b c = 0 then Lib.decDigits a.toNat ++ [47] ++ Lib.decDigits b.toNat ++ [47] ++ Lib.decDigits c.toNat else []

theorem check_ok {a b c : Int} (h : checkE a b c = 0) : 0 ≤ a ∧ a ≤ 2147483648 ∧ 0 ≤ b ∧ b ≤ 3 ∧ 1 ≤ c ∧ c ≤ 1099511627776 := by
  unfold checkE at h
  split at h
  · simp at h
  · omega

theorem check_of {a b c : Int} (h0 : 0 ≤ a) (h1 : a ≤ 2147483648) (h2 : 0 ≤ b) (h3 : b ≤ 3) (h4 : 1 ≤ c) (h5 : c ≤ 1099511627776) : checkE a b c = 0 := by
  unfold checkE
  rw [if_neg (by omega)]

theorem check_or (a b c : Int) : checkE a b c = 0 ∨ checkE a b c = 3 := by
  unfold checkE
  split <;> simp

theorem dec_length : ∀ (k n : Nat), n < 10 ^ (k + 1) → (Lib.decDigits n).length ≤ k + 1
  | 0, n, h => by rw [Lib.decDigits, dif_pos (by simpa using h)]; simp
  | k + 1, n, h => by
    rw [Lib.decDigits]
    split
    · simp
    · have := dec_length k (n / 10) (by rw [Nat.pow_succ] at h; omega)
      simp only [List.length_append, List.length_singleton]
      omega

theorem itoa_dec {a : Int} (h0 : 0 ≤ a) (h1 : a ≤ 9223372036854775807) : itoaL a = Lib.decDigits a.toNat := by
  rw [itoaL_eq a (by omega) h1]
  unfold Lib.itoa
  rw [if_neg (by omega)]

theorem fmt29_form (m : Array Value) (a b c : Int) (H : AH) : callI (Tryd.S m) tabF 6 4 29 [tok a b c] H some =
    br (checkE a b c != 0) (fun _ => some (.tuple [.str [], .int .i64 (checkE a b c)], H))
    (fun _ => br (decide (-9223372036854775808 ≤ a)) (fun _ => br (decide (a ≤ 9223372036854775807)) (fun _ => br (decide (-9223372036854775808 ≤ b)) (fun _ => br (decide (b ≤ 9223372036854775807))
    (fun _ => br (decide (-9223372036854775808 ≤ c)) (fun _ => br (decide (c ≤ 9223372036854775807)) (fun _ => br (decide ((joinL [47] [itoaL a, itoaL b, itoaL c]).length ≤ 140737488355328))
      (fun _ => some (.tuple [.str (joinL [47] [itoaL a, itoaL b, itoaL c]), .int .i64 0], H))
      (fun _ => none)) (fun _ => none)) (fun _ => none)) (fun _ => none)) (fun _ => none)) (fun _ => none)) (fun _ => none)) := by kernel_rfl

theorem fmt30_form (m : Array Value) (a b c : Int) (H : AH) : callI (Tryd.S m) tabF 6 4 30 [tok a b c] H some =
    br (checkE a b c != 0) (fun _ => some (.tuple [.str [], .int .i64 (checkE a b c)], H))
    (fun _ => br (decide (0 ≤ a)) (fun _ => br (decide (a < 1000000000000000000)) (fun _ => if (Lib.decDigits a.toNat).length + [(47 : UInt8)].length ≤ 9223372036854775807 then
      br (decide (0 ≤ b)) (fun _ => br (decide (b < 1000000000000000000)) (fun _ => if (Lib.decDigits a.toNat ++ [(47 : UInt8)]).length + (Lib.decDigits b.toNat).length ≤ 9223372036854775807 then
        (if (Lib.decDigits a.toNat ++ [(47 : UInt8)] ++ Lib.decDigits b.toNat).length + [(47 : UInt8)].length ≤ 9223372036854775807 then
          br (decide (0 ≤ c)) (fun _ => br (decide (c < 1000000000000000000)) (fun _ => if (Lib.decDigits a.toNat ++ [(47 : UInt8)] ++ Lib.decDigits b.toNat ++ [47]).length + (Lib.decDigits c.toNat).length ≤ 9223372036854775807 then
            some (.tuple [.str (Lib.decDigits a.toNat ++ [(47 : UInt8)] ++ Lib.decDigits b.toNat ++ [47] ++ Lib.decDigits c.toNat), .int .i64 0], H) else none) (fun _ => none)) (fun _ => none) else none) else none)
        (fun _ => none)) (fun _ => none) else none) (fun _ => none)) (fun _ => none)) := by kernel_rfl

theorem bits_ok {a b c : Int} (h : checkE a b c = 0) : (Lib.decDigits a.toNat).length ≤ 11 ∧ (Lib.decDigits b.toNat).length ≤ 1 ∧ (Lib.decDigits c.toNat).length ≤ 14 := by
  have := check_ok h
  exact ⟨dec_length 10 _ (by omega), dec_length 0 _ (by omega), dec_length 13 _ (by omega)⟩

theorem fmt29 (m : Array Value) (a b c : Int) (H : AH) : callL (Tryd.S m) 29 [tok a b c] H = some (.tuple [.str (fmtS a b c), .int .i64 (checkE a b c)], H) := by
  refine callL_I (tabF_ok m) (fuel := 6) (n := 4) ?_
  rw [fmt29_form]
  unfold fmtS
  by_cases h : checkE a b c = 0
  · have h1 := check_ok h
    have h2 := bits_ok h
    have e : joinL [47] [itoaL a, itoaL b, itoaL c] = Lib.decDigits a.toNat ++ [47] ++ Lib.decDigits b.toNat ++ [47] ++ Lib.decDigits c.toNat := by
      rw [itoa_dec (by omega) (by omega), itoa_dec (by omega) (by omega), itoa_dec (by omega) (by omega)]
      simp [joinL]
    rw [e]
    simp only [br_eq, decide_eq_true_eq, h, bne_self_eq_false, Bool.false_eq_true, if_false, if_true]
    rw [if_pos (by omega), if_pos (by omega), if_pos (by omega), if_pos (by omega), if_pos (by omega), if_pos (by omega), if_pos (by simp only [List.length_append, List.length_singleton]; omega)]
  · have : (checkE a b c != 0) = true := by simpa using h
    rw [this]
    simp only [br, h, if_false]

theorem fmt30 (m : Array Value) (a b c : Int) (H : AH) : callL (Tryd.S m) 30 [tok a b c] H = some (.tuple [.str (fmtS a b c), .int .i64 (checkE a b c)], H) := by
  refine callL_I (tabF_ok m) (fuel := 6) (n := 4) ?_
  rw [fmt30_form]
  unfold fmtS
  by_cases h : checkE a b c = 0
  · have h1 := check_ok h
    have h2 := bits_ok h
    simp only [br_eq, decide_eq_true_eq, h, bne_self_eq_false, Bool.false_eq_true, if_false, if_true]
    rw [if_pos (by omega), if_pos (by omega), if_pos (by simp only [List.length_append, List.length_singleton]; omega), if_pos (by omega), if_pos (by omega), if_pos (by simp only [List.length_append, List.length_singleton]; omega), if_pos (by simp only [List.length_append, List.length_singleton]; omega), if_pos (by omega), if_pos (by omega), if_pos (by simp only [List.length_append, List.length_singleton]; omega)]
  · have : (checkE a b c != 0) = true := by simpa using h
    rw [this]
    simp only [br, h, if_false]

/-- What is answered ahead in the laws: Format, Check, Less, awake. -/
def tabM : TabT := fun f => match Nat.beq f 29 || Nat.beq f 30, Nat.beq f 31 || Nat.beq f 32, Nat.beq f 33 || Nat.beq f 34, Nat.beq f 35 with
  | true, _, _, _ => some fun args H _ K => match args with
    | [.agg [.int .i64 a, .int .i64 b, .int .i64 c]] => K (.tuple [.str (fmtS a b c), .int .i64 (checkE a b c)], H)
    | _ => none
  | _, true, _, _ => some fun args H _ K => match args with
    | [.agg [.int .i64 a, .int .i64 b, .int .i64 c]] => K (.int .i64 (checkE a b c), H)
    | _ => none
  | _, _, true, _ => some fun args H _ K => match args with
    | [.agg [.int .i64 a, .int .i64 b, .int .i64 c], .agg [.int .i64 d, .int .i64 e, .int .i64 g]] => K (.bool (lessE a b c d e g), H)
    | _ => none
  | _, _, _, true => some fun args H _ K => match args with
    | [] => K (.bool true, H)
    | _ => none
  | _, _, _, _ => none

theorem tabM_ok (m : Array Value) : TabOK (Tryd.S m) tabM := by
  intro f g hg args H R K r h
  unfold tabM at hg
  split at hg
  · have hf := ‹(Nat.beq f 29 || Nat.beq f 30) = true›
    obtain rfl := Option.some.inj hg
    simp only at h
    split at h
    · rename_i a b c
      refine ⟨_, ?_, h⟩
      rw [Bool.or_eq_true] at hf
      rcases hf with hf | hf
      · obtain rfl := Nat.eq_of_beq_eq_true hf
        exact fmt29 m a b c H
      · obtain rfl := Nat.eq_of_beq_eq_true hf
        exact fmt30 m a b c H
    · cases h
  · have hf := ‹(Nat.beq f 31 || Nat.beq f 32) = true›
    obtain rfl := Option.some.inj hg
    simp only at h
    split at h
    · rename_i a b c
      refine ⟨_, ?_, h⟩
      rw [Bool.or_eq_true] at hf
      rcases hf with hf | hf
      · obtain rfl := Nat.eq_of_beq_eq_true hf
        exact check31 m a b c H
      · obtain rfl := Nat.eq_of_beq_eq_true hf
        exact check32 m a b c H
    · cases h
  · have hf := ‹(Nat.beq f 33 || Nat.beq f 34) = true›
    obtain rfl := Option.some.inj hg
    simp only at h
    split at h
    · rename_i a b c d e g
      refine ⟨_, ?_, h⟩
      rw [Bool.or_eq_true] at hf
      rcases hf with hf | hf
      · obtain rfl := Nat.eq_of_beq_eq_true hf
        exact less33 m a b c d e g H
      · obtain rfl := Nat.eq_of_beq_eq_true hf
        exact less34 m a b c d e g H
    · cases h
  · have hf : f = 35 := Nat.eq_of_beq_eq_true ‹Nat.beq f 35 = true›
    subst hf
    obtain rfl := Option.some.inj hg
    simp only at h
    split at h
    · exact ⟨_, awake35 m H, h⟩
    · cases h
  · cases hg
end Go.Proofs.YtoagnbpmoihojaaDoor

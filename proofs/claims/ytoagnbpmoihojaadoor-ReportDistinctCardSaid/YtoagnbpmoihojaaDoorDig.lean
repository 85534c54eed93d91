/- The reference's Digits: decimal digits. -/
import Derived.Test.YtoagnbpmoihojaaDoorLess
import Derived.Test.YtoagnbpmoihojaaDoorEi
set_option maxRecDepth 100000
set_option linter.unusedSimpArgs false
set_option linter.unusedVariables false
namespace Go.Proofs.YtoagnbpmoihojaaDoor
open Go.Sx

theorem wrap64 {n : Int} (h0 : -9223372036854775808 ≤ n) (h1 : n ≤ 9223372036854775807) : IntKind.i64.wrap n = n := by
  have e1 : (2 : Int) ^ (64 - 1) = 9223372036854775808 := by decide
  have e2 : (2 : Int) ^ 64 = 18446744073709551616 := by decide
  simp only [IntKind.wrap, IntKind.bits, IntKind.signed, Bool.true_and, decide_eq_true_eq, e1, e2]
  split <;> omega
theorem wrap8 {n : Int} (h0 : 0 ≤ n) (h1 : n < 256) : IntKind.u8.wrap n = n := by
  simp only [IntKind.wrap, IntKind.bits, IntKind.signed, Bool.false_and, Bool.false_eq_true, if_false]
  omega

def digS (n : Int) (s : List UInt8) : List AV := [.int .i64 n, .top, .str [], .str s] ++ List.replicate 19 .top

theorem dig_pre (m : Array Value) (n : Int) : runV (Tryd.S m) noCall (loopL 1) Tryd.f50 [.int .i64 n] ⟨[], []⟩ = loopAt (Tryd.S m) noCall (loopL 1) Tryd.f50 [1, 1, 0, 0] (digS n []) ⟨[], []⟩ := by kernel_rfl

theorem dig_round (m : Array Value) (n : Int) (s : List UInt8) : roundOf (Tryd.S m) noCall (loopL 1) Tryd.f50 [1, 1, 0, 0] (digS n s) ⟨[], []⟩ =
    br (decide (n > 9))
      (fun _ => (if [UInt8.ofNat (IntKind.u8.wrap (IntKind.i64.wrap (48 + n.tmod 10))).toNat].length + s.length ≤ 9223372036854775807 then some
        (Ex.normal,
          [AV.int IntKind.i64 (IntKind.i64.wrap (n.tdiv 10)), AV.top, AV.str [],
            AV.str (UInt8.ofNat (IntKind.u8.wrap (IntKind.i64.wrap (48 + n.tmod 10))).toNat :: s), AV.int IntKind.i64 n,
            AV.bool (decide (n > 9)), AV.int IntKind.i64 n, AV.int IntKind.i64 (n.tmod 10),
            AV.int IntKind.i64 (IntKind.i64.wrap (48 + n.tmod 10)),
            AV.int IntKind.u8 (IntKind.u8.wrap (IntKind.i64.wrap (48 + n.tmod 10))),
            AV.inl true Spare.zero 1 [AV.int IntKind.u8 (IntKind.u8.wrap (IntKind.i64.wrap (48 + n.tmod 10)))],
            AV.str [UInt8.ofNat (IntKind.u8.wrap (IntKind.i64.wrap (48 + n.tmod 10))).toNat], AV.str s,
            AV.str (UInt8.ofNat (IntKind.u8.wrap (IntKind.i64.wrap (48 + n.tmod 10))).toNat :: s), AV.int IntKind.i64 n,
            AV.int IntKind.i64 (IntKind.i64.wrap (n.tdiv 10)), AV.top, AV.top, AV.top, AV.top, AV.top, AV.top, AV.top],
          { objs := [], toks := [] })
        else none))
      (fun _ => some
        (Ex.exit 0,
          [AV.int IntKind.i64 n, AV.top, AV.str [], AV.str s, AV.int IntKind.i64 n, AV.bool (decide (n > 9)), AV.top, AV.top,
            AV.top, AV.top, AV.top, AV.top, AV.top, AV.top, AV.top, AV.top, AV.top, AV.top, AV.top, AV.top, AV.top, AV.top,
            AV.top],
          { objs := [], toks := [] })) := by kernel_rfl

theorem dig_after (m : Array Value) (n : Int) (s : List UInt8) : afterAt (Tryd.S m) noCall (loopL 1) Tryd.f50 [1, 1, 0, 0] (.exit 0, digS n s, ⟨[], []⟩) =
    if [UInt8.ofNat (IntKind.u8.wrap (IntKind.i64.wrap (48 + n))).toNat].length + s.length ≤ 9223372036854775807 then some (.str (UInt8.ofNat (IntKind.u8.wrap (IntKind.i64.wrap (48 + n))).toNat :: s)) else none := by kernel_rfl

theorem dig_loop (m : Array Value) : ∀ (k : Nat) (n : Nat) (s : List UInt8), n < 10 ^ (k + 1) → k ≤ 17 → s.length + k ≤ 1000 →
    ∃ (n' : Nat) (s' : List UInt8), loopL 1 (roundOf (Tryd.S m) noCall (loopL 1) Tryd.f50 [1, 1, 0, 0]) (digS n s) ⟨[], []⟩ = some (.exit 0, digS n' s', ⟨[], []⟩) ∧ n' < 10 ∧ s'.length ≤ 1000 ∧ digitOf n' :: s' = Lib.decDigits n ++ s := by
  intro k
  induction k with
  | zero =>
    intro n s hn hk hs
    have h10 : n < 10 := by simpa using hn
    refine ⟨n, s, ?_, h10, by omega, by rw [Lib.decDigits, dif_pos h10]; rfl⟩
    have := loopL_exit (room := 1) ((dig_round m n s).trans (by
      have : decide ((n : Int) > 9) = false := decide_eq_false (by omega)
      rw [this]; rfl))
    exact this
  | succ k ih =>
    intro n s hn hk hs
    by_cases h10 : n < 10
    · refine ⟨n, s, ?_, h10, by omega, by rw [Lib.decDigits, dif_pos h10]; rfl⟩
      have := loopL_exit (room := 1) ((dig_round m n s).trans (by
        have : decide ((n : Int) > 9) = false := decide_eq_false (by omega)
        rw [this]; rfl))
      exact this
    · have hbig : n < 10 ^ 19 := Nat.lt_of_lt_of_le hn (Nat.pow_le_pow_right (by omega) (by omega))
      obtain ⟨n', s', h1, h2, h3, h4⟩ := ih (n / 10) (digitOf (n % 10) :: s) (by rw [Nat.pow_succ] at hn; omega) (by omega) (by simp; omega)
      refine ⟨n', s', ?_, h2, h3, ?_⟩
      · have e1 : (n : Int).tmod 10 = ((n % 10 : Nat) : Int) := by
          rw [Int.tmod_eq_emod_of_nonneg (by omega)]; rfl
        have e2 : (n : Int).tdiv 10 = ((n / 10 : Nat) : Int) := by
          rw [Int.tdiv_eq_ediv_of_nonneg (by omega)]; rfl
        have e3 : UInt8.ofNat (IntKind.u8.wrap (IntKind.i64.wrap (48 + ((n % 10 : Nat) : Int)))).toNat = digitOf (n % 10) := by
          rw [wrap64 (by omega) (by omega), wrap8 (by omega) (by omega)]
          unfold digitOf
          congr 1
        refine @loopL_next 1 _ _ ?s1 _ ?H1 _ ((dig_round m n s).trans ?h1) ?h2
        case h1 =>
          rw [show decide ((n : Int) > 9) = true from decide_eq_true (by omega)]
          simp only [br]
          rw [if_pos (by simp; omega)]
        case h2 =>
          rw [e1, e2, e3, wrap64 (n := ((n / 10 : Nat) : Int)) (by omega) (by omega)]
          exact h1
      · rw [h4]
        conv => rhs; rw [Lib.decDigits, dif_neg h10]
        simp [digitOf]

theorem digits50 (m : Array Value) (n : Nat) (hn : n < 10 ^ 18) (H : AH) : callL (Tryd.S m) 50 [.int .i64 n] H = some (.str (Lib.decDigits n), H) := by
  obtain ⟨n', s', h1, h2, h3, h4⟩ := dig_loop m 17 n [] hn (Nat.le_refl _) (by simp)
  refine callL_valL (c := noCall) ⟨fun _ _ _ _ h => by simp [noCall] at h, fun _ _ _ _ h => by simp [noCall] at h⟩ (fn := Tryd.f50) (by kernel_rfl) (by kernel_rfl) (by kernel_rfl) (ts := [.int .i64 n]) rfl (v := .str (Lib.decDigits n)) ?_ rfl
  refine (dig_pre m n).trans ?_
  rw [loopAt_eq h1, dig_after, if_pos (by simp; omega)]
  rw [wrap64 (by omega) (by omega), wrap8 (by omega) (by omega)]
  have : UInt8.ofNat (48 + (n' : Int)).toNat = digitOf n' := by unfold digitOf; congr 1
  rw [this, h4, List.append_nil]
end Go.Proofs.YtoagnbpmoihojaaDoor

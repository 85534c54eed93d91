/- Texts as lists of bytes: decimal numerals, pieces between slashes; and what the library's words for them are. -/
import Derived.Test.YtoagnbpmoihojaaDoorSxLaw
import Derived.Lib.SplitLaws
import Derived.Lib.Split
import Derived.Lib.Join
import Derived.Lib.ItoaNum
set_option linter.unusedSimpArgs false
set_option linter.unusedVariables false
namespace Go.Sx

def digitOf (n : Nat) : UInt8 := UInt8.ofNat (48 + n)

/-- Decimal digits, with fuel. -/
def decL : Nat → Nat → List UInt8 → List UInt8
  | 0, _, acc => acc
  | k + 1, n, acc => match Nat.blt n 10 with
    | true => digitOf n :: acc
    | false => decL k (n / 10) (digitOf (n % 10) :: acc)

theorem decL_eq : ∀ (k n : Nat) (acc : List UInt8), n < 10 ^ k → 0 < k → decL k n acc = Lib.decDigits n ++ acc
  | 0, n, acc, h, hk => absurd hk (Nat.lt_irrefl _)
  | k + 1, n, acc, h, _ => by
    unfold decL
    rw [Lib.decDigits]
    by_cases h10 : n < 10
    · have : Nat.blt n 10 = true := by simpa [Nat.blt_eq] using h10
      rw [this, dif_pos h10]
      rfl
    · have hb : Nat.blt n 10 = false := by
        rw [← Bool.not_eq_true, Nat.blt_eq]; exact h10
      rw [hb, dif_neg h10]
      simp only
      have hk : 0 < k := by
        rcases Nat.eq_zero_or_pos k with rfl | h'
        · simp at h; omega
        · exact h'
      rw [decL_eq k (n / 10) _ (by rw [Nat.pow_succ] at h; omega) hk]
      simp [digitOf]

def itoaL (n : Int) : List UInt8 := match n with
  | .ofNat m => decL 30 m []
  | .negSucc m => 45 :: decL 30 (m + 1) []

theorem itoaL_eq (n : Int) (h0 : -9223372036854775808 ≤ n) (h1 : n ≤ 9223372036854775807) : itoaL n = Lib.itoa n := by
  unfold itoaL Lib.itoa
  cases n with
  | ofNat m =>
    rw [if_neg (by have := Int.natCast_nonneg m; simp only [Int.ofNat_eq_natCast]; omega)]
    simp only
    rw [decL_eq 30 m [] (by simp only [Int.ofNat_eq_natCast] at h1; omega) (by omega)]
    simp
  | negSucc m =>
    rw [if_pos (by omega)]
    simp only
    rw [decL_eq 30 (m + 1) [] (by omega) (by omega)]
    simp

/-- The pieces between the bytes c. -/
def splitL (c : UInt8) : List UInt8 → List (List UInt8)
  | [] => [[]]
  | b :: s => match b == c with
    | true => [] :: splitL c s
    | false => match splitL c s with
      | p :: r => (b :: p) :: r
      | [] => [[b]]

theorem splitL_ne (c : UInt8) : ∀ s, splitL c s ≠ []
  | [] => by simp [splitL]
  | b :: s => by
    unfold splitL
    cases b == c with
    | true => simp
    | false =>
      simp only
      split <;> simp

theorem splitL_length (c : UInt8) : ∀ s, (splitL c s).length = s.count c + 1
  | [] => by simp [splitL]
  | b :: s => by
    unfold splitL
    have ih := splitL_length c s
    rw [List.count_cons]
    cases hb : b == c with
    | true => simp [ih]
    | false =>
      simp only
      split
      · rename_i p r h
        rw [h] at ih
        simpa using ih
      · rename_i h
        exact absurd h (splitL_ne c s)

theorem index_cons (c b : UInt8) (l : List UInt8) : Lib.index (b :: l) [c] = if b == c then 0 else if Lib.index l [c] == -1 then -1 else Lib.index l [c] + 1 := by
  rw [Lib.index]
  have : List.isPrefixOf [c] (b :: l) = (b == c) := by
    simp only [List.isPrefixOf, Bool.and_true]
    exact BEq.comm
  rw [this]

theorem splitK_eq (c : UInt8) : ∀ s : List UInt8, Lib.splitK [c] 0 (s.count c) s = splitL c s
  | [] => by simp [splitL, Lib.splitK]
  | b :: l => by
    have ih := splitK_eq c l
    unfold splitL
    rw [List.count_cons]
    cases hb : b == c with
    | true =>
      simp only [if_true]
      rw [Lib.splitK, index_cons, hb]
      simp [ih]
    | false =>
      simp only
      rw [← ih]
      cases hk : List.count c l with
      | zero => simp [Lib.splitK]
      | succ k =>
        simp only [Bool.false_eq_true, if_false, Nat.add_zero]
        rw [Lib.splitK, Lib.splitK, index_cons, hb]
        have hge := Lib.index_ge l [c]
        by_cases hi : Lib.index l [c] = -1
        · simp [hi]
        · obtain ⟨i, hi'⟩ : ∃ i : Nat, Lib.index l [c] = i := ⟨(Lib.index l [c]).toNat, by omega⟩
          have e1 : ¬ ((i : Int) + 1 = -1) := by omega
          have e2 : ((i : Int) + 1).toNat = i + 1 := by omega
          simp [hi', e1, e2]

theorem splitB_eq (c : UInt8) (s : List UInt8) : (Lib.splitB ⟨#[c]⟩ 0 (Lib.countB ⟨s.toArray⟩ ⟨#[c]⟩) ⟨s.toArray⟩).map (·.data.toList) = splitL c s := by
  rw [Lib.splitB_data]
  show Lib.splitK [c] 0 (Lib.count s [c]) s = _
  rw [Lib.count_one, splitK_eq]

/-- Memory that has only grown. -/
theorem still_below {H : AH} {E : GE} (hr : HRel H E) {w' : World} (hb : RowKit.Below E.w.heap.size E.w w') : E.le (E.at w') ∧ HRel H (E.at w') := by
  have hsame : ∀ b, E.owned b ∨ (∃ o, E.S b o) → w'.heap[b]? = E.w.heap[b]? := by
    intro b h
    refine hb.block b ?_
    rcases h with h | ⟨o, h⟩
    · exact hr.lt b h
    · exact hr.Slt b o h
  obtain ⟨p, h⟩ := hr.still hsame hb.size
  refine ⟨⟨p, rfl, fun b o h => .inl h, fun b _ h => h, hb.os, hb.tape, hb.output, hb.size, fun b hlt _ => hb.block b hlt⟩, h⟩

end Go.Sx

/- token.number and the reference's, on unknown texts. -/
import Derived.Test.YtoagnbpmoihojaaDoorFmt2
set_option maxRecDepth 100000
set_option linter.unusedSimpArgs false
set_option linter.unusedVariables false
namespace Go.Proofs.YtoagnbpmoihojaaDoor
open Go.Sx

/-- What the digits say, from n on. -/
def numL : List UInt8 → Int → Option Int
  | [], n => some n
  | u :: r, n => if u.toNat < 48 ∨ u.toNat > 57 then none else numL r (min (10 * n + ((u.toNat : Int) - 48)) 2199023255552)

def numE : List UInt8 → Option Int
  | [] => none
  | b :: r => if b.toNat = 48 ∧ r ≠ [] then none else numL (b :: r) 0

def numV : Option Int → AV
  | some n => .tuple [.int .i64 n, .bool true]
  | none => .tuple [.int .i64 0, .bool false]

def nst (n : Int) (c : Int) : Int := if 2199023255552 < IntKind.i64.wrap (IntKind.i64.wrap (10 * n) + IntKind.i64.wrap c) then 2199023255552 else IntKind.i64.wrap (IntKind.i64.wrap (10 * n) + IntKind.i64.wrap c)

theorem nst_eq {n c : Int} (h0 : 0 ≤ n) (h1 : n ≤ 2199023255552) (h2 : 0 ≤ c) (h3 : c ≤ 9) : nst n c = min (10 * n + c) 2199023255552 := by
  unfold nst
  rw [wrap64 (n := c) (by omega) (by omega), wrap64 (n := 10 * n) (by omega) (by omega), wrap64 (by omega) (by omega)]
  split <;> omega

theorem wrap32 {n : Int} (h0 : -2147483648 ≤ n) (h1 : n ≤ 2147483647) : IntKind.i32.wrap n = n := by
  have e1 : (2 : Int) ^ (32 - 1) = 2147483648 := by decide
  have e2 : (2 : Int) ^ 32 = 4294967296 := by decide
  simp only [IntKind.wrap, IntKind.bits, IntKind.signed, Bool.true_and, decide_eq_true_eq, e1, e2]
  split <;> omega

/-! The reference's: by index. -/
def num54S (b : UInt8) (r : List UInt8) (n i : Int) : List AV := [.str (b :: r), .top, .int .i64 0, .bool false, .int .i64 n, .int .i64 i, .str (b :: r), .bool false, .bool false, .str (b :: r), .int .u8 b.toNat, .bool ((b.toNat : Int) == 48), .bool false, .tuple [], .tuple [], .tuple [], .bool false, .bool false, .top, .top, .top, .top, .top, .top, .top, .top, .top, .top, .top, .top, .top, .top, .top, .top, .top, .top, .top, .top, .top, .top, .top, .top, .top, .top]
noncomputable def l54 (m : Array Value) {R : Type} (fuel k : Nat) (b : UInt8) (r : List UInt8) (n i : Int) (K : AV → AH → Option R) : Option R := loopI (Tryd.S m) noC fuel Tryd.f54 [1, 1, 1, 0, 1, 0] k (num54S b r n i) ⟨[], []⟩ K

theorem pre54 (m : Array Value) {R : Type} (fuel : Nat) (b : UInt8) (r : List UInt8) (K : AV → AH → Option R) : runI (Tryd.S m) noC fuel Tryd.f54 [.str (b :: r)] ⟨[], []⟩ K =
    br ((b.toNat : Int) == 48) (fun _ => br (decide (((b :: r).length : Int) > 1)) (fun _ => K (.tuple [.int .i64 0, .bool false]) ⟨[], []⟩)
      (fun _ => loopI (Tryd.S m) noC fuel Tryd.f54 [1, 1, 1, 0, 1, 0] fuel [.str (b :: r), .top, .int .i64 0, .bool false, .int .i64 0, .int .i64 0, .str (b :: r), .bool false, .bool false, .str (b :: r), .int .u8 b.toNat, .bool ((b.toNat : Int) == 48), .bool true, .str (b :: r),
          .int .i64 (b :: r).length, .bool (decide (((b :: r).length : Int) > 1)), .bool (decide (((b :: r).length : Int) > 1)), .bool (decide (((b :: r).length : Int) > 1)), .top, .top, .top, .top, .top, .top, .top, .top, .top, .top, .top, .top, .top, .top, .top, .top, .top, .top, .top, .top, .top, .top, .top, .top, .top, .top] ⟨[], []⟩ K))
      (fun _ => l54 m fuel fuel b r 0 0 K) := by kernel_rfl

theorem step54 (m : Array Value) {R : Type} (fuel k : Nat) (b : UInt8) (r : List UInt8) (n i : Int) (K : AV → AH → Option R) : l54 m fuel (k + 1) b r n i K =
    br (decide (i < ((b :: r).length : Int))) (fun _ => if 0 ≤ i then (match (b :: r)[i.toNat]? with
      | some u => br (decide ((u.toNat : Int) < 48)) (fun _ => K (.tuple [.int .i64 0, .bool false]) ⟨[], []⟩)
        (fun _ => if 0 ≤ i then (match (b :: r)[i.toNat]? with
          | some u2 => br (decide ((u2.toNat : Int) > 57)) (fun _ => K (.tuple [.int .i64 0, .bool false]) ⟨[], []⟩)
            (fun _ => if 0 ≤ i then (match (b :: r)[i.toNat]? with
              | some u3 => l54 m fuel k b r (nst n (IntKind.u8.wrap ((u3.toNat : Int) - 48))) (IntKind.i64.wrap (i + 1)) K
              | none => none) else none)
          | none => none) else none)
      | none => none) else none)
    (fun _ => K (.tuple [.int .i64 n, .bool true]) ⟨[], []⟩) := by kernel_rfl

theorem loop54 (m : Array Value) {R : Type} (fuel : Nat) (b : UInt8) (r : List UInt8) (hlen : (b :: r).length ≤ 1000000) (K : AV → AH → Option R) : ∀ (t pre : List UInt8) (n : Int) (k : Nat), b :: r = pre ++ t → t.length < k → 0 ≤ n → n ≤ 2199023255552 →
    l54 m fuel k b r n pre.length K = K (numV (numL t n)) ⟨[], []⟩
  | [], pre, n, 0, hs, hk, h0, h1 => by simp at hk
  | u :: t, pre, n, 0, hs, hk, h0, h1 => by simp at hk
  | [], pre, n, k + 1, hs, hk, h0, h1 => by
    rw [step54]
    have : decide ((pre.length : Int) < ((b :: r).length : Int)) = false := by
      rw [hs]; simp
    rw [this]
    rfl
  | u :: t, pre, n, k + 1, hs, hk, h0, h1 => by
    rw [step54]
    have hl : (b :: r).length = pre.length + (t.length + 1) := by rw [hs]; simp
    have h2 : decide ((pre.length : Int) < ((b :: r).length : Int)) = true := by
      rw [hl]; simp; omega
    have h3 : (b :: r)[(pre.length : Int).toNat]? = some u := by
      rw [hs]; simp
    have h4 : (0 : Int) ≤ pre.length := by omega
    rw [h2]
    simp only [br, if_pos h4, h3]
    unfold numL
    by_cases c1 : u.toNat < 48
    · have : decide ((u.toNat : Int) < 48) = true := by simpa using (by omega : (u.toNat : Int) < 48)
      rw [this, if_pos (.inl c1)]
      rfl
    · have e1 : decide ((u.toNat : Int) < 48) = false := by simp; omega
      rw [e1]
      simp only
      by_cases c2 : u.toNat > 57
      · have : decide ((u.toNat : Int) > 57) = true := by simp; omega
        rw [this, if_pos (.inr c2)]
        rfl
      · have e2 : decide ((u.toNat : Int) > 57) = false := by simp; omega
        rw [e2, if_neg (by omega)]
        simp only
        rw [wrap8 (by omega) (by omega), wrap64 (by omega) (by omega), nst_eq h0 h1 (by omega) (by omega)]
        have := loop54 m fuel b r hlen K t (pre ++ [u]) (min (10 * n + ((u.toNat : Int) - 48)) 2199023255552) k (by rw [hs]; simp) (by simp at hk; omega) (by omega) (by omega)
        rw [← this]
        simp

theorem head48 {b : UInt8} : ((b.toNat : Int) == 48) = true ↔ b.toNat = 48 := by simp; omega

theorem number54 (m : Array Value) (s : List UInt8) (hlen : s.length ≤ 1000000) (H : AH) : callL (Tryd.S m) 54 [.str s] H = some (numV (numE s), H) := by
  cases s with
  | nil => exact (callF_le 6).fn 54 [.str []] H _ (by kernel_rfl)
  | cons b r =>
    by_cases h1 : b.toNat = 48 ∧ r = []
    · obtain ⟨h1, rfl⟩ := h1
      have : b = 48 := UInt8.toNat_inj.1 h1
      subst this
      exact (callF_le 6).fn 54 [.str [48]] H _ (by kernel_rfl)
    · refine callL_I (tab := fun _ => none) (fun f g h => by cases h) (fuel := (b :: r).length + 1) (n := 1) ?_
      have e : callI (Tryd.S m) (fun _ => none) ((b :: r).length + 1) 1 54 [.str (b :: r)] H some = runI (Tryd.S m) noC ((b :: r).length + 1) Tryd.f54 [.str (b :: r)] ⟨[], []⟩ (fun v _ => optK (pureOut [.str (b :: r)] v) fun v => some (v, H)) :=
        callI_pure (S := Tryd.S m) (tab := fun _ => none) (n := 0) rfl rfl (by kernel_rfl) (by kernel_rfl) rfl
      rw [e, pre54]
      have hout : ∀ o, pureOut [.str (b :: r)] (numV o) = some (numV o) := fun o => by cases o <;> rfl
      by_cases h2 : b.toNat = 48
      · have h3 : r ≠ [] := fun e => h1 ⟨h2, e⟩
        rw [head48.2 h2]
        have : decide (((b :: r).length : Int) > 1) = true := by
          cases r with
          | nil => exact absurd rfl h3
          | cons c r => simp; omega
        rw [this]
        simp only [br, numE, h2, h3, ne_eq, not_false_eq_true, and_self, if_true]
        rfl
      · have e1 : ((b.toNat : Int) == 48) = false := by
          cases hx : ((b.toNat : Int) == 48) with
          | false => rfl
          | true => exact absurd (head48.1 hx) h2
        rw [e1]
        simp only [br]
        have := loop54 m ((b :: r).length + 1) b r hlen (fun v _ => optK (pureOut [.str (b :: r)] v) fun v => some (v, H)) (b :: r) [] 0 ((b :: r).length + 1) rfl (by omega) (by omega) (by omega)
        simp only [List.length_nil, Int.natCast_zero] at this
        refine Eq.trans this ?_
        rw [hout]
        simp only [optK, numE, h2, false_and, if_false]

/-! The program's: by runes. -/
def num52S (b : UInt8) (r : List UInt8) (n : Int) : List AV := [.str (b :: r), .top, .int .i64 0, .bool false, .int .i64 n, .top, .top, .str (b :: r), .bool false, .bool false, .str (b :: r), .int .u8 b.toNat, .bool ((b.toNat : Int) == 48), .bool false, .tuple [], .tuple [], .tuple [], .bool false, .bool false, .str (b :: r), .ptr 0 0, .top, .top, .top, .top, .top, .top, .top, .top, .top, .top, .top, .top, .top, .top, .top, .top, .top]
noncomputable def l52 (m : Array Value) {R : Type} (fuel k : Nat) (b : UInt8) (r : List UInt8) (n : Int) (pos : Nat) (K : AV → AH → Option R) : Option R := loopI (Tryd.S m) noC fuel Tryd.f52 [1, 1, 1, 0, 1, 0] k (num52S b r n) ⟨[.siter (b :: r) pos], []⟩ K

theorem pre52 (m : Array Value) {R : Type} (fuel : Nat) (b : UInt8) (r : List UInt8) (K : AV → AH → Option R) : runI (Tryd.S m) noC fuel Tryd.f52 [.str (b :: r)] ⟨[], []⟩ K =
    br ((b.toNat : Int) == 48) (fun _ => br (decide (((b :: r).length : Int) > 1)) (fun _ => K (.tuple [.int .i64 0, .bool false]) ⟨[], []⟩)
      (fun _ => loopI (Tryd.S m) noC fuel Tryd.f52 [1, 1, 1, 0, 1, 0] fuel [.str (b :: r), .top, .int .i64 0, .bool false, .int .i64 0, .top, .top, .str (b :: r), .bool false, .bool false, .str (b :: r), .int .u8 b.toNat, .bool ((b.toNat : Int) == 48), .bool true, .str (b :: r),
          .int .i64 (b :: r).length, .bool (decide (((b :: r).length : Int) > 1)), .bool (decide (((b :: r).length : Int) > 1)), .bool (decide (((b :: r).length : Int) > 1)), .str (b :: r), .ptr 0 0, .top, .top, .top, .top, .top, .top, .top, .top, .top, .top, .top, .top, .top, .top, .top, .top, .top] ⟨[.siter (b :: r) 0], []⟩ K))
      (fun _ => l52 m fuel fuel b r 0 0 K) := by kernel_rfl

theorem step52 (m : Array Value) {R : Type} (fuel k : Nat) (b : UInt8) (r : List UInt8) (n : Int) (pos : Nat) (K : AV → AH → Option R) : l52 m fuel (k + 1) b r n pos K =
    if pos < (b :: r).length then br (decide (((stepRune (b :: r) pos).1 : Int) < 48)) (fun _ => K (.tuple [.int .i64 0, .bool false]) ⟨[.siter (b :: r) (pos + (stepRune (b :: r) pos).2)], []⟩)
      (fun _ => br (decide (((stepRune (b :: r) pos).1 : Int) > 57)) (fun _ => K (.tuple [.int .i64 0, .bool false]) ⟨[.siter (b :: r) (pos + (stepRune (b :: r) pos).2)], []⟩)
        (fun _ => l52 m fuel k b r (nst n (IntKind.i32.wrap (((stepRune (b :: r) pos).1 : Int) - 48))) (pos + (stepRune (b :: r) pos).2) K))
    else K (.tuple [.int .i64 n, .bool true]) ⟨[.siter (b :: r) pos], []⟩ := by kernel_rfl

theorem rune_low {s : List UInt8} {pos : Nat} {u : UInt8} (h : s[pos]? = some u) : (u.toNat < 128 → stepRune s pos = (u.toNat, 1)) ∧ (128 ≤ u.toNat → 128 ≤ (stepRune s pos).1) := by
  have hlt : pos < s.length := by
    rcases Nat.lt_or_ge pos s.length with h' | h'
    · exact h'
    · simp [List.getElem?_eq_none h'] at h
  have hget : ((⟨s.toArray⟩ : ByteArray).get! (pos + 0)).toNat = u.toNat := by
    simp only [Nat.add_zero, ByteArray.get!]
    show (s.toArray[pos]!).toNat = _
    rw [getElem!_pos s.toArray pos (by simpa using hlt)]
    have : s[pos] = u := by
      have := List.getElem?_eq_getElem hlt
      rw [this] at h
      exact Option.some.inj h
    simp [this]
  unfold stepRune Utf8.decode
  simp only [hget]
  constructor
  · intro h1
    rw [if_pos h1]
  · intro h1
    rw [if_neg (by omega)]
    repeat' split
    all_goals (try simp only [Utf8.runeError]) <;> first | omega | (simp_all; omega)

theorem loop52 (m : Array Value) {R : Type} (fuel : Nat) (b : UInt8) (r : List UInt8) (hlen : (b :: r).length ≤ 1000000) (K : AV → AH → Option R) (hK : ∀ v H H', K v H = K v H') : ∀ (t pre : List UInt8) (n : Int) (k : Nat), b :: r = pre ++ t → t.length < k → 0 ≤ n → n ≤ 2199023255552 →
    l52 m fuel k b r n pre.length K = K (numV (numL t n)) ⟨[], []⟩
  | [], pre, n, 0, hs, hk, h0, h1 => by simp at hk
  | u :: t, pre, n, 0, hs, hk, h0, h1 => by simp at hk
  | [], pre, n, k + 1, hs, hk, h0, h1 => by
    rw [step52, if_neg (by rw [hs]; simp)]
    exact hK _ _ _
  | u :: t, pre, n, k + 1, hs, hk, h0, h1 => by
    have hl : (b :: r).length = pre.length + (t.length + 1) := by rw [hs]; simp
    have h3 : (b :: r)[pre.length]? = some u := by rw [hs]; simp
    obtain ⟨q1, q2⟩ := rune_low h3
    rw [step52, if_pos (by omega)]
    unfold numL
    by_cases c1 : u.toNat < 48
    · rw [q1 (by omega)]
      have : decide ((u.toNat : Int) < 48) = true := by simpa using (by omega : (u.toNat : Int) < 48)
      simp only [this, br, if_pos (Or.inl c1 : u.toNat < 48 ∨ u.toNat > 57)]
      exact hK _ _ _
    · by_cases c2 : u.toNat > 57
      · rw [if_pos (.inr c2)]
        have big : 57 < (stepRune (b :: r) pre.length).1 := by
          rcases Nat.lt_or_ge u.toNat 128 with h | h
          · rw [q1 h]; exact c2
          · have := q2 h; omega
        have e1 : decide (((stepRune (b :: r) pre.length).1 : Int) < 48) = false := by simp; omega
        have e2 : decide (((stepRune (b :: r) pre.length).1 : Int) > 57) = true := by simp; omega
        simp only [e1, e2, br]
        exact hK _ _ _
      · rw [if_neg (by omega), q1 (by omega)]
        have e1 : decide ((u.toNat : Int) < 48) = false := by simp; omega
        have e2 : decide ((u.toNat : Int) > 57) = false := by simp; omega
        simp only [e1, e2, br]
        rw [wrap32 (by omega) (by omega), nst_eq h0 h1 (by omega) (by omega)]
        have := loop52 m fuel b r hlen K hK t (pre ++ [u]) (min (10 * n + ((u.toNat : Int) - 48)) 2199023255552) k (by rw [hs]; simp) (by simp at hk; omega) (by omega) (by omega)
        rw [← this]
        simp

theorem number52 (m : Array Value) (s : List UInt8) (hlen : s.length ≤ 1000000) (H : AH) : callL (Tryd.S m) 52 [.str s] H = some (numV (numE s), H) := by
  cases s with
  | nil => exact (callF_le 6).fn 52 [.str []] H _ (by kernel_rfl)
  | cons b r =>
    by_cases h1 : b.toNat = 48 ∧ r = []
    · obtain ⟨h1, rfl⟩ := h1
      have : b = 48 := UInt8.toNat_inj.1 h1
      subst this
      exact (callF_le 6).fn 52 [.str [48]] H _ (by kernel_rfl)
    · refine callL_I (tab := fun _ => none) (fun f g h => by cases h) (fuel := (b :: r).length + 1) (n := 1) ?_
      have e : callI (Tryd.S m) (fun _ => none) ((b :: r).length + 1) 1 52 [.str (b :: r)] H some = runI (Tryd.S m) noC ((b :: r).length + 1) Tryd.f52 [.str (b :: r)] ⟨[], []⟩ (fun v _ => optK (pureOut [.str (b :: r)] v) fun v => some (v, H)) :=
        callI_pure (S := Tryd.S m) (tab := fun _ => none) (n := 0) rfl rfl (by kernel_rfl) (by kernel_rfl) rfl
      rw [e, pre52]
      have hout : ∀ o, pureOut [.str (b :: r)] (numV o) = some (numV o) := fun o => by cases o <;> rfl
      by_cases h2 : b.toNat = 48
      · have h3 : r ≠ [] := fun e => h1 ⟨h2, e⟩
        rw [head48.2 h2]
        have : decide (((b :: r).length : Int) > 1) = true := by
          cases r with
          | nil => exact absurd rfl h3
          | cons c r => simp; omega
        rw [this]
        simp only [br, numE, h2, h3, ne_eq, not_false_eq_true, and_self, if_true]
        rfl
      · have e1 : ((b.toNat : Int) == 48) = false := by
          cases hx : ((b.toNat : Int) == 48) with
          | false => rfl
          | true => exact absurd (head48.1 hx) h2
        rw [e1]
        simp only [br]
        have := loop52 m ((b :: r).length + 1) b r hlen (fun v _ => optK (pureOut [.str (b :: r)] v) fun v => some (v, H)) (fun _ _ _ => rfl) (b :: r) [] 0 ((b :: r).length + 1) rfl (by omega) (by omega) (by omega)
        simp only [List.length_nil] at this
        refine Eq.trans this ?_
        rw [hout]
        simp only [optK, numE, h2, false_and, if_false]
end Go.Proofs.YtoagnbpmoihojaaDoor

/- State, Number, and what is answered ahead for Line. -/
import Derived.Test.YtoagnbpmoihojaaDoorRepLine
import Derived.Test.YtoagnbpmoihojaaDoorFmt2
set_option maxRecDepth 100000
set_option linter.unusedSimpArgs false
set_option linter.unusedVariables false
namespace Go.Proofs.YtoagnbpmoihojaaDoor
open Go.Sx

def stateV (st : Int) : AV := if st < 8 then .tuple [.str (nameL st), .int .i64 0] else .tuple [.str [], .int .i64 3]

theorem state_form (m : Array Value) (st : Int) (H : AH) : callI (Rep.S m) (fun _ => none) 8 6 17 [.int .u8 st] H some = br (decide (IntKind.i64.wrap st ≥ 8)) (fun _ => some (.tuple [.str [], .int .i64 3], H))
    (fun _ => br (true && (decide (0 ≤ st) && decide (st < 8))) (fun _ => (match (namesL.map AV.str)[st.toNat]? with
      | some u => br (fitS .str u) (fun _ => some (.tuple [.str u.strOf, .int .i64 0], H)) (fun _ => none)
      | none => none)) (fun _ => none)) := by kernel_rfl
theorem state_form' (m : Array Value) (st : Int) (H : AH) : callI (Rep.S m) (fun _ => none) 8 6 18 [.int .u8 st] H some = br (decide (IntKind.i64.wrap st ≥ 8)) (fun _ => some (.tuple [.str [], .int .i64 3], H))
    (fun _ => br (true && (decide (0 ≤ st) && decide (st < 8))) (fun _ => (match (namesL.map AV.str)[st.toNat]? with
      | some u => br (fitS .str u) (fun _ => some (.tuple [.str u.strOf, .int .i64 0], H)) (fun _ => none)
      | none => none)) (fun _ => none)) := by kernel_rfl

theorem state_eq {st : Int} (h0 : 0 ≤ st) (h1 : st < 256) (H : AH) : (br (decide (IntKind.i64.wrap st ≥ 8)) (fun _ => some (.tuple [.str [], .int .i64 3], H))
    (fun _ => br (true && (decide (0 ≤ st) && decide (st < 8))) (fun _ => (match (namesL.map AV.str)[st.toNat]? with
      | some u => br (fitS .str u) (fun _ => some (.tuple [.str u.strOf, .int .i64 0], H)) (fun _ => none)
      | none => none)) (fun _ => none))) = some (stateV st, H) := by
  rw [wrap64 (by omega) (by omega)]
  unfold stateV
  by_cases h : st < 8
  · have e1 : decide (st ≥ 8) = false := by simp; omega
    have e2 : decide (0 ≤ st) = true := by simpa using h0
    have e3 : decide (st < 8) = true := by simpa using h
    rw [e1, e2, e3, if_pos h]
    have : st = 0 ∨ st = 1 ∨ st = 2 ∨ st = 3 ∨ st = 4 ∨ st = 5 ∨ st = 6 ∨ st = 7 := by omega
    rcases this with rfl | rfl | rfl | rfl | rfl | rfl | rfl | rfl <;> rfl
  · have e1 : decide (st ≥ 8) = true := by simp; omega
    rw [e1, if_neg h]
    rfl

theorem state17 (m : Array Value) {st : Int} (h0 : 0 ≤ st) (h1 : st < 256) (H : AH) : callL (Rep.S m) 17 [.int .u8 st] H = some (stateV st, H) :=
  callL_I (tabNone _) (fuel := 8) (n := 6) (by rw [state_form]; exact state_eq h0 h1 H)
theorem state18 (m : Array Value) {st : Int} (h0 : 0 ≤ st) (h1 : st < 256) (H : AH) : callL (Rep.S m) 18 [.int .u8 st] H = some (stateV st, H) :=
  callL_I (tabNone _) (fuel := 8) (n := 6) (by rw [state_form']; exact state_eq h0 h1 H)

theorem itoaR (m : Array Value) {n : Int} (h0 : -9223372036854775808 ≤ n) (h1 : n ≤ 9223372036854775807) (H : AH) : callL (Rep.S m) 42 [.int .i64 n] H = some (.str (itoaL n), H) :=
  callL_ext (g := extItoa) (ts := [.int .i64 n]) (v := .str (itoaL n)) rfl rfl (by unfold extItoa; simp only; rw [if_pos ⟨h0, h1⟩]) rfl

/-! The reference's digits. -/
def tabD (b : Int) : TabT := fun f => match Nat.beq f 57 with
  | true => some (fun args H _ K => match args with
    | [.int .u64 n] => br (decide (0 ≤ n) && (decide (n < b) && decide (n < 18446744073709551616))) (fun _ => K (.str (Lib.decDigits n.toNat), H)) (fun _ => none)
    | _ => none)
  | false => none

theorem digits_form (m : Array Value) (b n : Int) : runI (Rep.S m) (callI (Rep.S m) (tabD b) 8 2) 8 Tryd.f57 [.int .u64 n] ⟨[], []⟩ (fun v _ => some v) =
    br (decide (n < 10)) (fun _ => (if 0 ≤ IntKind.i32.wrap (IntKind.u64.wrap (48 + n)) ∧ IntKind.i32.wrap (IntKind.u64.wrap (48 + n)) < 128 then some (.str [UInt8.ofNat (IntKind.i32.wrap (IntKind.u64.wrap (48 + n))).toNat]) else none))
    (fun _ => br (decide (0 ≤ IntKind.u64.wrap (n.tdiv 10)) && (decide (IntKind.u64.wrap (n.tdiv 10) < b) && decide (IntKind.u64.wrap (n.tdiv 10) < 18446744073709551616))) (fun _ =>
      (if 0 ≤ IntKind.i32.wrap (IntKind.u64.wrap (48 + n.tmod 10)) ∧ IntKind.i32.wrap (IntKind.u64.wrap (48 + n.tmod 10)) < 128 then
        (if (Lib.decDigits (IntKind.u64.wrap (n.tdiv 10)).toNat).length + [UInt8.ofNat (IntKind.i32.wrap (IntKind.u64.wrap (48 + n.tmod 10))).toNat].length ≤ 9223372036854775807 then
          some (.str (Lib.decDigits (IntKind.u64.wrap (n.tdiv 10)).toNat ++ [UInt8.ofNat (IntKind.i32.wrap (IntKind.u64.wrap (48 + n.tmod 10))).toNat])) else none) else none)) (fun _ => none)) := by kernel_rfl

theorem wrapu64 {n : Int} (h0 : 0 ≤ n) (h1 : n < 18446744073709551616) : IntKind.u64.wrap n = n := by
  have e2 : (2 : Int) ^ 64 = 18446744073709551616 := by decide
  simp only [IntKind.wrap, IntKind.bits, IntKind.signed, Bool.false_and, Bool.false_eq_true, if_false, e2]
  omega
theorem wrapi32 {n : Int} (h0 : -2147483648 ≤ n) (h1 : n ≤ 2147483647) : IntKind.i32.wrap n = n := by
  have e1 : (2 : Int) ^ (32 - 1) = 2147483648 := by decide
  have e2 : (2 : Int) ^ 32 = 4294967296 := by decide
  simp only [IntKind.wrap, IntKind.bits, IntKind.signed, Bool.true_and, decide_eq_true_eq, e1, e2]
  split <;> omega

theorem dec_len20 {n : Nat} (h : n < 18446744073709551616) : (Lib.decDigits n).length ≤ 20 := dec_length 19 n (by omega)

theorem digits57 (m : Array Value) : ∀ (k n : Nat), n < k → n < 18446744073709551616 → ∀ H : AH, callL (Rep.S m) 57 [.int .u64 n] H = some (.str (Lib.decDigits n), H)
  | 0, n, h, _, H => by omega
  | k + 1, n, h, hn, H => by
    have ht : TabOK (Rep.S m) (tabD k) := by
      intro f g hg args H R K r h
      unfold tabD at hg
      split at hg
      · rename_i hf
        obtain rfl := Nat.eq_of_beq_eq_true hf
        obtain rfl := Option.some.inj hg
        simp only at h
        split at h
        · rename_i n'
          obtain ⟨h1, h2⟩ := brb h
          simp only [Bool.and_eq_true, decide_eq_true_eq] at h1
          refine ⟨_, ?_, h2⟩
          have := digits57 m k n'.toNat (by omega) (by omega) H
          rw [Int.toNat_of_nonneg h1.1] at this
          exact this
        · simp at h
      · simp at hg
    refine callL_P ht (fuel := 8) (n := 2) (fn := Tryd.f57) (ts := [.int .u64 n]) (v := .str (Lib.decDigits n)) (by kernel_rfl) (by kernel_rfl) (by kernel_rfl) rfl ?_ rfl
    rw [digits_form]
    by_cases h10 : n < 10
    · have e1 : decide ((n : Int) < 10) = true := by simp; omega
      rw [e1, wrapu64 (n := 48 + (n : Int)) (by omega) (by omega), wrapi32 (n := 48 + (n : Int)) (by omega) (by omega)]
      simp only [br]
      rw [if_pos (by omega), Lib.decDigits, dif_pos h10]
      have : ((48 : Int) + n).toNat = 48 + n := by omega
      rw [this]
    · have e1 : decide ((n : Int) < 10) = false := by simp; omega
      have e2 : (n : Int).tdiv 10 = ((n / 10 : Nat) : Int) := by rw [Int.tdiv_eq_ediv_of_nonneg (by omega)]; omega
      have e3 : (n : Int).tmod 10 = ((n % 10 : Nat) : Int) := by rw [Int.tmod_eq_emod_of_nonneg (by omega)]; omega
      rw [e1, e2, e3, wrapu64 (n := ((n / 10 : Nat) : Int)) (by omega) (by omega), wrapu64 (n := 48 + ((n % 10 : Nat) : Int)) (by omega) (by omega), wrapi32 (n := 48 + ((n % 10 : Nat) : Int)) (by omega) (by omega)]
      have e4 : (decide (0 ≤ ((n / 10 : Nat) : Int)) && (decide (((n / 10 : Nat) : Int) < (k : Int)) && decide (((n / 10 : Nat) : Int) < 18446744073709551616))) = true := by
        simp only [Bool.and_eq_true, decide_eq_true_eq]; omega
      rw [e4]
      simp only [br]
      rw [if_pos (by omega), Int.toNat_natCast]
      have hl := dec_len20 (n := n / 10) (by omega)
      rw [if_pos (by simp only [List.length_singleton]; omega)]
      rw [Lib.decDigits.eq_def n, dif_neg h10]
      have : ((48 : Int) + ((n % 10 : Nat) : Int)).toNat = 48 + n % 10 := by omega
      rw [this]
  termination_by k => k

def tabN : TabT := fun f => match Nat.beq f 57 with
  | true => some (fun args H _ K => match args with
    | [.int .u64 n] => br (decide (0 ≤ n) && decide (n < 18446744073709551616)) (fun _ => K (.str (Lib.decDigits n.toNat), H)) (fun _ => none)
    | _ => none)
  | false => none

theorem tabN_ok (m : Array Value) : TabOK (Rep.S m) tabN := by
  intro f g hg args H R K r h
  unfold tabN at hg
  split at hg
  · rename_i hf
    obtain rfl := Nat.eq_of_beq_eq_true hf
    obtain rfl := Option.some.inj hg
    simp only at h
    split at h
    · rename_i n'
      obtain ⟨h1, h2⟩ := brb h
      simp only [Bool.and_eq_true, decide_eq_true_eq] at h1
      refine ⟨_, ?_, h2⟩
      have := digits57 m (n'.toNat + 1) n'.toNat (by omega) (by omega) H
      rw [Int.toNat_of_nonneg h1.1] at this
      exact this
    · simp at h
  · simp at hg

theorem number_form (m : Array Value) (n : Int) (H : AH) : callI (Rep.S m) tabN 8 6 44 [.int .i64 n] H some =
    br (decide (n < 0)) (fun _ => br (decide (0 ≤ IntKind.u64.wrap (IntKind.u64.wrap (IntKind.i64.wrap (0 - IntKind.i64.wrap (n + 1))) + 1)) && decide (IntKind.u64.wrap (IntKind.u64.wrap (IntKind.i64.wrap (0 - IntKind.i64.wrap (n + 1))) + 1) < 18446744073709551616))
      (fun _ => if [(45 : UInt8)].length + (Lib.decDigits (IntKind.u64.wrap (IntKind.u64.wrap (IntKind.i64.wrap (0 - IntKind.i64.wrap (n + 1))) + 1)).toNat).length ≤ 9223372036854775807 then
        some (.str ([45] ++ Lib.decDigits (IntKind.u64.wrap (IntKind.u64.wrap (IntKind.i64.wrap (0 - IntKind.i64.wrap (n + 1))) + 1)).toNat), H) else none) (fun _ => none))
    (fun _ => br (decide (0 ≤ IntKind.u64.wrap n) && decide (IntKind.u64.wrap n < 18446744073709551616)) (fun _ => some (.str (Lib.decDigits (IntKind.u64.wrap n).toNat), H)) (fun _ => none)) := by kernel_rfl

theorem number44 (m : Array Value) {n : Int} (h0 : -9223372036854775808 ≤ n) (h1 : n ≤ 9223372036854775807) (H : AH) : callL (Rep.S m) 44 [.int .i64 n] H = some (.str (itoaL n), H) := by
  refine callL_I (tabN_ok m) (fuel := 8) (n := 6) ?_
  rw [number_form, itoaL_eq n h0 h1]
  unfold Lib.itoa
  by_cases hn : n < 0
  · rw [decide_eq_true hn, wrap64 (n := n + 1) (by omega) (by omega), wrap64 (n := 0 - (n + 1)) (by omega) (by omega), wrapu64 (n := 0 - (n + 1)) (by omega) (by omega), wrapu64 (n := 0 - (n + 1) + 1) (by omega) (by omega)]
    have e : (decide (0 ≤ 0 - (n + 1) + 1) && decide (0 - (n + 1) + 1 < 18446744073709551616)) = true := by
      simp only [Bool.and_eq_true, decide_eq_true_eq]; omega
    have e2 : (0 - (n + 1) + 1).toNat = n.natAbs := by omega
    rw [e, e2, if_pos hn]
    simp only [br]
    have := dec_len20 (n := n.natAbs) (by omega)
    rw [if_pos (by simp only [List.length_singleton]; omega)]
    rfl
  · have e : (decide (0 ≤ n) && decide (n < 18446744073709551616)) = true := by
      simp only [Bool.and_eq_true, decide_eq_true_eq]; omega
    rw [decide_eq_false hn, wrapu64 (n := n) (by omega) (by omega), if_neg hn]
    simp only [br, e]

theorem tabL_ok (m : Array Value) : TabOK (Rep.S m) tabL := by
  intro f g hg args H R K r h
  unfold tabL at hg
  split at hg
  · have hf : f = 42 := Nat.eq_of_beq_eq_true ‹Nat.beq f 42 = true›
    subst hf
    obtain rfl := Option.some.inj hg
    simp only at h
    split at h
    · obtain ⟨h1, h2⟩ := brb h
      simp only [Bool.and_eq_true, decide_eq_true_eq] at h1
      exact ⟨_, itoaR m h1.1 h1.2 H, h2⟩
    · simp at h
  · have hf : f = 17 := Nat.eq_of_beq_eq_true ‹Nat.beq f 17 = true›
    subst hf
    obtain rfl := Option.some.inj hg
    simp only at h
    split at h
    · rename_i st
      obtain ⟨h1, h2⟩ := brb h
      simp only [Bool.and_eq_true, decide_eq_true_eq] at h1
      refine ⟨_, state17 m h1.1 h1.2 H, ?_⟩
      unfold stateV
      simp only [br_eq, decide_eq_true_eq] at h2
      split at h2
      · rename_i h8
        rw [if_pos h8]; exact h2
      · rename_i h8
        rw [if_neg h8]; exact h2
    · simp at h
  · have hf : f = 38 := Nat.eq_of_beq_eq_true ‹Nat.beq f 38 = true›
    subst hf
    obtain rfl := Option.some.inj hg
    simp only at h
    split at h
    · split at h
      · rename_i hu
        obtain rfl := Nat.eq_of_beq_eq_true hu
        split at h
        · rename_i hc
          exact ⟨_, word_first m _ _ _ _ _ _ _ _ hc.1 hc.2, h⟩
        · simp at h
      · rename_i hu
        obtain rfl := Nat.eq_of_beq_eq_true hu
        split at h
        · rename_i hc
          obtain ⟨⟨h1, h2⟩, ⟨h3, h4⟩, h5, h6⟩ := hc
          subst h5
          subst h6
          exact ⟨_, word_next m _ _ _ _ _ _ _ _ _ _ h1 h2 h3 h4, h⟩
        · simp at h
      · simp at h
    · simp at h
  · have hf : f = 43 := Nat.eq_of_beq_eq_true ‹Nat.beq f 43 = true›
    subst hf
    obtain rfl := Option.some.inj hg
    simp only at h
    split at h
    · rename_i C u g xs g' e
      split at h
      · rename_i hc
        obtain ⟨rfl, h1, h2, h3, rfl, rfl⟩ := hc
        refine ⟨_, ?_, h⟩
        refine callL_enter ?_
        obtain ⟨bs, hb⟩ := Option.isSome_iff_exists.1 h1
        have ht : textOf xs = bs := by unfold textOf; rw [hb]; rfl
        rw [ht] at h2 h3 ⊢
        unfold enterF
        have e1 : (Rep.S m).ext 43 = none := by kernel_rfl
        have e2 : (Rep.S m).F 43 = some Tryd.f43 := by kernel_rfl
        have e3 : (Rep.S m).isPure 43 = false := by kernel_rfl
        have e4 : (Rep.S m).extH 43 = some (strX 74 5) := by kernel_rfl
        rw [e1]
        simp only [e2]
        rw [e3]
        simp only [Bool.false_eq_true, if_false, e4]
        unfold strX
        simp only [List.getElem?_cons_zero, List.getElem?_cons_succ, if_true, hb]
        rw [if_pos ⟨h2, by omega, trivial⟩]
        rfl
      · simp at h
    · simp at h
  · simp at hg

/-- A status' line. -/
def lineL (a b st i n c : Int) (al : Bool) : List UInt8 := headL a b ++ (32 :: nameL st) ++ (32 :: itoaL i) ++ (32 :: itoaL n) ++ (32 :: itoaL c) ++ (32 :: if al then [117, 112] else [100, 111, 119, 110])
def lineV (a b st i n c : Int) (al : Bool) : AV := if st < 8 then .tuple [.str (lineL a b st i n c al), .int .i64 0] else .tuple [.str [], .int .i64 2]

def inR (n : Int) : Prop := -9223372036854775808 ≤ n ∧ n ≤ 9223372036854775807

theorem itoa_len {n : Int} (h : inR n) : (itoaL n).length ≤ 21 ∧ itoaL n ≠ [] := by
  rw [itoaL_eq n h.1 h.2]
  unfold Lib.itoa
  have hne : ∀ k, Lib.decDigits k ≠ [] := fun k => by
    rw [Lib.decDigits]; split <;> simp
  unfold inR at h
  split
  · have := dec_len20 (n := n.natAbs) (by omega)
    refine ⟨?_, by simp⟩
    simp only [List.length_cons]; omega
  · have := dec_len20 (n := n.toNat) (by omega)
    exact ⟨by omega, hne _⟩

theorem name_len {st : Int} (h0 : 0 ≤ st) (h1 : st < 8) : (nameL st).length ≤ 8 ∧ nameL st ≠ [] := by
  have : st = 0 ∨ st = 1 ∨ st = 2 ∨ st = 3 ∨ st = 4 ∨ st = 5 ∨ st = 6 ∨ st = 7 := by omega
  rcases this with rfl | rfl | rfl | rfl | rfl | rfl | rfl | rfl <;> exact ⟨by decide, by decide⟩

theorem rIn_eq {R : Type} {n : Int} (h : inR n) (A : Option R) : rIn n A = A := by
  unfold rIn
  have e : (decide (-9223372036854775808 ≤ n) && decide (n ≤ 9223372036854775807)) = true := by
    simp only [Bool.and_eq_true, decide_eq_true_eq]; exact h
  rw [e]; rfl
theorem rWord_eq {R : Type} {s l : List UInt8} {g : Nat} (h0 : s ≠ []) (h1 : s.length ≤ 1000) (h2 : l ≠ []) (h3 : l.length ≤ 100000) (A : Option R) : rWord s (byteV l) g A = A := by
  unfold rWord
  rw [if_pos ⟨⟨h0, h1⟩, ⟨by cases l with | nil => exact absurd rfl h2 | cons => simp [byteV], by rw [byteV_length]; exact h3⟩, rfl, rfl⟩]
theorem rEnd_eq {R : Type} {l : List UInt8} {g : Nat} (h2 : l ≠ []) (h3 : l.length ≤ 100000) (A : List UInt8 → Option R) : rEnd (byteV l) g A = A l := by
  unfold rEnd textOf
  rw [byteL_byteV]
  simp only [Option.isSome_some, Option.getD_some]
  rw [if_pos ⟨trivial, trivial, List.length_pos_iff.2 h2, h3, trivial, trivial⟩]

theorem line15 (m : Array Value) {a b st i n c : Int} {al : Bool} (ha : inR a) (hb : inR b) (h0 : 0 ≤ st) (h1 : st < 256) (hi : inR i) (hn : inR n) (hc : inR c) (H : AH) : callL (Rep.S m) 15 [.agg (stA a b st i n c al)] H = some (lineV a b st i n c al, H) := by
  refine callL_I (tabL_ok m) (fuel := 8) (n := 6) ?_
  rw [line_form]
  have e : (decide (0 ≤ st) && decide (st < 256)) = true := by
    simp only [Bool.and_eq_true, decide_eq_true_eq]; exact ⟨h0, h1⟩
  unfold lineV
  by_cases h8 : st < 8
  · rw [e, decide_eq_true h8, if_pos h8]
    have la := itoa_len ha
    have lb := itoa_len hb
    have li := itoa_len hi
    have ln := itoa_len hn
    have lc := itoa_len hc
    have ls := name_len h0 h8
    have hh : (headL a b).length ≤ 43 ∧ headL a b ≠ [] := by
      unfold headL
      refine ⟨by simp only [List.length_append, List.length_singleton]; omega, by simp⟩
    simp only [br]
    rw [rIn_eq ha, if_pos (by simp only [List.length_singleton]; omega), rIn_eq hb, if_pos (by simp only [List.length_append, List.length_singleton]; omega), if_pos ⟨hh.2, by omega⟩]
    simp only [← byteV_append]
    rw [rWord_eq ls.2 (by omega) hh.2 (by omega), rIn_eq hi]
    rw [rWord_eq li.2 (by omega) (by simp [hh.2]) (by simp only [List.length_append, List.length_cons]; omega), rIn_eq hn]
    rw [rWord_eq ln.2 (by omega) (by simp [hh.2]) (by simp only [List.length_append, List.length_cons]; omega), rIn_eq hc]
    rw [rWord_eq lc.2 (by omega) (by simp [hh.2]) (by simp only [List.length_append, List.length_cons]; omega)]
    unfold lineL
    cases al
    · simp only [br]
      rw [rWord_eq (by simp) (by simp) (by simp [hh.2]) (by simp only [List.length_append, List.length_cons]; omega)]
      rw [rEnd_eq (by simp [hh.2]) (by simp only [List.length_append, List.length_cons, List.length_nil]; omega)]
      rfl
    · simp only [br]
      rw [rWord_eq (by simp) (by simp) (by simp [hh.2]) (by simp only [List.length_append, List.length_cons]; omega)]
      rw [rEnd_eq (by simp [hh.2]) (by simp only [List.length_append, List.length_cons, List.length_nil]; omega)]
      rfl
  · rw [e, decide_eq_false h8, if_neg h8]
    rfl
end Go.Proofs.YtoagnbpmoihojaaDoor

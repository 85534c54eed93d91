/- Two statuses with the same line are equal: the plain law. -/
import Derived.Test.YtoagnbpmoihojaaDoorRepLaw
set_option maxRecDepth 100000
set_option linter.unusedSimpArgs false
set_option linter.unusedVariables false
namespace Go.Proofs.YtoagnbpmoihojaaDoor
open Go.Sx

def valD (l : List UInt8) : Nat := l.foldl (fun n u => 10 * n + (u.toNat - 48)) 0

theorem valD_dec : ∀ (k n : Nat), n < k → valD (Lib.decDigits n) = n ∧ (∀ u ∈ Lib.decDigits n, 48 ≤ u.toNat ∧ u.toNat ≤ 57) ∧ Lib.decDigits n ≠ []
  | 0, n, h => by omega
  | k + 1, n, h => by
    rw [Lib.decDigits]
    split
    · rename_i h10
      have e : (UInt8.ofNat (48 + n)).toNat = 48 + n := by rw [UInt8.toNat_ofNat']; omega
      refine ⟨?_, ?_, by simp⟩
      · unfold valD
        simp only [List.foldl_cons, List.foldl_nil, e]; omega
      · intro u hu
        simp only [List.mem_singleton] at hu
        subst hu
        rw [e]; omega
    · rename_i h10
      obtain ⟨h1, h2, h3⟩ := valD_dec k (n / 10) (by omega)
      have e : (UInt8.ofNat (48 + n % 10)).toNat = 48 + n % 10 := by rw [UInt8.toNat_ofNat']; omega
      refine ⟨?_, ?_, by simp⟩
      · unfold valD at h1 ⊢
        rw [List.foldl_append, h1]
        simp only [List.foldl_cons, List.foldl_nil, e]; omega
      · intro u hu
        rcases List.mem_append.1 hu with hu | hu
        · exact h2 u hu
        · simp only [List.mem_singleton] at hu
          subst hu
          rw [e]; omega

theorem decD_inj {a b : Nat} (h : Lib.decDigits a = Lib.decDigits b) : a = b := by
  rw [← (valD_dec (a + 1) a (by omega)).1, h, (valD_dec (b + 1) b (by omega)).1]

theorem itoa_inj {a b : Int} (ha : inR a) (hb : inR b) (h : itoaL a = itoaL b) : a = b := by
  rw [itoaL_eq a ha.1 ha.2, itoaL_eq b hb.1 hb.2] at h
  unfold Lib.itoa at h
  have hd (k : Nat) (r : List UInt8) : Lib.decDigits k ≠ 45 :: r := by
    intro e
    have := (valD_dec (k + 1) k (by omega)).2.1 45 (by rw [e]; simp)
    have e : (45 : UInt8).toNat = 45 := by decide
    omega
  split at h
  · split at h
    · simp only [List.cons.injEq, true_and] at h
      have := decD_inj h
      omega
    · exact absurd h.symm (hd _ _)
  · split at h
    · exact absurd h (hd _ _)
    · have := decD_inj h
      omega

theorem itoa_chars {a : Int} (ha : inR a) : ∀ u ∈ itoaL a, u ≠ 32 ∧ u ≠ 47 := by
  intro u hu
  rw [itoaL_eq a ha.1 ha.2] at hu
  unfold Lib.itoa at hu
  have hd (k : Nat) (hu : u ∈ Lib.decDigits k) : u ≠ 32 ∧ u ≠ 47 := by
    have := (valD_dec (k + 1) k (by omega)).2.1 u hu
    constructor
    · rintro rfl
      have e : (32 : UInt8).toNat = 32 := by decide
      omega
    · rintro rfl
      have e : (47 : UInt8).toNat = 47 := by decide
      omega
  split at hu
  · rcases List.mem_cons.1 hu with rfl | hu
    · exact ⟨by decide, by decide⟩
    · exact hd _ hu
  · exact hd _ hu

theorem cut_inj {s : UInt8} : ∀ {x y u v : List UInt8}, (∀ c ∈ x, c ≠ s) → (∀ c ∈ y, c ≠ s) → x ++ s :: u = y ++ s :: v → x = y ∧ u = v
  | [], [], u, v, _, _, h => by simp at h; exact ⟨rfl, h⟩
  | [], c :: y, u, v, _, hy, h => by
    simp at h
    exact absurd h.1.symm (hy c (by simp))
  | c :: x, [], u, v, hx, _, h => by
    simp at h
    exact absurd h.1 (hx c (by simp))
  | c :: x, d :: y, u, v, hx, hy, h => by
    simp only [List.cons_append, List.cons.injEq] at h
    obtain ⟨h1, h2⟩ := cut_inj (fun c hc => hx c (by simp [hc])) (fun c hc => hy c (by simp [hc])) h.2
    exact ⟨by rw [h.1, h1], h2⟩

theorem name_chars : ∀ l ∈ namesL, ∀ u ∈ l, u ≠ 32 := by decide
theorem name_mem {st : Int} (h0 : 0 ≤ st) (h1 : st < 8) : nameL st ∈ namesL := by
  have : st = 0 ∨ st = 1 ∨ st = 2 ∨ st = 3 ∨ st = 4 ∨ st = 5 ∨ st = 6 ∨ st = 7 := by omega
  rcases this with rfl | rfl | rfl | rfl | rfl | rfl | rfl | rfl <;> decide
theorem names_nodup : ∀ i : Fin 8, ∀ j : Fin 8, nameL (i.val : Int) = nameL (j.val : Int) → i = j := by decide
theorem name_inj {a b : Int} (h0 : 0 ≤ a) (h1 : a < 8) (h2 : 0 ≤ b) (h3 : b < 8) (h : nameL a = nameL b) : a = b := by
  have := names_nodup ⟨a.toNat, by omega⟩ ⟨b.toNat, by omega⟩ (by
    simp only [Int.toNat_of_nonneg h0, Int.toNat_of_nonneg h2]; exact h)
  have := congrArg Fin.val this
  simp only at this
  omega

theorem line_inj {a b st i n c a' b' st' i' n' c' : Int} {al al' : Bool} (ha : inR a) (hb : inR b) (h0 : 0 ≤ st) (h1 : st < 8) (hi : inR i) (hn : inR n) (hc : inR c)
    (ha' : inR a') (hb' : inR b') (h0' : 0 ≤ st') (h1' : st' < 8) (hi' : inR i') (hn' : inR n') (hc' : inR c') (h : lineL a b st i n c al = lineL a' b' st' i' n' c' al') : a = a' ∧ b = b' ∧ st = st' ∧ i = i' ∧ n = n' ∧ c = c' ∧ al = al' := by
  have e (a b st i n c : Int) (al : Bool) : lineL a b st i n c al = itoaL a ++ 47 :: (itoaL b ++ 32 :: (nameL st ++ 32 :: (itoaL i ++ 32 :: (itoaL n ++ 32 :: (itoaL c ++ 32 :: if al then [117, 112] else [100, 111, 119, 110]))))) := by
    unfold lineL headL
    simp
  rw [e, e] at h
  obtain ⟨k1, h⟩ := cut_inj (fun u hu => (itoa_chars ha u hu).2) (fun u hu => (itoa_chars ha' u hu).2) h
  obtain ⟨k2, h⟩ := cut_inj (fun u hu => (itoa_chars hb u hu).1) (fun u hu => (itoa_chars hb' u hu).1) h
  obtain ⟨k3, h⟩ := cut_inj (fun u hu => name_chars _ (name_mem h0 h1) u hu) (fun u hu => name_chars _ (name_mem h0' h1') u hu) h
  obtain ⟨k4, h⟩ := cut_inj (fun u hu => (itoa_chars hi u hu).1) (fun u hu => (itoa_chars hi' u hu).1) h
  obtain ⟨k5, h⟩ := cut_inj (fun u hu => (itoa_chars hn u hu).1) (fun u hu => (itoa_chars hn' u hu).1) h
  obtain ⟨k6, h⟩ := cut_inj (fun u hu => (itoa_chars hc u hu).1) (fun u hu => (itoa_chars hc' u hu).1) h
  refine ⟨itoa_inj ha ha' k1, itoa_inj hb hb' k2, name_inj h0 h1 h0' h1' k3, itoa_inj hi hi' k4, itoa_inj hn hn' k5, itoa_inj hc hc' k6, ?_⟩
  cases al <;> cases al' <;> first | rfl | (simp at h)

theorem distinct_law (m : Array Value) {a b st i n c a' b' st' i' n' c' : Int} {al al' : Bool} (ha : inR a) (hb : inR b) (h0 : 0 ≤ st) (h1 : st < 256) (hi : inR i) (hn : inR n) (hc : inR c)
    (ha' : inR a') (hb' : inR b') (h0' : 0 ≤ st') (h1' : st' < 256) (hi' : inR i') (hn' : inR n') (hc' : inR c') (H : AH) : callL (Rep.S m) 4 [.agg (stA a b st i n c al), .agg (stA a' b' st' i' n' c' al')] H = some (.bool true, H) := by
  refine callL_I (tabQ_ok m) (fuel := 8) (n := 6) ?_
  rw [distinct_form, inB h0 h1, inRb ha, inRb hb, inRb hi, inRb hn, inRb hc, inB h0' h1', inRb ha', inRb hb', inRb hi', inRb hn', inRb hc']
  have e (x : Int) : decide (x ≤ (7 : Int)) = decide (x < (8 : Int)) := by
    by_cases h : x < 8
    · rw [decide_eq_true h, decide_eq_true (by omega)]
    · rw [decide_eq_false h, decide_eq_false (by omega)]
  rw [e, e]
  by_cases h8 : st < 8
  · rw [decide_eq_true h8]
    by_cases h8' : st' < 8
    · rw [decide_eq_true h8']
      have : (lineL a b st i n c al == lineL a' b' st' i' n' c' al') = (a == a' && (b == b' && (st == st' && (i == i' && (n == n' && (c == c' && (al == al' && true))))))) := by
        rw [Bool.eq_iff_iff]
        simp only [beq_iff_eq, Bool.and_eq_true, and_true]
        constructor
        · intro h
          exact line_inj ha hb h0 h8 hi hn hc ha' hb' h0' h8' hi' hn' hc' h
        · rintro ⟨rfl, rfl, rfl, rfl, rfl, rfl, rfl⟩
          rfl
      rw [this]
      simp [br]
    · rw [decide_eq_false h8']
      simp [br]
  · rw [decide_eq_false h8]
    by_cases h8' : st' < 8
    · rw [decide_eq_true h8']
      simp [br]
    · rw [decide_eq_false h8']
      simp [br]
end Go.Proofs.YtoagnbpmoihojaaDoor

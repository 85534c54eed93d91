/- The plain law: how numbers are written and read. -/
import Derived.Test.YtoagnbpmoihojaaDoorReads
set_option maxRecDepth 100000
set_option linter.unusedSimpArgs false
set_option linter.unusedVariables false
namespace Go.Proofs.YtoagnbpmoihojaaDoor
open Go.Sx

def cap (n : Int) : Int := min n 2199023255552

theorem numL_append : ∀ (x y : List UInt8) (n : Int), numL (x ++ y) n = (numL x n).bind fun v => numL y v
  | [], y, n => rfl
  | u :: x, y, n => by
    simp only [List.cons_append, numL]
    split
    · rfl
    · exact numL_append x y _

theorem digit_toNat {d : Nat} (h : d < 10) : (UInt8.ofNat (48 + d)).toNat = 48 + d := by
  simp only [UInt8.toNat_ofNat']
  omega

theorem numL_digit {d : Nat} (h : d < 10) (n : Int) : numL [UInt8.ofNat (48 + d)] n = some (cap (10 * n + d)) := by
  unfold numL
  rw [digit_toNat h, if_neg (by omega)]
  unfold numL cap
  congr 2
  push_cast
  omega

theorem numL_dec (n : Nat) : numL (Lib.decDigits n) 0 = some (cap n) := by
  induction n using Nat.strongRecOn with
  | _ n ih =>
    rw [Lib.decDigits]
    split
    · rename_i h
      rw [numL_digit h]
      simp
    · rename_i h
      rw [numL_append, ih (n / 10) (by omega)]
      simp only [Option.bind_some]
      rw [numL_digit (by omega)]
      unfold cap
      congr 1
      omega

theorem dec_ne (n : Nat) : Lib.decDigits n ≠ [] := by
  rw [Lib.decDigits]
  split <;> simp

/-- All bytes are digits; no leading nought but in nought itself. -/
theorem dec_digits (n : Nat) : ∀ u ∈ Lib.decDigits n, 48 ≤ u.toNat ∧ u.toNat ≤ 57 := by
  induction n using Nat.strongRecOn with
  | _ n ih =>
    rw [Lib.decDigits]
    split
    · rename_i h
      intro u hu
      simp only [List.mem_singleton] at hu
      subst hu
      rw [digit_toNat h]; omega
    · rename_i h
      intro u hu
      rw [List.mem_append] at hu
      rcases hu with hu | hu
      · exact ih (n / 10) (by omega) u hu
      · simp only [List.mem_singleton] at hu
        subst hu
        rw [digit_toNat (by omega)]; omega

theorem dec_head (n : Nat) (hn : 0 < n) : ∃ b r, Lib.decDigits n = b :: r ∧ b.toNat ≠ 48 := by
  induction n using Nat.strongRecOn with
  | _ n ih =>
    rw [Lib.decDigits]
    split
    · rename_i h
      exact ⟨_, [], rfl, by rw [digit_toNat h]; omega⟩
    · rename_i h
      obtain ⟨b, r, h1, h2⟩ := ih (n / 10) (by omega) (by omega)
      exact ⟨b, r ++ [UInt8.ofNat (48 + n % 10)], by rw [h1]; rfl, h2⟩

theorem numE_dec (n : Nat) (hn : n ≤ 2199023255552) : numE (Lib.decDigits n) = some (n : Int) := by
  have h := numL_dec n
  have hc : cap n = n := by unfold cap; omega
  rw [hc] at h
  rcases Nat.eq_zero_or_pos n with rfl | hp
  · have : Lib.decDigits 0 = [48] := by rw [Lib.decDigits]; rfl
    rw [this] at h ⊢
    simp only [numE]
    rw [if_neg (by simp)]
    exact h
  · obtain ⟨b, r, h1, h2⟩ := dec_head n hp
    rw [h1] at h ⊢
    simp only [numE]
    rw [if_neg (fun e => h2 e.1)]
    exact h

theorem numL_last {s : List UInt8} {u : UInt8} {n : Int} (h : numL (s ++ [u]) 0 = some n) : ∃ q, numL s 0 = some q ∧ 48 ≤ u.toNat ∧ u.toNat ≤ 57 ∧ n = cap (10 * q + ((u.toNat : Int) - 48)) := by
  rw [numL_append] at h
  cases hq : numL s 0 with
  | none => rw [hq] at h; simp at h
  | some q =>
    rw [hq] at h
    simp only [Option.bind_some, numL] at h
    split at h
    · cases h
    · rename_i hu
      exact ⟨q, rfl, by omega, by omega, (Option.some.inj h).symm⟩

theorem numL_nonneg : ∀ (s : List UInt8) (n v : Int), 0 ≤ n → numL s n = some v → 0 ≤ v
  | [], n, v, hn, h => by simp only [numL, Option.some.injEq] at h; omega
  | u :: s, n, v, hn, h => by
    simp only [numL] at h
    split at h
    · cases h
    · exact numL_nonneg s _ v (by omega) h

/-- What is read without leading noughts, and is small, is written as it was. -/
theorem dec_num : ∀ (k : Nat) (s : List UInt8) (n : Int), s.length = k → s ≠ [] → (∀ b r, s = b :: r → b.toNat = 48 → r = []) → numL s 0 = some n → n < 2199023255552 → Lib.decDigits n.toNat = s := by
  intro k
  induction k with
  | zero => intro s n hk hs; simp at hk; exact absurd hk hs
  | succ k ih =>
    intro s n hk hs hz h hn
    obtain ⟨t, u, rfl⟩ : ∃ t u, s = t ++ [u] := ⟨s.dropLast, s.getLast hs, (List.dropLast_concat_getLast hs).symm⟩
    obtain ⟨q, h1, h2, h3, h4⟩ := numL_last h
    have hu : UInt8.ofNat (48 + (u.toNat - 48)) = u := by
      apply UInt8.toNat_inj.1
      rw [digit_toNat (by omega)]
      omega
    have hq0 := numL_nonneg t 0 q (by omega) h1
    have hn' : n = 10 * q + ((u.toNat : Int) - 48) := by unfold cap at h4; omega
    cases t with
    | nil =>
      simp only [numL, Option.some.injEq] at h1
      subst h1
      have : n.toNat = u.toNat - 48 := by omega
      rw [this, Lib.decDigits, dif_pos (by omega), hu]
      rfl
    | cons b r =>
      have hb : b.toNat ≠ 48 := fun e => by
        have := hz b (r ++ [u]) rfl e
        simp at this
      have hd := ih (b :: r) q (by simp at hk ⊢; omega) (by simp) (fun b' r' e e' => by
        simp only [List.cons.injEq] at e
        obtain ⟨rfl, rfl⟩ := e
        exact absurd e' hb) h1 (by omega)
      have hqp : 0 < q := by
        rcases Int.lt_or_le 0 q with h' | h'
        · exact h'
        · have : q = 0 := by omega
          subst this
          have e0 : Lib.decDigits (0 : Int).toNat = [48] := by rw [Lib.decDigits]; rfl
          rw [e0] at hd
          simp only [List.cons.injEq] at hd
          exact absurd (by rw [← hd.1]; rfl) hb
      have e1 : n.toNat / 10 = q.toNat := by omega
      have e2 : n.toNat % 10 = u.toNat - 48 := by omega
      rw [Lib.decDigits, dif_neg (by omega), e1, e2, hu, hd]

theorem dec_numE {s : List UInt8} {n : Int} (h : numE s = some n) (hn : n < 2199023255552) : 0 ≤ n ∧ Lib.decDigits n.toNat = s := by
  cases s with
  | nil => cases h
  | cons b r =>
    simp only [numE] at h
    split at h
    · cases h
    · rename_i hz
      refine ⟨numL_nonneg _ _ _ (by omega) h, dec_num _ (b :: r) n rfl (by simp) ?_ h hn⟩
      intro b' r' e hb
      simp only [List.cons.injEq] at e
      obtain ⟨rfl, rfl⟩ := e
      by_cases hr : r = []
      · exact hr
      · exact absurd ⟨hb, hr⟩ hz

theorem split_none {x : List UInt8} (hx : ∀ u ∈ x, u ≠ 47) : splitL 47 x = [x] := by
  induction x with
  | nil => rfl
  | cons u x ih =>
    have hb : (u == 47) = false := by simpa using hx u (List.mem_cons_self ..)
    simp only [splitL, hb, ih (fun v hv => hx v (List.mem_cons_of_mem _ hv))]

theorem split_at {x : List UInt8} (hx : ∀ u ∈ x, u ≠ 47) (t : List UInt8) : splitL 47 (x ++ 47 :: t) = x :: splitL 47 t := by
  induction x with
  | nil => simp [splitL]
  | cons u x ih =>
    have hb : (u == 47) = false := by simpa using hx u (List.mem_cons_self ..)
    simp only [List.cons_append, splitL, hb, ih (fun v hv => hx v (List.mem_cons_of_mem _ hv))]

theorem split_join : ∀ (s : List UInt8), joinL [47] (splitL 47 s) = s
  | [] => rfl
  | b :: s => by
    have ih := split_join s
    have hne := splitL_ne 47 s
    unfold splitL
    cases hb : b == 47 with
    | true =>
      have : b = 47 := by simpa using hb
      subst this
      simp only
      cases hs : splitL 47 s with
      | nil => exact absurd hs hne
      | cons p r =>
        rw [hs] at ih
        simp only [joinL, List.nil_append, List.map_cons, List.flatten_cons] at ih ⊢
        rw [List.append_assoc, ih]
        rfl
    | false =>
      simp only
      cases hs : splitL 47 s with
      | nil => exact absurd hs hne
      | cons p r =>
        rw [hs] at ih
        simp only [joinL] at ih ⊢
        rw [List.cons_append, ih]

theorem dec_slash (n : Nat) : ∀ u ∈ Lib.decDigits n, u ≠ 47 := by
  intro u hu e
  subst e
  have := (dec_digits n 47 hu).1
  exact absurd this (by decide)

/-- How a token is written is read as the token. -/
theorem parse_fmt {a b c : Int} (h : checkE a b c = 0) : parseE (fmtS a b c) = ((a, b, c), 0) := by
  have hb := check_ok h
  unfold fmtS
  rw [if_pos h]
  have e : Lib.decDigits a.toNat ++ [47] ++ Lib.decDigits b.toNat ++ [47] ++ Lib.decDigits c.toNat = Lib.decDigits a.toNat ++ 47 :: (Lib.decDigits b.toNat ++ 47 :: Lib.decDigits c.toNat) := by simp
  rw [e]
  unfold parseE
  rw [split_at (dec_slash _), split_at (dec_slash _), split_none (dec_slash _)]
  simp only [parse3]
  rw [numE_dec _ (by omega), numE_dec _ (by omega), numE_dec _ (by omega)]
  simp only
  rw [Int.toNat_of_nonneg (by omega), Int.toNat_of_nonneg (by omega), Int.toNat_of_nonneg (by omega), if_pos h]

/-- What is read was written so. -/
theorem fmt_parse {s : List UInt8} {a b c : Int} (h : parseE s = ((a, b, c), 0)) : checkE a b c = 0 ∧ fmtS a b c = s := by
  unfold parseE at h
  split at h
  · rename_i x y z hsp
    unfold parse3 at h
    split at h
    · simp at h
    · rename_i a' ha
      split at h
      · simp at h
      · rename_i b' hb
        split at h
        · simp at h
        · rename_i c' hc
          split at h
          · rename_i hok
            simp only [Prod.mk.injEq, and_true] at h
            obtain ⟨rfl, rfl, rfl⟩ := h
            refine ⟨hok, ?_⟩
            have hk := check_ok hok
            unfold fmtS
            rw [if_pos hok, (dec_numE ha (by omega)).2, (dec_numE hb (by omega)).2, (dec_numE hc (by omega)).2]
            have := split_join s
            rw [hsp] at this
            simp only [joinL, List.map_cons, List.map_nil, List.flatten_cons, List.flatten_nil, List.append_nil] at this
            rw [← this]
            simp
          · rename_i hok
            simp only [Prod.mk.injEq] at h
            exact absurd h.2 hok
  · simp at h

theorem parse_err (s : List UInt8) (h : (parseE s).2 ≠ 0) : (parseE s).1 = (0, 0, 0) := by
  unfold parseE at h ⊢
  split
  · rename_i x y z hsp
    rw [hsp] at h
    simp only at h
    unfold parse3 at h ⊢
    generalize numE x = ox at h ⊢
    generalize numE y = oy at h ⊢
    generalize numE z = oz at h ⊢
    cases ox with
    | none => rfl
    | some a =>
      simp only at h ⊢
      cases oy with
      | none => rfl
      | some b =>
        simp only at h ⊢
        cases oz with
        | none => rfl
        | some c =>
          simp only at h ⊢
          split
          · rename_i hok
            rw [if_pos hok] at h
            exact absurd rfl h
          · rfl
  · rfl
end Go.Proofs.YtoagnbpmoihojaaDoor

/- The premise and Gone, without a program. -/
import Derived.Test.YtoagnbpmoihojaaFenCfg
set_option linter.unusedSimpArgs false
set_option linter.unusedVariables false
namespace Go.Proofs.Ytoagnbpmoihojaa

/-- What the checks see of a moment. -/
structure Mo where
  now : Int
  up : Bool
  bo : Bool
  st : Bool
  ac : Int
  al : Bool

def endE (le : Int) (m : Mo) : Int := if m.ac < 0 then -1 else m.ac + le
def ctM (first : Bool) (ct : Int) (m : Mo) : Int := if first || m.bo || m.st then m.now else ct
def crM (first : Bool) (cr : Int) (up : Bool) (m : Mo) : Int := if !m.up && (up || first) then m.now else cr
def hoM (le d r ct cr : Int) (m : Mo) : Bool :=
  if m.now > endE le m then
    if m.up then decide (m.now - max (endE le m) ct ≤ d) else decide (cr - max (endE le m) ct ≤ d) && decide (m.now - max (endE le m) cr ≤ r)
  else true

def prem (le d r : Int) : Bool → Int → Int → Bool → List Mo → Bool
  | _, _, _, _, [] => true
  | first, ct, cr, up, m :: L => hoM le d r (ctM first ct m) (crM first cr up m) m && prem le d r false (ctM first ct m) (crM first cr up m) m.up L
def gone (le g d r : Int) : Bool → Int → Int → Bool → List Mo → Bool
  | _, _, _, _, [] => true
  | first, ct, cr, up, m :: L => if hoM le d r (ctM first ct m) (crM first cr up m) m then (if m.now ≤ endE le m + g + d + r + 1 then gone le g d r false (ctM first ct m) (crM first cr up m) m.up L else if m.al then false else gone le g d r false (ctM first ct m) (crM first cr up m) m.up L) else true

theorem hoM_mono {le d r d' r' ct cr : Int} {m : Mo} (hd : d ≤ d') (hr : r ≤ r') (h : hoM le d r ct cr m = true) : hoM le d' r' ct cr m = true := by
  unfold hoM at h ⊢
  split
  · rename_i hn
    rw [if_pos hn] at h
    split
    · rename_i hu
      rw [if_pos hu] at h
      simp only [decide_eq_true_eq] at h ⊢
      omega
    · rename_i hu
      rw [if_neg hu] at h
      simp only [Bool.and_eq_true, decide_eq_true_eq] at h ⊢
      omega
  · rfl

theorem prem_mono {le d r d' r' : Int} (hd : d ≤ d') (hr : r ≤ r') : ∀ (L : List Mo) (first : Bool) (ct cr : Int) (up : Bool), prem le d r first ct cr up L = true → prem le d' r' first ct cr up L = true
  | [], _, _, _, _, _ => rfl
  | m :: L, first, ct, cr, up, h => by
    simp only [prem, Bool.and_eq_true] at h ⊢
    exact ⟨hoM_mono hd hr h.1, prem_mono hd hr L _ _ _ _ h.2⟩

theorem prem_take {le d r : Int} : ∀ (L : List Mo) (n : Nat) (first : Bool) (ct cr : Int) (up : Bool), prem le d r first ct cr up L = true → prem le d r first ct cr up (L.take n) = true
  | [], n, _, _, _, _, _ => by simp [prem]
  | m :: L, 0, first, ct, cr, up, h => rfl
  | m :: L, n + 1, first, ct, cr, up, h => by
    simp only [prem, Bool.and_eq_true, List.take_succ_cons] at h ⊢
    exact ⟨h.1, prem_take L n _ _ _ _ h.2⟩

theorem gone_take {le g d r : Int} : ∀ (L : List Mo) (n : Nat) (first : Bool) (ct cr : Int) (up : Bool), gone le g d r first ct cr up L = true → gone le g d r first ct cr up (L.take n) = true
  | [], n, _, _, _, _, _ => by simp [gone]
  | m :: L, 0, first, ct, cr, up, h => rfl
  | m :: L, n + 1, first, ct, cr, up, h => by
    have ih := gone_take (le := le) (g := g) (d := d) (r := r) L n false (ctM first ct m) (crM first cr up m) m.up
    simp only [gone, List.take_succ_cons] at h ⊢
    split
    · rename_i h1
      rw [if_pos h1] at h
      split
      · rename_i h2
        rw [if_pos h2] at h
        exact ih h
      · rename_i h2
        rw [if_neg h2] at h
        split
        · rename_i h3
          rw [if_pos h3] at h
          cases h
        · rename_i h3
          rw [if_neg h3] at h
          exact ih h
    · rfl

/-- The error of moments. -/
def ordE : Int → List Mo → Int
  | _, [] => 0
  | bf, m :: L => if m.now < bf then 13 else if m.now > 1099511627776 then 13 else if m.ac > 1099511627776 then 3 else ordE m.now L

theorem ordE_cases : ∀ (L : List Mo) (bf : Int), ordE bf L = 0 ∨ ordE bf L = 13 ∨ ordE bf L = 3
  | [], bf => .inl rfl
  | m :: L, bf => by
    unfold ordE
    split
    · exact .inr (.inl rfl)
    split
    · exact .inr (.inl rfl)
    split
    · exact .inr (.inr rfl)
    · exact ordE_cases L m.now

theorem ordE_take : ∀ (L : List Mo) (n : Nat) (bf : Int), ordE bf L = 0 → ordE bf (L.take n) = 0
  | [], n, bf, _ => by simp [ordE]
  | m :: L, 0, bf, _ => rfl
  | m :: L, n + 1, bf, h => by
    simp only [ordE, List.take_succ_cons] at h ⊢
    split
    · rename_i h1; rw [if_pos h1] at h; exact h
    rename_i h1
    rw [if_neg h1] at h
    split
    · rename_i h2; rw [if_pos h2] at h; exact h
    rename_i h2
    rw [if_neg h2] at h
    split
    · rename_i h3; rw [if_pos h3] at h; exact h
    rename_i h3
    rw [if_neg h3] at h
    exact ordE_take L n _ h

def okMo (m : Mo) : Prop := 0 ≤ m.now ∧ m.now ≤ 1099511627776 ∧ m.ac ≤ 1099511627776
theorem ordE_ok : ∀ (L : List Mo) (bf : Int), 0 ≤ bf → ordE bf L = 0 → ∀ m ∈ L, okMo m
  | [], bf, _, _, m, hm => by simp at hm
  | m :: L, bf, h0, h, x, hx => by
    simp only [ordE] at h
    split at h
    · exact absurd h (by decide)
    split at h
    · exact absurd h (by decide)
    split at h
    · exact absurd h (by decide)
    rcases List.mem_cons.1 hx with rfl | hx
    · exact ⟨by omega, by omega, by omega⟩
    · exact ordE_ok L m.now (by omega) h x hx
end Go.Proofs.Ytoagnbpmoihojaa

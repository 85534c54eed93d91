/- The premise and Gone, without a program. -/
import Derived.Test.YtoagnbpmoihojaaFenCfg
set_option linter.unusedSimpArgs false
set_option linter.unusedVariables false
namespace Go.Proofs.Ytoagnbpmoihojaa

/-- What the checks see of a moment. -/
structure Mo where
  now : Int
  up : Bool
  bo : Bool
  st : Bool
  ac : Int
  al : Bool

def endE (le : Int) (m : Mo) : Int := if m.ac < 0 then -1 else m.ac + le
def ctM (first : Bool) (ct : Int) (m : Mo) : Int := if first || m.bo || m.st then m.now else ct
def crM (first : Bool) (cr : Int) (up : Bool) (m : Mo) : Int := if !m.up && (up || first) then m.now else cr
def hoM (le d r ct cr : Int) (m : Mo) : Bool :=
  if m.now > endE le m then
    if m.up then decide (m.now - max (endE le m) ct ≤ d) else decide (cr - max (endE le m) ct ≤ d) && decide (m.now - max (endE le m) cr ≤ r)
  else true

def prem (le d r : Int) : Bool → Int → Int → Bool → List Mo → Bool
  | _, _, _, _, [] => true
  | first, ct, cr, up, m :: L => hoM le d r (ctM first ct m) (crM first cr up m) m && prem le d r false (ctM first ct m) (crM first cr up m) m.up L
def gone (le g d r : Int) : Bool → Int → Int → Bool → List Mo → Bool
  | _, _, _, _, [] => true
  | first, ct, cr, up, m :: L => if hoM le d r (ctM first ct m) (crM first cr up m) m then (if m.now ≤ endE le m + g + d + r + 1 then gone le g d r false (ctM first ct m) (crM first cr up m) m.up L else if m.al then false else gone le g d r false (ctM first ct m) (crM first cr up m) m.up L) else true

/-- The error of moments. -/
def ordE : Int → List Mo → Int
  | _, [] => 0
  | bf, m :: L => if m.now < bf then 13 else if m.now > 1099511627776 then 13 else if m.ac > 1099511627776 then 3 else ordE m.now L

def okMo (m : Mo) : Prop := 0 ≤ m.now ∧ m.now ≤ 1099511627776 ∧ m.ac ≤ 1099511627776
theorem ordE_ok : ∀ (L : List Mo) (bf : Int), 0 ≤ bf → ordE bf L = 0 → ∀ m ∈ L, okMo m
  | [], bf, _, _, m, hm => by simp at hm
  | m :: L, bf, h0, h, x, hx => by
    simp only [ordE] at h
    split at h
    · exact absurd h (by decide)
    split at h
    · exact absurd h (by decide)
    split at h
    · exact absurd h (by decide)
    rcases List.mem_cons.1 hx with rfl | hx
    · exact ⟨by omega, by omega, by omega⟩
    · exact ordE_ok L m.now (by omega) h x hx
end Go.Proofs.Ytoagnbpmoihojaa

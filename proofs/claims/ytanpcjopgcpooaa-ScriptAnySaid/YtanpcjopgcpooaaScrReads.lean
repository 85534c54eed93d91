/- ScriptReads: the law. -/
import Derived.Test.YtanpcjopgcpooaaScrEv
import Derived.Test.YtanpcjopgcpooaaScrRead
set_option maxRecDepth 100000
set_option linter.unusedSimpArgs false
set_option linter.unusedVariables false
namespace Go.Proofs.Ytanpcjopgcpooaa
open Go.Sx
end Go.Proofs.Ytanpcjopgcpooaa
set_option maxRecDepth 100000
set_option linter.unusedSimpArgs false
set_option linter.unusedVariables false
namespace Go.Proofs.Ytanpcjopgcpooaa
open Go.Sx
theorem evs_plain : ∀ es : List Ev, detokL (evsV es) = evsV es ∧ eraseL (evsV es) = evsV es ∧ belowL 0 0 (evsV es) = true ∧ isNewL (evsV es) = true
  | [] => ⟨rfl, rfl, rfl, rfl⟩
  | e :: es => by
    obtain ⟨h1, h2, h3, h4⟩ := evs_plain es
    have e1 : evsV (e :: es) = e.av :: evsV es := rfl
    refine ⟨?_, ?_, ?_, ?_⟩
    · rw [e1]; show e.av :: detokL (evsV es) = _; rw [h1]
    · rw [e1]; show e.av :: eraseL (evsV es) = _; rw [h2]
    · rw [e1]; show (true && belowL 0 0 (evsV es)) = true; rw [h3]; rfl
    · rw [e1]; show (true && isNewL (evsV es)) = true; rw [h4]; rfl
def evlV (l : List UInt8) : AV := match rdE l with | [] => .nils | e :: es => .inl true .unk 13 (evsV (e :: es))
def evlE (l : List UInt8) : AV := match rdE l with | [] => .nils | e :: es => .inl false .unk 13 (evsV (e :: es))
def scrV (l : List UInt8) : AV := .agg (cfgV l ++ [evlV l])
def scrE (l : List UInt8) : AV := .agg (cfgV l ++ [evlE l])
theorem rdQ_out {l : List UInt8} {r : AV} (h : RdQ l r) (args : List AV) : pureOut args r = some (scrV l) := by
  obtain ⟨v, rfl, h⟩ := h
  unfold scrV evlV
  rcases h with ⟨rfl, h⟩ | ⟨g, rfl, h⟩
  · rw [h]
    unfold pureOut
    rw [if_pos]
    · rfl
    · simp [cfgV, detok, detokL, Go.Sx.below, belowL, isNew, isNewL]
  · cases he : rdE l with
    | nil => exact absurd he h
    | cons e es =>
      obtain ⟨h1, h2, h3, h4⟩ := evs_plain (e :: es)
      unfold pureOut
      rw [if_pos]
      · simp [cfgV, detok, detokL, Spare.detok, h1]
      · simp [cfgV, detok, detokL, Spare.detok, h1, h3, h4, Go.Sx.below, belowL, isNew, isNewL]
theorem read9 (l : List UInt8) : Ans h5 9 [.str l] (scrV l) := by
  obtain ⟨r, h1, h2⟩ := rd9_go 4097 (Nat.le_refl _) l
  exact ans_ofG noTab_ok (k := 4097 + 1) (n := 2) rfl rfl rfl (fun _ => rfl) h1 (rdQ_out h2 _)
theorem evl_res (l : List UInt8) (H : AH) : erase (evlV l) = evlE l ∧ erase (evlE l) = evlE l ∧ Go.Sx.below 0 0 (evlE l) = true ∧ resolveC H (evlV l) = some (evlV l) ∧ resolveC H (evlE l) = some (evlE l) := by
  unfold evlV evlE
  cases rdE l with
  | nil => exact ⟨rfl, rfl, rfl, rfl, rfl⟩
  | cons e es =>
    obtain ⟨h1, h2, h3, h4⟩ := evs_plain (e :: es)
    refine ⟨?_, ?_, ?_, rfl, rfl⟩
    · simp only [erase, h2]
    · simp only [erase, h2]
    · simp only [Go.Sx.below, h3]; rfl
theorem evsL_len : ∀ (n : Nat) (l : List UInt8), (evsL n l).length ≤ n
  | 0, _ => Nat.le_refl _
  | _ + 1, [] => Nat.zero_le _
  | n + 1, c :: r => by
    have := evsL_len n (evR (c :: r))
    simp only [evsL, List.length_cons]
    omega
end Go.Proofs.Ytanpcjopgcpooaa

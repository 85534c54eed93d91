/- 'sacristanlaw14.TokenDigits' returns true: what Format returns has two slashes, and otherwise digits that are the three numbers. Conditions: the row's own (the listed tables are as the program's text lays them); the card ties them. -/
import Derived.Test.YtoagnbpmoihojaaDoorRows
import Derived.Test.YtoagnbpmoihojaaDoorCards
import Derived.Test.YtoagnbpmoihojaaDoorWorld
import Derived.Test.YtoagnbpmoihojaaDoorDigits3
set_option maxRecDepth 100000
set_option linter.unusedSimpArgs false
set_option linter.unusedVariables false
namespace Go.Proofs.YtoagnbpmoihojaaDoor
open Go.Sx Go.ChangeShapes Go.WideShapes Go.ChangeAt Go.RowKit

theorem tokenDigits_lifted (os : Os) (started : os.Started) (H : Type) (enc : TypeId × Value → H) :
    ReturnsInHanded {} Tryd.checked os 14 .any (fun w args => (Rows.tokenDigitsSpec.pre enc Tryd.prog Tryd.f14 [] false w args ∧ laidMetH Tryd.prog tabs w) ∧ sizedMet enc Tryd.prog Tryd.f14 (OpenSpec.ofChange Rows.tokenDigitsSpec) false w args) (Rows.tokenDigitsSpec.post enc Tryd.prog Tryd.f14 false true false false) := by
  refine tok_wrap started (by kernel_rfl) Tryd.func14
    (ChangeSpec.witness_at (enc := enc) (C := Tryd.checked) (os := os) (X := fun w _ => laidMetH Tryd.prog tabs w) false (laidWorld os) #[.agg #[.int .i64 0, .int .i64 0, .int .i64 0], .agg #[.int .i64 0, .int .i64 0, .int .i64 0]] 8 rfl (by kernel_rfl) (by kernel_rfl) (by kernel_rfl) (by kernel_rfl) (by kernel_rfl) (laidWorld_met os _)) ?_
  intro W base args ds gs before hval0 hW hL hS
  have hW' := hW
  obtain ⟨p, q, hA0, hV, rfl, hfz, hnd⟩ := hW
  have hA : DataW.TrodAll enc Tryd.prog W 0 (fun _ => true) true Tryd.f14.params.toList args.toList ds p := hA0
  rw [Tryd.params14] at hA
  obtain ⟨v0, vs0, d0, ds0, p0, q0, e1, rfl, rfl, h0, hA⟩ := trodAll_cons hA
  obtain ⟨v1, vs1, d1, ds1, p1, q1, rfl, rfl, rfl, h1, hA⟩ := trodAll_cons hA
  obtain ⟨rfl, rfl, rfl⟩ := trodAll_nil hA
  obtain ⟨a0, b0, c0, rfl⟩ := open_tok h0
  obtain ⟨a1, b1, c1, rfl⟩ := open_tok h1
  obtain ⟨rfl, rfl⟩ := trodVars_none hV
  obtain ⟨m, hmx, hfx⟩ := start_fixed hL hS
  have hx : VRelL (GE.start W) [tok a0 b0 c0, tok a1 b1 c1] args := by
    obtain ⟨l⟩ := args
    simp only at e1
    subst e1
    refine ⟨rfl, ?_⟩
    intro j u x hu hx
    rcases j with _ | _ | j
    · simp at hu hx; subst hu; subst hx; exact tok_rel _ _ _ _
    · simp at hu hx; subst hu; subst hx; exact tok_rel _ _ _ _
    · simp at hu
  refine (tok_calls hmx (digits_law m a0 b0 c0 a1 b1 c1 ⟨[], []⟩) hfx hx).mono fun e W' ⟨he, hb⟩ => ⟨_, he, ?_⟩
  exact law_post (rt := 4) hW' Tryd.laidOut (by rw [Tryd.params14]; intro t ht; simp at ht; subst ht; exact ⟨by kernel_rfl, of_decide_eq_true (by kernel_rfl)⟩) hb rfl rfl (by kernel_rfl) Tryd.underlying4

theorem tokenDigits_holds : Rows.TokenDigitsSaid :=
  OpenClaim.holds_of_wide 14 Tryd.f14 rfl rfl rfl rfl rfl rfl rfl ⟨rfl, rfl, rfl, rfl, rfl⟩ rfl rfl rfl rfl rfl (by kernel_rfl) Tryd.func14 (by kernel_rfl)
    (of_decide_eq_true (by kernel_rfl)) (by unfold Func.isWrapper; first | (rw [if_pos (by decide +kernel)]; kernel_rfl) | (rw [if_neg (by decide +kernel)]; exact ⟨rfl, rfl⟩))
    (fun os started H enc _ => tokenDigits_lifted os started H enc)

theorem tokenDigits_card : Rows.TokenDigitsCardSaid :=
  Claim7.holds_tied_plain_at .later [] [.data, .data, .data, .data, .pinned] true (true, "a3aa92481c8a76f36e41ffff9687d6e8c3d021d000be04441a88c0623d666ad2") false
    tokenDigits_holds (fun _ h => by cases h) (by kernel_rfl) (fun _ h => by cases h) tokenDigits_row_tie rfl ⟨rfl, rfl⟩ (by kernel_rfl) rfl
    (fun f fn hf hfn => by
      obtain rfl : f = 14 := Option.some.inj ((show Tryd.prog.funcNamed "sacristan/sacristanlaw14.TokenDigits" = some 14 by kernel_rfl).symm.trans hf) |>.symm
      obtain rfl : fn = Tryd.f14 := (Option.some.inj (Tryd.func14.symm.trans hfn)).symm
      exact ⟨by kernel_rfl, fun j t ht => by
        rw [Tryd.params14] at ht
        rcases j with _ | _ | j
        · have h3 : t = 47 := by simpa using ht.symm
          subst h3
          exact (show Tryd.prog.wantsStandIn 47 = false by kernel_rfl)
        · have h3 : t = 47 := by simpa using ht.symm
          subst h3
          exact (show Tryd.prog.wantsStandIn 47 = false by kernel_rfl)
        · simp at ht⟩)
    (by kernel_rfl)
#print axioms tokenDigits_card
end Go.Proofs.YtoagnbpmoihojaaDoor

/- 'sacristanlaw14.TokenExamples' returns true: the chapter's examples. Conditions: the row's own (the listed tables are as the program's text lays them); the card ties them. -/
import Derived.Test.YtoagnbpmoihojaaDoorRows
import Derived.Test.YtoagnbpmoihojaaDoorCards
import Derived.Test.YtoagnbpmoihojaaDoorWorld
import Derived.Test.YtoagnbpmoihojaaDoorExam
set_option maxRecDepth 100000
set_option linter.unusedSimpArgs false
set_option linter.unusedVariables false
namespace Go.Proofs.YtoagnbpmoihojaaDoor
open Go.Sx Go.ChangeShapes Go.WideShapes Go.ChangeAt Go.RowKit

theorem tokenExamples_lifted (os : Os) (started : os.Started) (H : Type) (enc : TypeId × Value → H) :
    ReturnsInHanded {} Tryd.checked os 11 .any (fun w args => (Rows.tokenExamplesSpec.pre enc Tryd.prog Tryd.f11 [] false w args ∧ laidMetH Tryd.prog tabs w) ∧ sizedMet enc Tryd.prog Tryd.f11 (OpenSpec.ofChange Rows.tokenExamplesSpec) false w args) (Rows.tokenExamplesSpec.post enc Tryd.prog Tryd.f11 false true false false) := by
  refine tok_wrap started (by kernel_rfl) Tryd.func11
    (ChangeSpec.witness_at (enc := enc) (C := Tryd.checked) (os := os) (X := fun w _ => laidMetH Tryd.prog tabs w) false (laidWorld os) #[] 8 rfl (by kernel_rfl) (by kernel_rfl) (by kernel_rfl) (by kernel_rfl) (by kernel_rfl) (laidWorld_met os _)) ?_
  intro W base args ds gs before hval0 hW hL hS
  have hW' := hW
  obtain ⟨p, q, hA0, hV, rfl, hfz, hnd⟩ := hW
  have hA : DataW.TrodAll enc Tryd.prog W 0 (fun _ => true) true Tryd.f11.params.toList args.toList ds p := hA0
  rw [Tryd.params11] at hA
  obtain ⟨e1, rfl, rfl⟩ := trodAll_nil hA
  obtain ⟨rfl, rfl⟩ := trodVars_none hV
  obtain ⟨m, hmx, hfx⟩ := start_fixed hL hS
  have hx : VRelL (GE.start W) [] args := by
    obtain ⟨l⟩ := args
    simp only at e1
    subst e1
    refine ⟨rfl, ?_⟩
    intro j u x hu hx
    simp at hu
  refine (exam_calls hmx hfx hx).mono fun e W' ⟨he, hb⟩ => ⟨_, he, ?_⟩
  exact law_post (rt := 4) hW' Tryd.laidOut (by rw [Tryd.params11]; intro t ht; simp at ht) hb rfl rfl (by kernel_rfl) Tryd.underlying4

theorem tokenExamples_holds : Rows.TokenExamplesSaid :=
  OpenClaim.holds_of_wide 11 Tryd.f11 rfl rfl rfl rfl rfl rfl rfl ⟨rfl, rfl, rfl, rfl, rfl⟩ rfl rfl rfl rfl rfl (by kernel_rfl) Tryd.func11 (by kernel_rfl)
    (of_decide_eq_true (by kernel_rfl)) (by unfold Func.isWrapper; first | (rw [if_pos (by decide +kernel)]; kernel_rfl) | (rw [if_neg (by decide +kernel)]; exact ⟨rfl, rfl⟩))
    (fun os started H enc _ => tokenExamples_lifted os started H enc)

theorem tokenExamples_card : Rows.TokenExamplesCardSaid :=
  Claim7.holds_tied_plain_at .later [] [.data, .data, .data, .data, .pinned] true (true, "a3aa92481c8a76f36e41ffff9687d6e8c3d021d000be04441a88c0623d666ad2") false
    tokenExamples_holds (fun _ h => by cases h) (by kernel_rfl) (fun _ h => by cases h) tokenExamples_row_tie rfl ⟨rfl, rfl⟩ (by kernel_rfl) rfl
    (fun f fn hf hfn => by
      obtain rfl : f = 11 := Option.some.inj ((show Tryd.prog.funcNamed "sacristan/sacristanlaw14.TokenExamples" = some 11 by kernel_rfl).symm.trans hf) |>.symm
      obtain rfl : fn = Tryd.f11 := (Option.some.inj (Tryd.func11.symm.trans hfn)).symm
      exact ⟨by kernel_rfl, fun j t ht => by
        rw [Tryd.params11] at ht
        simp at ht⟩)
    (by kernel_rfl)
#print axioms tokenExamples_card
end Go.Proofs.YtoagnbpmoihojaaDoor

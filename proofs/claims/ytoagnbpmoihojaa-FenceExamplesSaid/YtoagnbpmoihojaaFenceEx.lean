/- 'sacristanlaw37.FenceExamples' returns true. No conditions. -/
import Derived.Test.YtoagnbpmoihojaaRows
import Derived.Test.YtoagnbpmoihojaaSys
import Derived.Test.YtoagnbpmoihojaaSxFast5
namespace Go.Proofs.Ytoagnbpmoihojaa
open Go.Sx Go.ChangeShapes Go.WideShapes Go.ChangeAt Go.RowKit

theorem Try.own : ownKnob Try.prog.godebug = none := by kernel_rfl
theorem Try.laidOut : laidOutB Try.prog = true := by kernel_rfl

theorem fenceExamples_run : tellsTrue (callE Try.S 30 5 [] ⟨[], []⟩) = true := by kernel_rfl

theorem fenceExamples_walk (W : World) : Calls Try.prog 5 #[] W fun e W' => e = .returned (.bool true) ∧ Below W.heap.size W W' := by
  obtain ⟨H', h⟩ := tells_true fenceExamples_run
  exact calls_true Try.ok Try.extOK Try.mixed h (fun n => .top _) ⟨rfl, by intro i v x hv; simp at hv⟩

set_option maxRecDepth 100000 in
theorem fenceExamples_lifted (os : Os) (started : os.Started) (H : Type) (enc : TypeId × Value → H) :
    ReturnsInHanded {} Try.checked os 5 .any (Rows.fenceExamplesSpec.pre6 enc Try.prog Try.f5 Rows.fenceExamplesRow.domain false) (Rows.fenceExamplesSpec.post enc Try.prog Try.f5 false true false false) := by
  refine returnsInHanded_of_change (C := Try.checked) Try.own started (by kernel_rfl) Try.func5
    (ChangeSpec.witness6 (enc := enc) (C := Try.checked) false ⟨#[], #[], []⟩ 8 (by kernel_rfl) (by kernel_rfl) (by kernel_rfl) (by kernel_rfl)) ?_
  intro W base args ds gs before hval0 hW hcnd _
  have hW' := hW
  obtain ⟨p, q, hA0, hV, rfl, hfz, hnd⟩ := hW
  have hA : DataW.TrodAll enc Try.prog W 0 (fun _ => true) true Try.f5.params.toList args.toList ds p := hA0
  rw [Try.params5] at hA
  obtain ⟨h1, rfl, rfl⟩ := trodAll_nil hA
  have hargs : args = #[] := by simpa using h1
  subst hargs
  obtain ⟨rfl, rfl⟩ := trodVars_none hV
  refine (fenceExamples_walk W).mono fun e W' ⟨he, hb⟩ => ⟨_, he, ?_⟩
  exact law_post (rt := 4) hW' Try.laidOut (by rw [Try.params5]; intro t ht; simp at ht) hb rfl rfl (by kernel_rfl) Try.underlying4

theorem fenceExamples_holds : Rows.FenceExamplesSaid :=
  OpenClaim.holds_of_wide 5 Try.f5 rfl rfl rfl rfl rfl rfl rfl ⟨rfl, rfl, rfl, rfl, rfl⟩ rfl rfl rfl rfl rfl (by kernel_rfl) Try.func5 (by kernel_rfl)
    (of_decide_eq_true (by kernel_rfl)) (by unfold Func.isWrapper; first | (rw [if_pos (by decide +kernel)]; kernel_rfl) | (rw [if_neg (by decide +kernel)]; exact ⟨rfl, rfl⟩))
    (fun os started H enc _ => fenceExamples_lifted os started H enc)
#print axioms fenceExamples_holds
end Go.Proofs.Ytoagnbpmoihojaa

/- 'sacristanlaw32.AgentExamples' returns true. No conditions. -/
import Derived.Test.YtedhpikmkoemhaaGreatRows
import Derived.Test.YtedhpikmkoemhaaGreatAgHx
import Derived.Test.YtedhpikmkoemhaaGreatAgARun
import Derived.Test.YtedhpikmkoemhaaGreatAgJ3
namespace Go.Proofs.YtedhpikmkoemhaaGreat
open Go.Sx Go.ChangeShapes Go.WideShapes Go.ChangeAt Go.RowKit

theorem agentExamples_walk (W : World) : Calls Tryz.prog 3 #[] W fun e W' => e = .returned (.bool true) ∧ Below W.heap.size W W' := by
  obtain ⟨H', h⟩ := tells_true agentExamples_run
  exact calls_true (bS.ok e4 hX) extX Tryz.bmixed h (fun n => .top _) (fun p hp => by cases hp) ⟨rfl, by intro i v x hv; simp at hv⟩

set_option maxRecDepth 100000 in
theorem agentExamples_lifted (os : Os) (started : os.Started) (H : Type) (enc : TypeId × Value → H) :
    ReturnsInHanded {} Tryz.checked os 3 .any (Rows.agentExamplesSpec.pre6 enc Tryz.prog Tryz.f3 Rows.agentExamplesRow.domain false) (Rows.agentExamplesSpec.post enc Tryz.prog Tryz.f3 false true false false) := by
  refine returnsInHanded_of_change (C := Tryz.checked) Tryz.own started (by kernel_rfl) Tryz.func3
    (ChangeSpec.witness6 (enc := enc) (C := Tryz.checked) false ⟨#[], #[], []⟩ 8 (by kernel_rfl) (by kernel_rfl) (by kernel_rfl) (by kernel_rfl)) ?_
  intro W base args ds gs before hval0 hW hcnd _
  have hW' := hW
  obtain ⟨p, q, hA0, hV, rfl, hfz, hnd⟩ := hW
  have hA : DataW.TrodAll enc Tryz.prog W 0 (fun _ => true) true Tryz.f3.params.toList args.toList ds p := hA0
  rw [Tryz.params3] at hA
  obtain ⟨h1, rfl, rfl⟩ := trodAll_nil hA
  have hargs : args = #[] := by simpa using h1
  subst hargs
  obtain ⟨rfl, rfl⟩ := trodVars_none hV
  refine (agentExamples_walk W).mono fun e W' ⟨he, hb⟩ => ⟨_, he, ?_⟩
  exact law_post (rt := 4) hW' Tryz.laidOut (by rw [Tryz.params3]; intro t ht; simp at ht) hb rfl rfl (by kernel_rfl) Tryz.underlying4

theorem agentExamples_holds : Rows.AgentExamplesSaid :=
  OpenClaim.holds_of_wide 3 Tryz.f3 rfl rfl rfl rfl rfl rfl rfl ⟨rfl, rfl, rfl, rfl, rfl⟩ rfl rfl rfl rfl rfl (by kernel_rfl) Tryz.func3 Tryz.joined3
    (of_decide_eq_true (by kernel_rfl)) (by unfold Func.isWrapper; first | (rw [if_pos (by decide +kernel)]; kernel_rfl) | (rw [if_neg (by decide +kernel)]; exact ⟨rfl, rfl⟩))
    (fun os started H enc _ => agentExamples_lifted os started H enc)
#print axioms agentExamples_holds
end Go.Proofs.YtedhpikmkoemhaaGreat

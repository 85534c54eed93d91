/- 'sacristanlaw36.AuditExamples' returns true. No conditions. -/
import Derived.Test.YtanpcjopgcpooaaRows
import Derived.Test.YtanpcjopgcpooaaAudTab
import Derived.Test.YtanpcjopgcpooaaEh
namespace Go.Proofs.Ytanpcjopgcpooaa
open Go.Sx Go.ChangeShapes Go.WideShapes Go.ChangeAt Go.RowKit

noncomputable def Try.aS : Go.Sx.Sys := tabS Try.atypes_ Try.afuncs_ .nil Try.apure_ Try.aobjs_ (fun _ => none) 100000
theorem Try.aok : SysOK Try.aS Try.prog := tab_ok Try.atypes_ok Try.afuncs_ok trivial
theorem Try.aext : ExtOK Try.aS Try.prog := ⟨(by intro f g h; cases h), (by intro f g h; cases h)⟩
theorem Try.own : ownKnob Try.prog.godebug = none := by kernel_rfl
theorem Try.laidOut : laidOutB Try.prog = true := by kernel_rfl

theorem auditExamples_run : tellsTrue (callE Try.aS 60 6 [] ⟨[], []⟩) = true := by kernel_rfl

theorem auditExamples_walk (W : World) : Calls Try.prog 6 #[] W fun e W' => e = .returned (.bool true) ∧ Below W.heap.size W W' := by
  obtain ⟨H', h⟩ := tells_true auditExamples_run
  exact calls_true Try.aok Try.aext Try.amixed h (fun n => .top _) (fun p hp => by cases hp) ⟨rfl, by intro i v x hv; simp at hv⟩

set_option maxRecDepth 100000 in
theorem auditExamples_lifted (os : Os) (started : os.Started) (H : Type) (enc : TypeId × Value → H) :
    ReturnsInHanded {} Try.checked os 6 .any (Rows.auditExamplesSpec.pre6 enc Try.prog Try.f6 Rows.auditExamplesRow.domain false) (Rows.auditExamplesSpec.post enc Try.prog Try.f6 false true false false) := by
  refine returnsInHanded_of_change (C := Try.checked) Try.own started (by kernel_rfl) Try.func6
    (ChangeSpec.witness6 (enc := enc) (C := Try.checked) false ⟨#[], #[], []⟩ 8 (by kernel_rfl) (by kernel_rfl) (by kernel_rfl) (by kernel_rfl)) ?_
  intro W base args ds gs before hval0 hW hcnd _
  have hW' := hW
  obtain ⟨p, q, hA0, hV, rfl, hfz, hnd⟩ := hW
  have hA : DataW.TrodAll enc Try.prog W 0 (fun _ => true) true Try.f6.params.toList args.toList ds p := hA0
  rw [Try.params6] at hA
  obtain ⟨h1, rfl, rfl⟩ := trodAll_nil hA
  have hargs : args = #[] := by simpa using h1
  subst hargs
  obtain ⟨rfl, rfl⟩ := trodVars_none hV
  refine (auditExamples_walk W).mono fun e W' ⟨he, hb⟩ => ⟨_, he, ?_⟩
  exact law_post (rt := 4) hW' Try.laidOut (by rw [Try.params6]; intro t ht; simp at ht) hb rfl rfl (by kernel_rfl) Try.underlying4

theorem auditExamples_holds : Rows.AuditExamplesSaid :=
  OpenClaim.holds_of_wide 6 Try.f6 rfl rfl rfl rfl rfl rfl rfl ⟨rfl, rfl, rfl, rfl, rfl⟩ rfl rfl rfl rfl rfl (by kernel_rfl) Try.func6 (by kernel_rfl)
    (of_decide_eq_true (by kernel_rfl)) (by unfold Func.isWrapper; first | (rw [if_pos (by decide +kernel)]; kernel_rfl) | (rw [if_neg (by decide +kernel)]; exact ⟨rfl, rfl⟩))
    (fun os started H enc _ => auditExamples_lifted os started H enc)
#print axioms auditExamples_holds
end Go.Proofs.Ytanpcjopgcpooaa

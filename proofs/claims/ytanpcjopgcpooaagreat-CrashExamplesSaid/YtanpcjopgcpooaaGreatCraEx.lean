/- 'sacristanlaw38.CrashExamples' returns true. No conditions. -/
import Derived.Test.YtanpcjopgcpooaaGreatRows
import Derived.Test.YtanpcjopgcpooaaGreatCraApp
namespace Go.Proofs.YtanpcjopgcpooaaGreat
open Go.Sx Go.ChangeShapes Go.WideShapes Go.ChangeAt Go.RowKit

theorem Tryz.aok : SysOK Tryz.aS Tryz.prog := tab_ok Tryz.atypes_ok Tryz.afuncs_ok trivial
theorem Tryz.aext : ExtOK Tryz.aS Tryz.prog := ⟨(by intro f g h; cases h), (by intro f g h; cases h)⟩
theorem Tryz.cok : SysOK Tryz.cS Tryz.prog := tab_ok Tryz.atypes_ok Tryz.afuncs_ok trivial
theorem Tryz.own : ownKnob Tryz.prog.godebug = none := by kernel_rfl
theorem Tryz.laidOut : laidOutB Tryz.prog = true := by kernel_rfl

theorem app_calls {f : FuncId} {ts : List AV} {v : AV} (h : tellsV (callE Tryz.aS 60 f ts ⟨[], []⟩) v = true) :
    ∀ E xs, Rel Tryz.cS ⟨[], []⟩ E → VRelL E ts xs → Calls Tryz.prog f xs E.w fun e w' => ∃ x E' H', e = .returned x ∧ E'.w = w' ∧ E.le E' ∧ HRel H' E' ∧ VRel E' v x := by
  intro E xs hr hv
  obtain ⟨H', hn⟩ := tells_v h
  obtain ⟨_, h2⟩ := (call_sound Tryz.aok Tryz.aext Tryz.amixed 60).fn f ts ⟨[], []⟩ v H' hn
  have hr' : Rel Tryz.aS ⟨[], []⟩ E := ⟨hr.h, hr.g, hr.x⟩
  refine (h2 E xs hr' hv).mono ?_
  rintro e W' ⟨x, E', h3, h4, h5, h6, h7⟩
  exact ⟨x, E', H', h3, h4, h5, h6.h, h7⟩
theorem Tryz.cext : ExtOK Tryz.cS Tryz.prog := by
  refine ⟨?_, fun f g h => by cases h⟩
  intro f g h
  replace h : extCr f = some g := h
  unfold extCr at h
  split at h
  · rename_i hf
    obtain rfl := Nat.eq_of_beq_eq_true hf
    obtain rfl := Option.some.inj h
    refine ⟨⟨_, Tryz.func53, rfl, of_decide_eq_true (by kernel_rfl)⟩, fun ts v h => ?_⟩
    unfold g53 at h
    split at h
    · rename_i he
      obtain rfl := Option.some.inj h
      rw [eqAL_eq he]
      exact app_calls run53
    · cases h
  · rename_i hf _
    obtain rfl := Nat.eq_of_beq_eq_true hf
    obtain rfl := Option.some.inj h
    refine ⟨⟨_, Tryz.func100, rfl, of_decide_eq_true (by kernel_rfl)⟩, fun ts v h => ?_⟩
    unfold g100 at h
    split at h
    · rename_i he
      obtain rfl := Option.some.inj h
      rw [eqAL_eq he]
      exact app_calls run100
    · split at h
      · rename_i he
        obtain rfl := Option.some.inj h
        rw [eqAL_eq he]
        exact app_calls run100b
      · cases h
  · cases h

theorem crashExamples_run : tellsTrue (callE Tryz.cS 60 6 [] ⟨[], []⟩) = true := by kernel_rfl

theorem crashExamples_walk (W : World) : Calls Tryz.prog 6 #[] W fun e W' => e = .returned (.bool true) ∧ Below W.heap.size W W' := by
  obtain ⟨H', h⟩ := tells_true crashExamples_run
  exact calls_true Tryz.cok Tryz.cext Tryz.amixed h (fun n => .top _) (fun p hp => by cases hp) ⟨rfl, by intro i v x hv; simp at hv⟩

set_option maxRecDepth 100000 in
theorem crashExamples_lifted (os : Os) (started : os.Started) (H : Type) (enc : TypeId × Value → H) :
    ReturnsInHanded {} Tryz.checked os 6 .any (Rows.crashExamplesSpec.pre6 enc Tryz.prog Tryz.f6 Rows.crashExamplesRow.domain false) (Rows.crashExamplesSpec.post enc Tryz.prog Tryz.f6 false true false false) := by
  refine returnsInHanded_of_change (C := Tryz.checked) Tryz.own started (by kernel_rfl) Tryz.func6
    (ChangeSpec.witness6 (enc := enc) (C := Tryz.checked) false ⟨#[], #[], []⟩ 8 (by kernel_rfl) (by kernel_rfl) (by kernel_rfl) (by kernel_rfl)) ?_
  intro W base args ds gs before hval0 hW hcnd _
  have hW' := hW
  obtain ⟨p, q, hA0, hV, rfl, hfz, hnd⟩ := hW
  have hA : DataW.TrodAll enc Tryz.prog W 0 (fun _ => true) true Tryz.f6.params.toList args.toList ds p := hA0
  rw [Tryz.params6] at hA
  obtain ⟨h1, rfl, rfl⟩ := trodAll_nil hA
  have hargs : args = #[] := by simpa using h1
  subst hargs
  obtain ⟨rfl, rfl⟩ := trodVars_none hV
  refine (crashExamples_walk W).mono fun e W' ⟨he, hb⟩ => ⟨_, he, ?_⟩
  exact law_post (rt := 4) hW' Tryz.laidOut (by rw [Tryz.params6]; intro t ht; simp at ht) hb rfl rfl (by kernel_rfl) Tryz.underlying4

theorem crashExamples_holds : Rows.CrashExamplesSaid :=
  OpenClaim.holds_of_wide 6 Tryz.f6 rfl rfl rfl rfl rfl rfl rfl ⟨rfl, rfl, rfl, rfl, rfl⟩ rfl rfl rfl rfl rfl (by kernel_rfl) Tryz.func6 (by kernel_rfl)
    (of_decide_eq_true (by kernel_rfl)) (by unfold Func.isWrapper; first | (rw [if_pos (by decide +kernel)]; kernel_rfl) | (rw [if_neg (by decide +kernel)]; exact ⟨rfl, rfl⟩))
    (fun os started H enc _ => crashExamples_lifted os started H enc)
#print axioms crashExamples_holds
end Go.Proofs.YtanpcjopgcpooaaGreat

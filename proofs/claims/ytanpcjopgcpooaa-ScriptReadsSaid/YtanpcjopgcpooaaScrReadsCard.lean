/- 'sacristanlaw39.ScriptReads' returns true: script.Read returns what the reference returns. No conditions. -/
import Derived.Test.YtanpcjopgcpooaaRows
import Derived.Test.YtanpcjopgcpooaaScrReads
import Derived.Test.YtanpcjopgcpooaaEj
set_option maxRecDepth 100000
set_option linter.unusedSimpArgs false
set_option linter.unusedVariables false
namespace Go.Proofs.Ytanpcjopgcpooaa
open Go.Sx Go.ChangeShapes Go.WideShapes Go.ChangeAt Go.RowKit
theorem Try.own : ownKnob Try.prog.godebug = none := by kernel_rfl
theorem Try.laidOut : laidOutB Try.prog = true := by kernel_rfl
theorem scriptReads_all (avs : List AV) (h : okVs [.str] avs) : ∃ H', callL (TS h5) 3 avs ⟨[], []⟩ = some (.bool true, H') := by
  obtain ⟨l, _, rfl, h1, h⟩ := okVsC h
  obtain rfl := okVs0 h
  obtain ⟨s, e, -⟩ : ∃ s, [l] = [AV.str s] ∧ s.length ≤ maxLen := h1
  obtain rfl := (List.cons.inj e).1
  exact ⟨_, scriptReads_law s⟩
theorem scriptReads_lifted (os : Os) (started : os.Started) (H : Type) (enc : TypeId × Value → H) :
    ReturnsInHanded {} Try.checked os 3 .any (Rows.scriptReadsSpec.pre6 enc Try.prog Try.f3 Rows.scriptReadsRow.domain false) (Rows.scriptReadsSpec.post enc Try.prog Try.f3 false true false false) := by
  refine returnsInHanded_of_change (C := Try.checked) Try.own started (by kernel_rfl) Try.func3
    (ChangeSpec.witness6 (enc := enc) (C := Try.checked) false ⟨#[], #[.string .empty], []⟩ 8 (by kernel_rfl) (by kernel_rfl) (by kernel_rfl) (by kernel_rfl)) ?_
  intro W base args ds gs before hval0 hW hcnd _
  have hW' := hW
  obtain ⟨p, q, hA0, hV, rfl, hfz, hnd⟩ := hW
  have hA : DataW.TrodAll enc Try.prog W 0 (fun _ => true) true Try.f3.params.toList args.toList ds p := hA0
  rw [Try.params3] at hA
  obtain ⟨avs, hok, hlen, hrel⟩ := open_args [.str] _ args.toList ds p (by kernel_rfl) (fun j t v ht hv => hval0 j t v (by rw [Try.params3]; simpa using ht) (by simpa using hv)) hA
  obtain ⟨v0, vs0, d0, ds0, p0, q0, e1, rfl, rfl, h0, hA⟩ := trodAll_cons hA
  obtain ⟨rfl, rfl, rfl⟩ := trodAll_nil hA
  obtain ⟨rfl, rfl⟩ := trodVars_none hV
  have hx : VRelL (GE.start W) avs args := ⟨by simpa using hlen, fun i v x hv hx => hrel i v x hv (by simpa using hx)⟩
  obtain ⟨H', hlaw⟩ := scriptReads_all avs hok
  obtain ⟨n, hn⟩ := callL_fuel hlaw
  have hcalls : Calls Try.prog 3 args W fun e W' => e = .returned (.bool true) ∧ Below W.heap.size W W' := calls_true (TS.ok h5) h5.ext Try.mixed hn (fun n => .top _) (by intro p hp; cases hp) hx
  refine hcalls.mono fun e W' ⟨he, hb⟩ => ⟨_, he, ?_⟩
  exact law_post (rt := 4) hW' Try.laidOut (by rw [Try.params3]; intro t ht; simp at ht; rcases ht with rfl <;> exact ⟨by kernel_rfl, of_decide_eq_true (by kernel_rfl)⟩) hb rfl rfl (by kernel_rfl) Try.underlying4
theorem scriptReads_holds : Rows.ScriptReadsSaid :=
  OpenClaim.holds_of_wide 3 Try.f3 rfl rfl rfl rfl rfl rfl rfl ⟨rfl, rfl, rfl, rfl, rfl⟩ rfl rfl rfl rfl rfl (by kernel_rfl) Try.func3 (by kernel_rfl)
    (of_decide_eq_true (by kernel_rfl)) (by unfold Func.isWrapper; first | (rw [if_pos (by decide +kernel)]; kernel_rfl) | (rw [if_neg (by decide +kernel)]; exact ⟨rfl, rfl⟩))
    (fun os started H enc _ => scriptReads_lifted os started H enc)
#print axioms scriptReads_holds
end Go.Proofs.Ytanpcjopgcpooaa

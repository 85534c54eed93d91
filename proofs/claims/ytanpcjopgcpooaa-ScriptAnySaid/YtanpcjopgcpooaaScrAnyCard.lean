/- 'sacristanlaw39.ScriptAny' returns true: any bytes are read as a valid script, and the events of a beginning of the bytes are the first events. No conditions. -/
import Derived.Test.YtanpcjopgcpooaaRows
import Derived.Test.YtanpcjopgcpooaaScrAny2
import Derived.Test.YtanpcjopgcpooaaEj
set_option maxRecDepth 100000
set_option linter.unusedSimpArgs false
set_option linter.unusedVariables false
namespace Go.Proofs.Ytanpcjopgcpooaa
open Go.Sx Go.ChangeShapes Go.WideShapes Go.ChangeAt Go.RowKit
theorem Try.own : ownKnob Try.prog.godebug = none := by kernel_rfl
theorem Try.laidOut : laidOutB Try.prog = true := by kernel_rfl
theorem scriptAny_all (avs : List AV) (h : okVs [.str, .int .i64] avs) : ∃ H', callL S5 5 avs ⟨[], []⟩ = some (.bool true, H') := by
  obtain ⟨l, _, rfl, h1, h⟩ := okVsC h
  obtain ⟨n, _, rfl, h2, h⟩ := okVsC h
  obtain rfl := okVs0 h
  obtain ⟨s, e, -⟩ : ∃ s, [l] = [AV.str s] ∧ s.length ≤ maxLen := h1
  obtain rfl := (List.cons.inj e).1
  obtain ⟨i, e, -⟩ : ∃ i, [n] = [AV.int .i64 i] ∧ (Lit.int .i64 i).wf = true := h2
  obtain rfl := (List.cons.inj e).1
  exact ⟨_, (ans_ofS tabAny_ok (S := S5) (k := 500 + 1) (n := 2) (f := 5) rfl rfl rfl (fun _ => rfl) (an5_true 500 (Nat.le_refl _) s i) (boolOut _ _)).call _⟩
theorem scriptAny_lifted (os : Os) (started : os.Started) (H : Type) (enc : TypeId × Value → H) :
    ReturnsInHanded {} Try.checked os 5 .any (Rows.scriptAnySpec.pre6 enc Try.prog Try.f5 Rows.scriptAnyRow.domain false) (Rows.scriptAnySpec.post enc Try.prog Try.f5 false true false false) := by
  refine returnsInHanded_of_change (C := Try.checked) Try.own started (by kernel_rfl) Try.func5
    (ChangeSpec.witness6 (enc := enc) (C := Try.checked) false ⟨#[], #[.string .empty, .int .i64 0], []⟩ 8 (by kernel_rfl) (by kernel_rfl) (by kernel_rfl) (by kernel_rfl)) ?_
  intro W base args ds gs before hval0 hW hcnd _
  have hW' := hW
  obtain ⟨p, q, hA0, hV, rfl, hfz, hnd⟩ := hW
  have hA : DataW.TrodAll enc Try.prog W 0 (fun _ => true) true Try.f5.params.toList args.toList ds p := hA0
  rw [Try.params5] at hA
  obtain ⟨avs, hok, hlen, hrel⟩ := open_args [.str, .int .i64] _ args.toList ds p (by kernel_rfl) (fun j t v ht hv => hval0 j t v (by rw [Try.params5]; simpa using ht) (by simpa using hv)) hA
  obtain ⟨v0, vs0, d0, ds0, p0, q0, e1, rfl, rfl, h0, hA⟩ := trodAll_cons hA
  obtain ⟨v1, vs1, d1, ds1, p1, q1, rfl, rfl, rfl, h1, hA⟩ := trodAll_cons hA
  obtain ⟨rfl, rfl, rfl⟩ := trodAll_nil hA
  obtain ⟨rfl, rfl⟩ := trodVars_none hV
  have hx : VRelL (GE.start W) avs args := ⟨by simpa using hlen, fun i v x hv hx => hrel i v x hv (by simpa using hx)⟩
  obtain ⟨H', hlaw⟩ := scriptAny_all avs hok
  obtain ⟨n, hn⟩ := callL_fuel hlaw
  have hcalls : Calls Try.prog 5 args W fun e W' => e = .returned (.bool true) ∧ Below W.heap.size W W' := calls_true S5.ok S5.extOK Try.mixed hn (fun n => .top _) (by intro p hp; cases hp) hx
  refine hcalls.mono fun e W' ⟨he, hb⟩ => ⟨_, he, ?_⟩
  exact law_post (rt := 4) hW' Try.laidOut (by rw [Try.params5]; intro t ht; simp at ht; rcases ht with rfl | rfl <;> exact ⟨by kernel_rfl, of_decide_eq_true (by kernel_rfl)⟩) hb rfl rfl (by kernel_rfl) Try.underlying4
theorem scriptAny_holds : Rows.ScriptAnySaid :=
  OpenClaim.holds_of_wide 5 Try.f5 rfl rfl rfl rfl rfl rfl rfl ⟨rfl, rfl, rfl, rfl, rfl⟩ rfl rfl rfl rfl rfl (by kernel_rfl) Try.func5 (by kernel_rfl)
    (of_decide_eq_true (by kernel_rfl)) (by unfold Func.isWrapper; first | (rw [if_pos (by decide +kernel)]; kernel_rfl) | (rw [if_neg (by decide +kernel)]; exact ⟨rfl, rfl⟩))
    (fun os started H enc _ => scriptAny_lifted os started H enc)
#print axioms scriptAny_holds
end Go.Proofs.Ytanpcjopgcpooaa

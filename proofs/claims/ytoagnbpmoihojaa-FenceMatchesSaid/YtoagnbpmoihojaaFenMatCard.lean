/- 'sacristanlaw37.FenceMatches' returns true: the fence's functions return what their references return. No conditions. -/
import Derived.Test.YtoagnbpmoihojaaRows
import Derived.Test.YtoagnbpmoihojaaFenMat
import Derived.Test.YtoagnbpmoihojaaEj
import Derived.SizedLaws
set_option maxRecDepth 100000
set_option linter.unusedSimpArgs false
set_option linter.unusedVariables false
namespace Go.Proofs.Ytoagnbpmoihojaa
open Go.Sx Go.ChangeShapes Go.WideShapes Go.ChangeAt Go.RowKit

theorem Try.own : ownKnob Try.prog.godebug = none := by kernel_rfl
theorem Try.laidOut : laidOutB Try.prog = true := by kernel_rfl
theorem fenceMatches_law (avs : List AV) (h : okVs [dtCfg, dtI, dtI, .sl 14 dtMom] avs) (hz : szVs bzF [dtCfg, dtI, dtI, .sl 14 dtMom] avs) : ∃ H', callL Try.D 4 avs ⟨[], []⟩ = some (.bool true, H') := by
  obtain ⟨c, _, rfl, h1, h⟩ := okVsC h
  obtain ⟨d, _, rfl, h2, h⟩ := okVsC h
  obtain ⟨r, _, rfl, h3, h⟩ := okVsC h
  obtain ⟨l, _, rfl, h6, h⟩ := okVsC h
  obtain rfl := okVs0 h
  have t1 := ok_tyV h1
  have t6 := ok_tyV h6
  have z6 : szV bzF (.sl 14 dtMom) l := hz.2.2.2.1
  obtain ⟨c0, c1, c2, c3, c4, c5, c6, c7, c8, c9, c10, rfl, w⟩ := un_dtCfg t1
  obtain ⟨d, ed, hd⟩ := ok_tyV h2
  obtain ⟨r, er, hr⟩ := ok_tyV h3
  obtain rfl := (List.cons.inj ed).1
  obtain rfl := (List.cons.inj er).1
  refine ⟨⟨[], []⟩, ?_⟩
  refine callL_D tabF_ok (fuel := 12) (n := 6) (fn := Try.f4) (ds := [dtCfg, dtI, dtI, .sl 14 dtMom]) (v := .bool true) (by kernel_rfl) (by kernel_rfl) (by kernel_rfl) ⟨t1, ok_tyV h2, ok_tyV h3, t6, trivial⟩ ?_ rfl
  exact mat_run t1 hd hr (tyV_erase t6) (szV_erase t6 z6)

theorem fenceMatches_lifted (os : Os) (started : os.Started) (H : Type) (enc : TypeId × Value → H) :
    ReturnsInHanded {} Try.checked os 4 .any (Rows.fenceMatchesSpec.pre6 enc Try.prog Try.f4 Rows.fenceMatchesRow.domain false) (Rows.fenceMatchesSpec.post enc Try.prog Try.f4 false true false false) := by
  refine returnsInHanded_of_change_sized (C := Try.checked) Try.own started (by kernel_rfl) Try.func4
    (ChangeSpec.witness6 (enc := enc) (C := Try.checked) false ⟨#[], #[.agg #[.int .i64 0, .int .i64 0, .int .i64 0, .int .i64 0, .int .i64 0, .int .i64 0, .int .i64 0, .int .i64 0, .int .i64 0, .int .i64 0, .int .i64 0], .int .i64 0, .int .i64 0, .slice none 0 0], []⟩ 8 (by kernel_rfl) (by kernel_rfl) (by kernel_rfl) (by kernel_rfl)) ?_
  intro W base args ds gs before hval0 hW hcnd hwt _
  have hW' := hW
  obtain ⟨p, q, hA0, hV, rfl, hfz, hnd⟩ := hW
  have hA : DataW.TrodAll enc Try.prog W 0 (fun _ => true) true Try.f4.params.toList args.toList ds p := hA0
  rw [Try.params4] at hA
  obtain ⟨rfl, rfl⟩ := trodVars_none hV
  rw [Try.params4, List.append_nil] at hwt
  have hwt' : (DataW.weightsEach Try.prog [25, 3, 3, 27] ds).all (fun n => decide (n ≤ reachBytes)) = true := hwt
  obtain ⟨avs, hok, hsz, hlen, hrel⟩ := open_argsZ (bz := bzF) [dtCfg, dtI, dtI, .sl 14 dtMom] _ args.toList ds p (by kernel_rfl) (by kernel_rfl) hwt' (fun j t v ht hv => hval0 j t v (by rw [Try.params4]; simpa using ht) (by simpa using hv)) hA
  obtain ⟨v0, vs0, d0, ds0, p0, q0, e1, rfl, rfl, h0, hA⟩ := trodAll_cons hA
  obtain ⟨v1, vs1, d1, ds1, p1, q1, rfl, rfl, rfl, h1, hA⟩ := trodAll_cons hA
  obtain ⟨v2, vs2, d2, ds2, p2, q2, rfl, rfl, rfl, h2, hA⟩ := trodAll_cons hA
  obtain ⟨v3, vs3, d3, ds3, p3, q3, rfl, rfl, rfl, h3, hA⟩ := trodAll_cons hA
  obtain ⟨rfl, rfl, rfl⟩ := trodAll_nil hA
  have hx : VRelL (GE.start W) avs args := ⟨by simpa using hlen, fun i v x hv hx => hrel i v x hv (by simpa using hx)⟩
  obtain ⟨H', hlaw⟩ := fenceMatches_law avs hok hsz
  obtain ⟨n, hn⟩ := callL_fuel hlaw
  have hcalls : Calls Try.prog 4 args W fun e W' => e = .returned (.bool true) ∧ Below W.heap.size W W' := calls_true Try.okD Try.extOKD Try.mixed hn (fun n => .top _) (by intro p hp; cases hp) hx
  refine hcalls.mono fun e W' ⟨he, hb⟩ => ⟨_, he, ?_⟩
  exact law_post (rt := 4) hW' Try.laidOut (by rw [Try.params4]; intro t ht; simp at ht; rcases ht with rfl | rfl | rfl <;> exact ⟨by kernel_rfl, of_decide_eq_true (by kernel_rfl)⟩) hb rfl rfl (by kernel_rfl) Try.underlying4

theorem fenceMatches_holds : Rows.FenceMatchesSaid :=
  OpenClaim.holds_of_wide 4 Try.f4 rfl rfl rfl rfl rfl rfl rfl ⟨rfl, rfl, rfl, rfl, rfl⟩ rfl rfl rfl rfl rfl (by kernel_rfl) Try.func4 (by kernel_rfl)
    (of_decide_eq_true (by kernel_rfl)) (by unfold Func.isWrapper; first | (rw [if_pos (by decide +kernel)]; kernel_rfl) | (rw [if_neg (by decide +kernel)]; exact ⟨rfl, rfl⟩))
    (fun os started H enc _ => fenceMatches_lifted os started H enc)
#print axioms fenceMatches_holds
end Go.Proofs.Ytoagnbpmoihojaa

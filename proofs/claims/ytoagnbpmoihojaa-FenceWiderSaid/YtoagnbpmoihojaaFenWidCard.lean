/- 'sacristanlaw37.FenceWider' returns true: the premise for smaller numbers implies that for greater ones, and what holds of all moments holds of the first ones. No conditions. -/
import Derived.Test.YtoagnbpmoihojaaRows
import Derived.Test.YtoagnbpmoihojaaFenWid2
import Derived.Test.YtoagnbpmoihojaaEj
set_option maxRecDepth 100000
set_option linter.unusedSimpArgs false
set_option linter.unusedVariables false
namespace Go.Proofs.Ytoagnbpmoihojaa
open Go.Sx Go.ChangeShapes Go.WideShapes Go.ChangeAt Go.RowKit

theorem Try.own : ownKnob Try.prog.godebug = none := by kernel_rfl
theorem Try.laidOut : laidOutB Try.prog = true := by kernel_rfl

theorem k3_nil {c0 c1 c2 c3 c4 c5 c6 c7 c8 c9 c10 : Int} {d r mo cu : Int} (hc : tyV dtCfg (.agg (cfC c0 c1 c2 c3 c4 c5 c6 c7 c8 c9 c10))) :
    runI Try.D (cF 12) 12 Try.f3 [.agg (cfC c0 c1 c2 c3 c4 c5 c6 c7 c8 c9 c10), .int .u16 d, .int .u16 r, .int .u8 mo, .int .u8 cu, .nils] ⟨[], []⟩ (fun v _ => some v) = some (.bool true) := by
  obtain ⟨b6, e6, -⟩ := k6 (l := .nils) (.inl rfl)
  have f6 := fun H => valH_of (e6 H)
  have f7 := fun H => valH_of (k7 hc H)
  simp only [cfC] at f7
  rw [wid_nil, f6]
  simp only [ft_b, br, AV.boolOf]
  cases b6 with
  | false => rfl
  | true =>
    simp only [Bool.not_true]
    rw [f7]
    simp only [ft_i, AV.numOf]
    split <;> rfl

theorem u16_wf {n : Int} (h : (Lit.int .u16 n).wf = true) : 0 ≤ n ∧ n ≤ 65535 := by
  have e1 : IntKind.u16.min = 0 := by decide
  have e2 : IntKind.u16.max = 65535 := by decide
  simp only [Lit.wf, Bool.and_eq_true, decide_eq_true_eq, e1, e2] at h
  omega
theorem u8_wf {n : Int} (h : (Lit.int .u8 n).wf = true) : 0 ≤ n ∧ n ≤ 255 := by
  have e1 : IntKind.u8.min = 0 := by decide
  have e2 : IntKind.u8.max = 255 := by decide
  simp only [Lit.wf, Bool.and_eq_true, decide_eq_true_eq, e1, e2] at h
  omega

theorem fenceWider_law (avs : List AV) (h : okVs [dtCfg, .int .u16, .int .u16, .int .u8, .int .u8, .sl 14 dtMom] avs) : ∃ H', callL Try.D 3 avs ⟨[], []⟩ = some (.bool true, H') := by
  obtain ⟨c, _, rfl, h1, h⟩ := okVsC h
  obtain ⟨d, _, rfl, h2, h⟩ := okVsC h
  obtain ⟨r, _, rfl, h3, h⟩ := okVsC h
  obtain ⟨mo, _, rfl, h4, h⟩ := okVsC h
  obtain ⟨cu, _, rfl, h5, h⟩ := okVsC h
  obtain ⟨l, _, rfl, h6, h⟩ := okVsC h
  obtain rfl := okVs0 h
  have t1 := ok_tyV h1
  have t6 := ok_tyV h6
  obtain ⟨c0, c1, c2, c3, c4, c5, c6, c7, c8, c9, c10, rfl, w⟩ := un_dtCfg t1
  obtain ⟨d, ed, hd⟩ := ok_tyV h2
  obtain ⟨r, er, hr⟩ := ok_tyV h3
  obtain ⟨mo, em, hm⟩ := ok_tyV h4
  obtain ⟨cu, eu, hu⟩ := ok_tyV h5
  obtain rfl := (List.cons.inj ed).1
  obtain rfl := (List.cons.inj er).1
  obtain rfl := (List.cons.inj em).1
  obtain rfl := (List.cons.inj eu).1
  refine ⟨⟨[], []⟩, ?_⟩
  refine callL_D tabF_ok (fuel := 12) (n := 6) (fn := Try.f3) (ds := [dtCfg, .int .u16, .int .u16, .int .u8, .int .u8, .sl 14 dtMom]) (v := .bool true) (by kernel_rfl) (by kernel_rfl) (by kernel_rfl) ⟨t1, ok_tyV h2, ok_tyV h3, ok_tyV h4, ok_tyV h5, t6, trivial⟩ ?_ rfl
  have t6' := tyV_erase t6
  rcases t6 with e | ⟨f, p, xs, e, hp, hl, hx⟩
  · obtain rfl := (List.cons.inj e).1
    exact k3_nil t1
  · obtain rfl := (List.cons.inj e).1
    exact wid_run (xs := eraseL xs) t1 t6' (u16_wf hd) (u16_wf hr) (u8_wf hm) (u8_wf hu)

theorem fenceWider_lifted (os : Os) (started : os.Started) (H : Type) (enc : TypeId × Value → H) :
    ReturnsInHanded {} Try.checked os 3 .any (Rows.fenceWiderSpec.pre6 enc Try.prog Try.f3 Rows.fenceWiderRow.domain false) (Rows.fenceWiderSpec.post enc Try.prog Try.f3 false true false false) := by
  refine returnsInHanded_of_change (C := Try.checked) Try.own started (by kernel_rfl) Try.func3
    (ChangeSpec.witness6 (enc := enc) (C := Try.checked) false ⟨#[], #[.agg #[.int .i64 0, .int .i64 0, .int .i64 0, .int .i64 0, .int .i64 0, .int .i64 0, .int .i64 0, .int .i64 0, .int .i64 0, .int .i64 0, .int .i64 0], .int .u16 0, .int .u16 0, .int .u8 0, .int .u8 0, .slice none 0 0], []⟩ 8 (by kernel_rfl) (by kernel_rfl) (by kernel_rfl) (by kernel_rfl)) ?_
  intro W base args ds gs before hval0 hW hcnd _
  have hW' := hW
  obtain ⟨p, q, hA0, hV, rfl, hfz, hnd⟩ := hW
  have hA : DataW.TrodAll enc Try.prog W 0 (fun _ => true) true Try.f3.params.toList args.toList ds p := hA0
  rw [Try.params3] at hA
  obtain ⟨avs, hok, hlen, hrel⟩ := open_args [dtCfg, .int .u16, .int .u16, .int .u8, .int .u8, .sl 14 dtMom] _ args.toList ds p (by kernel_rfl) (fun j t v ht hv => hval0 j t v (by rw [Try.params3]; simpa using ht) (by simpa using hv)) hA
  obtain ⟨v0, vs0, d0, ds0, p0, q0, e1, rfl, rfl, h0, hA⟩ := trodAll_cons hA
  obtain ⟨v1, vs1, d1, ds1, p1, q1, rfl, rfl, rfl, h1, hA⟩ := trodAll_cons hA
  obtain ⟨v2, vs2, d2, ds2, p2, q2, rfl, rfl, rfl, h2, hA⟩ := trodAll_cons hA
  obtain ⟨v3, vs3, d3, ds3, p3, q3, rfl, rfl, rfl, h3, hA⟩ := trodAll_cons hA
  obtain ⟨v4, vs4, d4, ds4, p4, q4, rfl, rfl, rfl, h4, hA⟩ := trodAll_cons hA
  obtain ⟨v5, vs5, d5, ds5, p5, q5, rfl, rfl, rfl, h5, hA⟩ := trodAll_cons hA
  obtain ⟨rfl, rfl, rfl⟩ := trodAll_nil hA
  obtain ⟨rfl, rfl⟩ := trodVars_none hV
  have hx : VRelL (GE.start W) avs args := ⟨by simpa using hlen, fun i v x hv hx => hrel i v x hv (by simpa using hx)⟩
  obtain ⟨H', hlaw⟩ := fenceWider_law avs hok
  obtain ⟨n, hn⟩ := callL_fuel hlaw
  have hcalls : Calls Try.prog 3 args W fun e W' => e = .returned (.bool true) ∧ Below W.heap.size W W' := calls_true Try.okD Try.extOKD Try.mixed hn (fun n => .top _) (by intro p hp; cases hp) hx
  refine hcalls.mono fun e W' ⟨he, hb⟩ => ⟨_, he, ?_⟩
  exact law_post (rt := 4) hW' Try.laidOut (by rw [Try.params3]; intro t ht; simp at ht; rcases ht with rfl | rfl | rfl | rfl <;> exact ⟨by kernel_rfl, of_decide_eq_true (by kernel_rfl)⟩) hb rfl rfl (by kernel_rfl) Try.underlying4

theorem fenceWider_holds : Rows.FenceWiderSaid :=
  OpenClaim.holds_of_wide 3 Try.f3 rfl rfl rfl rfl rfl rfl rfl ⟨rfl, rfl, rfl, rfl, rfl⟩ rfl rfl rfl rfl rfl (by kernel_rfl) Try.func3 (by kernel_rfl)
    (of_decide_eq_true (by kernel_rfl)) (by unfold Func.isWrapper; first | (rw [if_pos (by decide +kernel)]; kernel_rfl) | (rw [if_neg (by decide +kernel)]; exact ⟨rfl, rfl⟩))
    (fun os started H enc _ => fenceWider_lifted os started H enc)
#print axioms fenceWider_holds
end Go.Proofs.Ytoagnbpmoihojaa

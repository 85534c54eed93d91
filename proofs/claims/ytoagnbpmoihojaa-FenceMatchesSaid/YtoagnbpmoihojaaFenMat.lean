/- FenceMatches: form. -/
import Derived.Test.YtoagnbpmoihojaaFenWid
import Derived.Test.YtoagnbpmoihojaaFenQui4
import Derived.Test.YtoagnbpmoihojaaFenStr
set_option maxRecDepth 100000
set_option linter.unusedSimpArgs false
set_option linter.unusedVariables false
namespace Go.Proofs.Ytoagnbpmoihojaa
open Go.Sx
theorem mat_form (fuel : Nat) (c0 c1 c2 c3 c4 c5 c6 c7 c8 c9 c10 : Int) (d r : Int) (l : AV) : runI Try.D (cF fuel) fuel Try.f4 [.agg (cfC c0 c1 c2 c3 c4 c5 c6 c7 c8 c9 c10), .int .i64 d, .int .i64 r, l] ⟨[], []⟩ (fun v _ => some v) = (match valH Try.D 6 [l] ⟨[.cells (cfC c0 c1 c2 c3 c4 c5 c6 c7 c8 c9 c10)], []⟩ with | some u0 => br (fitS .bool u0) (fun _ => br (!u0.boolOf) (fun _ => some (.bool true)) (fun _ => (match valH Try.D 11 [l] ⟨[.cells (cfC c0 c1 c2 c3 c4 c5 c6 c7 c8 c9 c10)], []⟩ with | some u3 => (match valH Try.D 12 [.agg (cfC c0 c1 c2 c3 c4 c5 c6 c7 c8 c9 c10), u3] ⟨[.cells (cfC c0 c1 c2 c3 c4 c5 c6 c7 c8 c9 c10)], []⟩ with | some u4 => br (AV.isTup 2 u4) (fun _ => br (fitS (.int .i64) (hdV (tlV u4.tupOf))) (fun _ => (match valH Try.D 13 [.agg (cfC c0 c1 c2 c3 c4 c5 c6 c7 c8 c9 c10), l] ⟨[.cells (cfC c0 c1 c2 c3 c4 c5 c6 c7 c8 c9 c10)], []⟩ with | some u7 => br (AV.isTup 2 u7) (fun _ => br (fitS (.int .i64) (hdV (tlV u7.tupOf))) (fun _ => (match valH Try.D 14 [shS .any (hdV u4.tupOf), shS .any (hdV u7.tupOf)] ⟨[.cells (cfC c0 c1 c2 c3 c4 c5 c6 c7 c8 c9 c10)], []⟩ with | some u10 => br (fitS .bool u10) (fun _ => br (!u10.boolOf) (fun _ => some (.bool false)) (fun _ => br ((hdV (tlV u4.tupOf)).numOf != (hdV (tlV u7.tupOf)).numOf) (fun _ => some (.bool false)) (fun _ => (match valH Try.D 15 [.agg (cfC c0 c1 c2 c3 c4 c5 c6 c7 c8 c9 c10), u3] ⟨[.cells (cfC c0 c1 c2 c3 c4 c5 c6 c7 c8 c9 c10)], []⟩ with | some u14 => br (AV.isTup 2 u14) (fun _ => br (fitS .bool (hdV u14.tupOf)) (fun _ => br (fitS (.int .i64) (hdV (tlV u14.tupOf))) (fun _ => (match valH Try.D 16 [.agg (cfC c0 c1 c2 c3 c4 c5 c6 c7 c8 c9 c10), l] ⟨[.cells (cfC c0 c1 c2 c3 c4 c5 c6 c7 c8 c9 c10)], []⟩ with | some u18 => br (AV.isTup 2 u18) (fun _ => br (fitS .bool (hdV u18.tupOf)) (fun _ => br (fitS (.int .i64) (hdV (tlV u18.tupOf))) (fun _ => br (!(hdV u14.tupOf).boolOf == (hdV u18.tupOf).boolOf) (fun _ => some (.bool false)) (fun _ => br ((hdV (tlV u14.tupOf)).numOf != (hdV (tlV u18.tupOf)).numOf) (fun _ => some (.bool false)) (fun _ => (match valH Try.D 8 [.agg (cfC c0 c1 c2 c3 c4 c5 c6 c7 c8 c9 c10), .int .i64 d, .int .i64 r, u3] ⟨[.cells (cfC c0 c1 c2 c3 c4 c5 c6 c7 c8 c9 c10)], []⟩ with | some u24 => br (AV.isTup 2 u24) (fun _ => br (fitS .bool (hdV u24.tupOf)) (fun _ => br (fitS (.int .i64) (hdV (tlV u24.tupOf))) (fun _ => (match valH Try.D 17 [.agg (cfC c0 c1 c2 c3 c4 c5 c6 c7 c8 c9 c10), .int .i64 d, .int .i64 r, l] ⟨[.cells (cfC c0 c1 c2 c3 c4 c5 c6 c7 c8 c9 c10)], []⟩ with | some u28 => br (AV.isTup 2 u28) (fun _ => br (fitS .bool (hdV u28.tupOf)) (fun _ => br (fitS (.int .i64) (hdV (tlV u28.tupOf))) (fun _ => br (!(hdV u24.tupOf).boolOf == (hdV u28.tupOf).boolOf) (fun _ => some (.bool false)) (fun _ => br ((hdV (tlV u24.tupOf)).numOf != (hdV (tlV u28.tupOf)).numOf) (fun _ => some (.bool false)) (fun _ => (match valH Try.D 10 [.agg (cfC c0 c1 c2 c3 c4 c5 c6 c7 c8 c9 c10), .int .i64 d, .int .i64 r, u3] ⟨[.cells (cfC c0 c1 c2 c3 c4 c5 c6 c7 c8 c9 c10)], []⟩ with | some u34 => br (AV.isTup 2 u34) (fun _ => br (fitS .bool (hdV u34.tupOf)) (fun _ => br (fitS (.int .i64) (hdV (tlV u34.tupOf))) (fun _ => (match valH Try.D 18 [.agg (cfC c0 c1 c2 c3 c4 c5 c6 c7 c8 c9 c10), .int .i64 d, .int .i64 r, l] ⟨[.cells (cfC c0 c1 c2 c3 c4 c5 c6 c7 c8 c9 c10)], []⟩ with | some u38 => br (AV.isTup 2 u38) (fun _ => br (fitS .bool (hdV u38.tupOf)) (fun _ => br (fitS (.int .i64) (hdV (tlV u38.tupOf))) (fun _ => br ((hdV u34.tupOf).boolOf == (hdV u38.tupOf).boolOf) (fun _ => br ((hdV (tlV u34.tupOf)).numOf == (hdV (tlV u38.tupOf)).numOf) (fun _ => (match valH Try.D 19 [u3, l] ⟨[.cells (cfC c0 c1 c2 c3 c4 c5 c6 c7 c8 c9 c10)], []⟩ with | some u44 => br (fitS .bool u44) (fun _ => br (u44.boolOf) (fun _ => (match valH Try.D 9 [] ⟨[.cells (cfC c0 c1 c2 c3 c4 c5 c6 c7 c8 c9 c10)], []⟩ with | some u47 => br (fitS .bool u47) (fun _ => some (.bool u47.boolOf)) (fun _ => none) | none => none)) (fun _ => some (.bool false))) (fun _ => none) | none => none)) (fun _ => some (.bool false))) (fun _ => some (.bool false))) (fun _ => none)) (fun _ => none)) (fun _ => none) | none => none)) (fun _ => none)) (fun _ => none)) (fun _ => none) | none => none)))) (fun _ => none)) (fun _ => none)) (fun _ => none) | none => none)) (fun _ => none)) (fun _ => none)) (fun _ => none) | none => none)))) (fun _ => none)) (fun _ => none)) (fun _ => none) | none => none)) (fun _ => none)) (fun _ => none)) (fun _ => none) | none => none)))) (fun _ => none) | none => none)) (fun _ => none)) (fun _ => none) | none => none)) (fun _ => none)) (fun _ => none) | none => none) | none => none))) (fun _ => none) | none => none) := by kernel_rfl
theorem eqTask (u w : AV) (hu : tyV dtTask u) (hw : tyV dtTask w) (hs : nrm u = nrm w) (H : AH) : callL Try.D 74 [u, w] H = some (.bool true, H) := eq74 (fun a b h H => eq14 a b h H) hu hw hs H
theorem eqSpec {u w : AV} (hu : tyV dtSpec u) (hw : tyV dtSpec w) (hs : nrm u = nrm w) (H : AH) : callL Try.D 68 [u, w] H = some (.bool true, H) := eq68 (fun a b h H => eq14 a b h H) (fun a b h H => eq72 a b h H) hu hw hs H
theorem eqAlloc (u w : AV) (hu : tyV dtAlloc u) (hw : tyV dtAlloc w) (hs : nrm u = nrm w) (H : AH) : callL Try.D 67 [u, w] H = some (.bool true, H) := eq67 (fun a b h H => eqSpec a b h H) (fun a b h H => eq71 eqTask a b h H) hu hw hs H
theorem eqState {u w : AV} (hu : tyV dtState u) (hw : tyV dtState w) (hs : nrm u = nrm w) (H : AH) : callL Try.D 44 [u, w] H = some (.bool true, H) := eq44 (fun a b h H => eq62 eqAlloc a b h H) hu hw hs H
theorem eqRec (u w : AV) (hu : tyV dtRec u) (hw : tyV dtRec w) (hs : nrm u = nrm w) (H : AH) : callL Try.D 63 [u, w] H = some (.bool true, H) := eq63 (fun a b h H => eqSpec a b h H) hu hw hs H
theorem eqMom (u w : AV) (hu : tyV dtMom u) (hw : tyV dtMom w) (hs : nrm u = nrm w) (H : AH) : callL Try.D 36 [u, w] H = some (.bool true, H) := eq36 (fun a b h H => eqState a b h H) (fun a b h H => eq45 a b h H) (fun a b h H => eq14 a b h H) (fun a b h H => eq46 eqRec a b h H) hu hw hs H
theorem cpTask (u : AV) (hu : tyV dtTask u) (hb : szV bzF dtTask u) : ∃ v, (∀ H : AH, callL Try.D 73 [u] H = some (v, H)) ∧ tyV dtTask v ∧ nrm v = nrm u := cp73 (fun a b => cp41 a b) hu hb
theorem cpSpec {u : AV} (hu : tyV dtSpec u) (hb : szV bzF dtSpec u) : ∃ v, (∀ H : AH, callL Try.D 65 [u] H = some (v, H)) ∧ tyV dtSpec v ∧ nrm v = nrm u := cp65 (fun a b => cp41 a b) (fun a b => cp70 a b) hu hb
theorem cpAlloc (u : AV) (hu : tyV dtAlloc u) (hb : szV bzF dtAlloc u) : ∃ v, (∀ H : AH, callL Try.D 64 [u] H = some (v, H)) ∧ tyV dtAlloc v ∧ nrm v = nrm u := cp64 (fun a b => cpSpec a b) (fun a b => cp69 cpTask a b) hu hb
theorem cpState {u : AV} (hu : tyV dtState u) (hb : szV bzF dtState u) : ∃ v, (∀ H : AH, callL Try.D 39 [u] H = some (v, H)) ∧ tyV dtState v ∧ nrm v = nrm u := cp39 (fun a b => cp47 cpAlloc a b) hu hb
theorem cpRec (u : AV) (hu : tyV dtRec u) (hb : szV bzF dtRec u) : ∃ v, (∀ H : AH, callL Try.D 48 [u] H = some (v, H)) ∧ tyV dtRec v ∧ nrm v = nrm u := cp48 (fun a b => cpSpec a b) hu hb
theorem cpMom (u : AV) (hu : tyV dtMom u) (hb : szV bzF dtMom u) : ∃ v, (∀ H : AH, callL Try.D 29 [u] H = some (v, H)) ∧ tyV dtMom v ∧ nrm v = nrm u := cp29 (fun a b => cpState a b) (fun a b => cp40 a b) (fun a b => cp41 a b) (fun a b => cp42 cpRec a b) hu hb

theorem map_nrm {e : DT} {B : Type} {f : AV → B} (hf : ∀ u w, tyV e u → tyV e w → nrm u = nrm w → f u = f w) : ∀ (a b : List AV), (∀ u ∈ a, tyV e u) → (∀ u ∈ b, tyV e u) → nrmL a = nrmL b → a.map f = b.map f
  | [], [], _, _, _ => rfl
  | u :: a, w :: b, ha, hb, h => by
    simp only [nrmL, List.cons.injEq] at h
    simp only [List.map_cons]
    rw [hf u w (ha u (by simp)) (hb w (by simp)) h.1, map_nrm hf a b (fun v hv => ha v (by simp [hv])) (fun v hv => hb v (by simp [hv])) h.2]
  | [], _ :: _, _, _, h => by simp [nrmL] at h
  | _ :: _, [], _, _, h => by simp [nrmL] at h

theorem mom_nrm (u w : AV) (hu : tyV dtMom u) (hw : tyV dtMom w) (h : nrm u = nrm w) : moOf u = moOf w ∧ toksOf u = toksOf w := by
  obtain ⟨a0, a1, a2, a3, a4, a5, a6, a7, a8, a9, a10, a11, a12, a13, rfl, wa⟩ := un_dtMom hu
  obtain ⟨b0, b1, b2, b3, b4, b5, b6, b7, b8, b9, b10, b11, b12, b13, rfl, wb⟩ := un_dtMom hw
  have p9 : tyV (.sl 9 dtProc) a9 := pj_dtMom_9 hu
  have q9 : tyV (.sl 9 dtProc) b9 := pj_dtMom_9 hw
  simp only [nrm, nrmL, AV.agg.injEq, List.cons.injEq, AV.int.injEq, AV.bool.injEq, true_and, and_true] at h
  obtain ⟨rfl, rfl, rfl, rfl, rfl, rfl, rfl, rfl, -, h9, -, rfl, -, -⟩ := h
  have e9 := list_flat rfl p9 q9 h9
  constructor
  · show (⟨_, _, _, _, _, a9.listOf.any fun p => (hdV (tlV (tlV (tlV (tlV (tlV p.aggOf)))))).boolOf⟩ : Mo) = ⟨_, _, _, _, _, b9.listOf.any fun p => (hdV (tlV (tlV (tlV (tlV (tlV p.aggOf)))))).boolOf⟩
    rw [e9]
    rfl
  · show a9.listOf.map tokP = b9.listOf.map tokP
    rw [e9]

theorem mos_nrm {a b : AV} (ha : tyV (.sl 14 dtMom) a) (hb : tyV (.sl 14 dtMom) b) (h : nrm a = nrm b) : mosOf a = mosOf b ∧ tksOf a = tksOf b ∧ a.listOf.length = b.listOf.length := by
  have hl := list_same ha hb h
  refine ⟨map_nrm (fun u w hu hw h => (mom_nrm u w hu hw h).1) _ _ (sl_facts ha).2.2.1 (sl_facts hb).2.2.1 hl, map_nrm (fun u w hu hw h => (mom_nrm u w hu hw h).2) _ _ (sl_facts ha).2.2.1 (sl_facts hb).2.2.1 hl, (nrmL_get hl).1⟩
theorem ends_mos (c8 : Int) (l : AV) : endsL c8 l.listOf = (mosOf l).map fun m => .int .i64 (untilE c8 m.ac) := by
  unfold endsL mosOf
  rw [List.map_map]
  rfl
theorem nrm_of_list {n : Nat} {e : DT} {a b : AV} (ha : tyV (.sl n e) a) (hb : tyV (.sl n e) b) (h : a.listOf = b.listOf) : nrm a = nrm b := by
  rw [(sl_facts ha).2.2.2.1, (sl_facts hb).2.2.2.1, h]
theorem tupM (a b : AV) : AV.isTup 2 (.tuple [a, b]) = true := rfl
theorem shA (a : AV) : shS Sh.any a = a := rfl

theorem mat_run {c0 c1 c2 c3 c4 c5 c6 c7 c8 c9 c10 : Int} {d r : Int} {l : AV} (hc : tyV dtCfg (.agg (cfC c0 c1 c2 c3 c4 c5 c6 c7 c8 c9 c10))) (hd : (Lit.int .i64 d).wf = true) (hr : (Lit.int .i64 r).wf = true) (hl : tyV (.sl 14 dtMom) l) (hz : szV bzF (.sl 14 dtMom) l) :
    runI Try.D (cF 12) 12 Try.f4 [.agg (cfC c0 c1 c2 c3 c4 c5 c6 c7 c8 c9 c10), .int .i64 d, .int .i64 r, l] ⟨[], []⟩ (fun v _ => some v) = some (.bool true) := by
  obtain ⟨b6, e6, s6⟩ := k6 hl
  have f6 := fun H => valH_of (e6 H)
  rw [mat_form, f6]
  simp only [ftB, br, bool_b]
  cases b6 with
  | false => rfl
  | true =>
  simp only [Bool.not_true]
  obtain ⟨hlen, -⟩ := s6 rfl
  obtain ⟨l', e11, t', n'⟩ := cp11 cpMom hl hz
  obtain ⟨m1, m2, m3⟩ := mos_nrm t' hl n'
  have hck : ckE c0 c1 c2 c3 c4 c5 c6 c7 c8 c9 c10 l' = ckE c0 c1 c2 c3 c4 c5 c6 c7 c8 c9 c10 l := by unfold ckE; rw [m1, m3]
  have hnu : ∀ d r, numE c0 c1 c2 c3 c4 c5 c6 c7 c8 c9 c10 l' d r = numE c0 c1 c2 c3 c4 c5 c6 c7 c8 c9 c10 l d r := by intro d r; unfold numE; rw [hck]
  have hqu : quB c0 c1 c2 c3 c4 c5 c6 c7 c8 c9 c10 l' = quB c0 c1 c2 c3 c4 c5 c6 c7 c8 c9 c10 l := by unfold quB; rw [hck, m1, m2, m3]
  have hpr : preB c0 c1 c2 c3 c4 c5 c6 c7 c8 c9 c10 l' d r = preB c0 c1 c2 c3 c4 c5 c6 c7 c8 c9 c10 l d r := by unfold preB; rw [hnu, m1]
  have hgo : gonB c0 c1 c2 c3 c4 c5 c6 c7 c8 c9 c10 l' d r = gonB c0 c1 c2 c3 c4 c5 c6 c7 c8 c9 c10 l d r := by unfold gonB; rw [hnu, m1]
  obtain ⟨v, e12, tv, lv⟩ := k12 hc t' (by rw [m3]; omega)
  obtain ⟨w, e13, tw, lw⟩ := k13 hc hl (by omega)
  have hvw : v.listOf = w.listOf := by rw [lv, lw, hck, ends_mos, ends_mos, m1]
  have e14 := eq14 tv tw (nrm_of_list tv tw hvw)
  have e15 := k15 hc t'
  have e16 := k16 hc hl
  have e8 := k8 hc t' hd hr
  have e17 := k17 hc hl hd hr
  have e10 := k10 hc t' hd hr
  have e18 := k18 hc hl hd hr
  have e19 := eq19 eqMom t' hl n'
  rw [hck] at e12 e15
  rw [hqu] at e15
  rw [hpr, hnu] at e8
  rw [hgo, hnu] at e10
  have f11 := fun H => valH_of (e11 H)
  have f12 := fun H => valH_of (e12 H)
  have f13 := fun H => valH_of (e13 H)
  have f14 := fun H => valH_of (e14 H)
  have f15 := fun H => valH_of (e15 H)
  have f16 := fun H => valH_of (e16 H)
  have f8 := fun H => valH_of (e8 H)
  have f17 := fun H => valH_of (e17 H)
  have f10 := fun H => valH_of (e10 H)
  have f18 := fun H => valH_of (e18 H)
  have f19 := fun H => valH_of (e19 H)
  have f9 := fun H => valH_of (k9 H)
  rw [f11]
  simp only
  rw [f12]
  simp only [tupM, AV.tupOf, hdV, tlV, ftI, num_i]
  rw [f13]
  simp only [tupM, AV.tupOf, hdV, tlV, ftI, num_i, shA]
  rw [f14]
  simp only [ftB, bool_b, Bool.not_true, bne_self_eq_false]
  rw [f15]
  simp only [tupM, AV.tupOf, hdV, tlV, ftI, ftB, num_i, bool_b]
  rw [f16]
  simp only [tupM, AV.tupOf, hdV, tlV, ftI, ftB, num_i, bool_b, bne_self_eq_false, beq_self_eq_true, Bool.not_true]
  rw [f8]
  simp only [tupM, AV.tupOf, hdV, tlV, ftI, ftB, num_i, bool_b]
  rw [f17]
  simp only [tupM, AV.tupOf, hdV, tlV, ftI, ftB, num_i, bool_b, bne_self_eq_false, beq_self_eq_true, Bool.not_true]
  rw [f10]
  simp only [tupM, AV.tupOf, hdV, tlV, ftI, ftB, num_i, bool_b]
  rw [f18]
  simp only [tupM, AV.tupOf, hdV, tlV, ftI, ftB, num_i, bool_b, bne_self_eq_false, beq_self_eq_true, Bool.not_true]
  rw [f19]
  simp only [ftB, bool_b]
  rw [f9]
  simp only [ftB, bool_b]
end Go.Proofs.Ytoagnbpmoihojaa

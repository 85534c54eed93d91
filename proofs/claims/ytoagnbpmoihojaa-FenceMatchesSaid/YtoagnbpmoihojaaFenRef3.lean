/- Contract: the reference's Until. -/
import Derived.Test.YtoagnbpmoihojaaFenRef2
set_option maxRecDepth 100000
set_option linter.unusedSimpArgs false
set_option linter.unusedVariables false
namespace Go.Proofs.Ytoagnbpmoihojaa
open Go.Sx
def UE2 (c8 : Int) (l : AV) (o : Option AV) : Prop := ∃ v, o = some (.tuple [v, .int .i64 0]) ∧ tyV (.sl 1 dtI) (detok v) ∧ (detok v).listOf = endsL c8 l.listOf
theorem ub_loop (fuel : Nat) (c0 c1 c2 c3 c4 c5 c6 c7 c8 c9 c10 : Int) {l : AV} (hc : tyV dtCfg (.agg (cfC c0 c1 c2 c3 c4 c5 c6 c7 c8 c9 c10))) (hl : tyV (.sl 14 dtMom) l) (h40 : l.listOf.length ≤ 100000) : ∀ (r jn k : Nat) (i : Int) (g : Nat) (ys : List AV) (x0 x3 x4 x5 x6 x9 x10 x11 x12 x13 x14 x15 x16 x17 x18 x19 x20 x21 x22 x23 x24 x25 x26 x27 x28 x29 x30 : AV), i = (jn : Int) → jn + r = l.listOf.length → r < k → ys.length = jn → (∀ u ∈ ys, tyV dtI u) → ys ++ endsL c8 (l.listOf.drop jn) = endsL c8 l.listOf →
    UE2 c8 l (loopC Try.D (cF fuel) fuel ubB k [x0, l, .ptr 0 0, x3, x4, x5, x6, .inl true (.tok 0 g) 1 ys, .int .i64 i, x9, x10, x11, x12, x13, x14, x15, x16, x17, x18, x19, x20, x21, x22, x23, x24, x25, x26, x27, x28, x29, x30] ⟨[.cells (cfC c0 c1 c2 c3 c4 c5 c6 c7 c8 c9 c10)], [(g, 1, 3)]⟩ (kontI Try.D (cF fuel) fuel (bodyOf Try.f13) [1, 1, 1, 0, 1, 0] (endI Try.D Try.f13 fun v _ => some v)))
  | r, jn, 0, i, g, ys, _, _, _, _, _, _, _, _, _, _, _, _, _, _, _, _, _, _, _, _, _, _, _, _, _, _, _, hj, h, hk, hy, ht, he => by omega
  | 0, jn, k + 1, i, g, ys, x0, x3, x4, x5, x6, x9, x10, x11, x12, x13, x14, x15, x16, x17, x18, x19, x20, x21, x22, x23, x24, x25, x26, x27, x28, x29, x30, hj, h, hk, hy, ht, he => by
    subst hj
    rw [ub_step, (sl_facts hl).1, lt_false (by omega : ¬ jn < l.listOf.length)]
    rw [List.drop_eq_nil_of_le (by omega)] at he
    simp only [endsL, List.map_nil, List.append_nil] at he
    simp only [br, resetV_self]
    refine ⟨.inl true (.tok 0 g) 1 ys, ub_end fuel _ _ _ _ _ _ _ _ _ _ _ _ _ _ _ _ _ _ _ _ _ _ _ _ _ _ _ _ _ _ _ _, ?_, ?_⟩
    · simp only [detok, Spare.detok, ty_detokL ht]
      have := (sl_facts hl).2.1
      exact ty_new rfl (by omega) ht
    · show detokL ys = _
      rw [ty_detokL ht, he]; rfl
  | r + 1, jn, k + 1, i, g, ys, x0, x3, x4, x5, x6, x9, x10, x11, x12, x13, x14, x15, x16, x17, x18, x19, x20, x21, x22, x23, x24, x25, x26, x27, x28, x29, x30, hj, h, hk, hy, ht, he => by
    subst hj
    obtain ⟨hB, hmax, hT, -, -⟩ := sl_facts hl
    have hi : jn < l.listOf.length := by omega
    obtain ⟨u, hu⟩ : ∃ u, l.listOf[jn]? = some u := ⟨_, List.getElem?_eq_getElem hi⟩
    have tu := hT u (List.mem_of_getElem? hu)
    have hv := fun H => valH_of (un32 hc tu H)
    have hti : tyV dtI (.int .i64 (untilE c8 (hdV (tlV (tlV (tlV (tlV (tlV (tlV (tlV (tlV (tlV (tlV (tlV u.aggOf)))))))))))).numOf)) := ty_i (until_wf (pw_dtMom_11 tu))
    have ht' : ∀ v ∈ ys ++ [.int .i64 (untilE c8 (hdV (tlV (tlV (tlV (tlV (tlV (tlV (tlV (tlV (tlV (tlV (tlV u.aggOf)))))))))))).numOf)], tyV dtI v := by
      intro v hv
      rcases List.mem_append.1 hv with hv | hv
      · exact ht v hv
      · simp only [List.mem_singleton] at hv; subst hv; exact hti
    have he' : (ys ++ [.int .i64 (untilE c8 (hdV (tlV (tlV (tlV (tlV (tlV (tlV (tlV (tlV (tlV (tlV (tlV u.aggOf)))))))))))).numOf)]) ++ endsL c8 (l.listOf.drop (jn + 1)) = endsL c8 l.listOf := by
      rw [← he, nrm_drop hu]; simp [endsL]
    rw [ub_step, hB, lt_true hi, ge_true, Int.toNat_natCast, hu]
    simp only [br, Bool.and_self, fit_dtMom tu, eta_dtMom tu]
    rw [hv]
    simp only [ftI, num_i, detokL, detok]
    rw [if_pos ⟨show fitsRoom (ys.length + 1) 8 = true from fits_small (by omega) (by decide), by first | trivial | rfl⟩, if_pos (by first | trivial | rfl), wrap_next hi hmax]
    simp only [resetV_self, cut_ty hl, cut_tokI ht']
    exact ub_loop fuel c0 c1 c2 c3 c4 c5 c6 c7 c8 c9 c10 hc hl h40 r (jn + 1) k _ (g + 1) _ _ _ _ _ _ _ _ _ _ _ _ _ _ _ _ _ _ _ _ _ _ _ _ _ _ _ _ rfl (by omega) (by omega) (by simp [hy]) ht' he'

theorem ub_loopN (fuel : Nat) (c0 c1 c2 c3 c4 c5 c6 c7 c8 c9 c10 : Int) {l : AV} (hc : tyV dtCfg (.agg (cfC c0 c1 c2 c3 c4 c5 c6 c7 c8 c9 c10))) (hl : tyV (.sl 14 dtMom) l) (h40 : l.listOf.length ≤ 100000) (k : Nat) (x0 x3 x4 x5 x6 x9 x10 x11 x12 x13 x14 x15 x16 x17 x18 x19 x20 x21 x22 x23 x24 x25 x26 x27 x28 x29 x30 : AV) (i : Int) (hi0 : i = 0) (hk : l.listOf.length < k) :
    UE2 c8 l (loopC Try.D (cF fuel) fuel ubB k [x0, l, .ptr 0 0, x3, x4, x5, x6, .nils, .int .i64 i, x9, x10, x11, x12, x13, x14, x15, x16, x17, x18, x19, x20, x21, x22, x23, x24, x25, x26, x27, x28, x29, x30] ⟨[.cells (cfC c0 c1 c2 c3 c4 c5 c6 c7 c8 c9 c10)], []⟩ (kontI Try.D (cF fuel) fuel (bodyOf Try.f13) [1, 1, 1, 0, 1, 0] (endI Try.D Try.f13 fun v _ => some v))) := by
  subst hi0
  obtain ⟨k, rfl⟩ : ∃ j, k = j + 1 := ⟨k - 1, by omega⟩
  by_cases h0 : l.listOf.length = 0
  · rw [ub_stepN, (sl_facts hl).1, show decide ((0 : Int) < (l.listOf.length : Int)) = false by rw [h0]; rfl]
    simp only [br, resetV_self]
    refine ⟨.nils, ub_end fuel _ _ _ _ _ _ _ _ _ _ _ _ _ _ _ _ _ _ _ _ _ _ _ _ _ _ _ _ _ _ _ _, .inl rfl, ?_⟩
    rw [List.length_eq_zero_iff.1 h0]; rfl
  · obtain ⟨hB, hmax, hT, -, -⟩ := sl_facts hl
    have hi : 0 < l.listOf.length := by omega
    obtain ⟨u, hu⟩ : ∃ u, l.listOf[0]? = some u := ⟨_, List.getElem?_eq_getElem hi⟩
    have tu := hT u (List.mem_of_getElem? hu)
    have hv := fun H => valH_of (un32 hc tu H)
    have hti : tyV dtI (.int .i64 (untilE c8 (hdV (tlV (tlV (tlV (tlV (tlV (tlV (tlV (tlV (tlV (tlV (tlV u.aggOf)))))))))))).numOf)) := ty_i (until_wf (pw_dtMom_11 tu))
    rw [ub_stepN, hB, show decide ((0 : Int) < (l.listOf.length : Int)) = true by simpa using hi, show ((0 : Int)).toNat = 0 from rfl, hu]
    simp only [br, Bool.and_self, fit_dtMom tu, eta_dtMom tu, show decide ((0 : Int) ≤ 0) = true from rfl]
    rw [hv]
    simp only [ftI, num_i, detokL, detok]
    rw [show IntKind.i64.wrap (0 + 1) = ((1 : Nat) : Int) from rfl]
    simp only [resetV_self, cut_ty hl]
    refine ub_loop fuel c0 c1 c2 c3 c4 c5 c6 c7 c8 c9 c10 hc hl h40 (l.listOf.length - 1) 1 k _ 0 [.int .i64 (untilE c8 (hdV (tlV (tlV (tlV (tlV (tlV (tlV (tlV (tlV (tlV (tlV (tlV u.aggOf)))))))))))).numOf)] _ _ _ _ _ _ _ _ _ _ _ _ _ _ _ _ _ _ _ _ _ _ _ _ _ _ _ rfl (by omega) (by omega) rfl (by simpa using hti) ?_
    have := nrm_drop hu
    rw [List.drop_zero] at this
    conv => rhs; rw [this]
    simp [endsL]

theorem ue_uq {c0 c1 c2 c3 c4 c5 c6 c7 c8 c9 c10 : Int} {l : AV} {o : Option AV} (h : ckE c0 c1 c2 c3 c4 c5 c6 c7 c8 c9 c10 l = 0) (k : UE2 c8 l o) : UQ c0 c1 c2 c3 c4 c5 c6 c7 c8 c9 c10 l o := by
  obtain ⟨v, h1, h2, h3⟩ := k
  exact ⟨v, by rw [h]; exact h1, h2, by rw [if_pos h]; exact h3⟩
theorem k13 {c0 c1 c2 c3 c4 c5 c6 c7 c8 c9 c10 : Int} {l : AV} (hc : tyV dtCfg (.agg (cfC c0 c1 c2 c3 c4 c5 c6 c7 c8 c9 c10))) (hl : tyV (.sl 14 dtMom) l) (h40 : l.listOf.length ≤ 100000) : ∃ v, (∀ H : AH, callL Try.D 13 [.agg (cfC c0 c1 c2 c3 c4 c5 c6 c7 c8 c9 c10), l] H = some (.tuple [v, .int .i64 (ckE c0 c1 c2 c3 c4 c5 c6 c7 c8 c9 c10 l)], H)) ∧ tyV (.sl 1 dtI) v ∧ v.listOf = (if ckE c0 c1 c2 c3 c4 c5 c6 c7 c8 c9 c10 l = 0 then endsL c8 l.listOf else []) := by
  have hl' := tyV_erase hl
  have he : ckE c0 c1 c2 c3 c4 c5 c6 c7 c8 c9 c10 (erase l) = ckE c0 c1 c2 c3 c4 c5 c6 c7 c8 c9 c10 l := by unfold ckE; rw [mosOf_erase hl, listOf_erase hl, List.length_map]
  have hen : endsL c8 (erase l).listOf = endsL c8 l.listOf := map_erase hl fun u hu => by
    obtain ⟨m0, m1, m2, m3, m4, m5, m6, m7, m8, m9, m10, m11, m12, m13, rfl, w⟩ := un_dtMom hu
    rfl
  have key : UQ c0 c1 c2 c3 c4 c5 c6 c7 c8 c9 c10 (erase l) (runI Try.D (cF ((erase l).listOf.length + 1)) ((erase l).listOf.length + 1) Try.f13 [.agg (cfC c0 c1 c2 c3 c4 c5 c6 c7 c8 c9 c10), erase l] ⟨[], []⟩ (fun v _ => some v)) := by
    have h40' : (erase l).listOf.length ≤ 100000 := by rw [listOf_erase hl, List.length_map]; exact h40
    clear he hen
    generalize erase l = l at hl' h40' ⊢
    have hk := fun H => valH_of (k31 c0 c1 c2 c3 c4 c5 c6 c7 c8 c9 c10 hc hl' H)
    rw [ub_pre, hk]
    simp only [ftI, num_i, br]
    by_cases h : ckE c0 c1 c2 c3 c4 c5 c6 c7 c8 c9 c10 l = 0
    · rw [h]
      simp only [bne_self_eq_false]
      exact ue_uq h (ub_loopN _ c0 c1 c2 c3 c4 c5 c6 c7 c8 c9 c10 hc hl' h40' _ _ _ _ _ _ _ _ _ _ _ _ _ _ _ _ _ _ _ _ _ _ _ _ _ _ _ _ 0 rfl (Nat.lt_succ_self _))
    · have hb : (ckE c0 c1 c2 c3 c4 c5 c6 c7 c8 c9 c10 l != 0) = true := by rw [bne_iff_ne]; exact h
      rw [hb]
      exact ⟨.nils, rfl, .inl rfl, by rw [if_neg h]; rfl⟩
  obtain ⟨v, h1, h2, h3⟩ := key
  refine ⟨detok v, fun H => ?_, h2, by rw [h3, he, hen]⟩
  have hd : detok (.tuple [v, .int .i64 (ckE c0 c1 c2 c3 c4 c5 c6 c7 c8 c9 c10 (erase l))]) = .tuple [detok v, .int .i64 (ckE c0 c1 c2 c3 c4 c5 c6 c7 c8 c9 c10 l)] := by rw [he]; rfl
  rw [← hd]
  refine callL_D tabF_ok (fuel := (erase l).listOf.length + 1) (n := 6) (fn := Try.f13) (ds := [dtCfg, .sl 14 dtMom]) (v := .tuple [v, .int .i64 (ckE c0 c1 c2 c3 c4 c5 c6 c7 c8 c9 c10 (erase l))]) (by kernel_rfl) (by kernel_rfl) (by kernel_rfl) ⟨hc, hl, trivial⟩ h1 ?_
  rw [hd]
  simp only [below, belowL, tyV_below h2 0 0, Bool.and_self]
end Go.Proofs.Ytoagnbpmoihojaa

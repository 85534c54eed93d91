/- Contracts: the reference's checks; Until, both. -/
import Derived.Test.YtoagnbpmoihojaaFenRef
set_option maxRecDepth 100000
set_option linter.unusedSimpArgs false
set_option linter.unusedVariables false
namespace Go.Proofs.Ytoagnbpmoihojaa
open Go.Sx
theorem ftI (n : Int) : fitS (Sh.int IntKind.i64) (.int .i64 n) = true := by simp [fitS]
theorem ftB (b : Bool) : fitS Sh.bool (.bool b) = true := rfl
theorem num_i {k : IntKind} {n : Int} : (AV.int k n).numOf = n := rfl
theorem bool_b {b : Bool} : (AV.bool b).boolOf = b := rfl
theorem run32 (c0 c1 c2 c3 c4 c5 c6 c7 c8 c9 c10 : Int) (m0 : Int) (m1 m2 m3 : Bool) (m4 m5 m6 m7 : Int) (m8 m9 m10 : AV) (m11 : Int) (m12 m13 : AV) : runI Try.D (cF 12) 12 Try.f32 [.agg (cfC c0 c1 c2 c3 c4 c5 c6 c7 c8 c9 c10), .agg [.int .i64 m0, .bool m1, .bool m2, .bool m3, .int .i64 m4, .int .i64 m5, .int .i64 m6, .int .i64 m7, m8, m9, m10, .int .i64 m11, m12, m13]] ⟨[], []⟩ (fun v _ => some v) = some (.int .i64 (untilE c8 m11)) := by
  rw [form32]
  unfold untilE
  simp only [br_ite, decide_eq_true_eq]
  split <;> rfl
theorem un32 {c0 c1 c2 c3 c4 c5 c6 c7 c8 c9 c10 : Int} {u : AV} (hc : tyV dtCfg (.agg (cfC c0 c1 c2 c3 c4 c5 c6 c7 c8 c9 c10))) (hu : tyV dtMom u) (H : AH) : callL Try.D 32 [.agg (cfC c0 c1 c2 c3 c4 c5 c6 c7 c8 c9 c10), u] H = some (.int .i64 (untilE c8 (hdV (tlV (tlV (tlV (tlV (tlV (tlV (tlV (tlV (tlV (tlV (tlV u.aggOf)))))))))))).numOf), H) := by
  obtain ⟨m0, m1, m2, m3, m4, m5, m6, m7, m8, m9, m10, m11, m12, m13, rfl, w⟩ := un_dtMom hu
  refine callL_D tabF_ok (fuel := 12) (n := 6) (fn := Try.f32) (ds := [dtCfg, dtMom]) (v := .int .i64 (untilE c8 m11)) (by kernel_rfl) (by kernel_rfl) (by kernel_rfl) ⟨hc, hu, trivial⟩ ?_ rfl
  exact run32 c0 c1 c2 c3 c4 c5 c6 c7 c8 c9 c10 m0 m1 m2 m3 m4 m5 m6 m7 _ _ _ m11 _ _

theorem rk_loop (fuel : Nat) (c0 c1 c2 c3 c4 c5 c6 c7 c8 c9 c10 : Int) {l : AV} (hl : tyV (.sl 14 dtMom) l) : ∀ (r jn k : Nat) (bf i : Int) (x0 x3 x5 x8 x9 x10 x11 x12 x13 x14 x15 x16 x17 x18 x19 x20 x21 x22 x23 x24 x25 x26 x27 x28 x29 x30 x31 x32 x33 x34 x35 x36 x37 x38 x39 x40 x41 x42 x43 x44 x45 x46 x47 : AV), i = (jn : Int) → jn + r = l.listOf.length → r < k →
    loopC Try.D (cF fuel) fuel rkB k [x0, l, .ptr 0 0, x3, .int .i64 0, x5, .int .i64 bf, .int .i64 i, x8, x9, x10, x11, x12, x13, x14, x15, x16, x17, x18, x19, x20, x21, x22, x23, x24, x25, x26, x27, x28, x29, x30, x31, x32, x33, x34, x35, x36, x37, x38, x39, x40, x41, x42, x43, x44, x45, x46, x47] ⟨[.cells (cfC c0 c1 c2 c3 c4 c5 c6 c7 c8 c9 c10)], []⟩ (kontI Try.D (cF fuel) fuel (bodyOf Try.f31) [1, 1, 1, 1, 0, 1, 0] (endI Try.D Try.f31 fun v _ => some v)) = some (.int .i64 (ordE bf ((l.listOf.drop jn).map moOf)))
  | r, jn, 0, bf, i, _, _, _, _, _, _, _, _, _, _, _, _, _, _, _, _, _, _, _, _, _, _, _, _, _, _, _, _, _, _, _, _, _, _, _, _, _, _, _, _, _, _, _, hj, h, hk => by omega
  | 0, jn, k + 1, bf, i, x0, x3, x5, x8, x9, x10, x11, x12, x13, x14, x15, x16, x17, x18, x19, x20, x21, x22, x23, x24, x25, x26, x27, x28, x29, x30, x31, x32, x33, x34, x35, x36, x37, x38, x39, x40, x41, x42, x43, x44, x45, x46, x47, hj, h, hk => by
    subst hj
    rw [rk_step, (sl_facts hl).1, lt_false (by omega : ¬ jn < l.listOf.length), List.drop_eq_nil_of_le (by omega)]
    simp only [br]
    exact rk_end fuel _ _ _ _ _ _ _ _ _ _ _ _ _ _ _ _ _ _ _ _ _ _ _ _ _ _ _ _ _ _ _ _ _ _ _ _ _ _ _ _ _ _ _ _ _ _ _ _ _
  | r + 1, jn, k + 1, bf, i, x0, x3, x5, x8, x9, x10, x11, x12, x13, x14, x15, x16, x17, x18, x19, x20, x21, x22, x23, x24, x25, x26, x27, x28, x29, x30, x31, x32, x33, x34, x35, x36, x37, x38, x39, x40, x41, x42, x43, x44, x45, x46, x47, hj, h, hk => by
    subst hj
    obtain ⟨hB, hmax, hT, -, -⟩ := sl_facts hl
    have hi : jn < l.listOf.length := by omega
    obtain ⟨u, hu⟩ : ∃ u, l.listOf[jn]? = some u := ⟨_, List.getElem?_eq_getElem hi⟩
    have tu := hT u (List.mem_of_getElem? hu)
    rw [rk_step, hB, lt_true hi, ge_true, Int.toNat_natCast, hu, nrm_drop hu]
    simp only [br, Bool.and_self, fit_dtMom tu, List.map_cons, ordE]
    by_cases h1 : (hdV u.aggOf).numOf < bf
    · rw [if_pos (show (moOf u).now < bf from h1), dec_yes h1]
      exact rk_ret fuel _ _ _ _ _ _ _ _ _ _ _ _ _ _ _ _ _ _ _ _ _ _ _ _ _ _ _ _ _ _ _ _ _ _ _ _ _ _ _ _ _ _ _ _ _ _ _ _ _
    rw [if_neg (show ¬ (moOf u).now < bf from h1), dec_no h1]
    simp only
    by_cases h2 : (hdV u.aggOf).numOf > 1099511627776
    · rw [if_pos (show (moOf u).now > _ from h2), dec_yes h2]
      exact rk_ret fuel _ _ _ _ _ _ _ _ _ _ _ _ _ _ _ _ _ _ _ _ _ _ _ _ _ _ _ _ _ _ _ _ _ _ _ _ _ _ _ _ _ _ _ _ _ _ _ _ _
    rw [if_neg (show ¬ (moOf u).now > _ from h2), dec_no h2]
    simp only
    by_cases h3 : (hdV (tlV (tlV (tlV (tlV (tlV (tlV (tlV (tlV (tlV (tlV (tlV u.aggOf)))))))))))).numOf > 1099511627776
    · rw [if_pos (show (moOf u).ac > _ from h3), dec_yes h3]
      exact rk_ret fuel _ _ _ _ _ _ _ _ _ _ _ _ _ _ _ _ _ _ _ _ _ _ _ _ _ _ _ _ _ _ _ _ _ _ _ _ _ _ _ _ _ _ _ _ _ _ _ _ _
    rw [if_neg (show ¬ (moOf u).ac > _ from h3), dec_no h3]
    simp only [resetV_self, cut_ty hl]
    rw [wrap_next hi hmax]
    exact rk_loop fuel c0 c1 c2 c3 c4 c5 c6 c7 c8 c9 c10 hl r (jn + 1) k _ _ _ _ _ _ _ _ _ _ _ _ _ _ _ _ _ _ _ _ _ _ _ _ _ _ _ _ _ _ _ _ _ _ _ _ _ _ _ _ _ _ _ _ _ rfl (by omega) (by omega)

theorem rk_run (c0 c1 c2 c3 c4 c5 c6 c7 c8 c9 c10 : Int) {l : AV} (hc : tyV dtCfg (.agg (cfC c0 c1 c2 c3 c4 c5 c6 c7 c8 c9 c10))) (hl : tyV (.sl 14 dtMom) l) : runI Try.D (cF (l.listOf.length + 1)) (l.listOf.length + 1) Try.f31 [.agg (cfC c0 c1 c2 c3 c4 c5 c6 c7 c8 c9 c10), l] ⟨[], []⟩ (fun v _ => some v) = some (.int .i64 (ckE c0 c1 c2 c3 c4 c5 c6 c7 c8 c9 c10 l)) := by
  have hk := fun H => valH_of (k7 hc H)
  rw [rk_pre, hk]
  unfold ckE
  by_cases h : cfgOK c0 c1 c2 c3 c4 c5 c6 c7 c8 c9 c10
  · simp only [if_pos h, fitS, AV.numOf, br, (sl_facts hl).1, decide_true]
    by_cases h0 : l.listOf.length = 0
    · rw [if_pos h0, h0]
      rfl
    · rw [if_neg h0]
      have e1 : ((l.listOf.length : Int) == 0) = false := by rw [beq_eq_false_iff_ne]; omega
      rw [e1]
      have hz : mosOf l = (l.listOf.drop 0).map moOf := by rw [List.drop_zero]; rfl
      rw [hz]
      simp only
      exact rk_loop (l.listOf.length + 1) c0 c1 c2 c3 c4 c5 c6 c7 c8 c9 c10 hl l.listOf.length 0 (l.listOf.length + 1) 0 0 _ _ _ _ _ _ _ _ _ _ _ _ _ _ _ _ _ _ _ _ _ _ _ _ _ _ _ _ _ _ _ _ _ _ _ _ _ _ _ _ _ _ _ rfl (by omega) (by omega)
  · simp only [if_neg h, fitS, AV.numOf, br, decide_true]
    rfl
theorem k31 (c0 c1 c2 c3 c4 c5 c6 c7 c8 c9 c10 : Int) {l : AV} (hc : tyV dtCfg (.agg (cfC c0 c1 c2 c3 c4 c5 c6 c7 c8 c9 c10))) (hl : tyV (.sl 14 dtMom) l) (H : AH) : callL Try.D 31 [.agg (cfC c0 c1 c2 c3 c4 c5 c6 c7 c8 c9 c10), l] H = some (.int .i64 (ckE c0 c1 c2 c3 c4 c5 c6 c7 c8 c9 c10 l), H) := by
  have hl' := tyV_erase hl
  have he : ckE c0 c1 c2 c3 c4 c5 c6 c7 c8 c9 c10 (erase l) = ckE c0 c1 c2 c3 c4 c5 c6 c7 c8 c9 c10 l := by unfold ckE; rw [mosOf_erase hl, listOf_erase hl, List.length_map]
  rw [← he]
  refine callL_D tabF_ok (fuel := (erase l).listOf.length + 1) (n := 6) (fn := Try.f31) (ds := [dtCfg, .sl 14 dtMom]) (v := .int .i64 (ckE c0 c1 c2 c3 c4 c5 c6 c7 c8 c9 c10 (erase l))) (by kernel_rfl) (by kernel_rfl) (by kernel_rfl) ⟨hc, hl, trivial⟩ ?_ rfl
  exact rk_run c0 c1 c2 c3 c4 c5 c6 c7 c8 c9 c10 hc hl'
theorem num34_run (c0 c1 c2 c3 c4 c5 c6 c7 c8 c9 c10 : Int) {l : AV} {d r : Int} (hc : tyV dtCfg (.agg (cfC c0 c1 c2 c3 c4 c5 c6 c7 c8 c9 c10))) (hl : tyV (.sl 14 dtMom) l) : runI Try.D (cF 12) 12 Try.f34 [.agg (cfC c0 c1 c2 c3 c4 c5 c6 c7 c8 c9 c10), .int .i64 d, .int .i64 r, l] ⟨[], []⟩ (fun v _ => some v) = some (.int .i64 (numE c0 c1 c2 c3 c4 c5 c6 c7 c8 c9 c10 l d r)) := by
  have hk := fun H => valH_of (k31 c0 c1 c2 c3 c4 c5 c6 c7 c8 c9 c10 hc hl H)
  rw [num34, hk]
  unfold numE
  simp only [fitS, AV.numOf, br_ite, decide_true, if_true, Bool.false_eq_true, if_false, bne_iff_ne, ne_eq, decide_eq_true_eq]
  by_cases h : ckE c0 c1 c2 c3 c4 c5 c6 c7 c8 c9 c10 l = 0
  · rw [if_neg (fun k => k h), if_pos h]
    by_cases h2 : 0 ≤ d ∧ d ≤ 1099511627776 ∧ 0 ≤ r ∧ r ≤ 1099511627776
    · rw [if_neg (by omega), if_neg (by omega), if_neg (by omega), if_neg (by omega), if_pos h2]
    · rw [if_neg h2]
      repeat' split
      all_goals first | rfl | (exfalso; omega)
  · rw [if_pos h, if_neg h]
theorem k34 (c0 c1 c2 c3 c4 c5 c6 c7 c8 c9 c10 : Int) {l : AV} {d r : Int} (hc : tyV dtCfg (.agg (cfC c0 c1 c2 c3 c4 c5 c6 c7 c8 c9 c10))) (hl : tyV (.sl 14 dtMom) l) (hd : (Lit.int .i64 d).wf = true) (hr : (Lit.int .i64 r).wf = true) (H : AH) : callL Try.D 34 [.agg (cfC c0 c1 c2 c3 c4 c5 c6 c7 c8 c9 c10), .int .i64 d, .int .i64 r, l] H = some (.int .i64 (numE c0 c1 c2 c3 c4 c5 c6 c7 c8 c9 c10 l d r), H) := by
  rw [← numE_erase hl]
  refine callL_D tabF_ok (fuel := 12) (n := 6) (fn := Try.f34) (ds := [dtCfg, dtI, dtI, .sl 14 dtMom]) (v := .int .i64 (numE c0 c1 c2 c3 c4 c5 c6 c7 c8 c9 c10 (erase l) d r)) (by kernel_rfl) (by kernel_rfl) (by kernel_rfl) ⟨hc, ty_i hd, ty_i hr, hl, trivial⟩ ?_ rfl
  exact num34_run c0 c1 c2 c3 c4 c5 c6 c7 c8 c9 c10 hc (tyV_erase hl)

/-- Until when the leases are good. -/
def endsL (c8 : Int) (L : List AV) : List AV := L.map fun u => .int .i64 (untilE c8 (hdV (tlV (tlV (tlV (tlV (tlV (tlV (tlV (tlV (tlV (tlV (tlV u.aggOf)))))))))))).numOf)
theorem wrap_lo (n : Int) : -9223372036854775808 ≤ IntKind.i64.wrap n ∧ IntKind.i64.wrap n ≤ 9223372036854775807 := by
  have e1 : (2 : Int) ^ (64 - 1) = 9223372036854775808 := by decide
  have e2 : (2 : Int) ^ 64 = 18446744073709551616 := by decide
  simp only [IntKind.wrap, IntKind.bits, IntKind.signed, Bool.true_and, decide_eq_true_eq, e1, e2]
  split <;> omega
theorem until_wf {c8 n : Int} (h : (Lit.int .i64 n).wf = true) : (Lit.int .i64 (untilE c8 n)).wf = true := by
  unfold untilE
  split
  · rfl
  · exact wf64 (by have := wrap_lo (n + c8); omega) (by have := wrap_lo (n + c8); omega)
theorem ty_ends {c8 : Int} {L : List AV} (h : ∀ u ∈ L, tyV dtMom u) : ∀ v ∈ endsL c8 L, tyV dtI v := by
  intro v hv
  obtain ⟨u, hu, rfl⟩ := List.mem_map.1 hv
  exact ty_i (until_wf (pw_dtMom_11 (h u hu)))
theorem cut_tokI {xs : List AV} (h : ∀ u ∈ xs, tyV dtI u) (n g : Nat) : cutV n 1 (.inl true (.tok 0 g) 1 xs) = .inl true (.tok 0 g) 1 xs := by
  unfold cutV
  have : below n 1 (.inl true (.tok 0 g) 1 xs) = true := by
    simp only [below, ty_ebelowL h]
    rfl
  rw [this]

theorem ua_loop (fuel : Nat) (c0 c1 c2 c3 c4 c5 c6 c7 c8 c9 c10 : Int) {l : AV} (hc : tyV dtCfg (.agg (cfC c0 c1 c2 c3 c4 c5 c6 c7 c8 c9 c10))) (hl : tyV (.sl 14 dtMom) l) (h40 : l.listOf.length ≤ 100000) : ∀ (r jn k : Nat) (i : Int) (g : Nat) (ys : List AV) (x0 x3 x4 x5 x6 x8 x9 x10 x11 x12 x13 x14 x15 x16 x17 x18 x22 x23 x24 x25 x26 x27 x28 x29 x30 x31 x32 : AV), i = (jn : Int) → jn + r = l.listOf.length → r < k → ys.length = jn → (∀ u ∈ ys, tyV dtI u) →
    ∃ g', loopC Try.D (cF fuel) fuel uaB k [x0, l, .ptr 0 0, x3, x4, x5, x6, .inl true (.tok 0 g) 1 ys, x8, x9, x10, x11, x12, x13, x14, x15, x16, x17, x18, l, .int .i64 (l.listOf.length : Int), .int .i64 i, x22, x23, x24, x25, x26, x27, x28, x29, x30, x31, x32] ⟨[.cells (cfC c0 c1 c2 c3 c4 c5 c6 c7 c8 c9 c10)], [(g, 1, 3)]⟩ (kontI Try.D (cF fuel) fuel (subC uaC [1, 1, 1]) [0, 1, 0] (endI Try.D Try.f12 fun v _ => some v)) = some (.tuple [.inl true (.tok 0 g') 1 (ys ++ endsL c8 (l.listOf.drop jn)), .int .i64 0])
  | r, jn, 0, i, g, ys, _, _, _, _, _, _, _, _, _, _, _, _, _, _, _, _, _, _, _, _, _, _, _, _, _, _, _, hj, h, hk, hy, ht => by omega
  | 0, jn, k + 1, i, g, ys, x0, x3, x4, x5, x6, x8, x9, x10, x11, x12, x13, x14, x15, x16, x17, x18, x22, x23, x24, x25, x26, x27, x28, x29, x30, x31, x32, hj, h, hk, hy, ht => by
    subst hj
    refine ⟨g, ?_⟩
    rw [ua_step, lt_false (by omega : ¬ jn < l.listOf.length), List.drop_eq_nil_of_le (by omega)]
    simp only [br, endsL, List.map_nil, List.append_nil]
    exact ua_end fuel _ _ _ _ _ _ _ _ _ _ _ _ _ _ _ _ _ _ _ _ _ _ _ _ _ _ _ _ _ _ _ _ _ _
  | r + 1, jn, k + 1, i, g, ys, x0, x3, x4, x5, x6, x8, x9, x10, x11, x12, x13, x14, x15, x16, x17, x18, x22, x23, x24, x25, x26, x27, x28, x29, x30, x31, x32, hj, h, hk, hy, ht => by
    subst hj
    obtain ⟨hB, hmax, hT, -, -⟩ := sl_facts hl
    have hi : jn < l.listOf.length := by omega
    obtain ⟨u, hu⟩ : ∃ u, l.listOf[jn]? = some u := ⟨_, List.getElem?_eq_getElem hi⟩
    have tu := hT u (List.mem_of_getElem? hu)
    have hum : AV.agg (moC (hdV u.aggOf).numOf (hdV (tlV u.aggOf)).boolOf (hdV (tlV (tlV u.aggOf))).boolOf (hdV (tlV (tlV (tlV u.aggOf)))).boolOf (hdV (tlV (tlV (tlV (tlV u.aggOf))))).numOf (hdV (tlV (tlV (tlV (tlV (tlV u.aggOf)))))).numOf (hdV (tlV (tlV (tlV (tlV (tlV (tlV u.aggOf))))))).numOf (hdV (tlV (tlV (tlV (tlV (tlV (tlV (tlV u.aggOf)))))))).numOf (shS Sh.any (hdV (tlV (tlV (tlV (tlV (tlV (tlV (tlV (tlV u.aggOf)))))))))) (shS Sh.any (hdV (tlV (tlV (tlV (tlV (tlV (tlV (tlV (tlV (tlV u.aggOf))))))))))) (shS Sh.any (hdV (tlV (tlV (tlV (tlV (tlV (tlV (tlV (tlV (tlV (tlV u.aggOf)))))))))))) (hdV (tlV (tlV (tlV (tlV (tlV (tlV (tlV (tlV (tlV (tlV (tlV u.aggOf)))))))))))).numOf (shS Sh.any (hdV (tlV (tlV (tlV (tlV (tlV (tlV (tlV (tlV (tlV (tlV (tlV (tlV u.aggOf)))))))))))))) (shS Sh.any (hdV (tlV (tlV (tlV (tlV (tlV (tlV (tlV (tlV (tlV (tlV (tlV (tlV (tlV u.aggOf)))))))))))))))) = u := eta_dtMom tu
    have hv : ∀ H, valH Try.D 28 [.agg (cfC c0 c1 c2 c3 c4 c5 c6 c7 c8 c9 c10), .agg (moC (hdV u.aggOf).numOf (hdV (tlV u.aggOf)).boolOf (hdV (tlV (tlV u.aggOf))).boolOf (hdV (tlV (tlV (tlV u.aggOf)))).boolOf (hdV (tlV (tlV (tlV (tlV u.aggOf))))).numOf (hdV (tlV (tlV (tlV (tlV (tlV u.aggOf)))))).numOf (hdV (tlV (tlV (tlV (tlV (tlV (tlV u.aggOf))))))).numOf (hdV (tlV (tlV (tlV (tlV (tlV (tlV (tlV u.aggOf)))))))).numOf (shS Sh.any (hdV (tlV (tlV (tlV (tlV (tlV (tlV (tlV (tlV u.aggOf)))))))))) (shS Sh.any (hdV (tlV (tlV (tlV (tlV (tlV (tlV (tlV (tlV (tlV u.aggOf))))))))))) (shS Sh.any (hdV (tlV (tlV (tlV (tlV (tlV (tlV (tlV (tlV (tlV (tlV u.aggOf)))))))))))) (hdV (tlV (tlV (tlV (tlV (tlV (tlV (tlV (tlV (tlV (tlV (tlV u.aggOf)))))))))))).numOf (shS Sh.any (hdV (tlV (tlV (tlV (tlV (tlV (tlV (tlV (tlV (tlV (tlV (tlV (tlV u.aggOf)))))))))))))) (shS Sh.any (hdV (tlV (tlV (tlV (tlV (tlV (tlV (tlV (tlV (tlV (tlV (tlV (tlV (tlV u.aggOf))))))))))))))))] H = some (.int .i64 (untilE c8 (hdV (tlV (tlV (tlV (tlV (tlV (tlV (tlV (tlV (tlV (tlV (tlV u.aggOf)))))))))))).numOf)) := by
      intro H
      rw [hum]
      exact valH_of (un28 hc tu H)
    simp only [moC] at hv
    have hti : tyV dtI (.int .i64 (untilE c8 (hdV (tlV (tlV (tlV (tlV (tlV (tlV (tlV (tlV (tlV (tlV (tlV u.aggOf)))))))))))).numOf)) := ty_i (until_wf (pw_dtMom_11 tu))
    have ht' : ∀ v ∈ ys ++ [.int .i64 (untilE c8 (hdV (tlV (tlV (tlV (tlV (tlV (tlV (tlV (tlV (tlV (tlV (tlV u.aggOf)))))))))))).numOf)], tyV dtI v := by
      intro v hv
      rcases List.mem_append.1 hv with hv | hv
      · exact ht v hv
      · simp only [List.mem_singleton] at hv; subst hv; exact hti
    have e : ys ++ endsL c8 (l.listOf.drop jn) = (ys ++ [.int .i64 (untilE c8 (hdV (tlV (tlV (tlV (tlV (tlV (tlV (tlV (tlV (tlV (tlV (tlV u.aggOf)))))))))))).numOf)]) ++ endsL c8 (l.listOf.drop (jn + 1)) := by
      rw [nrm_drop hu]; simp [endsL]
    rw [e]
    have ih := fun (x0 x3 x4 x5 x6 x8 x9 x10 x11 x12 x13 x14 x15 x16 x17 x18 x22 x23 x24 x25 x26 x27 x28 x29 x30 x31 x32 : AV) => ua_loop fuel c0 c1 c2 c3 c4 c5 c6 c7 c8 c9 c10 hc hl h40 r (jn + 1) k ((jn + 1 : Nat) : Int) (g + 1) (ys ++ [.int .i64 (untilE c8 (hdV (tlV (tlV (tlV (tlV (tlV (tlV (tlV (tlV (tlV (tlV (tlV u.aggOf)))))))))))).numOf)]) x0 x3 x4 x5 x6 x8 x9 x10 x11 x12 x13 x14 x15 x16 x17 x18 x22 x23 x24 x25 x26 x27 x28 x29 x30 x31 x32 rfl (by omega) (by omega) (by simp [hy]) ht'
    rw [ua_step, lt_true hi, hB, ge_true, Int.toNat_natCast, hu]
    simp only [br, Bool.and_self, fit_dtMom tu]
    rw [hv]
    simp only [ftI, num_i, detokL, detok]
    rw [if_pos ⟨show fitsRoom (ys.length + 1) 8 = true from fits_small (by omega) (by decide), by first | trivial | rfl⟩, if_pos (by first | trivial | rfl), wrap_next hi hmax]
    simp only [resetV_self, cut_ty hl, cut_tokI ht']
    exact ih _ _ _ _ _ _ _ _ _ _ _ _ _ _ _ _ _ _ _ _ _ _ _ _ _ _ _

theorem ua_loopQ (fuel : Nat) (c0 c1 c2 c3 c4 c5 c6 c7 c8 c9 c10 : Int) {l : AV} (hc : tyV dtCfg (.agg (cfC c0 c1 c2 c3 c4 c5 c6 c7 c8 c9 c10))) (hl : tyV (.sl 14 dtMom) l) (h40 : l.listOf.length ≤ 100000) (Q : Option AV → Prop) (k : Nat) (x0 x3 x4 x5 x6 x8 x9 x10 x11 x12 x13 x14 x15 x16 x17 x18 x22 x23 x24 x25 x26 x27 x28 x29 x30 x31 x32 : AV) (hk : l.listOf.length < k) (hQ : ∀ g', Q (some (.tuple [.inl true (.tok 0 g') 1 (endsL c8 l.listOf), .int .i64 0]))) (g : Nat) (ys : List AV) (i : Int) (hg : g = 0) (hy : ys = []) (hi : i = 0) :
    Q (loopC Try.D (cF fuel) fuel uaB k [x0, l, .ptr 0 0, x3, x4, x5, x6, .inl true (.tok 0 g) 1 ys, x8, x9, x10, x11, x12, x13, x14, x15, x16, x17, x18, l, .int .i64 (l.listOf.length : Int), .int .i64 i, x22, x23, x24, x25, x26, x27, x28, x29, x30, x31, x32] ⟨[.cells (cfC c0 c1 c2 c3 c4 c5 c6 c7 c8 c9 c10)], [(g, 1, 3)]⟩ (kontI Try.D (cF fuel) fuel (subC uaC [1, 1, 1]) [0, 1, 0] (endI Try.D Try.f12 fun v _ => some v))) := by
  subst hg; subst hy; subst hi
  obtain ⟨g', h⟩ := ua_loop fuel c0 c1 c2 c3 c4 c5 c6 c7 c8 c9 c10 hc hl h40 l.listOf.length 0 k 0 0 [] x0 x3 x4 x5 x6 x8 x9 x10 x11 x12 x13 x14 x15 x16 x17 x18 x22 x23 x24 x25 x26 x27 x28 x29 x30 x31 x32 rfl (by omega) hk rfl (by simp)
  rw [h]
  exact hQ g'

theorem br_true {R : Type} (f g : Unit → Option R) : br true f g = f () := rfl
theorem ua_p2c (fuel : Nat) (n : Int) (h0 : 0 ≤ n) (h1 : n ≤ 100000) (x0 x1 x2 x3 x4 x5 x6 x7 x8 x9 x10 x11 x12 x13 x14 x15 x16 x18 x19 x20 x21 x22 x23 x24 x25 x26 x27 x28 x29 x30 x31 x32 : AV) (os : List AObj) (K : Ex → List AV → AH → Option AV) :
    opsI noBorn Try.D (cF fuel) op4 (op4.toList.drop 2) [x0, x1, x2, x3, x4, x5, x6, x7, x8, x9, x10, x11, x12, x13, x14, x15, x16, .int .i64 n, x18, x19, x20, x21, x22, x23, x24, x25, x26, x27, x28, x29, x30, x31, x32] ⟨os, []⟩ (fun s H => K .normal s H) = K .normal [x0, x1, x2, x3, x4, x5, x6, .inl true (.tok 0 0) 1 [], x8, x9, x10, x11, x12, x13, x14, x15, x16, .int .i64 n, .inl true (.tok 0 0) 1 [], x19, x20, x21, x22, x23, x24, x25, x26, x27, x28, x29, x30, x31, x32] ⟨os, [(0, 1, 3)]⟩ := by
  rw [ua_p2b, if_pos ⟨rfl, rfl, by omega, by omega, by omega, by omega, rfl, by omega⟩]
theorem ua_p2 (fuel : Nat) (c0 c1 c2 c3 c4 c5 c6 c7 c8 c9 c10 : Int) {l : AV} (hB : AV.listN 14 l = true) (h40 : l.listOf.length ≤ 100000) (x3 x4 x5 x6 x7 x8 x9 x10 x11 x12 x13 x14 x15 x16 x17 x18 x19 x20 x21 x22 x23 x24 x25 x26 x27 x28 x29 x30 x31 x32 : AV) (K : Ex → List AV → AH → Option AV) :
    denI Try.D (cF fuel) fuel (subC uaC [1, 1, 0]) [.agg (cfC c0 c1 c2 c3 c4 c5 c6 c7 c8 c9 c10), l, .ptr 0 0, x3, x4, x5, x6, x7, x8, x9, x10, x11, x12, x13, x14, x15, x16, x17, x18, x19, x20, x21, x22, x23, x24, x25, x26, x27, x28, x29, x30, x31, x32] ⟨[.cells (cfC c0 c1 c2 c3 c4 c5 c6 c7 c8 c9 c10)], []⟩ K = K .normal [.agg (cfC c0 c1 c2 c3 c4 c5 c6 c7 c8 c9 c10), l, .ptr 0 0, x3, x4, x5, x6, .inl true (.tok 0 0) 1 [], x8, x9, x10, x11, x12, x13, x14, x15, l, .int .i64 (l.listOf.length : Int), .inl true (.tok 0 0) 1 [], x19, x20, x21, x22, x23, x24, x25, x26, x27, x28, x29, x30, x31, x32] ⟨[.cells (cfC c0 c1 c2 c3 c4 c5 c6 c7 c8 c9 c10)], [(0, 1, 3)]⟩ := by
  refine (ua_p2a fuel c0 c1 c2 c3 c4 c5 c6 c7 c8 c9 c10 l _ _ _ _ _ _ _ _ _ _ _ _ _ _ _ _ _ _ _ _ _ _ _ _ _ _ _ _ _ _ _).trans ?_
  rw [hB, br_true]
  have h0 : (0 : Int) ≤ (l.listOf.length : Int) := by omega
  have h1 : (l.listOf.length : Int) ≤ 100000 := by omega
  generalize (l.listOf.length : Int) = n at h0 h1 ⊢
  exact ua_p2c fuel n h0 h1 _ _ _ _ _ _ _ _ _ _ _ _ _ _ _ _ _ _ _ _ _ _ _ _ _ _ _ _ _ _ _ _ _ K
/-- What Until answers. -/
def UQ (c0 c1 c2 c3 c4 c5 c6 c7 c8 c9 c10 : Int) (l : AV) (o : Option AV) : Prop := ∃ v, o = some (.tuple [v, .int .i64 (ckE c0 c1 c2 c3 c4 c5 c6 c7 c8 c9 c10 l)]) ∧ tyV (.sl 1 dtI) (detok v) ∧ (detok v).listOf = (if ckE c0 c1 c2 c3 c4 c5 c6 c7 c8 c9 c10 l = 0 then endsL c8 l.listOf else [])
theorem run12 (fuel : Nat) (c0 c1 c2 c3 c4 c5 c6 c7 c8 c9 c10 : Int) (l : AV) : runI Try.D (cF fuel) fuel Try.f12 [.agg (cfC c0 c1 c2 c3 c4 c5 c6 c7 c8 c9 c10), l] ⟨[], []⟩ (fun v _ => some v) = denI Try.D (cF fuel) fuel uaC [.agg (cfC c0 c1 c2 c3 c4 c5 c6 c7 c8 c9 c10), l, .top, .top, .top, .top, .top, .top, .top, .top, .top, .top, .top, .top, .top, .top, .top, .top, .top, .top, .top, .top, .top, .top, .top, .top, .top, .top, .top, .top, .top, .top, .top] ⟨[], []⟩ (endI Try.D Try.f12 fun v _ => some v) := by kernel_rfl
theorem k12 {c0 c1 c2 c3 c4 c5 c6 c7 c8 c9 c10 : Int} {l : AV} (hc : tyV dtCfg (.agg (cfC c0 c1 c2 c3 c4 c5 c6 c7 c8 c9 c10))) (hl : tyV (.sl 14 dtMom) l) (h40 : l.listOf.length ≤ 100000) : ∃ v, (∀ H : AH, callL Try.D 12 [.agg (cfC c0 c1 c2 c3 c4 c5 c6 c7 c8 c9 c10), l] H = some (.tuple [v, .int .i64 (ckE c0 c1 c2 c3 c4 c5 c6 c7 c8 c9 c10 l)], H)) ∧ tyV (.sl 1 dtI) v ∧ v.listOf = (if ckE c0 c1 c2 c3 c4 c5 c6 c7 c8 c9 c10 l = 0 then endsL c8 l.listOf else []) := by
  have hl' := tyV_erase hl
  have he : ckE c0 c1 c2 c3 c4 c5 c6 c7 c8 c9 c10 (erase l) = ckE c0 c1 c2 c3 c4 c5 c6 c7 c8 c9 c10 l := by unfold ckE; rw [mosOf_erase hl, listOf_erase hl, List.length_map]
  have hen : endsL c8 (erase l).listOf = endsL c8 l.listOf := map_erase hl fun u hu => by
    obtain ⟨m0, m1, m2, m3, m4, m5, m6, m7, m8, m9, m10, m11, m12, m13, rfl, w⟩ := un_dtMom hu
    rfl
  have key : UQ c0 c1 c2 c3 c4 c5 c6 c7 c8 c9 c10 (erase l) (runI Try.D (cF ((erase l).listOf.length + 1)) ((erase l).listOf.length + 1) Try.f12 [.agg (cfC c0 c1 c2 c3 c4 c5 c6 c7 c8 c9 c10), erase l] ⟨[], []⟩ (fun v _ => some v)) := by
    have h40' : (erase l).listOf.length ≤ 100000 := by rw [listOf_erase hl, List.length_map]; exact h40
    clear he hen
    generalize erase l = l at hl' h40' ⊢
    have hk := fun H => valH_of (k30 c0 c1 c2 c3 c4 c5 c6 c7 c8 c9 c10 hc hl' H)
    obtain ⟨hB, hmax, hT, -, -⟩ := sl_facts hl'
    rw [run12]
    rw [den_sq (x := uaC) (a := subC uaC [0]) (b := subC uaC [1]) (by kernel_rfl)]
    refine Eq.mpr (congrArg (UQ c0 c1 c2 c3 c4 c5 c6 c7 c8 c9 c10 l) (ua_p0 _ c0 c1 c2 c3 c4 c5 c6 c7 c8 c9 c10 l _)) ?_
    rw [seqK_n, den_sq (x := subC uaC [1]) (a := subC uaC [1, 0]) (b := subC uaC [1, 1]) (by kernel_rfl)]
    refine Eq.mpr (congrArg (UQ c0 c1 c2 c3 c4 c5 c6 c7 c8 c9 c10 l) (ua_p1 _ c0 c1 c2 c3 c4 c5 c6 c7 c8 c9 c10 l _ _ _ _ _ _ _ _ _ _ _ _ _ _ _ _ _ _ _ _ _ _ _ _ _ _ _ _ _ _ _)) ?_
    rw [hk]
    simp only [ftI, num_i, br]
    by_cases h : ckE c0 c1 c2 c3 c4 c5 c6 c7 c8 c9 c10 l = 0
    · rw [h]
      simp only [bne_self_eq_false]
      rw [seqK_n, den_sq (x := subC uaC [1, 1]) (a := subC uaC [1, 1, 0]) (b := subC uaC [1, 1, 1]) (by kernel_rfl)]
      refine Eq.mpr (congrArg (UQ c0 c1 c2 c3 c4 c5 c6 c7 c8 c9 c10 l) (ua_p2 _ c0 c1 c2 c3 c4 c5 c6 c7 c8 c9 c10 hB h40' _ _ _ _ _ _ _ _ _ _ _ _ _ _ _ _ _ _ _ _ _ _ _ _ _ _ _ _ _ _ _)) ?_
      rw [seqK_n]
      refine Eq.mpr (congrArg (UQ c0 c1 c2 c3 c4 c5 c6 c7 c8 c9 c10 l) (ua_p3 _ c0 c1 c2 c3 c4 c5 c6 c7 c8 c9 c10 l _ _ _ _ _ _ _ _ _ _ _ _ _ _ _ _ _ _ _ _ _ _ _ _ _ _ _)) ?_
      rw [hB]
      simp only [br]
      refine ua_loopQ _ c0 c1 c2 c3 c4 c5 c6 c7 c8 c9 c10 hc hl' h40' (UQ c0 c1 c2 c3 c4 c5 c6 c7 c8 c9 c10 l) _ _ _ _ _ _ _ _ _ _ _ _ _ _ _ _ _ _ _ _ _ _ _ _ _ _ _ _ (by omega) ?_ _ _ _ rfl rfl rfl
      intro g'
      refine ⟨_, by rw [h], ?_, ?_⟩
      · simp only [detok, Spare.detok, ty_detokL (ty_ends hT)]
        exact ty_new rfl (by simp [endsL]; omega) (ty_ends hT)
      · rw [if_pos h]
        exact ty_detokL (ty_ends hT)
    · have hb : (ckE c0 c1 c2 c3 c4 c5 c6 c7 c8 c9 c10 l != 0) = true := by rw [bne_iff_ne]; exact h
      rw [hb]
      simp only
      rw [seqK_r]
      exact ⟨.nils, rfl, .inl rfl, by rw [if_neg h]; rfl⟩
  obtain ⟨v, h1, h2, h3⟩ := key
  refine ⟨detok v, fun H => ?_, h2, by rw [h3, he, hen]⟩
  have hd : detok (.tuple [v, .int .i64 (ckE c0 c1 c2 c3 c4 c5 c6 c7 c8 c9 c10 (erase l))]) = .tuple [detok v, .int .i64 (ckE c0 c1 c2 c3 c4 c5 c6 c7 c8 c9 c10 l)] := by rw [he]; rfl
  rw [← hd]
  refine callL_D tabF_ok (fuel := (erase l).listOf.length + 1) (n := 6) (fn := Try.f12) (ds := [dtCfg, .sl 14 dtMom]) (v := .tuple [v, .int .i64 (ckE c0 c1 c2 c3 c4 c5 c6 c7 c8 c9 c10 (erase l))]) (by kernel_rfl) (by kernel_rfl) (by kernel_rfl) ⟨hc, hl, trivial⟩ h1 ?_
  rw [hd]
  simp only [below, belowL, tyV_below h2 0 0, Bool.and_self]
end Go.Proofs.Ytoagnbpmoihojaa

/- Premise: what its loop computes. -/
import Derived.Test.YtoagnbpmoihojaaFenPre2
set_option maxRecDepth 100000
set_option linter.unusedSimpArgs false
set_option linter.unusedVariables false
namespace Go.Proofs.Ytoagnbpmoihojaa
open Go.Sx
theorem p_bel (c0 c1 c2 c3 c4 c5 c6 c7 c8 c9 c10 : Int) {l : AV} (hl : tyV (.sl 14 dtMom) l) (d r n : Int) (st : LSt) : belowO 8 0 [.cells (cfC c0 c1 c2 c3 c4 c5 c6 c7 c8 c9 c10), .cells [.bool false], .cells [.int .i64 0], .cells (cfC c0 c1 c2 c3 c4 c5 c6 c7 c8 c9 c10), .cells [.int .i64 d], .cells [.int .i64 r], .cells [l], .loop (pS c0 c1 c2 c3 c4 c5 c6 c7 c8 c9 c10 l d r n) [26, 27] pX pY st] = true := by
  simp only [belowO, AObj.below, belowL, pS, cfC, below, tyV_below hl, Bool.and_self, decide_eq_true_eq, Bool.and_true, Bool.true_and]
  decide

theorem p_loop (fuel : Nat) (c0 c1 c2 c3 c4 c5 c6 c7 c8 c9 c10 : Int) {l : AV} (hl : tyV (.sl 14 dtMom) l) (hc : tyV dtCfg (.agg (cfC c0 c1 c2 c3 c4 c5 c6 c7 c8 c9 c10))) (b8 : 1 ≤ c8 ∧ c8 ≤ 1099511627776) (hok : ∀ m ∈ mosOf l, okMo m) (d r n : Int) : ∀ (q jn k : Nat) (ct cr i : Int) (up : Bool), i = (jn : Int) → jn + q = l.listOf.length → q < k → (0 ≤ ct ∧ ct ≤ 1099511627776) → (0 ≤ cr ∧ cr ≤ 1099511627776) →
    loopC Try.D (cP fuel) fuel ltB k [.func (.yield 7) [] [], .ptr 6 0, .ptr 3 0, .ptr 4 0, .ptr 5 0, .top, .int .i64 ct, .int .i64 cr, .bool up, .bool true, .top, .top, .top, .top, l, .int .i64 (l.listOf.length : Int), .int .i64 i, .top, .top, .top, .top, .top, .top, .top, .top, .top, .top, .top, .top, .top, .top, .top, .top, .top, .top, .top, .top, .top, .top, .top, .top, .top, .top, .top, .top, .top, .top, .top, .top, .top, .top, .top, .top, .top, .top, .top, .top, .top, .top, .top, .top, .top, .top, .top, .top, .top, .top, .top, .top, .top, .top, .top, .top, .top, .top, .top, .top, .top, .top, .top, .top, .top, .top, .top, .top, .top, .top, .top, .top, .top, .top, .top] (pH c0 c1 c2 c3 c4 c5 c6 c7 c8 c9 c10 l d r n) (pK fuel c0 c1 c2 c3 c4 c5 c6 c7 c8 c9 c10 l d r n) = some (.tuple [.bool (prem c8 d r (decide (jn = 0)) ct cr up ((l.listOf.drop jn).map moOf)), .int .i64 0])
  | q, jn, 0, ct, cr, i, up, hj, h, hk, hct, hcr => by omega
  | q, jn, k + 1, ct, cr, i, up, hj, h, hk, hct, hcr => by
    subst hj
    rw [loop_in, den_sq (x := ltB) (a := subC ltB [0]) (b := ltB1) (by kernel_rfl)]
    refine (p_c1 fuel l ct cr _ up _ _).trans ?_
    rw [seqK_n, den_sq (x := ltB1) (a := subC ltB1 [0]) (b := ltB2) (by kernel_rfl)]
    refine (p_c2 fuel l ct cr _ up _ _ _ _ _ _ _ _ _ _ _ _ _ _ _ _ _ _ _ _ _ _ _ _ _ _ _ _ _ _ _ _ _ _ _ _ _ _ _ _ _ _ _ _ _ _ _ _ _ _ _ _ _ _ _ _ _ _ _ _ _ _ _ _ _ _ _ _ _ _ _ _ _ _ _ _ _ _ _ _ _ _).trans ?_
    match q, h, hk with
    | 0, h, hk =>
      rw [lt_false (by omega : ¬ jn < l.listOf.length), List.drop_eq_nil_of_le (by omega)]
      simp only [br]
      rw [seqK_x, stepK_x]
      exact p_e0 fuel c0 c1 c2 c3 c4 c5 c6 c7 c8 c9 c10 l d r n _ _ _ _ _ _ _ _ _ _ _ _ _ _ _ _ _ _ _ _ _ _ _ _ _ _ _ _ _ _ _ _ _ _ _ _ _ _ _ _ _ _ _ _ _ _ _ _ _ _ _ _ _ _ _ _ _ _ _ _ _ _ _ _ _ _ _ _ _ _ _ _ _ _ _ _ _ _ _ _ _ _ _ _ _ _ _
    | q + 1, h, hk =>
      obtain ⟨hB, hmax, hT, -, -⟩ := sl_facts hl
      have hi : jn < l.listOf.length := by omega
      obtain ⟨u, hu⟩ : ∃ u, l.listOf[jn]? = some u := ⟨_, List.getElem?_eq_getElem hi⟩
      have tu := hT u (List.mem_of_getElem? hu)
      rw [lt_true hi]
      simp only [br]
      rw [seqK_n, den_sq (x := ltB2) (a := subC ltB2 [0]) (b := subC ltB2 [1]) (by kernel_rfl), den_bl (x := subC ltB2 [0]) (a := ltY) (id := 1) (by kernel_rfl), den_sq (x := ltY) (a := subC ltY [0]) (b := ltY1) (by kernel_rfl)]
      refine (p_r3 fuel c0 c1 c2 c3 c4 c5 c6 c7 c8 c9 c10 l d r n ct cr _ up _ _ _ _ _ _ _ _ _ _ _ _ _ _ _ _ _ _ _ _ _ _ _ _ _ _ _ _ _ _ _ _ _ _ _ _ _ _ _ _ _ _ _ _ _ _ _ _ _ _ _ _ _ _ _ _ _ _ _ _ _ _ _ _ _ _ _ _ _ _ _ _ _ _ _ _ _ _ _ _ _).trans ?_
      rw [hB, lt_true hi, ge_true, Int.toNat_natCast, hu, nrm_drop hu]
      simp only [br, Bool.and_self, fit_dtMom tu, List.map_cons, prem]
      have hmo := hok (moOf u) (List.mem_map_of_mem (List.mem_of_getElem? hu))
      obtain ⟨o1, o2, o3⟩ := hmo
      rw [seqK_n, den_sq (x := ltY1) (a := subC ltY1 [0]) (b := ltY2) (by kernel_rfl)]
      refine p_s1q fuel c0 c1 c2 c3 c4 c5 c6 c7 c8 c9 c10 l d r n ct cr _ up _ _ _ _ _ _ _ _ _ _ _ _ _ _ _ _ _ _ _ _ _ _ _ _ _ _ _ _ _ _ _ _ _ _ _ _ _ _ _ _ _ _ _ _ _ _ _ _ _ _ _ _ _ _ _ _ _ _ _ _ _ _ _ _ _ _ _ _ _ _ _ _ _ _ _ _ _ _ _ _ _ _ _ _ _ _ _ _ _ _ _ _ _ (fun x => x = _) ?_
      intro ct' x5 x12 x13 x17 x18 x19 x20 x21 x22 x23 x24 x25 x26 x27 x28 x29 x30 x31 x32 x33 x34 x35 x36 x37 x38 x39 x40 x41 x42 x43 x44 x45 x46 x47 x48 x49 x50 x51 x52 x53 x54 x55 x56 x57 x58 x59 x60 x61 x62 x63 x64 x65 x66 x67 x68 x69 x70 x71 x72 x73 x74 x75 x76 x77 x78 x79 x80 x81 x82 x83 x84 x85 x86 x87 x88 x89 x90 x91 hct'
      dsimp only
      rw [seqK_n, den_sq (x := ltY2) (a := subC ltY2 [0]) (b := ltY3) (by kernel_rfl)]
      refine p_s2q fuel c0 c1 c2 c3 c4 c5 c6 c7 c8 c9 c10 l d r n ct' cr _ up _ _ _ _ _ _ _ _ _ _ _ _ _ _ _ _ _ _ _ _ _ _ _ _ _ _ _ _ _ _ _ _ _ _ _ _ _ _ _ _ _ _ _ _ _ _ _ _ _ _ _ _ _ _ _ _ _ _ _ _ _ _ _ _ _ _ _ _ _ _ _ _ _ _ _ _ _ _ _ _ _ _ _ _ _ _ _ _ _ _ _ _ _ (fun x => x = _) ?_
      intro cr' x5 x12 x13 x17 x18 x19 x20 x21 x22 x23 x24 x25 x26 x27 x28 x29 x30 x31 x32 x33 x34 x35 x36 x37 x38 x39 x40 x41 x42 x43 x44 x45 x46 x47 x48 x49 x50 x51 x52 x53 x54 x55 x56 x57 x58 x59 x60 x61 x62 x63 x64 x65 x66 x67 x68 x69 x70 x71 x72 x73 x74 x75 x76 x77 x78 x79 x80 x81 x82 x83 x84 x85 x86 x87 x88 x89 x90 x91 hcr'
      dsimp only
      rw [seqK_n, den_sq (x := ltY3) (a := subC ltY3 [0]) (b := ltY4) (by kernel_rfl)]
      refine (p_r8 fuel c0 c1 c2 c3 c4 c5 c6 c7 c8 c9 c10 l d r n ct' cr' _ up _ _ _ _ _ _ _ _ _ _ _ _ _ _ _ _ _ _ _ _ _ _ _ _ _ _ _ _ _ _ _ _ _ _ _ _ _ _ _ _ _ _ _ _ _ _ _ _ _ _ _ _ _ _ _ _ _ _ _ _ _ _ _ _ _ _ _ _ _ _ _ _ _ _ _ _ _ _ _ _ _ _ _ _ _ _ _ _ _ _ _ _ _).trans ?_
      rw [seqK_n, den_sq (x := ltY4) (a := subC ltY4 [0]) (b := ltY5) (by kernel_rfl)]
      refine p_s3q fuel c0 c1 c2 c3 c4 c5 c6 c7 c8 c9 c10 l d r n ct' cr' _ _ _ _ _ _ _ _ _ _ _ _ _ _ _ _ _ _ _ _ _ _ _ _ _ _ _ _ _ _ _ _ _ _ _ _ _ _ _ _ _ _ _ _ _ _ _ _ _ _ _ _ _ _ _ _ _ _ _ _ _ _ _ _ _ _ _ _ _ _ _ _ _ _ _ _ _ _ _ _ _ _ _ _ _ _ _ _ _ _ _ _ _ _ _ (fun x => x = _) (endE c8 (moOf u)) ?_ ?_ ?_ ?_ ?_ ?_
      · intro H
        refine (congrArg (fun x => valH Try.D 28 [.agg (cfC c0 c1 c2 c3 c4 c5 c6 c7 c8 c9 c10), x] H) (eta_dtMom tu)).trans ?_
        rw [valH_of (un28 hc tu H)]
        congr 2
        show untilE c8 (moOf u).ac = endE c8 (moOf u)
        unfold untilE endE
        split
        · rfl
        · exact wrapN (by omega) (by omega)
      · exact ⟨o1, o2⟩
      · unfold endE; split <;> omega
      · rw [hct']; split
        · exact ⟨o1, o2⟩
        · exact hct
      · rw [hcr']; split
        · exact ⟨o1, o2⟩
        · exact hcr
      intro ho x5 x12 x13 x17 x18 x19 x20 x21 x22 x23 x24 x25 x26 x27 x28 x29 x30 x31 x32 x33 x34 x35 x36 x37 x38 x39 x40 x41 x42 x43 x44 x45 x46 x47 x48 x49 x50 x51 x52 x53 x54 x55 x56 x57 x58 x59 x60 x61 x62 x63 x64 x65 x66 x67 x68 x69 x70 x71 x72 x73 x74 x75 x76 x77 x78 x79 x80 x81 x82 x83 x84 x85 x86 x87 x88 x89 x90 x91 hho
      have e0 : (((jn : Nat) : Int) == 0) = decide (jn = 0) := by rw [Bool.eq_iff_iff, beq_iff_eq, decide_eq_true_eq]; omega
      rw [e0] at hct' hcr'
      have ect : ct' = ctM (decide (jn = 0)) ct (moOf u) := hct'
      have ecr : cr' = crM (decide (jn = 0)) cr up (moOf u) := hcr'
      have hh : ho = hoM c8 d r ct' cr' (moOf u) := hho
      rw [← ect, ← ecr, ← hh]
      rw [seqK_n]
      refine (p_s4 fuel k c0 c1 c2 c3 c4 c5 c6 c7 c8 c9 c10 l d r n ct' cr' _ _ ho _ _ _ _ _ _ _ _ _ _ _ _ _ _ _ _ _ _ _ _ _ _ _ _ _ _ _ _ _ _ _ _ _ _ _ _ _ _ _ _ _ _ _ _ _ _ _ _ _ _ _ _ _ _ _ _ _ _ _ _ _ _ _ _ _ _ _ _ _ _ _ _ _ _ _ _ _ _ _ _ _ _ _ _ _ _ _ _ _ _ _ _ _).trans ?_
      have hb (st : LSt) := p_bel c0 c1 c2 c3 c4 c5 c6 c7 c8 c9 c10 hl d r n st
      simp only [pS] at hb
      cases ho with
      | false =>
        simp only [br, Bool.not_false]
        rw [blkK_r, seqK_r, stepK_r]
        refine (p_e1 fuel c0 c1 c2 c3 c4 c5 c6 c7 c8 c9 c10 l d r n _ _ _ _ _ _ _ _ _ _ _ _ _ _ _ _ _ _ _ _ _ _ _ _ _ _ _ _ _ _ _ _ _ _ _ _ _ _ _ _ _ _ _ _ _ _ _ _ _ _ _ _ _ _ _ _ _ _ _ _ _ _ _ _ _ _ _ _ _ _ _ _ _ _ _ _ _ _ _ _ _ _ _ _ _ _ _ _ _ _ _ _ _ _ _ _ _ _ _ _ _).trans ?_
        rw [hb]
        rfl
      | true =>
        simp only [br, Bool.not_true]
        refine (p_t fuel k c0 c1 c2 c3 c4 c5 c6 c7 c8 c9 c10 l d r n ct cr ct' cr' _ up _ true _ _ _ _ _ _ _ _ _ _ _ _ _ _ _ _ _ _ _ _ _ _ _ _ _ _ _ _ _ _ _ _ _ _ _ _ _ _ _ _ _ _ _ _ _ _ _ _ _ _ _ _ _ _ _ _ _ _ _ _ _ _ _ _ _ _ _ _ _ _ _ _ _ _ _ _ _ _ _ _ _ _ _ _ _ _ _ _ _ _ _ _ _).trans ?_
        rw [hb]
        simp only [br, resetV_self, cut_ty hl]
        rw [wrap_next hi hmax]
        refine (p_loop fuel c0 c1 c2 c3 c4 c5 c6 c7 c8 c9 c10 hl hc b8 hok d r n q (jn + 1) k ct' cr' _ _ rfl (by omega) (by omega) ?_ ?_).trans ?_
        · rw [hct']; split
          · exact ⟨o1, o2⟩
          · exact hct
        · rw [hcr']; split
          · exact ⟨o1, o2⟩
          · exact hcr
        rw [dec_no (by omega : ¬ jn + 1 = 0), Bool.true_and]
        rfl

end Go.Proofs.Ytoagnbpmoihojaa

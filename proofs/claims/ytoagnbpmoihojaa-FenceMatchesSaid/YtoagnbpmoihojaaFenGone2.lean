/- Gone: what its loop computes. -/
import Derived.Test.YtoagnbpmoihojaaFenGone
set_option maxRecDepth 100000
set_option linter.unusedSimpArgs false
set_option linter.unusedVariables false
namespace Go.Proofs.Ytoagnbpmoihojaa
open Go.Sx
theorem g_bel (c0 c1 c2 c3 c4 c5 c6 c7 c8 c9 c10 : Int) {l : AV} (hl : tyV (.sl 14 dtMom) l) (d r n : Int) (st : LSt) (N : Nat) (hN : 10 ≤ N) (os : List AObj) (ho : belowO N 0 os = true) : belowO N 0 ([.cells (cfC c0 c1 c2 c3 c4 c5 c6 c7 c8 c9 c10), .cells [.int .i64 d], .cells [.int .i64 r], .cells [.bool false], .cells [.int .i64 0], .cells (cfC c0 c1 c2 c3 c4 c5 c6 c7 c8 c9 c10), .cells [.int .i64 d], .cells [.int .i64 r], .cells [l], .loop (gS c0 c1 c2 c3 c4 c5 c6 c7 c8 c9 c10 l d r n) [28, 29] gX gY st] ++ os) = true := by
  have h (j : Nat) (hj : j < 10) : decide (j < N) = true := by simp; omega
  simp only [List.cons_append, List.nil_append, belowO, AObj.below, belowL, gS, cfC, below, tyV_below hl, Bool.and_self, Bool.and_true, Bool.true_and, ho, h 0 (by omega), h 1 (by omega), h 2 (by omega), h 3 (by omega), h 4 (by omega), h 5 (by omega), h 6 (by omega), h 7 (by omega), h 8 (by omega)]
theorem m_bel (m0 : Int) (m1 m2 m3 : Bool) (m4 m5 m6 m7 : Int) (m8 m9 m10 : AV) (m11 : Int) (m12 m13 : AV) (hm : tyV dtMom (.agg (moC m0 m1 m2 m3 m4 m5 m6 m7 m8 m9 m10 m11 m12 m13))) (N : Nat) : belowO N 0 [.cells (moC m0 m1 m2 m3 m4 m5 m6 m7 m8 m9 m10 m11 m12 m13)] = true := by
  have := tyV_below hm N 0
  simp only [below] at this
  simp only [belowO, AObj.below, this, Bool.and_self]
theorem m_bel2 (m0 : Int) (m1 m2 m3 : Bool) (m4 m5 m6 m7 : Int) (m8 m9 m10 : AV) (m11 : Int) (m12 m13 : AV) (hm : tyV dtMom (.agg (moC m0 m1 m2 m3 m4 m5 m6 m7 m8 m9 m10 m11 m12 m13))) (N : Nat) : belowO N 0 [.cells (moC m0 m1 m2 m3 m4 m5 m6 m7 m8 m9 m10 m11 m12 m13), .cells (moC m0 m1 m2 m3 m4 m5 m6 m7 m8 m9 m10 m11 m12 m13)] = true := by
  have := tyV_below hm N 0
  simp only [below] at this
  simp only [belowO, AObj.below, this, Bool.and_self]

noncomputable def gL (c0 c1 c2 c3 c4 c5 c6 c7 c8 c9 c10 : Int) (l : AV) (d r n : Int) (m0 : Int) (m1 m2 m3 : Bool) (m4 m5 m6 m7 : Int) (m8 m9 m10 : AV) (m11 : Int) (m12 m13 : AV) (st : LSt) : AH := ⟨[.cells (cfC c0 c1 c2 c3 c4 c5 c6 c7 c8 c9 c10), .cells [.int .i64 d], .cells [.int .i64 r], .cells [.bool false], .cells [.int .i64 0], .cells (cfC c0 c1 c2 c3 c4 c5 c6 c7 c8 c9 c10), .cells [.int .i64 d], .cells [.int .i64 r], .cells [l], .loop (gS c0 c1 c2 c3 c4 c5 c6 c7 c8 c9 c10 l d r n) [28, 29] gX gY st, .cells (moC m0 m1 m2 m3 m4 m5 m6 m7 m8 m9 m10 m11 m12 m13)], []⟩
def alP (p : AV) : Bool := (hdV (tlV (tlV (tlV (tlV (tlV p.aggOf)))))).boolOf

theorem gi_loop (fuel : Nat) (c0 c1 c2 c3 c4 c5 c6 c7 c8 c9 c10 : Int) {l : AV} (hl : tyV (.sl 14 dtMom) l) (d r n : Int) (m0 : Int) (m1 m2 m3 : Bool) (m4 m5 m6 m7 : Int) (m8 m9 m10 : AV) (m11 : Int) (m12 m13 : AV) (hm : tyV dtMom (.agg (moC m0 m1 m2 m3 m4 m5 m6 m7 m8 m9 m10 m11 m12 m13))) (h9 : tyV (.sl 9 dtProc) m9) (e e1 e2 e3 e4 : Int) (b : Bool) (K : AV × AH → Option AV) : ∀ (q jn k : Nat) (i : Int), i = (jn : Int) → jn + q = m9.listOf.length → q < k →
    loopC Try.D (cQ fuel) fuel giB k [.agg (cfC c0 c1 c2 c3 c4 c5 c6 c7 c8 c9 c10), .int .i64 d, .int .i64 r, l, .ptr 0 0, .ptr 1 0, .ptr 2 0, .top, .ptr 3 0, .ptr 4 0, .int .i64 n, .ptr 11 0, .bool true, .top, .top, .agg (cfC c0 c1 c2 c3 c4 c5 c6 c7 c8 c9 c10), .int .i64 d, .int .i64 r, l, .int .i64 n, .int .i64 n, .bool (n != (0 : Int)), .top, .agg (cfC c0 c1 c2 c3 c4 c5 c6 c7 c8 c9 c10), .int .i64 d, .int .i64 r, l, .func (.func 38) [] [.ptr 8 0, .ptr 5 0, .ptr 6 0, .ptr 7 0], .agg (moC m0 m1 m2 m3 m4 m5 m6 m7 m8 m9 m10 m11 m12 m13), .bool true, .bool true, .bool false, .ptr 11 0, .int .i64 m0, .agg (cfC c0 c1 c2 c3 c4 c5 c6 c7 c8 c9 c10), .agg (moC m0 m1 m2 m3 m4 m5 m6 m7 m8 m9 m10 m11 m12 m13), .int .i64 e, .ptr 0 9, .int .i64 c9, .int .i64 e1, .int .i64 d, .int .i64 e2, .int .i64 r, .int .i64 e3, .int .i64 e4, .bool b, .ptr 11 9, m9, .int .i64 (m9.listOf.length : Int), .int .i64 i, .top, .top, .top, .top, .top, .top] ⟨[.cells (cfC c0 c1 c2 c3 c4 c5 c6 c7 c8 c9 c10), .cells [.int .i64 d], .cells [.int .i64 r], .cells [.bool false], .cells [.int .i64 0], .cells (cfC c0 c1 c2 c3 c4 c5 c6 c7 c8 c9 c10), .cells [.int .i64 d], .cells [.int .i64 r], .cells [l], .loop (gS c0 c1 c2 c3 c4 c5 c6 c7 c8 c9 c10 l d r n) [28, 29] gX gY .busy, .cells (moC m0 m1 m2 m3 m4 m5 m6 m7 m8 m9 m10 m11 m12 m13), .cells (moC m0 m1 m2 m3 m4 m5 m6 m7 m8 m9 m10 m11 m12 m13)], []⟩ (kontI Try.D (cQ fuel) fuel gY [0, 1, 1, 1, 0] (yK fuel (gM c0 c1 c2 c3 c4 c5 c6 c7 c8 c9 c10 l d r n m0 m1 m2 m3 m4 m5 m6 m7 m8 m9 m10 m11 m12 m13) K)) =
      K (.bool (!(m9.listOf.drop jn).any alP), gL c0 c1 c2 c3 c4 c5 c6 c7 c8 c9 c10 l d r n m0 m1 m2 m3 m4 m5 m6 m7 m8 m9 m10 m11 m12 m13 (if (m9.listOf.drop jn).any alP then .left none else .ready))
  | q, jn, 0, i, hj, h, hk => by omega
  | 0, jn, k + 1, i, hj, h, hk => by
    subst hj
    rw [gi_step, lt_false (by omega : ¬ jn < m9.listOf.length), List.drop_eq_nil_of_le (by omega)]
    simp only [br]
    refine (gi_end fuel c0 c1 c2 c3 c4 c5 c6 c7 c8 c9 c10 l d r n m0 m1 m2 m3 m4 m5 m6 m7 m8 m9 m10 m11 m12 m13 _ _ _ _ _ _ _ _ _ _ _ _ _ _ _ _ _ _ _ _ _ _ _ _ _ _ _ _ _ _ _ _ _ _ _ _ _ _ _ _ _ _ _ _ _ _ _ _ _ _ _ _ _ _ _ _ _).trans ?_
    have hb (st : LSt) := g_bel c0 c1 c2 c3 c4 c5 c6 c7 c8 c9 c10 hl d r n st 11 (by omega) _ (m_bel m0 m1 m2 m3 m4 m5 m6 m7 m8 m9 m10 m11 m12 m13 hm 11)
    simp only [gS, moC, List.cons_append, List.nil_append] at hb
    rw [hb]
    rfl
  | q + 1, jn, k + 1, i, hj, h, hk => by
    subst hj
    obtain ⟨hB, hmax, hT, -, -⟩ := sl_facts h9
    have hi : jn < m9.listOf.length := by omega
    obtain ⟨u, hu⟩ : ∃ u, m9.listOf[jn]? = some u := ⟨_, List.getElem?_eq_getElem hi⟩
    have tu := hT u (List.mem_of_getElem? hu)
    rw [gi_step, lt_true hi, hB, ge_true, Int.toNat_natCast, hu, nrm_drop hu]
    simp only [br, Bool.and_self, fit_dtProc tu, List.any_cons]
    cases ha : (hdV (tlV (tlV (tlV (tlV (tlV u.aggOf)))))).boolOf with
    | true =>
      have ha' : alP u = true := ha
      simp only [ha', Bool.true_or]
      refine (gi_ret fuel c0 c1 c2 c3 c4 c5 c6 c7 c8 c9 c10 l d r n m0 m1 m2 m3 m4 m5 m6 m7 m8 m9 m10 m11 m12 m13 _ _ _ _ _ _ _ _ _ _ _ _ _ _ _ _ _ _ _ _ _ _ _ _ _ _ _ _ _ _ _ _ _ _ _ _ _ _ _ _ _ _ _ _ _ _ _ _ _ _ _ _ _ _ _ _ _ _).trans ?_
      have hb (st : LSt) := g_bel c0 c1 c2 c3 c4 c5 c6 c7 c8 c9 c10 hl d r n st 11 (by omega) _ (m_bel m0 m1 m2 m3 m4 m5 m6 m7 m8 m9 m10 m11 m12 m13 hm 11)
      simp only [gS, moC, List.cons_append, List.nil_append] at hb
      rw [hb]
      rfl
    | false =>
      have ha' : alP u = false := ha
      simp only [ha', Bool.false_or]
      have hb (st : LSt) := g_bel c0 c1 c2 c3 c4 c5 c6 c7 c8 c9 c10 hl d r n st 12 (by omega) _ (m_bel2 m0 m1 m2 m3 m4 m5 m6 m7 m8 m9 m10 m11 m12 m13 hm 12)
      simp only [gS, moC, List.cons_append, List.nil_append] at hb
      rw [hb]
      have hcm : cutV 12 0 (.agg (moC m0 m1 m2 m3 m4 m5 m6 m7 m8 m9 m10 m11 m12 m13)) = .agg (moC m0 m1 m2 m3 m4 m5 m6 m7 m8 m9 m10 m11 m12 m13) := cut_ty hm 12 0
      simp only [moC] at hcm
      simp only [resetV_self, cut_ty hl, cut_ty h9, hcm]
      rw [wrap_next hi hmax]
      exact gi_loop fuel c0 c1 c2 c3 c4 c5 c6 c7 c8 c9 c10 hl d r n m0 m1 m2 m3 m4 m5 m6 m7 m8 m9 m10 m11 m12 m13 hm h9 e e1 e2 e3 e4 b K q (jn + 1) k _ rfl (by omega) (by omega)

/-- What the yield answers, and how it leaves the loop's record. -/
theorem g_yield (fuel : Nat) (c0 c1 c2 c3 c4 c5 c6 c7 c8 c9 c10 : Int) {l : AV} (hl : tyV (.sl 14 dtMom) l) (d r n : Int) (ho : Bool) (m0 : Int) (m1 m2 m3 : Bool) (m4 m5 m6 m7 : Int) (m8 m9 m10 : AV) (m11 : Int) (m12 m13 : AV) (hm : tyV dtMom (.agg (moC m0 m1 m2 m3 m4 m5 m6 m7 m8 m9 m10 m11 m12 m13))) (h9 : tyV (.sl 9 dtProc) m9) (hF : m9.listOf.length < fuel) (K : AV × AH → Option AV) (E : Int)
    (hk : ∀ H, valH Try.D 28 [.agg (cfC c0 c1 c2 c3 c4 c5 c6 c7 c8 c9 c10), .agg (moC m0 m1 m2 m3 m4 m5 m6 m7 m8 m9 m10 m11 m12 m13)] H = some (.int .i64 E)) (bE : -1 ≤ E ∧ E ≤ 2199023255552) (b9 : 0 ≤ c9 ∧ c9 ≤ 1099511627776) (bd : 0 ≤ d ∧ d ≤ 1099511627776) (br' : 0 ≤ r ∧ r ≤ 1099511627776) :
    yieldI Try.D (cQ fuel) fuel 9 [.agg (moC m0 m1 m2 m3 m4 m5 m6 m7 m8 m9 m10 m11 m12 m13), .bool ho] (gM c0 c1 c2 c3 c4 c5 c6 c7 c8 c9 c10 l d r n m0 m1 m2 m3 m4 m5 m6 m7 m8 m9 m10 m11 m12 m13) K =
      if ho then (if m0 ≤ E + c9 + d + r + 1 then K (.bool true, gL c0 c1 c2 c3 c4 c5 c6 c7 c8 c9 c10 l d r n m0 m1 m2 m3 m4 m5 m6 m7 m8 m9 m10 m11 m12 m13 .ready) else K (.bool (!m9.listOf.any alP), gL c0 c1 c2 c3 c4 c5 c6 c7 c8 c9 c10 l d r n m0 m1 m2 m3 m4 m5 m6 m7 m8 m9 m10 m11 m12 m13 (if m9.listOf.any alP then .left none else .ready))) else K (.bool false, gL c0 c1 c2 c3 c4 c5 c6 c7 c8 c9 c10 l d r n m0 m1 m2 m3 m4 m5 m6 m7 m8 m9 m10 m11 m12 m13 (.left (some 0))) := by
  rw [g_y]
  have hb (st : LSt) := g_bel c0 c1 c2 c3 c4 c5 c6 c7 c8 c9 c10 hl d r n st 11 (by omega) _ (m_bel m0 m1 m2 m3 m4 m5 m6 m7 m8 m9 m10 m11 m12 m13 hm 11)
  simp only [gS, moC, List.cons_append, List.nil_append] at hb
  simp only [moC] at hk
  cases ho with
  | false =>
    simp only [br, Bool.not_false, hb]
    rfl
  | true =>
    simp only [br, Bool.not_true, if_true]
    obtain ⟨x, hx, hs, hn⟩ := val_num hk
    rw [hx]
    simp only [hs, br]
    generalize x.numOf = e at hn ⊢
    obtain rfl := hn.symm
    rw [wrapN (n := E + c9) (by omega) (by omega), wrapN (n := E + c9 + d) (by omega) (by omega), wrapN (n := E + c9 + d + r) (by omega) (by omega), wrapN (n := E + c9 + d + r + 1) (by omega) (by omega)]
    by_cases h : m0 ≤ E + c9 + d + r + 1
    · rw [dec_yes h, if_pos h]
      simp only [hb]
      rfl
    · rw [dec_no h, if_neg h]
      simp only [(sl_facts h9).1]
      have := gi_loop fuel c0 c1 c2 c3 c4 c5 c6 c7 c8 c9 c10 hl d r n m0 m1 m2 m3 m4 m5 m6 m7 m8 m9 m10 m11 m12 m13 hm h9 E (E + c9) (E + c9 + d) (E + c9 + d + r) (E + c9 + d + r + 1) false K m9.listOf.length 0 fuel 0 rfl (by omega) hF
      rw [List.drop_zero] at this
      exact this

theorem g_loop (fuel : Nat) (c0 c1 c2 c3 c4 c5 c6 c7 c8 c9 c10 : Int) {l : AV} (hl : tyV (.sl 14 dtMom) l) (hc : tyV dtCfg (.agg (cfC c0 c1 c2 c3 c4 c5 c6 c7 c8 c9 c10))) (b8 : 1 ≤ c8 ∧ c8 ≤ 1099511627776) (b9 : 0 ≤ c9 ∧ c9 ≤ 1099511627776) (hok : ∀ m ∈ mosOf l, okMo m) (hF : ∀ u ∈ l.listOf, (shS Sh.any (hdV (tlV (tlV (tlV (tlV (tlV (tlV (tlV (tlV (tlV u.aggOf))))))))))).listOf.length < fuel) (d r n : Int) (bd : 0 ≤ d ∧ d ≤ 1099511627776) (br' : 0 ≤ r ∧ r ≤ 1099511627776) : ∀ (q jn k : Nat) (ct cr i : Int) (up : Bool), i = (jn : Int) → jn + q = l.listOf.length → q < k → (0 ≤ ct ∧ ct ≤ 1099511627776) → (0 ≤ cr ∧ cr ≤ 1099511627776) →
    loopC Try.D (cP fuel) fuel ltB k [.func (.yield 9) [] [], .ptr 8 0, .ptr 5 0, .ptr 6 0, .ptr 7 0, .top, .int .i64 ct, .int .i64 cr, .bool up, .bool true, .top, .top, .top, .top, l, .int .i64 (l.listOf.length : Int), .int .i64 i, .top, .top, .top, .top, .top, .top, .top, .top, .top, .top, .top, .top, .top, .top, .top, .top, .top, .top, .top, .top, .top, .top, .top, .top, .top, .top, .top, .top, .top, .top, .top, .top, .top, .top, .top, .top, .top, .top, .top, .top, .top, .top, .top, .top, .top, .top, .top, .top, .top, .top, .top, .top, .top, .top, .top, .top, .top, .top, .top, .top, .top, .top, .top, .top, .top, .top, .top, .top, .top, .top, .top, .top, .top, .top, .top] (gH c0 c1 c2 c3 c4 c5 c6 c7 c8 c9 c10 l d r n) (gK fuel c0 c1 c2 c3 c4 c5 c6 c7 c8 c9 c10 l d r n) = some (.tuple [.bool (gone c8 c9 d r (decide (jn = 0)) ct cr up ((l.listOf.drop jn).map moOf)), .int .i64 0])
  | q, jn, 0, ct, cr, i, up, hj, h, hk, hct, hcr => by omega
  | q, jn, k + 1, ct, cr, i, up, hj, h, hk, hct, hcr => by
    subst hj
    rw [loop_in, den_sq (x := ltB) (a := subC ltB [0]) (b := ltB1) (by kernel_rfl)]
    refine (g_c1 fuel l ct cr _ up _ _).trans ?_
    rw [seqK_n, den_sq (x := ltB1) (a := subC ltB1 [0]) (b := ltB2) (by kernel_rfl)]
    refine (g_c2 fuel l ct cr _ up _ _ _ _ _ _ _ _ _ _ _ _ _ _ _ _ _ _ _ _ _ _ _ _ _ _ _ _ _ _ _ _ _ _ _ _ _ _ _ _ _ _ _ _ _ _ _ _ _ _ _ _ _ _ _ _ _ _ _ _ _ _ _ _ _ _ _ _ _ _ _ _ _ _ _ _ _ _ _ _ _ _).trans ?_
    match q, h, hk with
    | 0, h, hk =>
      rw [lt_false (by omega : ¬ jn < l.listOf.length), List.drop_eq_nil_of_le (by omega)]
      simp only [br]
      rw [seqK_x, stepK_x]
      exact g_e0 fuel c0 c1 c2 c3 c4 c5 c6 c7 c8 c9 c10 l d r n _ _ _ _ _ _ _ _ _ _ _ _ _ _ _ _ _ _ _ _ _ _ _ _ _ _ _ _ _ _ _ _ _ _ _ _ _ _ _ _ _ _ _ _ _ _ _ _ _ _ _ _ _ _ _ _ _ _ _ _ _ _ _ _ _ _ _ _ _ _ _ _ _ _ _ _ _ _ _ _ _ _ _ _ _ _ _
    | q + 1, h, hk =>
      obtain ⟨hB, hmax, hT, -, -⟩ := sl_facts hl
      have hi : jn < l.listOf.length := by omega
      obtain ⟨u, hu⟩ : ∃ u, l.listOf[jn]? = some u := ⟨_, List.getElem?_eq_getElem hi⟩
      have tu := hT u (List.mem_of_getElem? hu)
      rw [lt_true hi]
      simp only [br]
      rw [seqK_n, den_sq (x := ltB2) (a := subC ltB2 [0]) (b := subC ltB2 [1]) (by kernel_rfl), den_bl (x := subC ltB2 [0]) (a := ltY) (id := 1) (by kernel_rfl), den_sq (x := ltY) (a := subC ltY [0]) (b := ltY1) (by kernel_rfl)]
      refine (g_r3 fuel c0 c1 c2 c3 c4 c5 c6 c7 c8 c9 c10 l d r n ct cr _ up _ _ _ _ _ _ _ _ _ _ _ _ _ _ _ _ _ _ _ _ _ _ _ _ _ _ _ _ _ _ _ _ _ _ _ _ _ _ _ _ _ _ _ _ _ _ _ _ _ _ _ _ _ _ _ _ _ _ _ _ _ _ _ _ _ _ _ _ _ _ _ _ _ _ _ _ _ _ _ _ _).trans ?_
      rw [hB, lt_true hi, ge_true, Int.toNat_natCast, hu, nrm_drop hu]
      simp only [br, Bool.and_self, fit_dtMom tu, List.map_cons, gone]
      have hmo := hok (moOf u) (List.mem_map_of_mem (List.mem_of_getElem? hu))
      obtain ⟨o1, o2, o3⟩ := hmo
      rw [seqK_n, den_sq (x := ltY1) (a := subC ltY1 [0]) (b := ltY2) (by kernel_rfl)]
      refine g_s1q fuel c0 c1 c2 c3 c4 c5 c6 c7 c8 c9 c10 l d r n ct cr _ up _ _ _ _ _ _ _ _ _ _ _ _ _ _ _ _ _ _ _ _ _ _ _ _ _ _ _ _ _ _ _ _ _ _ _ _ _ _ _ _ _ _ _ _ _ _ _ _ _ _ _ _ _ _ _ _ _ _ _ _ _ _ _ _ _ _ _ _ _ _ _ _ _ _ _ _ _ _ _ _ _ _ _ _ _ _ _ _ _ _ _ _ _ (fun x => x = _) ?_
      intro ct' x5 x12 x13 x17 x18 x19 x20 x21 x22 x23 x24 x25 x26 x27 x28 x29 x30 x31 x32 x33 x34 x35 x36 x37 x38 x39 x40 x41 x42 x43 x44 x45 x46 x47 x48 x49 x50 x51 x52 x53 x54 x55 x56 x57 x58 x59 x60 x61 x62 x63 x64 x65 x66 x67 x68 x69 x70 x71 x72 x73 x74 x75 x76 x77 x78 x79 x80 x81 x82 x83 x84 x85 x86 x87 x88 x89 x90 x91 hct'
      dsimp only
      rw [seqK_n, den_sq (x := ltY2) (a := subC ltY2 [0]) (b := ltY3) (by kernel_rfl)]
      refine g_s2q fuel c0 c1 c2 c3 c4 c5 c6 c7 c8 c9 c10 l d r n ct' cr _ up _ _ _ _ _ _ _ _ _ _ _ _ _ _ _ _ _ _ _ _ _ _ _ _ _ _ _ _ _ _ _ _ _ _ _ _ _ _ _ _ _ _ _ _ _ _ _ _ _ _ _ _ _ _ _ _ _ _ _ _ _ _ _ _ _ _ _ _ _ _ _ _ _ _ _ _ _ _ _ _ _ _ _ _ _ _ _ _ _ _ _ _ _ (fun x => x = _) ?_
      intro cr' x5 x12 x13 x17 x18 x19 x20 x21 x22 x23 x24 x25 x26 x27 x28 x29 x30 x31 x32 x33 x34 x35 x36 x37 x38 x39 x40 x41 x42 x43 x44 x45 x46 x47 x48 x49 x50 x51 x52 x53 x54 x55 x56 x57 x58 x59 x60 x61 x62 x63 x64 x65 x66 x67 x68 x69 x70 x71 x72 x73 x74 x75 x76 x77 x78 x79 x80 x81 x82 x83 x84 x85 x86 x87 x88 x89 x90 x91 hcr'
      dsimp only
      rw [seqK_n, den_sq (x := ltY3) (a := subC ltY3 [0]) (b := ltY4) (by kernel_rfl)]
      refine (g_r8 fuel c0 c1 c2 c3 c4 c5 c6 c7 c8 c9 c10 l d r n ct' cr' _ up _ _ _ _ _ _ _ _ _ _ _ _ _ _ _ _ _ _ _ _ _ _ _ _ _ _ _ _ _ _ _ _ _ _ _ _ _ _ _ _ _ _ _ _ _ _ _ _ _ _ _ _ _ _ _ _ _ _ _ _ _ _ _ _ _ _ _ _ _ _ _ _ _ _ _ _ _ _ _ _ _ _ _ _ _ _ _ _ _ _ _ _ _).trans ?_
      rw [seqK_n, den_sq (x := ltY4) (a := subC ltY4 [0]) (b := ltY5) (by kernel_rfl)]
      refine g_s3q fuel c0 c1 c2 c3 c4 c5 c6 c7 c8 c9 c10 l d r n ct' cr' _ _ _ _ _ _ _ _ _ _ _ _ _ _ _ _ _ _ _ _ _ _ _ _ _ _ _ _ _ _ _ _ _ _ _ _ _ _ _ _ _ _ _ _ _ _ _ _ _ _ _ _ _ _ _ _ _ _ _ _ _ _ _ _ _ _ _ _ _ _ _ _ _ _ _ _ _ _ _ _ _ _ _ _ _ _ _ _ _ _ _ _ _ _ _ (fun x => x = _) (endE c8 (moOf u)) ?_ ?_ ?_ ?_ ?_ ?_
      · intro H
        refine (congrArg (fun x => valH Try.D 28 [.agg (cfC c0 c1 c2 c3 c4 c5 c6 c7 c8 c9 c10), x] H) (eta_dtMom tu)).trans ?_
        rw [valH_of (un28 hc tu H)]
        congr 2
        show untilE c8 (moOf u).ac = endE c8 (moOf u)
        unfold untilE endE
        split
        · rfl
        · exact wrapN (by omega) (by omega)
      · exact ⟨o1, o2⟩
      · unfold endE; split <;> omega
      · rw [hct']; split
        · exact ⟨o1, o2⟩
        · exact hct
      · rw [hcr']; split
        · exact ⟨o1, o2⟩
        · exact hcr
      intro ho x5 x12 x13 x17 x18 x19 x20 x21 x22 x23 x24 x25 x26 x27 x28 x29 x30 x31 x32 x33 x34 x35 x36 x37 x38 x39 x40 x41 x42 x43 x44 x45 x46 x47 x48 x49 x50 x51 x52 x53 x54 x55 x56 x57 x58 x59 x60 x61 x62 x63 x64 x65 x66 x67 x68 x69 x70 x71 x72 x73 x74 x75 x76 x77 x78 x79 x80 x81 x82 x83 x84 x85 x86 x87 x88 x89 x90 x91 hho
      have e0 : (((jn : Nat) : Int) == 0) = decide (jn = 0) := by rw [Bool.eq_iff_iff, beq_iff_eq, decide_eq_true_eq]; omega
      rw [e0] at hct' hcr'
      have ect : ct' = ctM (decide (jn = 0)) ct (moOf u) := hct'
      have ecr : cr' = crM (decide (jn = 0)) cr up (moOf u) := hcr'
      have hh : ho = hoM c8 d r ct' cr' (moOf u) := hho
      rw [← ect, ← ecr, ← hh]
      rw [seqK_n]
      have hum : AV.agg (moC (hdV u.aggOf).numOf (hdV (tlV u.aggOf)).boolOf (hdV (tlV (tlV u.aggOf))).boolOf (hdV (tlV (tlV (tlV u.aggOf)))).boolOf (hdV (tlV (tlV (tlV (tlV u.aggOf))))).numOf (hdV (tlV (tlV (tlV (tlV (tlV u.aggOf)))))).numOf (hdV (tlV (tlV (tlV (tlV (tlV (tlV u.aggOf))))))).numOf (hdV (tlV (tlV (tlV (tlV (tlV (tlV (tlV u.aggOf)))))))).numOf (shS Sh.any (hdV (tlV (tlV (tlV (tlV (tlV (tlV (tlV (tlV u.aggOf)))))))))) (shS Sh.any (hdV (tlV (tlV (tlV (tlV (tlV (tlV (tlV (tlV (tlV u.aggOf))))))))))) (shS Sh.any (hdV (tlV (tlV (tlV (tlV (tlV (tlV (tlV (tlV (tlV (tlV u.aggOf)))))))))))) (hdV (tlV (tlV (tlV (tlV (tlV (tlV (tlV (tlV (tlV (tlV (tlV u.aggOf)))))))))))).numOf (shS Sh.any (hdV (tlV (tlV (tlV (tlV (tlV (tlV (tlV (tlV (tlV (tlV (tlV (tlV u.aggOf)))))))))))))) (shS Sh.any (hdV (tlV (tlV (tlV (tlV (tlV (tlV (tlV (tlV (tlV (tlV (tlV (tlV (tlV u.aggOf)))))))))))))))) = u := eta_dtMom tu
      have hbE : -1 ≤ endE c8 (moOf u) ∧ endE c8 (moOf u) ≤ 2199023255552 := by unfold endE; split <;> omega
      refine (g_s4 fuel c0 c1 c2 c3 c4 c5 c6 c7 c8 c9 c10 l d r n ct' cr' _ _ ho _ _ _ _ _ _ _ _ _ _ _ _ _ _ _ _ _ _ _ _ _ _ _ _ _ _ _ _ _ _ _ _ _ _ _ _ _ _ _ _ _ _ _ _ _ _ _ _ _ _ _ _ _ _ _ _ _ _ _ _ _ _ _ _ _ _ _ _ _ _ _ _ _ _ _ _ _ _ _ _ _ _ _ _ _ _ _ _ _ _ _ _ _).trans ?_
      refine (g_yield fuel c0 c1 c2 c3 c4 c5 c6 c7 c8 c9 c10 hl d r n ho _ _ _ _ _ _ _ _ _ _ _ _ _ _ (by rw [hum]; exact tu) (pj_dtMom_9 tu) (hF u (List.mem_of_getElem? hu)) _ (endE c8 (moOf u)) ?_ hbE b9 bd br').trans ?_
      · intro H
        rw [hum, valH_of (un28 hc tu H)]
        congr 2
        show untilE c8 (moOf u).ac = endE c8 (moOf u)
        unfold untilE endE
        split
        · rfl
        · exact wrapN (by omega) (by omega)
      have hb (st : LSt) := g_bel c0 c1 c2 c3 c4 c5 c6 c7 c8 c9 c10 hl d r n st 10 (by omega) [] rfl
      simp only [gS, List.cons_append, List.nil_append] at hb
      have hal : (moOf u).al = (shS Sh.any (hdV (tlV (tlV (tlV (tlV (tlV (tlV (tlV (tlV (tlV u.aggOf))))))))))).listOf.any alP := rfl
      rw [hal]
      cases ho with
      | false =>
        simp only [Bool.false_eq_true, if_false]
        refine (g_aft fuel c0 c1 c2 c3 c4 c5 c6 c7 c8 c9 c10 l ct' cr' _ _ false false _ _ _ _ _ _ _ _ _ _ _ _ _ _ _ _ _ _ _ _ _ _ _ _ _ _ _ _ _ _ _ _ _ _ _ _ _ _ _ _ _ _ _ _ _ _ _ _ _ _ _ _ _ _ _ _ _ _ _ _ _ _ _ _ _ _ _ _ _ _ _ _ _ _ _ _ _ _ _ _ _ _ _ _ _ _ _ _ _ _ _).trans ?_
        simp only [br, Bool.not_false]
        rw [blkK_r, seqK_r, stepK_r]
        refine (g_e2 fuel c0 c1 c2 c3 c4 c5 c6 c7 c8 c9 c10 l d r n _ _ _ _ _ _ _ _ _ _ _ _ _ _ _ _ _ _ _ _ _ _ _ _ _ _ _ _ _ _ _ _ _ _ _ _ _ _ _ _ _ _ _ _ _ _ _ _ _ _ _ _ _ _ _ _ _ _ _ _ _ _ _ _ _ _ _ _ _ _ _ _ _ _ _ _ _ _ _ _ _ _ _ _ _ _ _ _ _ _ _ _ _ _ _ _ _ _ _ _ _).trans ?_
        rw [hb]
        rfl
      | true =>
        simp only [if_true]
        have hgo : ∀ (R1 : Option AV), (∀ (K1 : Ex → List AV → AH → Option AV), K1 = gK fuel c0 c1 c2 c3 c4 c5 c6 c7 c8 c9 c10 l d r n → loopC Try.D (cP fuel) fuel ltB k [.func (.yield 9) [] [], .ptr 8 0, .ptr 5 0, .ptr 6 0, .ptr 7 0, .top, .int .i64 ct', .int .i64 cr', .bool (hdV (tlV u.aggOf)).boolOf, .bool true, .top, .top, .top, .top, l, .int .i64 (l.listOf.length : Int), .int .i64 ((jn + 1 : Nat) : Int), .top, .top, .top, .top, .top, .top, .top, .top, .top, .top, .top, .top, .top, .top, .top, .top, .top, .top, .top, .top, .top, .top, .top, .top, .top, .top, .top, .top, .top, .top, .top, .top, .top, .top, .top, .top, .top, .top, .top, .top, .top, .top, .top, .top, .top, .top, .top, .top, .top, .top, .top, .top, .top, .top, .top, .top, .top, .top, .top, .top, .top, .top, .top, .top, .top, .top, .top, .top, .top, .top, .top, .top, .top, .top, .top] (gH c0 c1 c2 c3 c4 c5 c6 c7 c8 c9 c10 l d r n) K1 = R1) →
            aftY fuel [.func (.yield 9) [] [], .ptr 8 0, .ptr 5 0, .ptr 6 0, .ptr 7 0, x5, .int .i64 ct', .int .i64 cr', .bool (hdV (tlV u.aggOf)).boolOf, .bool true, .int .i64 (jn : Int), .ptr 10 0, x12, x13, l, .int .i64 (l.listOf.length : Int), .int .i64 (jn : Int), x17, x18, x19, x20, x21, x22, x23, x24, x25, x26, x27, x28, x29, x30, x31, x32, x33, x34, x35, x36, x37, x38, x39, x40, x41, x42, x43, x44, x45, x46, x47, x48, x49, x50, x51, x52, x53, x54, x55, x56, x57, x58, x59, x60, x61, x62, x63, x64, x65, x66, x67, x68, x69, x70, x71, x72, x73, x74, x75, x76, x77, x78, x79, x80, x81, x82, x83, x84, x85, .func (.yield 9) [] [], .agg (moC (hdV u.aggOf).numOf (hdV (tlV u.aggOf)).boolOf (hdV (tlV (tlV u.aggOf))).boolOf (hdV (tlV (tlV (tlV u.aggOf)))).boolOf (hdV (tlV (tlV (tlV (tlV u.aggOf))))).numOf (hdV (tlV (tlV (tlV (tlV (tlV u.aggOf)))))).numOf (hdV (tlV (tlV (tlV (tlV (tlV (tlV u.aggOf))))))).numOf (hdV (tlV (tlV (tlV (tlV (tlV (tlV (tlV u.aggOf)))))))).numOf (shS Sh.any (hdV (tlV (tlV (tlV (tlV (tlV (tlV (tlV (tlV u.aggOf)))))))))) (shS Sh.any (hdV (tlV (tlV (tlV (tlV (tlV (tlV (tlV (tlV (tlV u.aggOf))))))))))) (shS Sh.any (hdV (tlV (tlV (tlV (tlV (tlV (tlV (tlV (tlV (tlV (tlV u.aggOf)))))))))))) (hdV (tlV (tlV (tlV (tlV (tlV (tlV (tlV (tlV (tlV (tlV (tlV u.aggOf)))))))))))).numOf (shS Sh.any (hdV (tlV (tlV (tlV (tlV (tlV (tlV (tlV (tlV (tlV (tlV (tlV (tlV u.aggOf)))))))))))))) (shS Sh.any (hdV (tlV (tlV (tlV (tlV (tlV (tlV (tlV (tlV (tlV (tlV (tlV (tlV (tlV u.aggOf)))))))))))))))), .bool true, x89, x90, x91] (blkK 1 (seqK Try.D (cP fuel) fuel (subC ltB2 [1]) (stepK Try.D (cP fuel) fuel ltB k [.func (.yield 9) [] [], .ptr 8 0, .ptr 5 0, .ptr 6 0, .ptr 7 0, .top, .int .i64 ct, .int .i64 cr, .bool up, .bool true, .top, .top, .top, .top, l, .int .i64 (l.listOf.length : Int), .int .i64 (jn : Int), .top, .top, .top, .top, .top, .top, .top, .top, .top, .top, .top, .top, .top, .top, .top, .top, .top, .top, .top, .top, .top, .top, .top, .top, .top, .top, .top, .top, .top, .top, .top, .top, .top, .top, .top, .top, .top, .top, .top, .top, .top, .top, .top, .top, .top, .top, .top, .top, .top, .top, .top, .top, .top, .top, .top, .top, .top, .top, .top, .top, .top, .top, .top, .top, .top, .top, .top, .top, .top, .top, .top, .top, .top, .top, .top] (gH c0 c1 c2 c3 c4 c5 c6 c7 c8 c9 c10 l d r n) (gK fuel c0 c1 c2 c3 c4 c5 c6 c7 c8 c9 c10 l d r n)))) (.bool true, gL c0 c1 c2 c3 c4 c5 c6 c7 c8 c9 c10 l d r n (hdV u.aggOf).numOf (hdV (tlV u.aggOf)).boolOf (hdV (tlV (tlV u.aggOf))).boolOf (hdV (tlV (tlV (tlV u.aggOf)))).boolOf (hdV (tlV (tlV (tlV (tlV u.aggOf))))).numOf (hdV (tlV (tlV (tlV (tlV (tlV u.aggOf)))))).numOf (hdV (tlV (tlV (tlV (tlV (tlV (tlV u.aggOf))))))).numOf (hdV (tlV (tlV (tlV (tlV (tlV (tlV (tlV u.aggOf)))))))).numOf (shS Sh.any (hdV (tlV (tlV (tlV (tlV (tlV (tlV (tlV (tlV u.aggOf)))))))))) (shS Sh.any (hdV (tlV (tlV (tlV (tlV (tlV (tlV (tlV (tlV (tlV u.aggOf))))))))))) (shS Sh.any (hdV (tlV (tlV (tlV (tlV (tlV (tlV (tlV (tlV (tlV (tlV u.aggOf)))))))))))) (hdV (tlV (tlV (tlV (tlV (tlV (tlV (tlV (tlV (tlV (tlV (tlV u.aggOf)))))))))))).numOf (shS Sh.any (hdV (tlV (tlV (tlV (tlV (tlV (tlV (tlV (tlV (tlV (tlV (tlV (tlV u.aggOf)))))))))))))) (shS Sh.any (hdV (tlV (tlV (tlV (tlV (tlV (tlV (tlV (tlV (tlV (tlV (tlV (tlV (tlV u.aggOf))))))))))))))) .ready) = R1 := by
          intro R1 hR
          refine (g_aft fuel c0 c1 c2 c3 c4 c5 c6 c7 c8 c9 c10 l ct' cr' _ _ true true _ _ _ _ _ _ _ _ _ _ _ _ _ _ _ _ _ _ _ _ _ _ _ _ _ _ _ _ _ _ _ _ _ _ _ _ _ _ _ _ _ _ _ _ _ _ _ _ _ _ _ _ _ _ _ _ _ _ _ _ _ _ _ _ _ _ _ _ _ _ _ _ _ _ _ _ _ _ _ _ _ _ _ _ _ _ _ _ _ _ _).trans ?_
          simp only [br, Bool.not_true]
          refine (g_t fuel k c0 c1 c2 c3 c4 c5 c6 c7 c8 c9 c10 l d r n ct cr ct' cr' _ up _ true _ _ _ _ _ _ _ _ _ _ _ _ _ _ _ _ _ _ _ _ _ _ _ _ _ _ _ _ _ _ _ _ _ _ _ _ _ _ _ _ _ _ _ _ _ _ _ _ _ _ _ _ _ _ _ _ _ _ _ _ _ _ _ _ _ _ _ _ _ _ _ _ _ _ _ _ _ _ _ _ _ _ _ _ _ _ _ _ _ _ _ _ _).trans ?_
          rw [hb]
          simp only [br, resetV_self, cut_ty hl]
          rw [wrap_next hi hmax]
          exact hR _ rfl
        have hnx : ∀ (K1 : Ex → List AV → AH → Option AV), K1 = gK fuel c0 c1 c2 c3 c4 c5 c6 c7 c8 c9 c10 l d r n → loopC Try.D (cP fuel) fuel ltB k [.func (.yield 9) [] [], .ptr 8 0, .ptr 5 0, .ptr 6 0, .ptr 7 0, .top, .int .i64 ct', .int .i64 cr', .bool (hdV (tlV u.aggOf)).boolOf, .bool true, .top, .top, .top, .top, l, .int .i64 (l.listOf.length : Int), .int .i64 ((jn + 1 : Nat) : Int), .top, .top, .top, .top, .top, .top, .top, .top, .top, .top, .top, .top, .top, .top, .top, .top, .top, .top, .top, .top, .top, .top, .top, .top, .top, .top, .top, .top, .top, .top, .top, .top, .top, .top, .top, .top, .top, .top, .top, .top, .top, .top, .top, .top, .top, .top, .top, .top, .top, .top, .top, .top, .top, .top, .top, .top, .top, .top, .top, .top, .top, .top, .top, .top, .top, .top, .top, .top, .top, .top, .top, .top, .top, .top, .top] (gH c0 c1 c2 c3 c4 c5 c6 c7 c8 c9 c10 l d r n) K1 = some (.tuple [.bool (gone c8 c9 d r false ct' cr' (moOf u).up ((l.listOf.drop (jn + 1)).map moOf)), .int .i64 0]) := by
          rintro K1 rfl
          refine (g_loop fuel c0 c1 c2 c3 c4 c5 c6 c7 c8 c9 c10 hl hc b8 b9 hok hF d r n bd br' q (jn + 1) k ct' cr' _ _ rfl (by omega) (by omega) ?_ ?_).trans ?_
          · rw [hct']; split
            · exact ⟨o1, o2⟩
            · exact hct
          · rw [hcr']; split
            · exact ⟨o1, o2⟩
            · exact hcr
          rw [dec_no (by omega : ¬ jn + 1 = 0)]
          rfl
        by_cases hw : (hdV u.aggOf).numOf ≤ endE c8 (moOf u) + c9 + d + r + 1
        · rw [if_pos hw, if_pos (show (moOf u).now ≤ endE c8 (moOf u) + c9 + d + r + 1 from hw)]
          exact hgo _ hnx
        · rw [if_neg hw, if_neg (show ¬ (moOf u).now ≤ endE c8 (moOf u) + c9 + d + r + 1 from hw)]
          cases (shS Sh.any (hdV (tlV (tlV (tlV (tlV (tlV (tlV (tlV (tlV (tlV u.aggOf))))))))))).listOf.any alP with
          | false =>
            simp only [Bool.false_eq_true, if_false, Bool.not_false]
            exact hgo _ hnx
          | true =>
            simp only [if_true, Bool.not_true]
            refine (g_aft fuel c0 c1 c2 c3 c4 c5 c6 c7 c8 c9 c10 l ct' cr' _ _ true false _ _ _ _ _ _ _ _ _ _ _ _ _ _ _ _ _ _ _ _ _ _ _ _ _ _ _ _ _ _ _ _ _ _ _ _ _ _ _ _ _ _ _ _ _ _ _ _ _ _ _ _ _ _ _ _ _ _ _ _ _ _ _ _ _ _ _ _ _ _ _ _ _ _ _ _ _ _ _ _ _ _ _ _ _ _ _ _ _ _ _).trans ?_
            simp only [br, Bool.not_false]
            rw [blkK_r, seqK_r, stepK_r]
            refine (g_e1 fuel c0 c1 c2 c3 c4 c5 c6 c7 c8 c9 c10 l d r n _ _ _ _ _ _ _ _ _ _ _ _ _ _ _ _ _ _ _ _ _ _ _ _ _ _ _ _ _ _ _ _ _ _ _ _ _ _ _ _ _ _ _ _ _ _ _ _ _ _ _ _ _ _ _ _ _ _ _ _ _ _ _ _ _ _ _ _ _ _ _ _ _ _ _ _ _ _ _ _ _ _ _ _ _ _ _ _ _ _ _ _ _ _ _ _ _ _ _ _ _).trans ?_
            rw [hb]
            rfl
end Go.Proofs.Ytoagnbpmoihojaa

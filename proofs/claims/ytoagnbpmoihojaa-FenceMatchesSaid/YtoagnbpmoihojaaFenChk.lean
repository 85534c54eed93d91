/- The moments' check. -/
import Derived.Test.YtoagnbpmoihojaaFenCfg
import Derived.Test.YtoagnbpmoihojaaFenCon
import Derived.Test.YtoagnbpmoihojaaFenPlain
import Derived.Test.YtoagnbpmoihojaaEj
set_option maxRecDepth 100000
set_option linter.unusedSimpArgs false
set_option linter.unusedVariables false
namespace Go.Proofs.Ytoagnbpmoihojaa
open Go.Sx
noncomputable def ckB : Code := subC (bodyOf Try.f30) [1, 1, 1, 1, 0, 1, 0, 0]
noncomputable def ckH (cs : List AV) : AH := ⟨[.cells cs], []⟩
theorem ck_pre (fuel : Nat) (c0 c1 c2 c3 c4 c5 c6 c7 c8 c9 c10 : Int) (l : AV) : runI Try.D (cF fuel) fuel Try.f30 [.agg (cfC c0 c1 c2 c3 c4 c5 c6 c7 c8 c9 c10), l] ⟨[], []⟩ (fun v _ => some v) = (match valH Try.D 43 [.agg (cfC c0 c1 c2 c3 c4 c5 c6 c7 c8 c9 c10)] ⟨[.cells (cfC c0 c1 c2 c3 c4 c5 c6 c7 c8 c9 c10)], []⟩ with | some u0 => br (fitS (.int .i64) u0) (fun _ => br (u0.numOf != (0 : Int)) (fun _ => some (.int .i64 u0.numOf)) (fun _ => br (AV.listN 14 l) (fun _ => br ((↑l.listOf.length : Int) == (0 : Int)) (fun _ => some (.int .i64 (2 : Int))) (fun _ => br (AV.listN 14 l) (fun _ => loopC Try.D (cF fuel) fuel ckB fuel [.agg (cfC c0 c1 c2 c3 c4 c5 c6 c7 c8 c9 c10), l, .ptr 0 0, .top, .int .i64 (0 : Int), .int .i64 u0.numOf, .int .i64 (0 : Int), .top, .top, .agg (cfC c0 c1 c2 c3 c4 c5 c6 c7 c8 c9 c10), .int .i64 u0.numOf, .int .i64 u0.numOf, .bool (u0.numOf != (0 : Int)), .top, l, .int .i64 (↑l.listOf.length : Int), .bool ((↑l.listOf.length : Int) == (0 : Int)), l, .int .i64 (↑l.listOf.length : Int), .int .i64 (0 : Int), .top, .top, .top, .top, .top, .top, .top, .top, .top, .top, .top, .top, .top, .top, .top, .top, .top, .top, .top, .top] ⟨[.cells (cfC c0 c1 c2 c3 c4 c5 c6 c7 c8 c9 c10)], []⟩ (kontI Try.D (cF fuel) fuel (bodyOf Try.f30) [1, 1, 1, 1, 0, 1, 0] (endI Try.D Try.f30 fun v _ => some v))) (fun _ => none))) (fun _ => none))) (fun _ => none) | none => none) := by kernel_rfl
theorem ck_step {R : Type} (fuel k : Nat) (c0 c1 c2 c3 c4 c5 c6 c7 c8 c9 c10 : Int) (l : AV) (e bf i : Int) (b b2 : Bool) (K : Ex → List AV → AH → Option R) : loopC Try.D (cF fuel) fuel ckB (k + 1) [.agg (cfC c0 c1 c2 c3 c4 c5 c6 c7 c8 c9 c10), l, .ptr 0 0, .top, .int .i64 0, .int .i64 e, .int .i64 bf, .top, .top, .agg (cfC c0 c1 c2 c3 c4 c5 c6 c7 c8 c9 c10), .int .i64 e, .int .i64 e, .bool b, .top, l, .int .i64 (l.listOf.length : Int), .bool b2, l, .int .i64 (l.listOf.length : Int), .int .i64 i, .top, .top, .top, .top, .top, .top, .top, .top, .top, .top, .top, .top, .top, .top, .top, .top, .top, .top, .top, .top] (ckH (cfC c0 c1 c2 c3 c4 c5 c6 c7 c8 c9 c10)) K = br (decide (i < (↑l.listOf.length : Int))) (fun _ => br (AV.listN 14 l && (decide ((0 : Int) ≤ i) && decide (i < (↑l.listOf.length : Int)))) (fun _ => (match l.listOf[i.toNat]? with | some u2 => br (u2.isAgg && fitL [.int .i64, .bool, .bool, .bool, .int .i64, .int .i64, .int .i64, .int .i64, .any, .any, .any, .int .i64, .any, .any] u2.aggOf) (fun _ => br (decide ((hdV u2.aggOf).numOf < bf)) (fun _ => K .ret [.agg (cfC c0 c1 c2 c3 c4 c5 c6 c7 c8 c9 c10), resetV l l, .ptr 0 0, .top, .int .i64 (13 : Int), .int .i64 e, .int .i64 bf, .top, .top, .agg (cfC c0 c1 c2 c3 c4 c5 c6 c7 c8 c9 c10), .int .i64 e, .int .i64 e, .bool b, .top, resetV l l, .int .i64 (↑l.listOf.length : Int), .bool b2, resetV l l, .int .i64 (↑l.listOf.length : Int), .int .i64 i, .top, .top, .top, .top, .top, .top, .top, .top, .top, .top, .top, .top, .top, .top, .top, .top, .top, .top, .top, .top] ⟨[.cells (cfC c0 c1 c2 c3 c4 c5 c6 c7 c8 c9 c10), .cells [.int .i64 (hdV u2.aggOf).numOf, .bool (hdV (tlV u2.aggOf)).boolOf, .bool (hdV (tlV (tlV u2.aggOf))).boolOf, .bool (hdV (tlV (tlV (tlV u2.aggOf)))).boolOf, .int .i64 (hdV (tlV (tlV (tlV (tlV u2.aggOf))))).numOf, .int .i64 (hdV (tlV (tlV (tlV (tlV (tlV u2.aggOf)))))).numOf, .int .i64 (hdV (tlV (tlV (tlV (tlV (tlV (tlV u2.aggOf))))))).numOf, .int .i64 (hdV (tlV (tlV (tlV (tlV (tlV (tlV (tlV u2.aggOf)))))))).numOf, shS .any (hdV (tlV (tlV (tlV (tlV (tlV (tlV (tlV (tlV u2.aggOf))))))))), shS .any (hdV (tlV (tlV (tlV (tlV (tlV (tlV (tlV (tlV (tlV u2.aggOf)))))))))), shS .any (hdV (tlV (tlV (tlV (tlV (tlV (tlV (tlV (tlV (tlV (tlV u2.aggOf))))))))))), .int .i64 (hdV (tlV (tlV (tlV (tlV (tlV (tlV (tlV (tlV (tlV (tlV (tlV u2.aggOf)))))))))))).numOf, shS .any (hdV (tlV (tlV (tlV (tlV (tlV (tlV (tlV (tlV (tlV (tlV (tlV (tlV u2.aggOf))))))))))))), shS .any (hdV (tlV (tlV (tlV (tlV (tlV (tlV (tlV (tlV (tlV (tlV (tlV (tlV (tlV u2.aggOf))))))))))))))]], []⟩) (fun _ => br (decide ((hdV u2.aggOf).numOf > (1099511627776 : Int))) (fun _ => K .ret [.agg (cfC c0 c1 c2 c3 c4 c5 c6 c7 c8 c9 c10), resetV l l, .ptr 0 0, .top, .int .i64 (13 : Int), .int .i64 e, .int .i64 bf, .top, .top, .agg (cfC c0 c1 c2 c3 c4 c5 c6 c7 c8 c9 c10), .int .i64 e, .int .i64 e, .bool b, .top, resetV l l, .int .i64 (↑l.listOf.length : Int), .bool b2, resetV l l, .int .i64 (↑l.listOf.length : Int), .int .i64 i, .top, .top, .top, .top, .top, .top, .top, .top, .top, .top, .top, .top, .top, .top, .top, .top, .top, .top, .top, .top] ⟨[.cells (cfC c0 c1 c2 c3 c4 c5 c6 c7 c8 c9 c10), .cells [.int .i64 (hdV u2.aggOf).numOf, .bool (hdV (tlV u2.aggOf)).boolOf, .bool (hdV (tlV (tlV u2.aggOf))).boolOf, .bool (hdV (tlV (tlV (tlV u2.aggOf)))).boolOf, .int .i64 (hdV (tlV (tlV (tlV (tlV u2.aggOf))))).numOf, .int .i64 (hdV (tlV (tlV (tlV (tlV (tlV u2.aggOf)))))).numOf, .int .i64 (hdV (tlV (tlV (tlV (tlV (tlV (tlV u2.aggOf))))))).numOf, .int .i64 (hdV (tlV (tlV (tlV (tlV (tlV (tlV (tlV u2.aggOf)))))))).numOf, shS .any (hdV (tlV (tlV (tlV (tlV (tlV (tlV (tlV (tlV u2.aggOf))))))))), shS .any (hdV (tlV (tlV (tlV (tlV (tlV (tlV (tlV (tlV (tlV u2.aggOf)))))))))), shS .any (hdV (tlV (tlV (tlV (tlV (tlV (tlV (tlV (tlV (tlV (tlV u2.aggOf))))))))))), .int .i64 (hdV (tlV (tlV (tlV (tlV (tlV (tlV (tlV (tlV (tlV (tlV (tlV u2.aggOf)))))))))))).numOf, shS .any (hdV (tlV (tlV (tlV (tlV (tlV (tlV (tlV (tlV (tlV (tlV (tlV (tlV u2.aggOf))))))))))))), shS .any (hdV (tlV (tlV (tlV (tlV (tlV (tlV (tlV (tlV (tlV (tlV (tlV (tlV (tlV u2.aggOf))))))))))))))]], []⟩) (fun _ => br (decide ((hdV (tlV (tlV (tlV (tlV (tlV (tlV (tlV (tlV (tlV (tlV (tlV u2.aggOf)))))))))))).numOf > (1099511627776 : Int))) (fun _ => K .ret [.agg (cfC c0 c1 c2 c3 c4 c5 c6 c7 c8 c9 c10), resetV l l, .ptr 0 0, .top, .int .i64 (3 : Int), .int .i64 e, .int .i64 bf, .top, .top, .agg (cfC c0 c1 c2 c3 c4 c5 c6 c7 c8 c9 c10), .int .i64 e, .int .i64 e, .bool b, .top, resetV l l, .int .i64 (↑l.listOf.length : Int), .bool b2, resetV l l, .int .i64 (↑l.listOf.length : Int), .int .i64 i, .top, .top, .top, .top, .top, .top, .top, .top, .top, .top, .top, .top, .top, .top, .top, .top, .top, .top, .top, .top] ⟨[.cells (cfC c0 c1 c2 c3 c4 c5 c6 c7 c8 c9 c10), .cells [.int .i64 (hdV u2.aggOf).numOf, .bool (hdV (tlV u2.aggOf)).boolOf, .bool (hdV (tlV (tlV u2.aggOf))).boolOf, .bool (hdV (tlV (tlV (tlV u2.aggOf)))).boolOf, .int .i64 (hdV (tlV (tlV (tlV (tlV u2.aggOf))))).numOf, .int .i64 (hdV (tlV (tlV (tlV (tlV (tlV u2.aggOf)))))).numOf, .int .i64 (hdV (tlV (tlV (tlV (tlV (tlV (tlV u2.aggOf))))))).numOf, .int .i64 (hdV (tlV (tlV (tlV (tlV (tlV (tlV (tlV u2.aggOf)))))))).numOf, shS .any (hdV (tlV (tlV (tlV (tlV (tlV (tlV (tlV (tlV u2.aggOf))))))))), shS .any (hdV (tlV (tlV (tlV (tlV (tlV (tlV (tlV (tlV (tlV u2.aggOf)))))))))), shS .any (hdV (tlV (tlV (tlV (tlV (tlV (tlV (tlV (tlV (tlV (tlV u2.aggOf))))))))))), .int .i64 (hdV (tlV (tlV (tlV (tlV (tlV (tlV (tlV (tlV (tlV (tlV (tlV u2.aggOf)))))))))))).numOf, shS .any (hdV (tlV (tlV (tlV (tlV (tlV (tlV (tlV (tlV (tlV (tlV (tlV (tlV u2.aggOf))))))))))))), shS .any (hdV (tlV (tlV (tlV (tlV (tlV (tlV (tlV (tlV (tlV (tlV (tlV (tlV (tlV u2.aggOf))))))))))))))]], []⟩) (fun _ => loopC Try.D (cF fuel) fuel ckB k [.agg (cfC c0 c1 c2 c3 c4 c5 c6 c7 c8 c9 c10), cutV 1 0 (resetV l l), .ptr 0 0, .top, .int .i64 (0 : Int), .int .i64 e, .int .i64 (hdV u2.aggOf).numOf, .top, .top, .agg (cfC c0 c1 c2 c3 c4 c5 c6 c7 c8 c9 c10), .int .i64 e, .int .i64 e, .bool b, .top, cutV 1 0 (resetV l l), .int .i64 (↑l.listOf.length : Int), .bool b2, cutV 1 0 (resetV l l), .int .i64 (↑l.listOf.length : Int), .int .i64 (IntKind.i64.wrap (i + (1 : Int))), .top, .top, .top, .top, .top, .top, .top, .top, .top, .top, .top, .top, .top, .top, .top, .top, .top, .top, .top, .top] ⟨[.cells (cfC c0 c1 c2 c3 c4 c5 c6 c7 c8 c9 c10)], []⟩ K)))) (fun _ => none) | none => none)) (fun _ => none)) (fun _ => K (.exit 0) [.agg (cfC c0 c1 c2 c3 c4 c5 c6 c7 c8 c9 c10), resetV l l, .ptr 0 0, .top, .int .i64 (0 : Int), .int .i64 e, .int .i64 bf, .top, .top, .agg (cfC c0 c1 c2 c3 c4 c5 c6 c7 c8 c9 c10), .int .i64 e, .int .i64 e, .bool b, .top, resetV l l, .int .i64 (↑l.listOf.length : Int), .bool b2, resetV l l, .int .i64 (↑l.listOf.length : Int), .int .i64 i, .top, .top, .top, .top, .top, .top, .top, .top, .top, .top, .top, .top, .top, .top, .top, .top, .top, .top, .top, .top] ⟨[.cells (cfC c0 c1 c2 c3 c4 c5 c6 c7 c8 c9 c10)], []⟩) := by kernel_rfl
theorem ck_end (fuel : Nat) (H : AH) (e : Int) (x0 x1 x2 x3 x5 x6 x7 x8 x9 x10 x11 x12 x13 x14 x15 x16 x17 x18 x19 x20 x21 x22 x23 x24 x25 x26 x27 x28 x29 x30 x31 x32 x33 x34 x35 x36 x37 x38 x39 : AV) : kontI Try.D (cF fuel) fuel (bodyOf Try.f30) [1, 1, 1, 1, 0, 1, 0] (endI Try.D Try.f30 fun v _ => some v) (.exit 0) [x0, x1, x2, x3, .int .i64 e, x5, x6, x7, x8, x9, x10, x11, x12, x13, x14, x15, x16, x17, x18, x19, x20, x21, x22, x23, x24, x25, x26, x27, x28, x29, x30, x31, x32, x33, x34, x35, x36, x37, x38, x39] H = some (.int .i64 (0 : Int)) := by kernel_rfl
theorem ck_ret (fuel : Nat) (H : AH) (e : Int) (x0 x1 x2 x3 x5 x6 x7 x8 x9 x10 x11 x12 x13 x14 x15 x16 x17 x18 x19 x20 x21 x22 x23 x24 x25 x26 x27 x28 x29 x30 x31 x32 x33 x34 x35 x36 x37 x38 x39 : AV) : kontI Try.D (cF fuel) fuel (bodyOf Try.f30) [1, 1, 1, 1, 0, 1, 0] (endI Try.D Try.f30 fun v _ => some v) .ret [x0, x1, x2, x3, .int .i64 e, x5, x6, x7, x8, x9, x10, x11, x12, x13, x14, x15, x16, x17, x18, x19, x20, x21, x22, x23, x24, x25, x26, x27, x28, x29, x30, x31, x32, x33, x34, x35, x36, x37, x38, x39] H = some (.int .i64 e) := by kernel_rfl
/-- What the checks see of a moment. -/
def moOf (u : AV) : Mo := ⟨(hdV u.aggOf).numOf, (hdV (tlV u.aggOf)).boolOf, (hdV (tlV (tlV u.aggOf))).boolOf, (hdV (tlV (tlV (tlV u.aggOf)))).boolOf, (hdV (tlV (tlV (tlV (tlV (tlV (tlV (tlV (tlV (tlV (tlV (tlV u.aggOf)))))))))))).numOf, (shS Sh.any (hdV (tlV (tlV (tlV (tlV (tlV (tlV (tlV (tlV (tlV u.aggOf))))))))))).listOf.any fun p => (hdV (tlV (tlV (tlV (tlV (tlV p.aggOf)))))).boolOf⟩
noncomputable def mosOf (l : AV) : List Mo := l.listOf.map moOf

theorem ck_loop (fuel : Nat) (c0 c1 c2 c3 c4 c5 c6 c7 c8 c9 c10 : Int) {l : AV} (hl : tyV (.sl 14 dtMom) l) (e : Int) (b b2 : Bool) : ∀ (r jn k : Nat) (bf i : Int), i = (jn : Int) → jn + r = l.listOf.length → r < k →
    loopC Try.D (cF fuel) fuel ckB k [.agg (cfC c0 c1 c2 c3 c4 c5 c6 c7 c8 c9 c10), l, .ptr 0 0, .top, .int .i64 0, .int .i64 e, .int .i64 bf, .top, .top, .agg (cfC c0 c1 c2 c3 c4 c5 c6 c7 c8 c9 c10), .int .i64 e, .int .i64 e, .bool b, .top, l, .int .i64 (l.listOf.length : Int), .bool b2, l, .int .i64 (l.listOf.length : Int), .int .i64 i, .top, .top, .top, .top, .top, .top, .top, .top, .top, .top, .top, .top, .top, .top, .top, .top, .top, .top, .top, .top] (ckH (cfC c0 c1 c2 c3 c4 c5 c6 c7 c8 c9 c10)) (kontI Try.D (cF fuel) fuel (bodyOf Try.f30) [1, 1, 1, 1, 0, 1, 0] (endI Try.D Try.f30 fun v _ => some v)) = some (.int .i64 (ordE bf ((l.listOf.drop jn).map moOf)))
  | r, jn, 0, bf, i, hj, h, hk => by omega
  | 0, jn, k + 1, bf, i, hj, h, hk => by
    subst hj
    rw [ck_step, lt_false (by omega : ¬ jn < l.listOf.length), List.drop_eq_nil_of_le (by omega)]
    simp only [br]
    exact ck_end fuel _ _ _ _ _ _ _ _ _ _ _ _ _ _ _ _ _ _ _ _ _ _ _ _ _ _ _ _ _ _ _ _ _ _ _ _ _ _ _ _ _
  | r + 1, jn, k + 1, bf, i, hj, h, hk => by
    subst hj
    obtain ⟨hB, hmax, hT, -, -⟩ := sl_facts hl
    have hi : jn < l.listOf.length := by omega
    obtain ⟨u, hu⟩ : ∃ u, l.listOf[jn]? = some u := ⟨_, List.getElem?_eq_getElem hi⟩
    have tu := hT u (List.mem_of_getElem? hu)
    rw [ck_step, lt_true hi, hB, ge_true, Int.toNat_natCast, hu, nrm_drop hu]
    simp only [br, Bool.and_self, fit_dtMom tu, List.map_cons, ordE]
    by_cases h1 : (hdV u.aggOf).numOf < bf
    · rw [if_pos (show (moOf u).now < bf from h1), dec_yes h1]
      exact ck_ret fuel _ _ _ _ _ _ _ _ _ _ _ _ _ _ _ _ _ _ _ _ _ _ _ _ _ _ _ _ _ _ _ _ _ _ _ _ _ _ _ _ _
    rw [if_neg (show ¬ (moOf u).now < bf from h1), dec_no h1]
    simp only
    by_cases h2 : (hdV u.aggOf).numOf > 1099511627776
    · rw [if_pos (show (moOf u).now > _ from h2), dec_yes h2]
      exact ck_ret fuel _ _ _ _ _ _ _ _ _ _ _ _ _ _ _ _ _ _ _ _ _ _ _ _ _ _ _ _ _ _ _ _ _ _ _ _ _ _ _ _ _
    rw [if_neg (show ¬ (moOf u).now > _ from h2), dec_no h2]
    simp only
    by_cases h3 : (hdV (tlV (tlV (tlV (tlV (tlV (tlV (tlV (tlV (tlV (tlV (tlV u.aggOf)))))))))))).numOf > 1099511627776
    · rw [if_pos (show (moOf u).ac > _ from h3), dec_yes h3]
      exact ck_ret fuel _ _ _ _ _ _ _ _ _ _ _ _ _ _ _ _ _ _ _ _ _ _ _ _ _ _ _ _ _ _ _ _ _ _ _ _ _ _ _ _ _
    rw [if_neg (show ¬ (moOf u).ac > _ from h3), dec_no h3]
    simp only [resetV_self, cut_ty hl]
    rw [wrap_next hi hmax]
    exact ck_loop fuel c0 c1 c2 c3 c4 c5 c6 c7 c8 c9 c10 hl e b b2 r (jn + 1) k _ _ rfl (by omega) (by omega)
theorem num_pre (fuel : Nat) (c0 c1 c2 c3 c4 c5 c6 c7 c8 c9 c10 : Int) (l : AV) (d r : Int) : runI Try.D (cF fuel) fuel Try.f26 [.agg (cfC c0 c1 c2 c3 c4 c5 c6 c7 c8 c9 c10), .int .i64 d, .int .i64 r, l] ⟨[], []⟩ (fun v _ => some v) = (match valH Try.D 30 [.agg (cfC c0 c1 c2 c3 c4 c5 c6 c7 c8 c9 c10), l] ⟨[.cells (cfC c0 c1 c2 c3 c4 c5 c6 c7 c8 c9 c10)], []⟩ with | some u0 => br (fitS (.int .i64) u0) (fun _ => br (u0.numOf != (0 : Int)) (fun _ => some (.int .i64 u0.numOf)) (fun _ => br (decide ((if false = true then if r > d then r else d else if r < d then r else d) < (0 : Int))) (fun _ => some (.int .i64 (3 : Int))) (fun _ => br (decide ((if true = true then if r > d then r else d else if r < d then r else d) > (1099511627776 : Int))) (fun _ => some (.int .i64 (3 : Int))) (fun _ => some (.int .i64 (0 : Int)))))) (fun _ => none) | none => none) := by kernel_rfl
theorem moOf_erase {u : AV} (h : tyV dtMom u) : moOf (erase u) = moOf u := by
  have h9 := pj_dtMom_9 h
  have e9 := any_erase h9 (f := fun p => (hdV (tlV (tlV (tlV (tlV (tlV p.aggOf)))))).boolOf) (fun p hp => by
    obtain ⟨a0, a1, a2, a3, a4, a5, a6, a7, a8, rfl, w⟩ := un_dtProc hp
    rfl)
  obtain ⟨m0, m1, m2, m3, m4, m5, m6, m7, m8, m9, m10, m11, m12, m13, rfl, w⟩ := un_dtMom h
  simp only [moOf, erase, eraseL, AV.aggOf, hdV, tlV, AV.numOf, AV.boolOf, shS] at e9 ⊢
  rw [e9]
theorem mosOf_erase {l : AV} (h : tyV (.sl 14 dtMom) l) : mosOf (erase l) = mosOf l := map_erase h fun u hu => moOf_erase hu
noncomputable def ckE (c0 c1 c2 c3 c4 c5 c6 c7 c8 c9 c10 : Int) (l : AV) : Int := if cfgOK c0 c1 c2 c3 c4 c5 c6 c7 c8 c9 c10 then (if l.listOf.length = 0 then 2 else ordE 0 (mosOf l)) else 3

theorem ck_run (c0 c1 c2 c3 c4 c5 c6 c7 c8 c9 c10 : Int) {l : AV} (hc : tyV dtCfg (.agg (cfC c0 c1 c2 c3 c4 c5 c6 c7 c8 c9 c10))) (hl : tyV (.sl 14 dtMom) l) : runI Try.D (cF (l.listOf.length + 1)) (l.listOf.length + 1) Try.f30 [.agg (cfC c0 c1 c2 c3 c4 c5 c6 c7 c8 c9 c10), l] ⟨[], []⟩ (fun v _ => some v) = some (.int .i64 (ckE c0 c1 c2 c3 c4 c5 c6 c7 c8 c9 c10 l)) := by
  have hk := fun H => valH_of (k43 hc H)
  rw [ck_pre, hk]
  unfold ckE
  by_cases h : cfgOK c0 c1 c2 c3 c4 c5 c6 c7 c8 c9 c10
  · simp only [if_pos h, fitS, AV.numOf, br, (sl_facts hl).1, decide_true]
    by_cases h0 : l.listOf.length = 0
    · rw [if_pos h0, h0]
      rfl
    · rw [if_neg h0]
      have e1 : ((l.listOf.length : Int) == 0) = false := by rw [beq_eq_false_iff_ne]; omega
      rw [e1]
      have := ck_loop (l.listOf.length + 1) c0 c1 c2 c3 c4 c5 c6 c7 c8 c9 c10 hl 0 false false l.listOf.length 0 (l.listOf.length + 1) 0 0 rfl (by omega) (by omega)
      rw [List.drop_zero] at this
      exact this
  · simp only [if_neg h, fitS, AV.numOf, br, decide_true]
    rfl

theorem k30 (c0 c1 c2 c3 c4 c5 c6 c7 c8 c9 c10 : Int) {l : AV} (hc : tyV dtCfg (.agg (cfC c0 c1 c2 c3 c4 c5 c6 c7 c8 c9 c10))) (hl : tyV (.sl 14 dtMom) l) (H : AH) : callL Try.D 30 [.agg (cfC c0 c1 c2 c3 c4 c5 c6 c7 c8 c9 c10), l] H = some (.int .i64 (ckE c0 c1 c2 c3 c4 c5 c6 c7 c8 c9 c10 l), H) := by
  have hl' := tyV_erase hl
  have he : ckE c0 c1 c2 c3 c4 c5 c6 c7 c8 c9 c10 (erase l) = ckE c0 c1 c2 c3 c4 c5 c6 c7 c8 c9 c10 l := by unfold ckE; rw [mosOf_erase hl, listOf_erase hl, List.length_map]
  rw [← he]
  refine callL_D tabF_ok (fuel := (erase l).listOf.length + 1) (n := 6) (fn := Try.f30) (ds := [dtCfg, .sl 14 dtMom]) (v := .int .i64 (ckE c0 c1 c2 c3 c4 c5 c6 c7 c8 c9 c10 (erase l))) (by kernel_rfl) (by kernel_rfl) (by kernel_rfl) ⟨hc, hl, trivial⟩ ?_ rfl
  exact ck_run c0 c1 c2 c3 c4 c5 c6 c7 c8 c9 c10 hc hl'

noncomputable def numE (c0 c1 c2 c3 c4 c5 c6 c7 c8 c9 c10 : Int) (l : AV) (d r : Int) : Int := if ckE c0 c1 c2 c3 c4 c5 c6 c7 c8 c9 c10 l = 0 then (if 0 ≤ d ∧ d ≤ 1099511627776 ∧ 0 ≤ r ∧ r ≤ 1099511627776 then 0 else 3) else ckE c0 c1 c2 c3 c4 c5 c6 c7 c8 c9 c10 l
theorem num_run (c0 c1 c2 c3 c4 c5 c6 c7 c8 c9 c10 : Int) {l : AV} {d r : Int} (hc : tyV dtCfg (.agg (cfC c0 c1 c2 c3 c4 c5 c6 c7 c8 c9 c10))) (hl : tyV (.sl 14 dtMom) l) : runI Try.D (cF 12) 12 Try.f26 [.agg (cfC c0 c1 c2 c3 c4 c5 c6 c7 c8 c9 c10), .int .i64 d, .int .i64 r, l] ⟨[], []⟩ (fun v _ => some v) = some (.int .i64 (numE c0 c1 c2 c3 c4 c5 c6 c7 c8 c9 c10 l d r)) := by
  have hk := fun H => valH_of (k30 c0 c1 c2 c3 c4 c5 c6 c7 c8 c9 c10 hc hl H)
  rw [num_pre, hk]
  unfold numE
  simp only [fitS, AV.numOf, br_ite, decide_true, if_true, Bool.false_eq_true, if_false, bne_iff_ne, ne_eq, decide_eq_true_eq]
  by_cases h : ckE c0 c1 c2 c3 c4 c5 c6 c7 c8 c9 c10 l = 0
  · rw [if_neg (fun k => k h), if_pos h]
    by_cases h2 : 0 ≤ d ∧ d ≤ 1099511627776 ∧ 0 ≤ r ∧ r ≤ 1099511627776
    · rw [if_neg (by split <;> omega), if_neg (by split <;> omega), if_pos h2]
    · rw [if_neg h2]
      by_cases h3 : (if r < d then r else d) < 0
      · rw [if_pos h3]
      rw [if_neg h3]
      by_cases h4 : (if r > d then r else d) > 1099511627776
      · rw [if_pos h4]
      exfalso
      apply h2
      revert h3 h4
      split <;> split <;> intro h3 h4 <;> omega
  · rw [if_pos h, if_neg h]
theorem k26 (c0 c1 c2 c3 c4 c5 c6 c7 c8 c9 c10 : Int) {l : AV} {d r : Int} (hc : tyV dtCfg (.agg (cfC c0 c1 c2 c3 c4 c5 c6 c7 c8 c9 c10))) (hl : tyV (.sl 14 dtMom) l) (hd : (Lit.int .i64 d).wf = true) (hr : (Lit.int .i64 r).wf = true) (H : AH) : callL Try.D 26 [.agg (cfC c0 c1 c2 c3 c4 c5 c6 c7 c8 c9 c10), .int .i64 d, .int .i64 r, l] H = some (.int .i64 (numE c0 c1 c2 c3 c4 c5 c6 c7 c8 c9 c10 l d r), H) := by
  have he : numE c0 c1 c2 c3 c4 c5 c6 c7 c8 c9 c10 (erase l) d r = numE c0 c1 c2 c3 c4 c5 c6 c7 c8 c9 c10 l d r := by unfold numE ckE; rw [mosOf_erase hl, listOf_erase hl, List.length_map]
  rw [← he]
  refine callL_D tabF_ok (fuel := 12) (n := 6) (fn := Try.f26) (ds := [dtCfg, dtI, dtI, .sl 14 dtMom]) (v := .int .i64 (numE c0 c1 c2 c3 c4 c5 c6 c7 c8 c9 c10 (erase l) d r)) (by kernel_rfl) (by kernel_rfl) (by kernel_rfl) ⟨hc, ty_i hd, ty_i hr, hl, trivial⟩ ?_ rfl
  exact num_run c0 c1 c2 c3 c4 c5 c6 c7 c8 c9 c10 hc (tyV_erase hl)
end Go.Proofs.Ytoagnbpmoihojaa

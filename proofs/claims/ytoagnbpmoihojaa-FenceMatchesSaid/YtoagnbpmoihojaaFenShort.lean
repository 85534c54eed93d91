/- Contract: Short. -/
import Derived.Test.YtoagnbpmoihojaaFenFew
set_option maxRecDepth 100000
set_option linter.unusedSimpArgs false
set_option linter.unusedVariables false
namespace Go.Proofs.Ytoagnbpmoihojaa
open Go.Sx
theorem sh_step {R : Type} (fuel k : Nat) (l : AV) (i : Int) (b : Bool) (K : Ex → List AV → AH → Option R) : loopC Try.D (cF fuel) fuel shB (k + 1) [l, .top, .bool false, .int .i64 i, l, .int .i64 (l.listOf.length : Int), .bool b, .top, .top, .top, .top, .top, .top, .top, .top, .top, .top, .top, .top, .top, .top, .top, .top, .top, .top, .top, .top, .top, .top, .top, .top, .top, .top, .top, .top, .top, .top, .top, .top, .top, .top, .top, .top, .top, .top, .top, .top, .top, .top, .top, .top, .top, .top, .top, .top, .top] ⟨[], []⟩ K = br (AV.listN 14 l) (fun _ => br (decide (i < (↑l.listOf.length : Int))) (fun _ => br (AV.listN 14 l && (decide ((0 : Int) ≤ i) && decide (i < (↑l.listOf.length : Int)))) (fun _ => (match l.listOf[i.toNat]? with | some u3 => br (u3.isAgg && fitL [.int .i64, .bool, .bool, .bool, .int .i64, .int .i64, .int .i64, .int .i64, .any, .any, .any, .int .i64, .any, .any] u3.aggOf) (fun _ => br ((shS .any (hdV (tlV (tlV (tlV (tlV (tlV (tlV (tlV (tlV (tlV u3.aggOf))))))))))).isOne) (fun _ => br (AV.listN 9 (shS .any (hdV (tlV (tlV (tlV (tlV (tlV (tlV (tlV (tlV (tlV u3.aggOf)))))))))))) (fun _ => br (decide ((↑(shS .any (hdV (tlV (tlV (tlV (tlV (tlV (tlV (tlV (tlV (tlV u3.aggOf))))))))))).listOf.length : Int) > (20 : Int))) (fun _ => K .ret [resetV l l, .top, .bool false, .int .i64 i, resetV l l, .int .i64 (↑l.listOf.length : Int), .bool b, .top, .top, .top, .top, .top, .top, .top, .top, .top, .top, .top, .top, .top, .top, .top, .top, .top, .top, .top, .top, .top, .top, .top, .top, .top, .top, .top, .top, .top, .top, .top, .top, .top, .top, .top, .top, .top, .top, .top, .top, .top, .top, .top, .top, .top, .top, .top, .top, .top] ⟨[], []⟩) (fun _ => br (AV.listN 14 l && (decide ((0 : Int) ≤ i) && decide (i < (↑l.listOf.length : Int)))) (fun _ => (match l.listOf[i.toNat]? with | some u9 => br (u9.isAgg && fitL [.int .i64, .bool, .bool, .bool, .int .i64, .int .i64, .int .i64, .int .i64, .any, .any, .any, .int .i64, .any, .any] u9.aggOf) (fun _ => (match valH Try.D 22 [.agg [.int .i64 (hdV (tlV (tlV (tlV (tlV u9.aggOf))))).numOf, .int .i64 (hdV (tlV (tlV (tlV (tlV (tlV u9.aggOf)))))).numOf, .int .i64 (hdV (tlV (tlV (tlV (tlV (tlV (tlV u9.aggOf))))))).numOf, .int .i64 (hdV (tlV (tlV (tlV (tlV (tlV (tlV (tlV u9.aggOf)))))))).numOf, shS .any (hdV (tlV (tlV (tlV (tlV (tlV (tlV (tlV (tlV u9.aggOf)))))))))]] ⟨[], []⟩ with | some u11 => br (fitS .bool u11) (fun _ => br (!u11.boolOf) (fun _ => K .ret [resetV l l, .top, .bool false, .int .i64 i, resetV l l, .int .i64 (↑l.listOf.length : Int), .bool b, .top, .top, .top, .top, .top, .top, .top, .top, .top, .top, .top, .top, .top, .top, .top, .top, .top, .top, .top, .top, .top, .top, .top, .top, .top, .top, .top, .top, .top, .top, .top, .top, .top, .top, .top, .top, .top, .top, .top, .top, .top, .top, .top, .top, .top, .top, .top, .top, .top] ⟨[], []⟩) (fun _ => br (AV.listN 14 l && (decide ((0 : Int) ≤ i) && decide (i < (↑l.listOf.length : Int)))) (fun _ => (match l.listOf[i.toNat]? with | some u15 => br (u15.isAgg && fitL [.int .i64, .bool, .bool, .bool, .int .i64, .int .i64, .int .i64, .int .i64, .any, .any, .any, .int .i64, .any, .any] u15.aggOf) (fun _ => br ((shS .any (hdV (tlV (tlV (tlV (tlV (tlV (tlV (tlV (tlV (tlV (tlV (tlV (tlV u15.aggOf)))))))))))))).isOne) (fun _ => br (AV.listN 15 (shS .any (hdV (tlV (tlV (tlV (tlV (tlV (tlV (tlV (tlV (tlV (tlV (tlV (tlV u15.aggOf))))))))))))))) (fun _ => br (decide ((↑(shS .any (hdV (tlV (tlV (tlV (tlV (tlV (tlV (tlV (tlV (tlV (tlV (tlV (tlV u15.aggOf)))))))))))))).listOf.length : Int) > (60 : Int))) (fun _ => K .ret [resetV l l, .top, .bool false, .int .i64 i, resetV l l, .int .i64 (↑l.listOf.length : Int), .bool b, .top, .top, .top, .top, .top, .top, .top, .top, .top, .top, .top, .top, .top, .top, .top, .top, .top, .top, .top, .top, .top, .top, .top, .top, .top, .top, .top, .top, .top, .top, .top, .top, .top, .top, .top, .top, .top, .top, .top, .top, .top, .top, .top, .top, .top, .top, .top, .top, .top] ⟨[], []⟩) (fun _ => br (AV.listN 14 l && (decide ((0 : Int) ≤ i) && decide (i < (↑l.listOf.length : Int)))) (fun _ => (match l.listOf[i.toNat]? with | some u21 => br (u21.isAgg && fitL [.int .i64, .bool, .bool, .bool, .int .i64, .int .i64, .int .i64, .int .i64, .any, .any, .any, .int .i64, .any, .any] u21.aggOf) (fun _ => br ((shS .any (hdV (tlV (tlV (tlV (tlV (tlV (tlV (tlV (tlV (tlV (tlV (tlV (tlV (tlV u21.aggOf))))))))))))))).isOne) (fun _ => br (AV.listN 15 (shS .any (hdV (tlV (tlV (tlV (tlV (tlV (tlV (tlV (tlV (tlV (tlV (tlV (tlV (tlV u21.aggOf)))))))))))))))) (fun _ => br (decide ((↑(shS .any (hdV (tlV (tlV (tlV (tlV (tlV (tlV (tlV (tlV (tlV (tlV (tlV (tlV (tlV u21.aggOf))))))))))))))).listOf.length : Int) > (2 : Int))) (fun _ => K .ret [resetV l l, .top, .bool false, .int .i64 i, resetV l l, .int .i64 (↑l.listOf.length : Int), .bool b, .top, .top, .top, .top, .top, .top, .top, .top, .top, .top, .top, .top, .top, .top, .top, .top, .top, .top, .top, .top, .top, .top, .top, .top, .top, .top, .top, .top, .top, .top, .top, .top, .top, .top, .top, .top, .top, .top, .top, .top, .top, .top, .top, .top, .top, .top, .top, .top, .top] ⟨[], []⟩) (fun _ => br (AV.listN 14 l && (decide ((0 : Int) ≤ i) && decide (i < (↑l.listOf.length : Int)))) (fun _ => (match l.listOf[i.toNat]? with | some u27 => br (u27.isAgg && fitL [.int .i64, .bool, .bool, .bool, .int .i64, .int .i64, .int .i64, .int .i64, .any, .any, .any, .int .i64, .any, .any] u27.aggOf) (fun _ => br ((shS .any (hdV (tlV (tlV (tlV (tlV (tlV (tlV (tlV (tlV (tlV (tlV u27.aggOf)))))))))))).isOne) (fun _ => br (AV.listN 1 (shS .any (hdV (tlV (tlV (tlV (tlV (tlV (tlV (tlV (tlV (tlV (tlV u27.aggOf))))))))))))) (fun _ => br (decide ((↑(shS .any (hdV (tlV (tlV (tlV (tlV (tlV (tlV (tlV (tlV (tlV (tlV u27.aggOf)))))))))))).listOf.length : Int) > (60 : Int))) (fun _ => K .ret [resetV l l, .top, .bool false, .int .i64 i, resetV l l, .int .i64 (↑l.listOf.length : Int), .bool b, .top, .top, .top, .top, .top, .top, .top, .top, .top, .top, .top, .top, .top, .top, .top, .top, .top, .top, .top, .top, .top, .top, .top, .top, .top, .top, .top, .top, .top, .top, .top, .top, .top, .top, .top, .top, .top, .top, .top, .top, .top, .top, .top, .top, .top, .top, .top, .top, .top] ⟨[], []⟩) (fun _ => loopC Try.D (cF fuel) fuel shB k [resetV l l, .top, .bool false, .int .i64 (IntKind.i64.wrap (i + (1 : Int))), resetV l l, .int .i64 (↑l.listOf.length : Int), .bool b, .top, .top, .top, .top, .top, .top, .top, .top, .top, .top, .top, .top, .top, .top, .top, .top, .top, .top, .top, .top, .top, .top, .top, .top, .top, .top, .top, .top, .top, .top, .top, .top, .top, .top, .top, .top, .top, .top, .top, .top, .top, .top, .top, .top, .top, .top, .top, .top, .top] ⟨[], []⟩ K)) (fun _ => none)) (fun _ => none)) (fun _ => none) | none => none)) (fun _ => none))) (fun _ => none)) (fun _ => none)) (fun _ => none) | none => none)) (fun _ => none))) (fun _ => none)) (fun _ => none)) (fun _ => none) | none => none)) (fun _ => none))) (fun _ => none) | none => none)) (fun _ => none) | none => none)) (fun _ => none))) (fun _ => none)) (fun _ => none)) (fun _ => none) | none => none)) (fun _ => none)) (fun _ => K (.exit 0) [resetV l l, .top, .bool false, .int .i64 i, resetV l l, .int .i64 (↑l.listOf.length : Int), .bool b, .top, .top, .top, .top, .top, .top, .top, .top, .top, .top, .top, .top, .top, .top, .top, .top, .top, .top, .top, .top, .top, .top, .top, .top, .top, .top, .top, .top, .top, .top, .top, .top, .top, .top, .top, .top, .top, .top, .top, .top, .top, .top, .top, .top, .top, .top, .top, .top, .top] ⟨[], []⟩)) (fun _ => none) := by kernel_rfl
theorem sh_end {R : Type} (fuel : Nat) (x0 x1 x2 x3 x4 x5 x6 x7 x8 x9 x10 x11 x12 x13 x14 x15 x16 x17 x18 x19 x20 x21 x22 x23 x24 x25 x26 x27 x28 x29 x30 x31 x32 x33 x34 x35 x36 x37 x38 x39 x40 x41 x42 x43 x44 x45 x46 x47 x48 x49 x50 x51 x52 x53 x54 x55 : AV) (H : AH) (K : AV → AH → Option R) : kontI Try.D (cF fuel) fuel (bodyOf Try.f6) [1, 1, 0, 1, 0] (endI Try.D Try.f6 K) (.exit 0) [x0, x1, x2, x3, x4, x5, x6, x7, x8, x9, x10, x11, x12, x13, x14, x15, x16, x17, x18, x19, x20, x21, x22, x23, x24, x25, x26, x27, x28, x29, x30, x31, x32, x33, x34, x35, x36, x37, x38, x39, x40, x41, x42, x43, x44, x45, x46, x47, x48, x49, x50, x51, x52, x53, x54, x55] H = K (.bool true) H := by kernel_rfl
theorem sh_ret {R : Type} (fuel : Nat) (x0 x1 x2 x3 x4 x5 x6 x7 x8 x9 x10 x11 x12 x13 x14 x15 x16 x17 x18 x19 x20 x21 x22 x23 x24 x25 x26 x27 x28 x29 x30 x31 x32 x33 x34 x35 x36 x37 x38 x39 x40 x41 x42 x43 x44 x45 x46 x47 x48 x49 x50 x51 x52 x53 x54 x55 : AV) (H : AH) (K : AV → AH → Option R) : kontI Try.D (cF fuel) fuel (bodyOf Try.f6) [1, 1, 0, 1, 0] (endI Try.D Try.f6 K) .ret [x0, x1, x2, x3, x4, x5, x6, x7, x8, x9, x10, x11, x12, x13, x14, x15, x16, x17, x18, x19, x20, x21, x22, x23, x24, x25, x26, x27, x28, x29, x30, x31, x32, x33, x34, x35, x36, x37, x38, x39, x40, x41, x42, x43, x44, x45, x46, x47, x48, x49, x50, x51, x52, x53, x54, x55] H = K x2 H := by kernel_rfl
def smallU (u : AV) : Prop := (shS Sh.any (hdV (tlV (tlV (tlV (tlV (tlV (tlV (tlV (tlV (tlV u.aggOf))))))))))).listOf.length ≤ 20 ∧ (shS Sh.any (hdV (tlV (tlV (tlV (tlV (tlV (tlV (tlV (tlV (tlV (tlV u.aggOf)))))))))))).listOf.length ≤ 60 ∧ (shS Sh.any (hdV (tlV (tlV (tlV (tlV (tlV (tlV (tlV (tlV (tlV (tlV (tlV (tlV u.aggOf)))))))))))))).listOf.length ≤ 60 ∧ (shS Sh.any (hdV (tlV (tlV (tlV (tlV (tlV (tlV (tlV (tlV (tlV (tlV (tlV (tlV (tlV u.aggOf))))))))))))))).listOf.length ≤ 2 ∧ bnd 100 (shS Sh.any (hdV (tlV (tlV (tlV (tlV (tlV (tlV (tlV (tlV u.aggOf)))))))))) = true
def smallL (l : AV) : Prop := l.listOf.length ≤ 40 ∧ ∀ u ∈ l.listOf, smallU u

theorem st_dtMom {u : AV} (h : tyV dtMom u) : tyV dtState (.agg [.int .i64 (hdV (tlV (tlV (tlV (tlV u.aggOf))))).numOf, .int .i64 (hdV (tlV (tlV (tlV (tlV (tlV u.aggOf)))))).numOf, .int .i64 (hdV (tlV (tlV (tlV (tlV (tlV (tlV u.aggOf))))))).numOf, .int .i64 (hdV (tlV (tlV (tlV (tlV (tlV (tlV (tlV u.aggOf)))))))).numOf, (shS Sh.any (hdV (tlV (tlV (tlV (tlV (tlV (tlV (tlV (tlV u.aggOf))))))))))]) :=
  mk_dtState (pw_dtMom_4 h) (pw_dtMom_5 h) (pw_dtMom_6 h) (pw_dtMom_7 h) (pj_dtMom_8 h)

theorem sh_loop (fuel : Nat) {l : AV} (hl : tyV (.sl 14 dtMom) l) (b : Bool) (P : Prop) (hP : (∀ u ∈ l.listOf, smallU u) → P) :
    ∀ (r jn k : Nat) (i : Int), i = (jn : Int) → jn + r = l.listOf.length → r < k → (∀ u ∈ l.listOf.take jn, smallU u) → Good (loopC Try.D (cF fuel) fuel shB k [l, .top, .bool false, .int .i64 i, l, .int .i64 (l.listOf.length : Int), .bool b, .top, .top, .top, .top, .top, .top, .top, .top, .top, .top, .top, .top, .top, .top, .top, .top, .top, .top, .top, .top, .top, .top, .top, .top, .top, .top, .top, .top, .top, .top, .top, .top, .top, .top, .top, .top, .top, .top, .top, .top, .top, .top, .top, .top, .top, .top, .top, .top, .top] ⟨[], []⟩ (kontI Try.D (cF fuel) fuel (bodyOf Try.f6) [1, 1, 0, 1, 0] (endI Try.D Try.f6 fun v _ => some v))) P
  | r, jn, 0, i, hj, h, hk, hp => by omega
  | 0, jn, k + 1, i, hj, h, hk, hp => by
    subst hj
    rw [sh_step, (sl_facts hl).1, lt_false (by omega : ¬ jn < l.listOf.length)]
    simp only [br, resetV_self]
    rw [List.take_of_length_le (by omega)] at hp
    rw [sh_end]
    exact ⟨true, rfl, fun _ => hP hp⟩
  | r + 1, jn, k + 1, i, hj, h, hk, hp => by
    subst hj
    obtain ⟨hB, hmax, hT, -, -⟩ := sl_facts hl
    have hi : jn < l.listOf.length := by omega
    obtain ⟨u, hu⟩ : ∃ u, l.listOf[jn]? = some u := ⟨_, List.getElem?_eq_getElem hi⟩
    have tu := hT u (List.mem_of_getElem? hu)
    obtain ⟨fb, f1, f2⟩ := few22 (st_dtMom tu)
    have f3 := fun H => valH_of (f1 H)
    have f4 : ∀ {b : Bool}, fitS Sh.bool (.bool b) = true := rfl
    rw [sh_step, hB, lt_true hi, ge_true, Int.toNat_natCast, hu]
    have g9 := (sl_facts (pj_dtMom_9 tu)).1
    have g10 := (sl_facts (pj_dtMom_10 tu)).1
    have g12 := (sl_facts (pj_dtMom_12 tu)).1
    have g13 := (sl_facts (pj_dtMom_13 tu)).1
    simp only [br, resetV_self, Bool.and_self, fit_dtMom tu, g9, g10, g12, g13, f3, f4, AV.boolOf, sl_facts (pj_dtMom_9 tu), sl_facts (pj_dtMom_10 tu), sl_facts (pj_dtMom_12 tu), sl_facts (pj_dtMom_13 tu)]
    by_cases hc : (shS Sh.any (hdV (tlV (tlV (tlV (tlV (tlV (tlV (tlV (tlV (tlV u.aggOf))))))))))).listOf.length > 20
    · rw [dec_t (p := ((shS Sh.any (hdV (tlV (tlV (tlV (tlV (tlV (tlV (tlV (tlV (tlV u.aggOf))))))))))).listOf.length : Int) > 20) (by omega)]
      simp only
      rw [sh_ret]
      exact ⟨false, rfl, by simp⟩
    rw [dec_f (p := ((shS Sh.any (hdV (tlV (tlV (tlV (tlV (tlV (tlV (tlV (tlV (tlV u.aggOf))))))))))).listOf.length : Int) > 20) (by omega)]
    simp only
    cases hfb : fb with
    | false =>
      simp only [Bool.not_false]
      rw [sh_ret]
      exact ⟨false, rfl, by simp⟩
    | true =>
      simp only [Bool.not_true]
      by_cases hc2 : (shS Sh.any (hdV (tlV (tlV (tlV (tlV (tlV (tlV (tlV (tlV (tlV (tlV (tlV (tlV u.aggOf)))))))))))))).listOf.length > 60
      · rw [dec_t (p := ((shS Sh.any (hdV (tlV (tlV (tlV (tlV (tlV (tlV (tlV (tlV (tlV (tlV (tlV (tlV u.aggOf)))))))))))))).listOf.length : Int) > 60) (by omega)]
        simp only
        rw [sh_ret]
        exact ⟨false, rfl, by simp⟩
      rw [dec_f (p := ((shS Sh.any (hdV (tlV (tlV (tlV (tlV (tlV (tlV (tlV (tlV (tlV (tlV (tlV (tlV u.aggOf)))))))))))))).listOf.length : Int) > 60) (by omega)]
      simp only
      by_cases hc3 : (shS Sh.any (hdV (tlV (tlV (tlV (tlV (tlV (tlV (tlV (tlV (tlV (tlV (tlV (tlV (tlV u.aggOf))))))))))))))).listOf.length > 2
      · rw [dec_t (p := ((shS Sh.any (hdV (tlV (tlV (tlV (tlV (tlV (tlV (tlV (tlV (tlV (tlV (tlV (tlV (tlV u.aggOf))))))))))))))).listOf.length : Int) > 2) (by omega)]
        simp only
        rw [sh_ret]
        exact ⟨false, rfl, by simp⟩
      rw [dec_f (p := ((shS Sh.any (hdV (tlV (tlV (tlV (tlV (tlV (tlV (tlV (tlV (tlV (tlV (tlV (tlV (tlV u.aggOf))))))))))))))).listOf.length : Int) > 2) (by omega)]
      simp only
      by_cases hc4 : (shS Sh.any (hdV (tlV (tlV (tlV (tlV (tlV (tlV (tlV (tlV (tlV (tlV u.aggOf)))))))))))).listOf.length > 60
      · rw [dec_t (p := ((shS Sh.any (hdV (tlV (tlV (tlV (tlV (tlV (tlV (tlV (tlV (tlV (tlV u.aggOf)))))))))))).listOf.length : Int) > 60) (by omega)]
        simp only
        rw [sh_ret]
        exact ⟨false, rfl, by simp⟩
      rw [dec_f (p := ((shS Sh.any (hdV (tlV (tlV (tlV (tlV (tlV (tlV (tlV (tlV (tlV (tlV u.aggOf)))))))))))).listOf.length : Int) > 60) (by omega)]
      simp only
      rw [wrap_next hi hmax]
      refine sh_loop fuel hl b P hP r (jn + 1) k _ rfl (by omega) (by omega) ?_
      intro v hv
      rw [List.take_add_one, hu] at hv
      rcases List.mem_append.1 hv with hv | hv
      · exact hp v hv
      · simp only [Option.toList_some, List.mem_singleton] at hv
        subst hv
        have := f2 hfb
        simp only [bnd, bndL, Bool.true_and, Bool.and_true] at this
        exact ⟨by omega, by omega, by omega, by omega, this⟩
end Go.Proofs.Ytoagnbpmoihojaa

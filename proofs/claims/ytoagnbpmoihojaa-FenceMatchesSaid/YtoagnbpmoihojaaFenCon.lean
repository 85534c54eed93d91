/- Contracts: until, configurations. -/
import Derived.Test.YtoagnbpmoihojaaFenCfg
import Derived.Test.YtoagnbpmoihojaaFenDt
set_option linter.unusedSimpArgs false
set_option maxRecDepth 100000
set_option linter.unusedVariables false
namespace Go.Proofs.Ytoagnbpmoihojaa
open Go.Sx

theorem un28 {c0 c1 c2 c3 c4 c5 c6 c7 c8 c9 c10 : Int} {u : AV} (hc : tyV dtCfg (.agg (cfC c0 c1 c2 c3 c4 c5 c6 c7 c8 c9 c10))) (hu : tyV dtMom u) (H : AH) : callL Try.D 28 [.agg (cfC c0 c1 c2 c3 c4 c5 c6 c7 c8 c9 c10), u] H = some (.int .i64 (untilE c8 (hdV (tlV (tlV (tlV (tlV (tlV (tlV (tlV (tlV (tlV (tlV (tlV u.aggOf)))))))))))).numOf), H) := by
  obtain ⟨m0, m1, m2, m3, m4, m5, m6, m7, m8, m9, m10, m11, m12, m13, rfl, w⟩ := un_dtMom hu
  refine callL_D (noTab_ok _) (fuel := 12) (n := 8) (fn := Try.f28) (ds := [dtCfg, dtMom]) (v := .int .i64 (untilE c8 m11)) (by kernel_rfl) (by kernel_rfl) (by kernel_rfl) ⟨hc, hu, trivial⟩ ?_ rfl
  exact run28 c0 c1 c2 c3 c4 c5 c6 c7 c8 c9 c10 m0 m1 m2 m3 m4 m5 m6 m7 _ _ _ m11 _ _

theorem ty_i {n : Int} (w : (Lit.int .i64 n).wf = true) : tyV dtI (.int .i64 n) := ⟨n, rfl, w⟩

def rngE (n lo hi : Int) : Int := if n < lo then 3 else if n > hi then 3 else 0
theorem k53 {n lo hi : Int} (w : (Lit.int .i64 n).wf = true) (w1 : (Lit.int .i64 lo).wf = true) (w2 : (Lit.int .i64 hi).wf = true) (H : AH) : callL Try.D 53 [.int .i64 n, .int .i64 lo, .int .i64 hi] H = some (.int .i64 (rngE n lo hi), H) := by
  refine callL_D (noTab_ok _) (fuel := 12) (n := 8) (fn := Try.f53) (ds := [dtI, dtI, dtI]) (v := .int .i64 (rngE n lo hi)) (by kernel_rfl) (by kernel_rfl) (by kernel_rfl) ⟨ty_i w, ty_i w1, ty_i w2, trivial⟩ ?_ rfl
  refine (form53 n lo hi).trans ?_
  unfold rngE
  simp only [br_ite, decide_eq_true_eq]
  repeat' split
  all_goals rfl
theorem k24 {n lo hi : Int} (w : (Lit.int .i64 n).wf = true) (w1 : (Lit.int .i64 lo).wf = true) (w2 : (Lit.int .i64 hi).wf = true) (H : AH) : callL Try.D 24 [.int .i64 n, .int .i64 lo, .int .i64 hi] H = some (.bool (decide (lo ≤ n ∧ n ≤ hi)), H) := by
  refine callL_D (noTab_ok _) (fuel := 12) (n := 8) (fn := Try.f24) (ds := [dtI, dtI, dtI]) (v := .bool (decide (lo ≤ n ∧ n ≤ hi))) (by kernel_rfl) (by kernel_rfl) (by kernel_rfl) ⟨ty_i w, ty_i w1, ty_i w2, trivial⟩ ?_ rfl
  refine (form24 n lo hi).trans ?_
  simp only [br_ite, decide_eq_true_eq]
  split
  · rename_i h; simp only [Option.some.injEq, AV.bool.injEq]; congr 1; simp; omega
  · rename_i h; simp only [Option.some.injEq, AV.bool.injEq]; symm; simp; omega
def lowE (n : Int) : Int := if n < 1 then 0 else if n > 8 then 0 else 16 * (n + 1)
theorem wrap_low {n : Int} (h1 : ¬ n < 1) (h2 : ¬ n > 8) : IntKind.i64.wrap (16 * IntKind.i64.wrap (n + 1)) = 16 * (n + 1) := by
  rw [wrapN (n := n + 1) (by omega) (by omega), wrapN (by omega) (by omega)]
theorem k55 {n : Int} (w : (Lit.int .i64 n).wf = true) (H : AH) : callL Try.D 55 [.int .i64 n] H = some (.int .i64 (lowE n), H) := by
  refine callL_D (noTab_ok _) (fuel := 12) (n := 8) (fn := Try.f55) (ds := [dtI]) (v := .int .i64 (lowE n)) (by kernel_rfl) (by kernel_rfl) (by kernel_rfl) ⟨ty_i w, trivial⟩ ?_ rfl
  refine (form55 n).trans ?_
  unfold lowE
  simp only [br_ite, decide_eq_true_eq]
  split
  · rfl
  split
  · rfl
  rw [wrap_low ‹_› ‹_›]
theorem k25 {n : Int} (w : (Lit.int .i64 n).wf = true) (H : AH) : callL Try.D 25 [.int .i64 n] H = some (.int .i64 (lowE n), H) := by
  refine callL_D (noTab_ok _) (fuel := 12) (n := 8) (fn := Try.f25) (ds := [dtI]) (v := .int .i64 (lowE n)) (by kernel_rfl) (by kernel_rfl) (by kernel_rfl) ⟨ty_i w, trivial⟩ ?_ rfl
  refine (form25 n).trans ?_
  unfold lowE
  simp only [br_ite, decide_eq_true_eq, AV.boolOf, Bool.not_eq_true', decide_eq_false_iff_not]
  by_cases h1 : n < 1
  · rw [if_neg (by omega), if_pos h1]
  · rw [if_pos (by omega), if_neg h1]
    by_cases h2 : n > 8
    · rw [if_pos (by omega), if_pos h2]
    · rw [if_neg (by omega), if_neg h2, wrap_low h1 h2]

def capOK (a b c : Int) : Prop := (0 ≤ a ∧ a ≤ 1099511627776) ∧ (0 ≤ b ∧ b ≤ 1099511627776) ∧ (0 ≤ c ∧ c ≤ 1099511627776)
instance (a b c : Int) : Decidable (capOK a b c) := by unfold capOK; infer_instance
def capE (a b c : Int) : Int := if capOK a b c then 0 else 3
theorem cap_chain (a b c : Int) : (br (decide (a < (0 : Int)))
    (fun _ => some (AV.int IntKind.i64 ((3 : Int))))
    (fun _ => br (decide (a > (1099511627776 : Int)))
     (fun _ => some (AV.int IntKind.i64 ((3 : Int))))
     (fun _ => br (decide (b < (0 : Int)))
      (fun _ => some (AV.int IntKind.i64 ((3 : Int))))
      (fun _ => br (decide (b > (1099511627776 : Int)))
       (fun _ => some (AV.int IntKind.i64 ((3 : Int))))
       (fun _ => br (decide (c < (0 : Int)))
        (fun _ => some (AV.int IntKind.i64 ((3 : Int))))
        (fun _ => br (decide (c > (1099511627776 : Int)))
         (fun _ => some (AV.int IntKind.i64 ((3 : Int))))
         (fun _ => some (AV.int IntKind.i64 ((0 : Int)))))))))) = some (.int .i64 (capE a b c)) := by
  unfold capE
  by_cases h : capOK a b c
  · rw [if_pos h]
    obtain ⟨⟨a1, a2⟩, ⟨b1, b2⟩, ⟨d1, d2⟩⟩ := h
    simp only [br_ite, decide_eq_true_eq]
    rw [if_neg (by omega), if_neg (by omega), if_neg (by omega), if_neg (by omega), if_neg (by omega), if_neg (by omega)]
  · rw [if_neg h]
    unfold capOK at h
    simp only [br_ite, decide_eq_true_eq]
    repeat' split
    all_goals first | rfl | (exfalso; omega)
theorem k51 {a b c : Int} (w0 : (Lit.int .i64 a).wf = true) (w1 : (Lit.int .i64 b).wf = true) (w2 : (Lit.int .i64 c).wf = true) (H : AH) : callL Try.D 51 [.agg [.int .i64 a, .int .i64 b, .int .i64 c]] H = some (.int .i64 (capE a b c), H) := by
  refine callL_D (noTab_ok _) (fuel := 12) (n := 8) (fn := Try.f51) (ds := [.agg 3 [dtI, dtI, dtI]]) (v := .int .i64 (capE a b c)) (by kernel_rfl) (by kernel_rfl) (by kernel_rfl) ⟨⟨_, rfl, ⟨[.int .i64 a], [.int .i64 b, .int .i64 c], rfl, rfl, ty_i w0, ⟨[.int .i64 b], [.int .i64 c], rfl, rfl, ty_i w1, ⟨[.int .i64 c], [], rfl, rfl, ty_i w2, rfl⟩⟩⟩⟩, trivial⟩ ?_ rfl
  exact (form51 a b c).trans (cap_chain a b c)
theorem k23 {a b c : Int} (w0 : (Lit.int .i64 a).wf = true) (w1 : (Lit.int .i64 b).wf = true) (w2 : (Lit.int .i64 c).wf = true) (H : AH) : callL Try.D 23 [.agg [.int .i64 a, .int .i64 b, .int .i64 c]] H = some (.int .i64 (capE a b c), H) := by
  refine callL_D (noTab_ok _) (fuel := 12) (n := 8) (fn := Try.f23) (ds := [.agg 3 [dtI, dtI, dtI]]) (v := .int .i64 (capE a b c)) (by kernel_rfl) (by kernel_rfl) (by kernel_rfl) ⟨⟨_, rfl, ⟨[.int .i64 a], [.int .i64 b, .int .i64 c], rfl, rfl, ty_i w0, ⟨[.int .i64 b], [.int .i64 c], rfl, rfl, ty_i w1, ⟨[.int .i64 c], [], rfl, rfl, ty_i w2, rfl⟩⟩⟩⟩, trivial⟩ ?_ rfl
  exact (form23 a b c).trans (cap_chain a b c)
theorem dec_t {p : Prop} {i : Decidable p} (h : p) : @decide p i = true := by simpa using h
theorem dec_f {p : Prop} {i : Decidable p} (h : ¬ p) : @decide p i = false := by simpa using h
theorem rng0 {n lo hi : Int} (h : lo ≤ n ∧ n ≤ hi) : rngE n lo hi = 0 := by unfold rngE; rw [if_neg (by omega), if_neg (by omega)]
theorem rng3 {n lo hi : Int} (h : ¬ (lo ≤ n ∧ n ≤ hi)) : rngE n lo hi = 3 := by
  unfold rngE
  by_cases h1 : n < lo
  · rw [if_pos h1]
  · rw [if_neg h1, if_pos (by omega)]
theorem wf64 {n : Int} (h0 : -9223372036854775808 ≤ n) (h1 : n ≤ 9223372036854775807) : (Lit.int .i64 n).wf = true := by
  have e1 : IntKind.i64.min = -9223372036854775808 := by decide
  simp only [Lit.wf]
  simp
  omega
theorem run43 {c0 c1 c2 c3 c4 c5 c6 c7 c8 c9 c10 : Int} (hc : tyV dtCfg (.agg (cfC c0 c1 c2 c3 c4 c5 c6 c7 c8 c9 c10))) : runI Try.D (cF 12) 12 Try.f43 [.agg (cfC c0 c1 c2 c3 c4 c5 c6 c7 c8 c9 c10)] ⟨[], []⟩ (fun v _ => some v) = some (.int .i64 (if cfgOK c0 c1 c2 c3 c4 c5 c6 c7 c8 c9 c10 then 0 else 3)) := by
  obtain ⟨d0, d1, d2, d3, d4, d5, d6, d7, d8, d9, d10, e, w0, w1, w2, w3, w4, w5, w6, w7, w8, w9, w10⟩ := un_dtCfg hc
  simp only [cfC, AV.agg.injEq, List.cons.injEq, AV.int.injEq, true_and, and_true] at e
  obtain ⟨rfl, rfl, rfl, rfl, rfl, rfl, rfl, rfl, rfl, rfl, rfl⟩ := e
  rw [form43, valH_of (k51 w0 w1 w2 _)]
  simp only [fitS, br, AV.numOf, capE]
  by_cases h0 : capOK c0 c1 c2
  case neg => rw [if_neg h0, if_neg (fun h => h0 ⟨h.1, h.2.1, h.2.2.1⟩)]; rfl
  rw [if_pos h0, bne_self_eq_false]
  simp only
  rw [valH_of (k53 w3 rfl rfl _)]
  simp only [fitS, AV.numOf, AV.boolOf]
  by_cases h3 : 1 ≤ c3 ∧ c3 ≤ 8
  case neg => rw [rng3 h3, if_neg (fun h => h3 (h.2.2.2.1))]; rfl
  rw [rng0 h3, bne_self_eq_false]
  simp only
  rw [valH_of (k55 w3 _)]
  simp only [fitS, AV.numOf]
  have el : lowE c3 = 16 * (c3 + 1) := by unfold lowE; rw [if_neg (by omega), if_neg (by omega)]
  rw [el]
  have wl : (Lit.int .i64 (16 * (c3 + 1))).wf = true := wf64 (by omega) (by omega)
  rw [valH_of (k53 w4 wl rfl _)]
  simp only [fitS, AV.numOf, AV.boolOf]
  by_cases h4 : 16 * (c3 + 1) ≤ c4 ∧ c4 ≤ 1024
  case neg => rw [rng3 h4, if_neg (fun h => h4 (h.2.2.2.2.1))]; rfl
  rw [rng0 h4, bne_self_eq_false]
  simp only
  rw [valH_of (k53 w5 rfl rfl _)]
  simp only [fitS, AV.numOf, AV.boolOf]
  by_cases h5 : 2 ≤ c5 ∧ c5 ≤ 16
  case neg => rw [rng3 h5, if_neg (fun h => h5 (h.2.2.2.2.2.1))]; rfl
  rw [rng0 h5, bne_self_eq_false]
  simp only
  rw [valH_of (k53 w6 rfl rfl _)]
  simp only [fitS, AV.numOf, AV.boolOf]
  by_cases h6 : 1 ≤ c6 ∧ c6 ≤ 64
  case neg => rw [rng3 h6, if_neg (fun h => h6 (h.2.2.2.2.2.2.1))]; rfl
  rw [rng0 h6, bne_self_eq_false]
  simp only
  rw [valH_of (k53 w7 rfl rfl _)]
  simp only [fitS, AV.numOf, AV.boolOf]
  by_cases h7 : 1 ≤ c7 ∧ c7 ≤ 1099511627776
  case neg => rw [rng3 h7, if_neg (fun h => h7 (h.2.2.2.2.2.2.2.1))]; rfl
  rw [rng0 h7, bne_self_eq_false]
  simp only
  rw [valH_of (k53 w8 rfl rfl _)]
  simp only [fitS, AV.numOf, AV.boolOf]
  by_cases h8 : 1 ≤ c8 ∧ c8 ≤ 1099511627776
  case neg => rw [rng3 h8, if_neg (fun h => h8 (h.2.2.2.2.2.2.2.2.1))]; rfl
  rw [rng0 h8, bne_self_eq_false]
  simp only
  rw [valH_of (k53 w9 rfl rfl _)]
  simp only [fitS, AV.numOf, AV.boolOf]
  by_cases h9 : 0 ≤ c9 ∧ c9 ≤ 1099511627776
  case neg => rw [rng3 h9, if_neg (fun h => h9 (h.2.2.2.2.2.2.2.2.2.1))]; rfl
  rw [rng0 h9, bne_self_eq_false]
  simp only
  rw [valH_of (k53 w10 rfl rfl _)]
  simp only [fitS, AV.numOf, AV.boolOf]
  by_cases h10 : 0 ≤ c10 ∧ c10 ≤ 1099511627776
  case neg => rw [rng3 h10, if_neg (fun h => h10 (h.2.2.2.2.2.2.2.2.2.2))]; rfl
  rw [rng0 h10, bne_self_eq_false]
  simp only
  rw [if_pos ⟨h0.1, h0.2.1, h0.2.2, h3, h4, h5, h6, h7, h8, h9, h10⟩]
  simp
theorem run7 {c0 c1 c2 c3 c4 c5 c6 c7 c8 c9 c10 : Int} (hc : tyV dtCfg (.agg (cfC c0 c1 c2 c3 c4 c5 c6 c7 c8 c9 c10))) : runI Try.D (cF 12) 12 Try.f7 [.agg (cfC c0 c1 c2 c3 c4 c5 c6 c7 c8 c9 c10)] ⟨[], []⟩ (fun v _ => some v) = some (.int .i64 (if cfgOK c0 c1 c2 c3 c4 c5 c6 c7 c8 c9 c10 then 0 else 3)) := by
  obtain ⟨d0, d1, d2, d3, d4, d5, d6, d7, d8, d9, d10, e, w0, w1, w2, w3, w4, w5, w6, w7, w8, w9, w10⟩ := un_dtCfg hc
  simp only [cfC, AV.agg.injEq, List.cons.injEq, AV.int.injEq, true_and, and_true] at e
  obtain ⟨rfl, rfl, rfl, rfl, rfl, rfl, rfl, rfl, rfl, rfl, rfl⟩ := e
  rw [form7, valH_of (k23 w0 w1 w2 _)]
  simp only [fitS, br, AV.numOf, capE]
  by_cases h0 : capOK c0 c1 c2
  case neg => rw [if_neg h0, if_neg (fun h => h0 ⟨h.1, h.2.1, h.2.2.1⟩)]; rfl
  rw [if_pos h0, bne_self_eq_false]
  simp only
  rw [valH_of (k24 w3 rfl rfl _)]
  simp only [fitS, AV.numOf, AV.boolOf]
  by_cases h3 : 1 ≤ c3 ∧ c3 ≤ 8
  case neg => rw [dec_f h3, if_neg (fun h => h3 (h.2.2.2.1))]; rfl
  rw [dec_t h3]
  simp only [Bool.not_true]
  rw [valH_of (k25 w3 _)]
  simp only [fitS, AV.numOf]
  have el : lowE c3 = 16 * (c3 + 1) := by unfold lowE; rw [if_neg (by omega), if_neg (by omega)]
  rw [el]
  have wl : (Lit.int .i64 (16 * (c3 + 1))).wf = true := wf64 (by omega) (by omega)
  rw [valH_of (k24 w4 wl rfl _)]
  simp only [fitS, AV.numOf, AV.boolOf]
  by_cases h4 : 16 * (c3 + 1) ≤ c4 ∧ c4 ≤ 1024
  case neg => rw [dec_f h4, if_neg (fun h => h4 (h.2.2.2.2.1))]; rfl
  rw [dec_t h4]
  simp only [Bool.not_true]
  rw [valH_of (k24 w5 rfl rfl _)]
  simp only [fitS, AV.numOf, AV.boolOf]
  by_cases h5 : 2 ≤ c5 ∧ c5 ≤ 16
  case neg => rw [dec_f h5, if_neg (fun h => h5 (h.2.2.2.2.2.1))]; rfl
  rw [dec_t h5]
  simp only [Bool.not_true]
  rw [valH_of (k24 w6 rfl rfl _)]
  simp only [fitS, AV.numOf, AV.boolOf]
  by_cases h6 : 1 ≤ c6 ∧ c6 ≤ 64
  case neg => rw [dec_f h6, if_neg (fun h => h6 (h.2.2.2.2.2.2.1))]; rfl
  rw [dec_t h6]
  simp only [Bool.not_true]
  rw [valH_of (k24 w7 rfl rfl _)]
  simp only [fitS, AV.numOf, AV.boolOf]
  by_cases h7 : 1 ≤ c7 ∧ c7 ≤ 1099511627776
  case neg => rw [dec_f h7, if_neg (fun h => h7 (h.2.2.2.2.2.2.2.1))]; rfl
  rw [dec_t h7]
  simp only [Bool.not_true]
  rw [valH_of (k24 w8 rfl rfl _)]
  simp only [fitS, AV.numOf, AV.boolOf]
  by_cases h8 : 1 ≤ c8 ∧ c8 ≤ 1099511627776
  case neg => rw [dec_f h8, if_neg (fun h => h8 (h.2.2.2.2.2.2.2.2.1))]; rfl
  rw [dec_t h8]
  simp only [Bool.not_true]
  rw [valH_of (k24 w9 rfl rfl _)]
  simp only [fitS, AV.numOf, AV.boolOf]
  by_cases h9 : 0 ≤ c9 ∧ c9 ≤ 1099511627776
  case neg => rw [dec_f h9, if_neg (fun h => h9 (h.2.2.2.2.2.2.2.2.2.1))]; rfl
  rw [dec_t h9]
  simp only [Bool.not_true]
  rw [valH_of (k24 w10 rfl rfl _)]
  simp only [fitS, AV.numOf, AV.boolOf]
  by_cases h10 : 0 ≤ c10 ∧ c10 ≤ 1099511627776
  case neg => rw [dec_f h10, if_neg (fun h => h10 (h.2.2.2.2.2.2.2.2.2.2))]; rfl
  rw [dec_t h10]
  simp only [Bool.not_true]
  rw [if_pos ⟨h0.1, h0.2.1, h0.2.2, h3, h4, h5, h6, h7, h8, h9, h10⟩]
  simp
theorem k43 {c0 c1 c2 c3 c4 c5 c6 c7 c8 c9 c10 : Int} (hc : tyV dtCfg (.agg (cfC c0 c1 c2 c3 c4 c5 c6 c7 c8 c9 c10))) (H : AH) : callL Try.D 43 [.agg (cfC c0 c1 c2 c3 c4 c5 c6 c7 c8 c9 c10)] H = some (.int .i64 (if cfgOK c0 c1 c2 c3 c4 c5 c6 c7 c8 c9 c10 then 0 else 3), H) := by
  refine callL_D tabF_ok (fuel := 12) (n := 6) (fn := Try.f43) (ds := [dtCfg]) (v := .int .i64 (if cfgOK c0 c1 c2 c3 c4 c5 c6 c7 c8 c9 c10 then 0 else 3)) (by kernel_rfl) (by kernel_rfl) (by kernel_rfl) ⟨hc, trivial⟩ ?_ rfl
  exact run43 hc
theorem k7 {c0 c1 c2 c3 c4 c5 c6 c7 c8 c9 c10 : Int} (hc : tyV dtCfg (.agg (cfC c0 c1 c2 c3 c4 c5 c6 c7 c8 c9 c10))) (H : AH) : callL Try.D 7 [.agg (cfC c0 c1 c2 c3 c4 c5 c6 c7 c8 c9 c10)] H = some (.int .i64 (if cfgOK c0 c1 c2 c3 c4 c5 c6 c7 c8 c9 c10 then 0 else 3), H) := by
  refine callL_D tabF_ok (fuel := 12) (n := 6) (fn := Try.f7) (ds := [dtCfg]) (v := .int .i64 (if cfgOK c0 c1 c2 c3 c4 c5 c6 c7 c8 c9 c10 then 0 else 3)) (by kernel_rfl) (by kernel_rfl) (by kernel_rfl) ⟨hc, trivial⟩ ?_ rfl
  exact run7 hc
end Go.Proofs.Ytoagnbpmoihojaa

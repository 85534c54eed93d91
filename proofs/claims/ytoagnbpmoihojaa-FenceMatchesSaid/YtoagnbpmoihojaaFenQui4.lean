/- Quiet: the program's. -/
import Derived.Test.YtoagnbpmoihojaaFenQui3
set_option maxRecDepth 100000
set_option linter.unusedSimpArgs false
set_option linter.unusedVariables false
namespace Go.Proofs.Ytoagnbpmoihojaa
open Go.Sx
theorem hbo (c0 c1 c2 c3 c4 c5 c6 c7 c8 c9 c10 : Int) (X : List (Int × Int × Int)) : belowO 2 0 [AObj.cells (cfC c0 c1 c2 c3 c4 c5 c6 c7 c8 c9 c10), AObj.map (X.map ent)] = true := by
  simp only [belowO, AObj.below, cfC, belowL, below, belowE_ent, Bool.and_self]

theorem yb_loop {R : Type} (fuel : Nat) (c0 c1 c2 c3 c4 c5 c6 c7 c8 c9 c10 : Int) {l b : AV} (hl : tyV (.sl 14 dtMom) l) (hb : tyV (.sl 9 dtProc) b) (i0 : Int) (K : Ex → List AV → AH → Option R) (Q : Option R → Prop)
    (hex : ∀ (X : List (Int × Int × Int)) (i k : Int) (x0 x3 x6 x9 x10 x11 x12 x13 x14 x15 x16 x17 x18 x19 x20 x21 x22 x23 x24 x25 x26 x27 x28 x29 x30 x31 x32 x33 x34 x35 x36 x37 x38 x39 x40 x41 x42 x46 x47 x48 x49 x50 x51 x52 x53 x54 x55 x56 x57 x58 x59 x60 x61 x62 x63 x64 x65 x66 x67 x68 : AV), i = i0 → (∀ t, t ∈ X ↔ t ∈ b.listOf.map tokP) → Q (K (.exit 2) [x0, l, .ptr 0 0, x3, .bool false, .int .i64 0, x6, .int .i64 i, .map 1, x9, x10, x11, x12, x13, x14, x15, x16, x17, x18, x19, x20, x21, x22, x23, x24, x25, x26, x27, x28, x29, x30, x31, x32, x33, x34, x35, x36, x37, x38, x39, x40, x41, x42, b, .int .i64 (b.listOf.length : Int), .int .i64 k, x46, x47, x48, x49, x50, x51, x52, x53, x54, x55, x56, x57, x58, x59, x60, x61, x62, x63, x64, x65, x66, x67, x68] ⟨[.cells (cfC c0 c1 c2 c3 c4 c5 c6 c7 c8 c9 c10), .map (X.map ent)], []⟩)) :
    ∀ (q kn n : Nat) (X : List (Int × Int × Int)) (i k : Int) (x0 x3 x6 x9 x10 x11 x12 x13 x14 x15 x16 x17 x18 x19 x20 x21 x22 x23 x24 x25 x26 x27 x28 x29 x30 x31 x32 x33 x34 x35 x36 x37 x38 x39 x40 x41 x42 x46 x47 x48 x49 x50 x51 x52 x53 x54 x55 x56 x57 x58 x59 x60 x61 x62 x63 x64 x65 x66 x67 x68 : AV), i = i0 → k = (kn : Int) → kn + q = b.listOf.length → q < n → (∀ t, t ∈ X ↔ t ∈ (b.listOf.take kn).map tokP) →
      Q (loopC Try.D (cF fuel) fuel ybB n [x0, l, .ptr 0 0, x3, .bool false, .int .i64 0, x6, .int .i64 i, .map 1, x9, x10, x11, x12, x13, x14, x15, x16, x17, x18, x19, x20, x21, x22, x23, x24, x25, x26, x27, x28, x29, x30, x31, x32, x33, x34, x35, x36, x37, x38, x39, x40, x41, x42, b, .int .i64 (b.listOf.length : Int), .int .i64 k, x46, x47, x48, x49, x50, x51, x52, x53, x54, x55, x56, x57, x58, x59, x60, x61, x62, x63, x64, x65, x66, x67, x68] ⟨[.cells (cfC c0 c1 c2 c3 c4 c5 c6 c7 c8 c9 c10), .map (X.map ent)], []⟩ K)
  | q, kn, 0, X, i, k, _, _, _, _, _, _, _, _, _, _, _, _, _, _, _, _, _, _, _, _, _, _, _, _, _, _, _, _, _, _, _, _, _, _, _, _, _, _, _, _, _, _, _, _, _, _, _, _, _, _, _, _, _, _, _, _, _, _, _, _, hi, hk, h, hn, hX => by omega
  | 0, kn, n + 1, X, i, k, x0, x3, x6, x9, x10, x11, x12, x13, x14, x15, x16, x17, x18, x19, x20, x21, x22, x23, x24, x25, x26, x27, x28, x29, x30, x31, x32, x33, x34, x35, x36, x37, x38, x39, x40, x41, x42, x46, x47, x48, x49, x50, x51, x52, x53, x54, x55, x56, x57, x58, x59, x60, x61, x62, x63, x64, x65, x66, x67, x68, hi, hk, h, hn, hX => by
    subst hk
    rw [yb_step, lt_false (by omega : ¬ kn < b.listOf.length)]
    simp only [br, resetV_self]
    rw [List.take_of_length_le (by omega)] at hX
    exact hex X _ _ _ _ _ _ _ _ _ _ _ _ _ _ _ _ _ _ _ _ _ _ _ _ _ _ _ _ _ _ _ _ _ _ _ _ _ _ _ _ _ _ _ _ _ _ _ _ _ _ _ _ _ _ _ _ _ _ _ _ _ _ hi hX
  | q + 1, kn, n + 1, X, i, k, x0, x3, x6, x9, x10, x11, x12, x13, x14, x15, x16, x17, x18, x19, x20, x21, x22, x23, x24, x25, x26, x27, x28, x29, x30, x31, x32, x33, x34, x35, x36, x37, x38, x39, x40, x41, x42, x46, x47, x48, x49, x50, x51, x52, x53, x54, x55, x56, x57, x58, x59, x60, x61, x62, x63, x64, x65, x66, x67, x68, hi, hk, h, hn, hX => by
    subst hk
    obtain ⟨hB, hmax, hT, -, -⟩ := sl_facts hb
    have hkn : kn < b.listOf.length := by omega
    obtain ⟨p, hp⟩ : ∃ p, b.listOf[kn]? = some p := ⟨_, List.getElem?_eq_getElem hkn⟩
    have tp := hT p (List.mem_of_getElem? hp)
    rw [yb_step, lt_true hkn, hB, ge_true, Int.toNat_natCast, hp]
    simp only [br, Bool.and_self, fit_dtProc tp]
    have e : putM Try.D.T 65 (.agg [.int .i64 (hdV (tlV (tlV p.aggOf))).numOf, .int .i64 (hdV (tlV (tlV (tlV p.aggOf)))).numOf, .int .i64 (hdV (tlV (tlV (tlV (tlV p.aggOf))))).numOf]) (.bool true) (X.map ent) = some ((if tokP p ∈ X then X else X ++ [tokP p]).map ent) := putM_ent (tokP p) X
    rw [e]
    simp only [hbo, resetV_self, cut_ty hl, cut_ty hb]
    rw [wrap_next hkn hmax]
    refine yb_loop fuel c0 c1 c2 c3 c4 c5 c6 c7 c8 c9 c10 hl hb i0 K Q hex q (kn + 1) n _ _ _ _ _ _ _ _ _ _ _ _ _ _ _ _ _ _ _ _ _ _ _ _ _ _ _ _ _ _ _ _ _ _ _ _ _ _ _ _ _ _ _ _ _ _ _ _ _ _ _ _ _ _ _ _ _ _ _ _ _ _ _ hi rfl (by omega) (by omega) ?_
    intro t
    rw [List.take_add_one, hp]
    simp only [Option.toList_some, List.map_append, List.mem_append, List.map_cons, List.map_nil, List.mem_singleton, ← hX t]
    by_cases hm : tokP p ∈ X
    · rw [if_pos hm]
      constructor
      · exact .inl
      · rintro (h1 | rfl)
        · exact h1
        · exact hm
    · rw [if_neg hm]
      simp only [List.mem_append, List.mem_singleton]

theorem yc_loop {R : Type} (fuel : Nat) (c0 c1 c2 c3 c4 c5 c6 c7 c8 c9 c10 : Int) {l b : AV} (hl : tyV (.sl 14 dtMom) l) (hb : tyV (.sl 9 dtProc) b) (i0 : Int) (X : List (Int × Int × Int)) (v : Bool) (K : Ex → List AV → AH → Option R) (Q : Option R → Prop)
    (hex : v = true → ∀ (i k : Int) (x0 x3 x6 x9 x10 x11 x12 x13 x14 x15 x16 x17 x18 x19 x20 x21 x22 x23 x24 x25 x26 x27 x28 x29 x30 x31 x32 x33 x34 x35 x36 x37 x38 x39 x40 x41 x42 x43 x44 x45 x46 x47 x48 x49 x50 x51 x52 x53 x54 x55 x56 x60 x61 x62 x63 x64 x65 x66 x67 x68 : AV), i = i0 → Q (K (.exit 4) [x0, l, .ptr 0 0, x3, .bool false, .int .i64 0, x6, .int .i64 i, .map 1, x9, x10, x11, x12, x13, x14, x15, x16, x17, x18, x19, x20, x21, x22, x23, x24, x25, x26, x27, x28, x29, x30, x31, x32, x33, x34, x35, x36, x37, x38, x39, x40, x41, x42, x43, x44, x45, x46, x47, x48, x49, x50, x51, x52, x53, x54, x55, x56, b, .int .i64 (b.listOf.length : Int), .int .i64 k, x60, x61, x62, x63, x64, x65, x66, x67, x68] ⟨[.cells (cfC c0 c1 c2 c3 c4 c5 c6 c7 c8 c9 c10), .map (X.map ent)], []⟩))
    (hre : v = false → ∀ (o : Bool) (e : Int) (H : AH) (x0 x1 x2 x3 x6 x7 x8 x9 x10 x11 x12 x13 x14 x15 x16 x17 x18 x19 x20 x21 x22 x23 x24 x25 x26 x27 x28 x29 x30 x31 x32 x33 x34 x35 x36 x37 x38 x39 x40 x41 x42 x43 x44 x45 x46 x47 x48 x49 x50 x51 x52 x53 x54 x55 x56 x57 x58 x59 x60 x61 x62 x63 x64 x65 x66 x67 x68 : AV), o = false → e = 0 → Q (K .ret [x0, x1, x2, x3, .bool o, .int .i64 e, x6, x7, x8, x9, x10, x11, x12, x13, x14, x15, x16, x17, x18, x19, x20, x21, x22, x23, x24, x25, x26, x27, x28, x29, x30, x31, x32, x33, x34, x35, x36, x37, x38, x39, x40, x41, x42, x43, x44, x45, x46, x47, x48, x49, x50, x51, x52, x53, x54, x55, x56, x57, x58, x59, x60, x61, x62, x63, x64, x65, x66, x67, x68] H)) :
    ∀ (q kn n : Nat) (i k : Int) (x0 x3 x6 x9 x10 x11 x12 x13 x14 x15 x16 x17 x18 x19 x20 x21 x22 x23 x24 x25 x26 x27 x28 x29 x30 x31 x32 x33 x34 x35 x36 x37 x38 x39 x40 x41 x42 x43 x44 x45 x46 x47 x48 x49 x50 x51 x52 x53 x54 x55 x56 x60 x61 x62 x63 x64 x65 x66 x67 x68 : AV), i = i0 → k = (kn : Int) → kn + q = b.listOf.length → q < n → v = ((b.listOf.drop kn).all fun p => decide (tokP p ∈ X)) →
      Q (loopC Try.D (cF fuel) fuel ycB n [x0, l, .ptr 0 0, x3, .bool false, .int .i64 0, x6, .int .i64 i, .map 1, x9, x10, x11, x12, x13, x14, x15, x16, x17, x18, x19, x20, x21, x22, x23, x24, x25, x26, x27, x28, x29, x30, x31, x32, x33, x34, x35, x36, x37, x38, x39, x40, x41, x42, x43, x44, x45, x46, x47, x48, x49, x50, x51, x52, x53, x54, x55, x56, b, .int .i64 (b.listOf.length : Int), .int .i64 k, x60, x61, x62, x63, x64, x65, x66, x67, x68] ⟨[.cells (cfC c0 c1 c2 c3 c4 c5 c6 c7 c8 c9 c10), .map (X.map ent)], []⟩ K)
  | q, kn, 0, i, k, _, _, _, _, _, _, _, _, _, _, _, _, _, _, _, _, _, _, _, _, _, _, _, _, _, _, _, _, _, _, _, _, _, _, _, _, _, _, _, _, _, _, _, _, _, _, _, _, _, _, _, _, _, _, _, _, _, _, _, _, hi, hk, h, hn, hX => by omega
  | 0, kn, n + 1, i, k, x0, x3, x6, x9, x10, x11, x12, x13, x14, x15, x16, x17, x18, x19, x20, x21, x22, x23, x24, x25, x26, x27, x28, x29, x30, x31, x32, x33, x34, x35, x36, x37, x38, x39, x40, x41, x42, x43, x44, x45, x46, x47, x48, x49, x50, x51, x52, x53, x54, x55, x56, x60, x61, x62, x63, x64, x65, x66, x67, x68, hi, hk, h, hn, hX => by
    subst hk
    rw [yc_step, lt_false (by omega : ¬ kn < b.listOf.length)]
    simp only [br, resetV_self]
    rw [List.drop_eq_nil_of_le (by omega)] at hX
    exact hex hX _ _ _ _ _ _ _ _ _ _ _ _ _ _ _ _ _ _ _ _ _ _ _ _ _ _ _ _ _ _ _ _ _ _ _ _ _ _ _ _ _ _ _ _ _ _ _ _ _ _ _ _ _ _ _ _ _ _ _ _ _ _ hi
  | q + 1, kn, n + 1, i, k, x0, x3, x6, x9, x10, x11, x12, x13, x14, x15, x16, x17, x18, x19, x20, x21, x22, x23, x24, x25, x26, x27, x28, x29, x30, x31, x32, x33, x34, x35, x36, x37, x38, x39, x40, x41, x42, x43, x44, x45, x46, x47, x48, x49, x50, x51, x52, x53, x54, x55, x56, x60, x61, x62, x63, x64, x65, x66, x67, x68, hi, hk, h, hn, hX => by
    subst hk
    obtain ⟨hB, hmax, hT, -, -⟩ := sl_facts hb
    have hkn : kn < b.listOf.length := by omega
    obtain ⟨p, hp⟩ : ∃ p, b.listOf[kn]? = some p := ⟨_, List.getElem?_eq_getElem hkn⟩
    have tp := hT p (List.mem_of_getElem? hp)
    rw [all_drop hp] at hX
    rw [yc_step, lt_true hkn, hB, ge_true, Int.toNat_natCast, hp]
    simp only [br, Bool.and_self, fit_dtProc tp]
    have e : getM Try.D.T 65 (.agg [.int .i64 (hdV (tlV (tlV p.aggOf))).numOf, .int .i64 (hdV (tlV (tlV (tlV p.aggOf)))).numOf, .int .i64 (hdV (tlV (tlV (tlV (tlV p.aggOf))))).numOf]) (.bool false) (X.map ent) = some (.bool (decide (tokP p ∈ X))) := getM_ent (tokP p) X
    rw [e]
    simp only [ftB, bool_b]
    cases hm : decide (tokP p ∈ X) with
    | true =>
      rw [hm, Bool.true_and] at hX
      simp only [Bool.not_true, hbo, resetV_self, cut_ty hl, cut_ty hb]
      rw [wrap_next hkn hmax]
      exact yc_loop fuel c0 c1 c2 c3 c4 c5 c6 c7 c8 c9 c10 hl hb i0 X v K Q hex hre q (kn + 1) n _ _ _ _ _ _ _ _ _ _ _ _ _ _ _ _ _ _ _ _ _ _ _ _ _ _ _ _ _ _ _ _ _ _ _ _ _ _ _ _ _ _ _ _ _ _ _ _ _ _ _ _ _ _ _ _ _ _ _ _ _ _ hi rfl (by omega) (by omega) hX
    | false =>
      rw [hm, Bool.false_and] at hX
      simp only [Bool.not_false]
      exact hre hX _ _ _ _ _ _ _ _ _ _ _ _ _ _ _ _ _ _ _ _ _ _ _ _ _ _ _ _ _ _ _ _ _ _ _ _ _ _ _ _ _ _ _ _ _ _ _ _ _ _ _ _ _ _ _ _ _ _ _ _ _ _ _ _ _ _ _ _ _ _ rfl rfl
theorem stepK_map {R : Type} {c : CallI} {fuel k : Nat} {body : Code} {s0 s : List AV} {a a' o : AObj} {K : Ex → List AV → AH → Option R} : stepK Try.D c fuel body k s0 ⟨[a], []⟩ K .normal s ⟨[a', o], []⟩ = br (belowO 1 0 [a']) (fun _ => loopC Try.D c fuel body k ((resetL s0 s).map (cutV 1 0)) ⟨[a'], []⟩ K) (fun _ => none) := rfl
theorem cv_i {n m : Nat} {k : IntKind} {x : Int} : cutV n m (.int k x) = .int k x := rfl
theorem cv_b {n m : Nat} {x : Bool} : cutV n m (.bool x) = .bool x := rfl
theorem cv_p : cutV 1 0 (.ptr 0 0) = .ptr 0 0 := rfl
theorem bel1 (c0 c1 c2 c3 c4 c5 c6 c7 c8 c9 c10 : Int) : belowO 1 0 [AObj.cells (cfC c0 c1 c2 c3 c4 c5 c6 c7 c8 c9 c10)] = true := by
  simp only [belowO, AObj.below, cfC, belowL, below, Bool.and_self]

theorem y_loop (fuel : Nat) (c0 c1 c2 c3 c4 c5 c6 c7 c8 c9 c10 : Int) {l : AV} (hc : tyV dtCfg (.agg (cfC c0 c1 c2 c3 c4 c5 c6 c7 c8 c9 c10))) (hl : tyV (.sl 14 dtMom) l) (hF : ∀ u ∈ l.listOf, (shS Sh.any (hdV (tlV (tlV (tlV (tlV (tlV (tlV (tlV (tlV (tlV u.aggOf))))))))))).listOf.length < fuel) :
    ∀ (q jn n : Nat) (i : Int) (x0 x3 x6 x8 x9 x10 x11 x12 x13 x14 x15 x16 x17 x18 x19 x20 x21 x22 x23 x24 x25 x26 x27 x28 x29 x30 x31 x32 x33 x34 x35 x36 x37 x38 x39 x40 x41 x42 x43 x44 x45 x46 x47 x48 x49 x50 x51 x52 x53 x54 x55 x56 x57 x58 x59 x60 x61 x62 x63 x64 x65 x66 x67 x68 : AV), i = ((jn + 1 : Nat) : Int) → jn + 1 + q = l.listOf.length → q < n →
    loopC Try.D (cF fuel) fuel yaB n [x0, l, .ptr 0 0, x3, .bool false, .int .i64 0, x6, .int .i64 i, x8, x9, x10, x11, x12, x13, x14, x15, x16, x17, x18, x19, x20, x21, x22, x23, x24, x25, x26, x27, x28, x29, x30, x31, x32, x33, x34, x35, x36, x37, x38, x39, x40, x41, x42, x43, x44, x45, x46, x47, x48, x49, x50, x51, x52, x53, x54, x55, x56, x57, x58, x59, x60, x61, x62, x63, x64, x65, x66, x67, x68] ⟨[.cells (cfC c0 c1 c2 c3 c4 c5 c6 c7 c8 c9 c10)], []⟩ (kontI Try.D (cF fuel) fuel (bodyOf Try.f15) [1, 1, 0, 1, 0] (endI Try.D Try.f15 fun v _ => some v)) = some (.tuple [.bool (qA c8 (mosOf l) (tksOf l) q (jn + 1)), .int .i64 0])
  | q, jn, 0, i, _, _, _, _, _, _, _, _, _, _, _, _, _, _, _, _, _, _, _, _, _, _, _, _, _, _, _, _, _, _, _, _, _, _, _, _, _, _, _, _, _, _, _, _, _, _, _, _, _, _, _, _, _, _, _, _, _, _, _, _, _, _, _, _, hi, h, hn => by omega
  | 0, jn, n + 1, i, x0, x3, x6, x8, x9, x10, x11, x12, x13, x14, x15, x16, x17, x18, x19, x20, x21, x22, x23, x24, x25, x26, x27, x28, x29, x30, x31, x32, x33, x34, x35, x36, x37, x38, x39, x40, x41, x42, x43, x44, x45, x46, x47, x48, x49, x50, x51, x52, x53, x54, x55, x56, x57, x58, x59, x60, x61, x62, x63, x64, x65, x66, x67, x68, hi, h, hn => by
    subst hi
    rw [loop_in, ya_step fuel n, (sl_facts hl).1, lt_false (by omega : ¬ jn + 1 < l.listOf.length)]
    simp only [br]
    rw [stepK_x]
    exact y_end fuel _ _ _ _ _ _ _ _ _ _ _ _ _ _ _ _ _ _ _ _ _ _ _ _ _ _ _ _ _ _ _ _ _ _ _ _ _ _ _ _ _ _ _ _ _ _ _ _ _ _ _ _ _ _ _ _ _ _ _ _ _ _ _ _ _ _ _ _ _ _
  | q + 1, jn, n + 1, i, x0, x3, x6, x8, x9, x10, x11, x12, x13, x14, x15, x16, x17, x18, x19, x20, x21, x22, x23, x24, x25, x26, x27, x28, x29, x30, x31, x32, x33, x34, x35, x36, x37, x38, x39, x40, x41, x42, x43, x44, x45, x46, x47, x48, x49, x50, x51, x52, x53, x54, x55, x56, x57, x58, x59, x60, x61, x62, x63, x64, x65, x66, x67, x68, hi, h, hn => by
    subst hi
    obtain ⟨hB, hmax, hT, -, -⟩ := sl_facts hl
    have hj : jn + 1 < l.listOf.length := by omega
    have hj0 : jn < l.listOf.length := by omega
    obtain ⟨u, hu⟩ : ∃ u, l.listOf[jn + 1]? = some u := ⟨_, List.getElem?_eq_getElem hj⟩
    obtain ⟨w, hw⟩ : ∃ w, l.listOf[jn]? = some w := ⟨_, List.getElem?_eq_getElem hj0⟩
    have tu := hT u (List.mem_of_getElem? hu)
    have tw := hT w (List.mem_of_getElem? hw)
    have pu := pj_dtMom_9 tu
    have pw := pj_dtMom_9 tw
    obtain ⟨g1, gm, g3, -, g5⟩ := sl_facts pu
    obtain ⟨f1, fm, f3, -, f5⟩ := sl_facts pw
    have hv : ∀ H, valH Try.D 28 [.agg (cfC c0 c1 c2 c3 c4 c5 c6 c7 c8 c9 c10), u] H = some (.int .i64 (untilE c8 (moOf u).ac)) := fun H => valH_of (un28 hc tu H)
    obtain ⟨x, hx, hs, hnn⟩ := val_num hv
    rw [loop_in, ya_step fuel n, hB, ge_true, lt_true hj, Int.toNat_natCast, hu]
    simp only [br, Bool.and_self, fit_dtMom tu, eta_dtMom tu]
    rw [hx]
    simp only [hs]
    rw [qA, qAt_of hu hw]
    generalize x.numOf = e at hnn ⊢
    obtain rfl := hnn.symm
    by_cases hg : (hdV u.aggOf).numOf ≤ untilE c8 (moOf u).ac
    · have hle : (moOf u).now ≤ untilE c8 (moOf u).ac := hg
      rw [dec_yes hg, qU, decide_eq_true hle, Bool.true_or, Bool.true_and]
      simp only
      rw [stepK_same, wrap_next hj hmax]
      simp only [resetL, rv_i, rv_b, rv_p, resetV_self]
      exact y_loop fuel c0 c1 c2 c3 c4 c5 c6 c7 c8 c9 c10 hc hl hF q (jn + 1) n _ _ _ _ _ _ _ _ _ _ _ _ _ _ _ _ _ _ _ _ _ _ _ _ _ _ _ _ _ _ _ _ _ _ _ _ _ _ _ _ _ _ _ _ _ _ _ _ _ _ _ _ _ _ _ _ _ _ _ _ _ _ _ _ _ rfl (by omega) (by omega)
    · have hle : ¬ (moOf u).now ≤ untilE c8 (moOf u).ac := hg
      rw [dec_no hg, qU, decide_eq_false hle, Bool.false_or]
      simp only
      rw [wrap_prev (by omega), ge_true, lt_true hj0, Int.toNat_natCast, hw]
      simp only [Bool.and_self, fit_dtMom tw, f1, f5]
      refine yb_loop fuel c0 c1 c2 c3 c4 c5 c6 c7 c8 c9 c10 hl pw _ _ (fun o => o = _) ?_ (shS Sh.any (hdV (tlV (tlV (tlV (tlV (tlV (tlV (tlV (tlV (tlV w.aggOf))))))))))).listOf.length 0 fuel [] _ _ _ _ _ _ _ _ _ _ _ _ _ _ _ _ _ _ _ _ _ _ _ _ _ _ _ _ _ _ _ _ _ _ _ _ _ _ _ _ _ _ _ _ _ _ _ _ _ _ _ _ _ _ _ _ _ _ _ _ _ _ rfl rfl (by omega) (hF w (List.mem_of_getElem? hw)) (by simp)
      intro X i k x0 x3 x6 x9 x10 x11 x12 x13 x14 x15 x16 x17 x18 x19 x20 x21 x22 x23 x24 x25 x26 x27 x28 x29 x30 x31 x32 x33 x34 x35 x36 x37 x38 x39 x40 x41 x42 x46 x47 x48 x49 x50 x51 x52 x53 x54 x55 x56 x57 x58 x59 x60 x61 x62 x63 x64 x65 x66 x67 x68 hi' hX
      subst hi'
      rw [yb_post, hB, ge_true, lt_true hj, Int.toNat_natCast, hu]
      simp only [br, Bool.and_self, fit_dtMom tu, g1, g5]
      refine yc_loop fuel c0 c1 c2 c3 c4 c5 c6 c7 c8 c9 c10 hl pu _ X ((toksOf u).all fun t => decide (t ∈ toksOf w)) _ (fun o => o = _) ?_ ?_ (shS Sh.any (hdV (tlV (tlV (tlV (tlV (tlV (tlV (tlV (tlV (tlV u.aggOf))))))))))).listOf.length 0 fuel _ _ _ _ _ _ _ _ _ _ _ _ _ _ _ _ _ _ _ _ _ _ _ _ _ _ _ _ _ _ _ _ _ _ _ _ _ _ _ _ _ _ _ _ _ _ _ _ _ _ _ _ _ _ _ _ _ _ _ _ _ _ rfl rfl (by omega) (hF u (List.mem_of_getElem? hu)) ?_
      · intro hq i k x0 x3 x6 x9 x10 x11 x12 x13 x14 x15 x16 x17 x18 x19 x20 x21 x22 x23 x24 x25 x26 x27 x28 x29 x30 x31 x32 x33 x34 x35 x36 x37 x38 x39 x40 x41 x42 x43 x44 x45 x46 x47 x48 x49 x50 x51 x52 x53 x54 x55 x56 x60 x61 x62 x63 x64 x65 x66 x67 x68 hi'
        subst hi'
        rw [hq, Bool.true_and, yc_post, stepK_map, bel1]
        simp only [br, wrap_next hj hmax]
        simp only [resetL, rv_i, rv_b, rv_p, resetV_self, List.map, cv_i, cv_b, cv_p, cut_ty hl]
        exact y_loop fuel c0 c1 c2 c3 c4 c5 c6 c7 c8 c9 c10 hc hl hF q (jn + 1) n _ _ _ _ _ _ _ _ _ _ _ _ _ _ _ _ _ _ _ _ _ _ _ _ _ _ _ _ _ _ _ _ _ _ _ _ _ _ _ _ _ _ _ _ _ _ _ _ _ _ _ _ _ _ _ _ _ _ _ _ _ _ _ _ _ rfl (by omega) (by omega)
      · intro hq o e H x0 x1 x2 x3 x6 x7 x8 x9 x10 x11 x12 x13 x14 x15 x16 x17 x18 x19 x20 x21 x22 x23 x24 x25 x26 x27 x28 x29 x30 x31 x32 x33 x34 x35 x36 x37 x38 x39 x40 x41 x42 x43 x44 x45 x46 x47 x48 x49 x50 x51 x52 x53 x54 x55 x56 x57 x58 x59 x60 x61 x62 x63 x64 x65 x66 x67 x68 ho he
        subst ho; subst he
        rw [hq, Bool.false_and, yc_ret, stepK_r]
        exact y_ret fuel _ _ _ _ _ _ _ _ _ _ _ _ _ _ _ _ _ _ _ _ _ _ _ _ _ _ _ _ _ _ _ _ _ _ _ _ _ _ _ _ _ _ _ _ _ _ _ _ _ _ _ _ _ _ _ _ _ _ _ _ _ _ _ _ _ _ _ _ _ _
      · simp only [toksOf, List.all_map, List.drop_zero]
        congr 1
        funext p
        exact decide_eq_decide.2 (hX _).symm

theorem run15 {c0 c1 c2 c3 c4 c5 c6 c7 c8 c9 c10 : Int} {l : AV} (hc : tyV dtCfg (.agg (cfC c0 c1 c2 c3 c4 c5 c6 c7 c8 c9 c10))) (hl : tyV (.sl 14 dtMom) l) : runI Try.D (cF (fuelF l)) (fuelF l) Try.f15 [.agg (cfC c0 c1 c2 c3 c4 c5 c6 c7 c8 c9 c10), l] ⟨[], []⟩ (fun v _ => some v) = some (.tuple [.bool (quB c0 c1 c2 c3 c4 c5 c6 c7 c8 c9 c10 l), .int .i64 (ckE c0 c1 c2 c3 c4 c5 c6 c7 c8 c9 c10 l)]) := by
  have hk := fun H => valH_of (k30 c0 c1 c2 c3 c4 c5 c6 c7 c8 c9 c10 hc hl H)
  rw [y_pre, hk]
  unfold quB
  simp only [ftI, num_i, br]
  by_cases h : ckE c0 c1 c2 c3 c4 c5 c6 c7 c8 c9 c10 l = 0
  · have hne : l.listOf.length ≠ 0 := by
      intro h0
      unfold ckE at h
      rw [h0] at h
      split at h <;> simp at h
    rw [if_pos h, h]
    simp only [bne_self_eq_false]
    exact y_loop (fuelF l) c0 c1 c2 c3 c4 c5 c6 c7 c8 c9 c10 hc hl (fun u hu => fuelF_p hu) (l.listOf.length - 1) 0 (fuelF l) _ _ _ _ _ _ _ _ _ _ _ _ _ _ _ _ _ _ _ _ _ _ _ _ _ _ _ _ _ _ _ _ _ _ _ _ _ _ _ _ _ _ _ _ _ _ _ _ _ _ _ _ _ _ _ _ _ _ _ _ _ _ _ _ _ rfl (by omega) (by unfold fuelF; omega)
  · rw [if_neg h]
    have : (ckE c0 c1 c2 c3 c4 c5 c6 c7 c8 c9 c10 l != 0) = true := by rw [bne_iff_ne]; exact h
    rw [this]
theorem k15 {c0 c1 c2 c3 c4 c5 c6 c7 c8 c9 c10 : Int} {l : AV} (hc : tyV dtCfg (.agg (cfC c0 c1 c2 c3 c4 c5 c6 c7 c8 c9 c10))) (hl : tyV (.sl 14 dtMom) l) (H : AH) : callL Try.D 15 [.agg (cfC c0 c1 c2 c3 c4 c5 c6 c7 c8 c9 c10), l] H = some (.tuple [.bool (quB c0 c1 c2 c3 c4 c5 c6 c7 c8 c9 c10 l), .int .i64 (ckE c0 c1 c2 c3 c4 c5 c6 c7 c8 c9 c10 l)], H) := by
  rw [← quB_erase hl, ← ckE_erase hl]
  exact callL_D tabF_ok (fuel := fuelF (erase l)) (n := 6) (fn := Try.f15) (ds := [dtCfg, .sl 14 dtMom]) (v := .tuple [.bool (quB c0 c1 c2 c3 c4 c5 c6 c7 c8 c9 c10 (erase l)), .int .i64 (ckE c0 c1 c2 c3 c4 c5 c6 c7 c8 c9 c10 (erase l))]) (by kernel_rfl) (by kernel_rfl) (by kernel_rfl) ⟨hc, hl, trivial⟩ (run15 hc (tyV_erase hl)) rfl
end Go.Proofs.Ytoagnbpmoihojaa

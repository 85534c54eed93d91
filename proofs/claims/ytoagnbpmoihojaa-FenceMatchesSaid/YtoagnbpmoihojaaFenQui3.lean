/- Quiet: the reference. -/
import Derived.Test.YtoagnbpmoihojaaFenQui2
set_option maxRecDepth 100000
set_option linter.unusedSimpArgs false
set_option linter.unusedVariables false
namespace Go.Proofs.Ytoagnbpmoihojaa
open Go.Sx
/-- Is the moment u, after the moment w, quiet? -/
def qU (le : Int) (u w : AV) : Bool := decide ((moOf u).now ≤ untilE le (moOf u).ac) || (toksOf u).all fun t => decide (t ∈ toksOf w)
def qAt (le : Int) (L : List Mo) (T : List (List (Int × Int × Int))) (i : Nat) : Bool := decide ((atM L i).now ≤ untilE le (atM L i).ac) || (atT T i).all fun t => decide (t ∈ atT T (i - 1))
def qA (le : Int) (L : List Mo) (T : List (List (Int × Int × Int))) : Nat → Nat → Bool
  | 0, _ => true
  | q + 1, j => qAt le L T j && qA le L T q (j + 1)
theorem qAt_of {le : Int} {l u w : AV} {i : Nat} (hu : l.listOf[i + 1]? = some u) (hw : l.listOf[i]? = some w) : qAt le (mosOf l) (tksOf l) (i + 1) = qU le u w := by
  unfold qAt qU
  rw [atM_of hu, atT_of hu, Nat.add_sub_cancel, atT_of hw]
noncomputable def quB (c0 c1 c2 c3 c4 c5 c6 c7 c8 c9 c10 : Int) (l : AV) : Bool := if ckE c0 c1 c2 c3 c4 c5 c6 c7 c8 c9 c10 l = 0 then qA c8 (mosOf l) (tksOf l) (l.listOf.length - 1) 1 else false
theorem ckE_erase {c0 c1 c2 c3 c4 c5 c6 c7 c8 c9 c10 : Int} {l : AV} (hl : tyV (.sl 14 dtMom) l) : ckE c0 c1 c2 c3 c4 c5 c6 c7 c8 c9 c10 (erase l) = ckE c0 c1 c2 c3 c4 c5 c6 c7 c8 c9 c10 l := by unfold ckE; rw [mosOf_erase hl, listOf_erase hl, List.length_map]
theorem quB_erase {c0 c1 c2 c3 c4 c5 c6 c7 c8 c9 c10 : Int} {l : AV} (hl : tyV (.sl 14 dtMom) l) : quB c0 c1 c2 c3 c4 c5 c6 c7 c8 c9 c10 (erase l) = quB c0 c1 c2 c3 c4 c5 c6 c7 c8 c9 c10 l := by unfold quB; rw [ckE_erase hl, mosOf_erase hl, tksOf_erase hl, listOf_erase hl, List.length_map]
theorem all_drop {l : List AV} {n : Nat} {p : AV} {f : AV → Bool} (h : l[n]? = some p) : (l.drop n).all f = (f p && (l.drop (n + 1)).all f) := by
  have hd : l.drop n = p :: l.drop (n + 1) := nrm_drop h
  rw [hd, List.all_cons]

theorem zb_loop {R : Type} (fuel : Nat) (c0 c1 c2 c3 c4 c5 c6 c7 c8 c9 c10 : Int) {l : AV} (hc : tyV dtCfg (.agg (cfC c0 c1 c2 c3 c4 c5 c6 c7 c8 c9 c10))) (hl : tyV (.sl 14 dtMom) l) (iN : Nat) {u w : AV} (hu : l.listOf[iN + 1]? = some u) (hw : l.listOf[iN]? = some w) (K : Ex → List AV → AH → Option R) (Q : Option R → Prop)
    (hex : qU c8 u w = true → ∀ (i k : Int) (x0 x3 x6 x9 x10 x11 x12 x13 x14 x15 x16 x17 x18 x19 x20 x21 x22 x23 x24 x25 x26 x27 x28 x29 x30 x31 x32 x33 x34 x35 x36 x37 x38 x39 x40 x41 x42 x43 x44 x45 x46 x47 x48 x49 x50 x51 x52 x53 x54 x55 x56 x57 x58 x59 x60 : AV), i = ((iN + 1 : Nat) : Int) → Q (K (.exit 2) [x0, l, .ptr 0 0, x3, .bool false, .int .i64 0, x6, .int .i64 i, .int .i64 k, x9, x10, x11, x12, x13, x14, x15, x16, x17, x18, x19, x20, x21, x22, x23, x24, x25, x26, x27, x28, x29, x30, x31, x32, x33, x34, x35, x36, x37, x38, x39, x40, x41, x42, x43, x44, x45, x46, x47, x48, x49, x50, x51, x52, x53, x54, x55, x56, x57, x58, x59, x60] ⟨[.cells (cfC c0 c1 c2 c3 c4 c5 c6 c7 c8 c9 c10)], []⟩))
    (hre : qU c8 u w = false → ∀ (o : Bool) (e : Int) (H : AH) (x0 x1 x2 x3 x6 x7 x8 x9 x10 x11 x12 x13 x14 x15 x16 x17 x18 x19 x20 x21 x22 x23 x24 x25 x26 x27 x28 x29 x30 x31 x32 x33 x34 x35 x36 x37 x38 x39 x40 x41 x42 x43 x44 x45 x46 x47 x48 x49 x50 x51 x52 x53 x54 x55 x56 x57 x58 x59 x60 : AV), o = false → e = 0 → Q (K .ret [x0, x1, x2, x3, .bool o, .int .i64 e, x6, x7, x8, x9, x10, x11, x12, x13, x14, x15, x16, x17, x18, x19, x20, x21, x22, x23, x24, x25, x26, x27, x28, x29, x30, x31, x32, x33, x34, x35, x36, x37, x38, x39, x40, x41, x42, x43, x44, x45, x46, x47, x48, x49, x50, x51, x52, x53, x54, x55, x56, x57, x58, x59, x60] H)) :
    ∀ (q kn n : Nat) (i k : Int) (x0 x3 x6 x9 x10 x11 x12 x13 x14 x15 x16 x17 x18 x19 x20 x21 x22 x23 x24 x25 x26 x27 x28 x29 x30 x31 x32 x33 x34 x35 x36 x37 x38 x39 x40 x41 x42 x43 x44 x45 x46 x47 x48 x49 x50 x51 x52 x53 x54 x55 x56 x57 x58 x59 x60 : AV), i = ((iN + 1 : Nat) : Int) → k = (kn : Int) → kn + q = (shS Sh.any (hdV (tlV (tlV (tlV (tlV (tlV (tlV (tlV (tlV (tlV u.aggOf))))))))))).listOf.length → q < n → qU c8 u w = (decide ((moOf u).now ≤ untilE c8 (moOf u).ac) || ((shS Sh.any (hdV (tlV (tlV (tlV (tlV (tlV (tlV (tlV (tlV (tlV u.aggOf))))))))))).listOf.drop kn).all fun p => decide (tokP p ∈ toksOf w)) →
      Q (loopC Try.D (cF fuel) fuel zbB n [x0, l, .ptr 0 0, x3, .bool false, .int .i64 0, x6, .int .i64 i, .int .i64 k, x9, x10, x11, x12, x13, x14, x15, x16, x17, x18, x19, x20, x21, x22, x23, x24, x25, x26, x27, x28, x29, x30, x31, x32, x33, x34, x35, x36, x37, x38, x39, x40, x41, x42, x43, x44, x45, x46, x47, x48, x49, x50, x51, x52, x53, x54, x55, x56, x57, x58, x59, x60] ⟨[.cells (cfC c0 c1 c2 c3 c4 c5 c6 c7 c8 c9 c10)], []⟩ K)
  | q, kn, 0, i, k, _, _, _, _, _, _, _, _, _, _, _, _, _, _, _, _, _, _, _, _, _, _, _, _, _, _, _, _, _, _, _, _, _, _, _, _, _, _, _, _, _, _, _, _, _, _, _, _, _, _, _, _, _, _, _, hi, hk, h, hn, hq => by omega
  | q, kn, n + 1, i, k, x0, x3, x6, x9, x10, x11, x12, x13, x14, x15, x16, x17, x18, x19, x20, x21, x22, x23, x24, x25, x26, x27, x28, x29, x30, x31, x32, x33, x34, x35, x36, x37, x38, x39, x40, x41, x42, x43, x44, x45, x46, x47, x48, x49, x50, x51, x52, x53, x54, x55, x56, x57, x58, x59, x60, hi, hk, h, hn, hq => by
    subst hi; subst hk
    obtain ⟨hB, hmax, hT, -, -⟩ := sl_facts hl
    have hj := (List.getElem?_eq_some_iff.1 hu).1
    have hj0 : iN < l.listOf.length := by omega
    have tu := hT u (List.mem_of_getElem? hu)
    have tw := hT w (List.mem_of_getElem? hw)
    obtain ⟨g1, gm, g3, -, g5⟩ := sl_facts (pj_dtMom_9 tu)
    rw [zb_step, hB, ge_true, lt_true hj, Int.toNat_natCast, hu]
    simp only [br, Bool.and_self, fit_dtMom tu, g1, g5, resetV_self]
    match q, h, hn with
    | 0, h, hn =>
      rw [lt_false (by omega : ¬ kn < (shS Sh.any (hdV (tlV (tlV (tlV (tlV (tlV (tlV (tlV (tlV (tlV u.aggOf))))))))))).listOf.length)]
      rw [List.drop_eq_nil_of_le (by omega)] at hq
      exact hex (by rw [hq]; simp) _ _ _ _ _ _ _ _ _ _ _ _ _ _ _ _ _ _ _ _ _ _ _ _ _ _ _ _ _ _ _ _ _ _ _ _ _ _ _ _ _ _ _ _ _ _ _ _ _ _ _ _ _ _ _ _ _ rfl
    | q + 1, h, hn =>
      have hkn : kn < (shS Sh.any (hdV (tlV (tlV (tlV (tlV (tlV (tlV (tlV (tlV (tlV u.aggOf))))))))))).listOf.length := by omega
      obtain ⟨p, hp⟩ : ∃ p, (shS Sh.any (hdV (tlV (tlV (tlV (tlV (tlV (tlV (tlV (tlV (tlV u.aggOf))))))))))).listOf[kn]? = some p := ⟨_, List.getElem?_eq_getElem hkn⟩
      have tp := g3 p (List.mem_of_getElem? hp)
      have hk := fun H => valH_of (k33 tw (pw_dtProc_2 tp) (pw_dtProc_3 tp) (pw_dtProc_4 tp) H)
      have hv : ∀ H, valH Try.D 32 [.agg (cfC c0 c1 c2 c3 c4 c5 c6 c7 c8 c9 c10), u] H = some (.int .i64 (untilE c8 (moOf u).ac)) := fun H => valH_of (un32 hc tu H)
      obtain ⟨x, hx, hs, hnn⟩ := val_num hv
      rw [all_drop hp] at hq
      rw [lt_true hkn, wrap_prev (by omega), ge_true, lt_true hj0, Int.toNat_natCast, hw]
      simp only [Bool.and_self, fit_dtMom tw, ge_true, Int.toNat_natCast, hp, fit_dtProc tp, eta_dtMom tw, eta_dtMom tu]
      rw [hk]
      simp only [ftB, bool_b]
      have ht : decide (((hdV (tlV (tlV p.aggOf))).numOf, (hdV (tlV (tlV (tlV p.aggOf)))).numOf, (hdV (tlV (tlV (tlV (tlV p.aggOf))))).numOf) ∈ toksOf w) = decide (tokP p ∈ toksOf w) := rfl
      rw [ht]
      cases hm : decide (tokP p ∈ toksOf w) with
      | true =>
        rw [hm, Bool.true_and] at hq
        simp only [Bool.not_true]
        rw [wrap_next hkn gm]
        exact zb_loop fuel c0 c1 c2 c3 c4 c5 c6 c7 c8 c9 c10 hc hl iN hu hw K Q hex hre q (kn + 1) n _ _ _ _ _ _ _ _ _ _ _ _ _ _ _ _ _ _ _ _ _ _ _ _ _ _ _ _ _ _ _ _ _ _ _ _ _ _ _ _ _ _ _ _ _ _ _ _ _ _ _ _ _ _ _ _ _ rfl rfl (by omega) (by omega) hq
      | false =>
        rw [hm, Bool.false_and, Bool.or_false] at hq
        simp only [Bool.not_false]
        rw [hx]
        simp only [hs]
        generalize x.numOf = e at hnn ⊢
        obtain rfl := hnn.symm
        by_cases hg : (hdV u.aggOf).numOf > untilE c8 (moOf u).ac
        · rw [dec_yes hg]
          simp only
          refine hre ?_ _ _ _ _ _ _ _ _ _ _ _ _ _ _ _ _ _ _ _ _ _ _ _ _ _ _ _ _ _ _ _ _ _ _ _ _ _ _ _ _ _ _ _ _ _ _ _ _ _ _ _ _ _ _ _ _ _ _ _ _ _ _ rfl rfl
          rw [hq, decide_eq_false_iff_not]
          exact Int.not_le.2 hg
        · rw [dec_no hg]
          simp only
          rw [wrap_next hkn gm]
          have hle : (moOf u).now ≤ untilE c8 (moOf u).ac := Int.not_lt.1 hg
          refine zb_loop fuel c0 c1 c2 c3 c4 c5 c6 c7 c8 c9 c10 hc hl iN hu hw K Q hex hre q (kn + 1) n _ _ _ _ _ _ _ _ _ _ _ _ _ _ _ _ _ _ _ _ _ _ _ _ _ _ _ _ _ _ _ _ _ _ _ _ _ _ _ _ _ _ _ _ _ _ _ _ _ _ _ _ _ _ _ _ _ rfl rfl (by omega) (by omega) ?_
          rw [hq, decide_eq_true hle, Bool.true_or]

theorem z_loop (fuel : Nat) (c0 c1 c2 c3 c4 c5 c6 c7 c8 c9 c10 : Int) {l : AV} (hc : tyV dtCfg (.agg (cfC c0 c1 c2 c3 c4 c5 c6 c7 c8 c9 c10))) (hl : tyV (.sl 14 dtMom) l) (hF : ∀ u ∈ l.listOf, (shS Sh.any (hdV (tlV (tlV (tlV (tlV (tlV (tlV (tlV (tlV (tlV u.aggOf))))))))))).listOf.length < fuel) :
    ∀ (q jn n : Nat) (i : Int) (x0 x3 x6 x8 x9 x10 x11 x12 x13 x14 x15 x16 x17 x18 x19 x20 x21 x22 x23 x24 x25 x26 x27 x28 x29 x30 x31 x32 x33 x34 x35 x36 x37 x38 x39 x40 x41 x42 x43 x44 x45 x46 x47 x48 x49 x50 x51 x52 x53 x54 x55 x56 x57 x58 x59 x60 : AV), i = ((jn + 1 : Nat) : Int) → jn + 1 + q = l.listOf.length → q < n →
    loopC Try.D (cF fuel) fuel zaB n [x0, l, .ptr 0 0, x3, .bool false, .int .i64 0, x6, .int .i64 i, x8, x9, x10, x11, x12, x13, x14, x15, x16, x17, x18, x19, x20, x21, x22, x23, x24, x25, x26, x27, x28, x29, x30, x31, x32, x33, x34, x35, x36, x37, x38, x39, x40, x41, x42, x43, x44, x45, x46, x47, x48, x49, x50, x51, x52, x53, x54, x55, x56, x57, x58, x59, x60] ⟨[.cells (cfC c0 c1 c2 c3 c4 c5 c6 c7 c8 c9 c10)], []⟩ (kontI Try.D (cF fuel) fuel (bodyOf Try.f16) [1, 1, 0, 1, 0] (endI Try.D Try.f16 fun v _ => some v)) = some (.tuple [.bool (qA c8 (mosOf l) (tksOf l) q (jn + 1)), .int .i64 0])
  | q, jn, 0, i, _, _, _, _, _, _, _, _, _, _, _, _, _, _, _, _, _, _, _, _, _, _, _, _, _, _, _, _, _, _, _, _, _, _, _, _, _, _, _, _, _, _, _, _, _, _, _, _, _, _, _, _, _, _, _, _, hi, h, hn => by omega
  | 0, jn, n + 1, i, x0, x3, x6, x8, x9, x10, x11, x12, x13, x14, x15, x16, x17, x18, x19, x20, x21, x22, x23, x24, x25, x26, x27, x28, x29, x30, x31, x32, x33, x34, x35, x36, x37, x38, x39, x40, x41, x42, x43, x44, x45, x46, x47, x48, x49, x50, x51, x52, x53, x54, x55, x56, x57, x58, x59, x60, hi, h, hn => by
    subst hi
    rw [za_step, (sl_facts hl).1, lt_false (by omega : ¬ jn + 1 < l.listOf.length)]
    simp only [br, resetV_self]
    exact z_end fuel _ _ _ _ _ _ _ _ _ _ _ _ _ _ _ _ _ _ _ _ _ _ _ _ _ _ _ _ _ _ _ _ _ _ _ _ _ _ _ _ _ _ _ _ _ _ _ _ _ _ _ _ _ _ _ _ _ _ _ _ _ _
  | q + 1, jn, n + 1, i, x0, x3, x6, x8, x9, x10, x11, x12, x13, x14, x15, x16, x17, x18, x19, x20, x21, x22, x23, x24, x25, x26, x27, x28, x29, x30, x31, x32, x33, x34, x35, x36, x37, x38, x39, x40, x41, x42, x43, x44, x45, x46, x47, x48, x49, x50, x51, x52, x53, x54, x55, x56, x57, x58, x59, x60, hi, h, hn => by
    subst hi
    obtain ⟨hB, hmax, hT, -, -⟩ := sl_facts hl
    have hj : jn + 1 < l.listOf.length := by omega
    have hj0 : jn < l.listOf.length := by omega
    obtain ⟨u, hu⟩ : ∃ u, l.listOf[jn + 1]? = some u := ⟨_, List.getElem?_eq_getElem hj⟩
    obtain ⟨w, hw⟩ : ∃ w, l.listOf[jn]? = some w := ⟨_, List.getElem?_eq_getElem hj0⟩
    rw [za_step, hB, lt_true hj]
    simp only [br, qA, qAt_of hu hw]
    refine zb_loop fuel c0 c1 c2 c3 c4 c5 c6 c7 c8 c9 c10 hc hl jn hu hw _ (fun o => o = _) ?_ ?_ (shS Sh.any (hdV (tlV (tlV (tlV (tlV (tlV (tlV (tlV (tlV (tlV u.aggOf))))))))))).listOf.length 0 fuel _ _ _ _ _ _ _ _ _ _ _ _ _ _ _ _ _ _ _ _ _ _ _ _ _ _ _ _ _ _ _ _ _ _ _ _ _ _ _ _ _ _ _ _ _ _ _ _ _ _ _ _ _ _ _ _ _ rfl rfl (by omega) (hF u (List.mem_of_getElem? hu)) ?_
    · intro hq i k x0 x3 x6 x9 x10 x11 x12 x13 x14 x15 x16 x17 x18 x19 x20 x21 x22 x23 x24 x25 x26 x27 x28 x29 x30 x31 x32 x33 x34 x35 x36 x37 x38 x39 x40 x41 x42 x43 x44 x45 x46 x47 x48 x49 x50 x51 x52 x53 x54 x55 x56 x57 x58 x59 x60 hi'
      subst hi'
      rw [hq, Bool.true_and, za_post, stepK_same, wrap_next hj hmax]
      simp only [resetL, rv_i, rv_b, rv_p, resetV_self]
      exact z_loop fuel c0 c1 c2 c3 c4 c5 c6 c7 c8 c9 c10 hc hl hF q (jn + 1) n _ _ _ _ _ _ _ _ _ _ _ _ _ _ _ _ _ _ _ _ _ _ _ _ _ _ _ _ _ _ _ _ _ _ _ _ _ _ _ _ _ _ _ _ _ _ _ _ _ _ _ _ _ _ _ _ _ rfl (by omega) (by omega)
    · intro hq o e H x0 x1 x2 x3 x6 x7 x8 x9 x10 x11 x12 x13 x14 x15 x16 x17 x18 x19 x20 x21 x22 x23 x24 x25 x26 x27 x28 x29 x30 x31 x32 x33 x34 x35 x36 x37 x38 x39 x40 x41 x42 x43 x44 x45 x46 x47 x48 x49 x50 x51 x52 x53 x54 x55 x56 x57 x58 x59 x60 ho he
      subst ho; subst he
      rw [hq, Bool.false_and, za_pret, stepK_r]
      exact z_ret fuel _ _ _ _ _ _ _ _ _ _ _ _ _ _ _ _ _ _ _ _ _ _ _ _ _ _ _ _ _ _ _ _ _ _ _ _ _ _ _ _ _ _ _ _ _ _ _ _ _ _ _ _ _ _ _ _ _ _ _ _ _ _
    · simp only [qU, toksOf, List.all_map, List.drop_zero]
      rfl

theorem run16 {c0 c1 c2 c3 c4 c5 c6 c7 c8 c9 c10 : Int} {l : AV} (hc : tyV dtCfg (.agg (cfC c0 c1 c2 c3 c4 c5 c6 c7 c8 c9 c10))) (hl : tyV (.sl 14 dtMom) l) : runI Try.D (cF (fuelF l)) (fuelF l) Try.f16 [.agg (cfC c0 c1 c2 c3 c4 c5 c6 c7 c8 c9 c10), l] ⟨[], []⟩ (fun v _ => some v) = some (.tuple [.bool (quB c0 c1 c2 c3 c4 c5 c6 c7 c8 c9 c10 l), .int .i64 (ckE c0 c1 c2 c3 c4 c5 c6 c7 c8 c9 c10 l)]) := by
  have hk := fun H => valH_of (k31 c0 c1 c2 c3 c4 c5 c6 c7 c8 c9 c10 hc hl H)
  rw [z_pre, hk]
  unfold quB
  simp only [ftI, num_i, br]
  by_cases h : ckE c0 c1 c2 c3 c4 c5 c6 c7 c8 c9 c10 l = 0
  · have hne : l.listOf.length ≠ 0 := by
      intro h0
      unfold ckE at h
      rw [h0] at h
      split at h <;> simp at h
    rw [if_pos h, h]
    simp only [bne_self_eq_false]
    exact z_loop (fuelF l) c0 c1 c2 c3 c4 c5 c6 c7 c8 c9 c10 hc hl (fun u hu => fuelF_p hu) (l.listOf.length - 1) 0 (fuelF l) _ _ _ _ _ _ _ _ _ _ _ _ _ _ _ _ _ _ _ _ _ _ _ _ _ _ _ _ _ _ _ _ _ _ _ _ _ _ _ _ _ _ _ _ _ _ _ _ _ _ _ _ _ _ _ _ _ rfl (by omega) (by unfold fuelF; omega)
  · rw [if_neg h]
    have : (ckE c0 c1 c2 c3 c4 c5 c6 c7 c8 c9 c10 l != 0) = true := by rw [bne_iff_ne]; exact h
    rw [this]
theorem k16 {c0 c1 c2 c3 c4 c5 c6 c7 c8 c9 c10 : Int} {l : AV} (hc : tyV dtCfg (.agg (cfC c0 c1 c2 c3 c4 c5 c6 c7 c8 c9 c10))) (hl : tyV (.sl 14 dtMom) l) (H : AH) : callL Try.D 16 [.agg (cfC c0 c1 c2 c3 c4 c5 c6 c7 c8 c9 c10), l] H = some (.tuple [.bool (quB c0 c1 c2 c3 c4 c5 c6 c7 c8 c9 c10 l), .int .i64 (ckE c0 c1 c2 c3 c4 c5 c6 c7 c8 c9 c10 l)], H) := by
  rw [← quB_erase hl, ← ckE_erase hl]
  exact callL_D tabF_ok (fuel := fuelF (erase l)) (n := 6) (fn := Try.f16) (ds := [dtCfg, .sl 14 dtMom]) (v := .tuple [.bool (quB c0 c1 c2 c3 c4 c5 c6 c7 c8 c9 c10 (erase l)), .int .i64 (ckE c0 c1 c2 c3 c4 c5 c6 c7 c8 c9 c10 (erase l))]) (by kernel_rfl) (by kernel_rfl) (by kernel_rfl) ⟨hc, hl, trivial⟩ (run16 hc (tyV_erase hl)) rfl
end Go.Proofs.Ytoagnbpmoihojaa

/- Contracts: the reference's Premise and Gone. -/
import Derived.Test.YtoagnbpmoihojaaFenRP
set_option maxRecDepth 100000
set_option linter.unusedSimpArgs false
set_option linter.unusedVariables false
namespace Go.Proofs.Ytoagnbpmoihojaa
open Go.Sx
theorem q_loop (fuel : Nat) (c0 c1 c2 c3 c4 c5 c6 c7 c8 c9 c10 : Int) {l : AV} (hc : tyV dtCfg (.agg (cfC c0 c1 c2 c3 c4 c5 c6 c7 c8 c9 c10))) (hl : tyV (.sl 14 dtMom) l) (b8 : 1 ≤ c8 ∧ c8 ≤ 1099511627776) (hok : ∀ m ∈ mosOf l, okMo m) {d r : Int} (hd : (Lit.int .i64 d).wf = true) (hr : (Lit.int .i64 r).wf = true) :
    ∀ (q jn n : Nat) (i : Int) (x0 x5 x6 x7 x10 x12 x13 x14 x15 x16 x17 x18 x19 x20 x21 x22 x23 x24 x25 x26 x27 x28 x29 x30 x31 x32 : AV), i = (jn : Int) → jn + q = l.listOf.length → q < n →
    loopC Try.D (cF fuel) fuel qaB n [x0, .int .i64 d, .int .i64 r, l, .ptr 0 0, x5, x6, x7, .bool false, .int .i64 0, x10, .int .i64 i, x12, x13, x14, x15, x16, x17, x18, x19, x20, x21, x22, x23, x24, x25, x26, x27, x28, x29, x30, x31, x32] ⟨[.cells (cfC c0 c1 c2 c3 c4 c5 c6 c7 c8 c9 c10)], []⟩ (kontI Try.D (cF fuel) fuel (bodyOf Try.f17) [1, 1, 0, 1, 0] (endI Try.D Try.f17 fun v _ => some v)) = some (.tuple [.bool (allH c8 d r (mosOf l) q jn), .int .i64 0])
  | q, jn, 0, i, _, _, _, _, _, _, _, _, _, _, _, _, _, _, _, _, _, _, _, _, _, _, _, _, _, _, hi, h, hn => by omega
  | 0, jn, n + 1, i, x0, x5, x6, x7, x10, x12, x13, x14, x15, x16, x17, x18, x19, x20, x21, x22, x23, x24, x25, x26, x27, x28, x29, x30, x31, x32, hi, h, hn => by
    subst hi
    rw [q_step, (sl_facts hl).1, lt_false (by omega : ¬ jn < l.listOf.length)]
    simp only [br, resetV_self]
    exact q_end fuel _ _ _ _ _ _ _ _ _ _ _ _ _ _ _ _ _ _ _ _ _ _ _ _ _ _ _ _ _ _ _ _ _ _
  | q + 1, jn, n + 1, i, x0, x5, x6, x7, x10, x12, x13, x14, x15, x16, x17, x18, x19, x20, x21, x22, x23, x24, x25, x26, x27, x28, x29, x30, x31, x32, hi, h, hn => by
    subst hi
    obtain ⟨hB, hmax, hT, -, -⟩ := sl_facts hl
    have hj : jn < l.listOf.length := by omega
    have hv := fun H => valH_of (k35 hc hl b8 hok hd hr hj H)
    rw [q_step, hB, lt_true hj]
    simp only [br]
    rw [hv]
    simp only [ftB, bool_b, allH]
    cases holdsE c8 d r (mosOf l) jn with
    | false =>
      simp only [Bool.not_false, Bool.false_eq_true, if_false]
      exact q_ret fuel _ _ _ _ _ _ _ _ _ _ _ _ _ _ _ _ _ _ _ _ _ _ _ _ _ _ _ _ _ _ _ _ _ _
    | true =>
      simp only [Bool.not_true, if_true, resetV_self]
      rw [wrap_next hj hmax]
      exact q_loop fuel c0 c1 c2 c3 c4 c5 c6 c7 c8 c9 c10 hc hl b8 hok hd hr q (jn + 1) n _ _ _ _ _ _ _ _ _ _ _ _ _ _ _ _ _ _ _ _ _ _ _ _ _ _ _ rfl (by omega) (by omega)

theorem run17 {c0 c1 c2 c3 c4 c5 c6 c7 c8 c9 c10 : Int} {l : AV} {d r : Int} (hc : tyV dtCfg (.agg (cfC c0 c1 c2 c3 c4 c5 c6 c7 c8 c9 c10))) (hl : tyV (.sl 14 dtMom) l) (hd : (Lit.int .i64 d).wf = true) (hr : (Lit.int .i64 r).wf = true) : runI Try.D (cF (fuelF l)) (fuelF l) Try.f17 [.agg (cfC c0 c1 c2 c3 c4 c5 c6 c7 c8 c9 c10), .int .i64 d, .int .i64 r, l] ⟨[], []⟩ (fun v _ => some v) = some (.tuple [.bool (preB c0 c1 c2 c3 c4 c5 c6 c7 c8 c9 c10 l d r), .int .i64 (numE c0 c1 c2 c3 c4 c5 c6 c7 c8 c9 c10 l d r)]) := by
  have hk := fun H => valH_of (k34 c0 c1 c2 c3 c4 c5 c6 c7 c8 c9 c10 hc hl hd hr H)
  rw [q_pre, hk]
  unfold preB
  simp only [ftI, num_i, br]
  by_cases h : numE c0 c1 c2 c3 c4 c5 c6 c7 c8 c9 c10 l d r = 0
  · obtain ⟨h1, h2, h3, h4, h5⟩ := num0 h
    rw [if_pos h, h]
    simp only [bne_self_eq_false]
    have hok := ordE_ok (mosOf l) 0 (by omega) h3
    have hlen : (mosOf l).length = l.listOf.length := by unfold mosOf; rw [List.length_map]
    have := prem_all (le := c8) (d := d) (r := r) (L := mosOf l) l.listOf.length 0 0 0 true (by omega) trivial
    rw [List.drop_zero, show decide ((0 : Nat) = 0) = true from rfl] at this
    rw [this]
    exact q_loop (fuelF l) c0 c1 c2 c3 c4 c5 c6 c7 c8 c9 c10 hc hl ⟨h1.2.2.2.2.2.2.2.2.1.1, h1.2.2.2.2.2.2.2.2.1.2⟩ hok hd hr l.listOf.length 0 (fuelF l) 0 _ _ _ _ _ _ _ _ _ _ _ _ _ _ _ _ _ _ _ _ _ _ _ _ _ _ rfl (by omega) (by unfold fuelF; omega)
  · rw [if_neg h]
    have : (numE c0 c1 c2 c3 c4 c5 c6 c7 c8 c9 c10 l d r != 0) = true := by rw [bne_iff_ne]; exact h
    rw [this]
theorem k17 {c0 c1 c2 c3 c4 c5 c6 c7 c8 c9 c10 : Int} {l : AV} {d r : Int} (hc : tyV dtCfg (.agg (cfC c0 c1 c2 c3 c4 c5 c6 c7 c8 c9 c10))) (hl : tyV (.sl 14 dtMom) l) (hd : (Lit.int .i64 d).wf = true) (hr : (Lit.int .i64 r).wf = true) (H : AH) : callL Try.D 17 [.agg (cfC c0 c1 c2 c3 c4 c5 c6 c7 c8 c9 c10), .int .i64 d, .int .i64 r, l] H = some (.tuple [.bool (preB c0 c1 c2 c3 c4 c5 c6 c7 c8 c9 c10 l d r), .int .i64 (numE c0 c1 c2 c3 c4 c5 c6 c7 c8 c9 c10 l d r)], H) := by
  have he : preB c0 c1 c2 c3 c4 c5 c6 c7 c8 c9 c10 (erase l) d r = preB c0 c1 c2 c3 c4 c5 c6 c7 c8 c9 c10 l d r := by unfold preB; rw [numE_erase hl, mosOf_erase hl]
  rw [← he, ← numE_erase hl]
  exact callL_D tabF_ok (fuel := fuelF (erase l)) (n := 6) (fn := Try.f17) (ds := [dtCfg, dtI, dtI, .sl 14 dtMom]) (v := .tuple [.bool (preB c0 c1 c2 c3 c4 c5 c6 c7 c8 c9 c10 (erase l) d r), .int .i64 (numE c0 c1 c2 c3 c4 c5 c6 c7 c8 c9 c10 (erase l) d r)]) (by kernel_rfl) (by kernel_rfl) (by kernel_rfl) ⟨hc, ty_i hd, ty_i hr, hl, trivial⟩ (run17 hc (tyV_erase hl) hd hr) rfl

theorem wi_loop {R : Type} (fuel : Nat) (c0 c1 c2 c3 c4 c5 c6 c7 c8 c9 c10 : Int) {l : AV} (hl : tyV (.sl 14 dtMom) l) (d r : Int) (iN : Nat) {u : AV} (hu : l.listOf[iN]? = some u) (K : Ex → List AV → AH → Option R) (Q : Option R → Prop) :
    ∀ (q kn n : Nat) (i k : Int) (v : Bool) (x0 x5 x6 x7 x10 x14 x15 x16 x17 x18 x19 x20 x21 x22 x23 x24 x25 x26 x27 x28 x29 x30 x31 x32 x33 x34 x35 x36 x37 x38 x39 x40 x41 x42 x43 x44 x45 x46 x47 x48 x49 x50 x51 x52 x53 x54 x55 x56 x57 x58 x59 x60 x61 x62 x63 x64 x65 x66 x67 x68 x69 x70 x71 x72 x73 x74 x75 x76 x77 x78 x79 x80 : AV), i = (iN : Int) → k = (kn : Int) → kn + q = (shS Sh.any (hdV (tlV (tlV (tlV (tlV (tlV (tlV (tlV (tlV (tlV u.aggOf))))))))))).listOf.length → q < n →
      (∀ (i k : Int) (v' : Bool) (x0 x5 x6 x7 x10 x14 x15 x16 x17 x18 x19 x20 x21 x22 x23 x24 x25 x26 x27 x28 x29 x30 x31 x32 x33 x34 x35 x36 x37 x38 x39 x40 x41 x42 x43 x44 x45 x46 x47 x48 x49 x50 x51 x52 x53 x54 x55 x56 x57 x58 x59 x60 x61 x62 x63 x64 x65 x66 x67 x68 x69 x70 x71 x72 x73 x74 x75 x76 x77 x78 x79 x80 : AV), i = (iN : Int) → v' = (v || ((shS Sh.any (hdV (tlV (tlV (tlV (tlV (tlV (tlV (tlV (tlV (tlV u.aggOf))))))))))).listOf.drop kn).any alP) → (fun v => Q (K (.exit 2) [x0, .int .i64 d, .int .i64 r, l, .ptr 0 0, x5, x6, x7, .bool false, .int .i64 0, x10, .int .i64 i, .bool v, .int .i64 k, x14, x15, x16, x17, x18, x19, x20, x21, x22, x23, x24, x25, x26, x27, x28, x29, x30, x31, x32, x33, x34, x35, x36, x37, x38, x39, x40, x41, x42, x43, x44, x45, x46, x47, x48, x49, x50, x51, x52, x53, x54, x55, x56, x57, x58, x59, x60, x61, x62, x63, x64, x65, x66, x67, x68, x69, x70, x71, x72, x73, x74, x75, x76, x77, x78, x79, x80] ⟨[.cells (cfC c0 c1 c2 c3 c4 c5 c6 c7 c8 c9 c10)], []⟩)) v') → Q (loopC Try.D (cF fuel) fuel wiB n [x0, .int .i64 d, .int .i64 r, l, .ptr 0 0, x5, x6, x7, .bool false, .int .i64 0, x10, .int .i64 i, .bool v, .int .i64 k, x14, x15, x16, x17, x18, x19, x20, x21, x22, x23, x24, x25, x26, x27, x28, x29, x30, x31, x32, x33, x34, x35, x36, x37, x38, x39, x40, x41, x42, x43, x44, x45, x46, x47, x48, x49, x50, x51, x52, x53, x54, x55, x56, x57, x58, x59, x60, x61, x62, x63, x64, x65, x66, x67, x68, x69, x70, x71, x72, x73, x74, x75, x76, x77, x78, x79, x80] ⟨[.cells (cfC c0 c1 c2 c3 c4 c5 c6 c7 c8 c9 c10)], []⟩ K)
  | q, kn, 0, i, k, v, _, _, _, _, _, _, _, _, _, _, _, _, _, _, _, _, _, _, _, _, _, _, _, _, _, _, _, _, _, _, _, _, _, _, _, _, _, _, _, _, _, _, _, _, _, _, _, _, _, _, _, _, _, _, _, _, _, _, _, _, _, _, _, _, _, _, _, _, _, _, _, _, hi, hk, h, hn, hexit => by omega
  | q, kn, n + 1, i, k, v, x0, x5, x6, x7, x10, x14, x15, x16, x17, x18, x19, x20, x21, x22, x23, x24, x25, x26, x27, x28, x29, x30, x31, x32, x33, x34, x35, x36, x37, x38, x39, x40, x41, x42, x43, x44, x45, x46, x47, x48, x49, x50, x51, x52, x53, x54, x55, x56, x57, x58, x59, x60, x61, x62, x63, x64, x65, x66, x67, x68, x69, x70, x71, x72, x73, x74, x75, x76, x77, x78, x79, x80, hi, hk, h, hn, hexit => by
    subst hi; subst hk
    obtain ⟨hB, hmax, hT, -, -⟩ := sl_facts hl
    have hj := (List.getElem?_eq_some_iff.1 hu).1
    have tu := hT u (List.mem_of_getElem? hu)
    obtain ⟨g1, gm, g3, -, g5⟩ := sl_facts (pj_dtMom_9 tu)
    rw [wi_step, hB, lt_true hj, ge_true, Int.toNat_natCast, hu]
    simp only [br, Bool.and_self, fit_dtMom tu, g1, g5, resetV_self]
    match q, h, hn with
    | 0, h, hn =>
      rw [lt_false (by omega : ¬ kn < (shS Sh.any (hdV (tlV (tlV (tlV (tlV (tlV (tlV (tlV (tlV (tlV u.aggOf))))))))))).listOf.length)]
      exact hexit _ _ _ _ _ _ _ _ _ _ _ _ _ _ _ _ _ _ _ _ _ _ _ _ _ _ _ _ _ _ _ _ _ _ _ _ _ _ _ _ _ _ _ _ _ _ _ _ _ _ _ _ _ _ _ _ _ _ _ _ _ _ _ _ _ _ _ _ _ _ _ _ _ _ _ rfl (by rw [List.drop_eq_nil_of_le (by omega)]; simp)
    | q + 1, h, hn =>
      have hkn : kn < (shS Sh.any (hdV (tlV (tlV (tlV (tlV (tlV (tlV (tlV (tlV (tlV u.aggOf))))))))))).listOf.length := by omega
      obtain ⟨p, hp⟩ : ∃ p, (shS Sh.any (hdV (tlV (tlV (tlV (tlV (tlV (tlV (tlV (tlV (tlV u.aggOf))))))))))).listOf[kn]? = some p := ⟨_, List.getElem?_eq_getElem hkn⟩
      have tp := g3 p (List.mem_of_getElem? hp)
      rw [lt_true hkn]
      simp only [Bool.and_self, ge_true, Int.toNat_natCast, hp, fit_dtProc tp]
      have hdrop := nrm_drop hp
      cases v with
      | true =>
        simp only
        rw [wrap_next hkn gm]
        refine wi_loop fuel c0 c1 c2 c3 c4 c5 c6 c7 c8 c9 c10 hl d r iN hu K Q q (kn + 1) n _ _ _ _ _ _ _ _ _ _ _ _ _ _ _ _ _ _ _ _ _ _ _ _ _ _ _ _ _ _ _ _ _ _ _ _ _ _ _ _ _ _ _ _ _ _ _ _ _ _ _ _ _ _ _ _ _ _ _ _ _ _ _ _ _ _ _ _ _ _ _ _ _ _ _ rfl rfl (by omega) (by omega) ?_
        intro i k v' x0 x5 x6 x7 x10 x14 x15 x16 x17 x18 x19 x20 x21 x22 x23 x24 x25 x26 x27 x28 x29 x30 x31 x32 x33 x34 x35 x36 x37 x38 x39 x40 x41 x42 x43 x44 x45 x46 x47 x48 x49 x50 x51 x52 x53 x54 x55 x56 x57 x58 x59 x60 x61 x62 x63 x64 x65 x66 x67 x68 x69 x70 x71 x72 x73 x74 x75 x76 x77 x78 x79 x80 h1 h2
        exact hexit _ _ _ _ _ _ _ _ _ _ _ _ _ _ _ _ _ _ _ _ _ _ _ _ _ _ _ _ _ _ _ _ _ _ _ _ _ _ _ _ _ _ _ _ _ _ _ _ _ _ _ _ _ _ _ _ _ _ _ _ _ _ _ _ _ _ _ _ _ _ _ _ _ _ _ h1 (by rw [h2]; simp)
      | false =>
        simp only
        rw [wrap_next hkn gm]
        refine wi_loop fuel c0 c1 c2 c3 c4 c5 c6 c7 c8 c9 c10 hl d r iN hu K Q q (kn + 1) n _ _ _ _ _ _ _ _ _ _ _ _ _ _ _ _ _ _ _ _ _ _ _ _ _ _ _ _ _ _ _ _ _ _ _ _ _ _ _ _ _ _ _ _ _ _ _ _ _ _ _ _ _ _ _ _ _ _ _ _ _ _ _ _ _ _ _ _ _ _ _ _ _ _ _ rfl rfl (by omega) (by omega) ?_
        intro i k v' x0 x5 x6 x7 x10 x14 x15 x16 x17 x18 x19 x20 x21 x22 x23 x24 x25 x26 x27 x28 x29 x30 x31 x32 x33 x34 x35 x36 x37 x38 x39 x40 x41 x42 x43 x44 x45 x46 x47 x48 x49 x50 x51 x52 x53 x54 x55 x56 x57 x58 x59 x60 x61 x62 x63 x64 x65 x66 x67 x68 x69 x70 x71 x72 x73 x74 x75 x76 x77 x78 x79 x80 h1 h2
        exact hexit _ _ _ _ _ _ _ _ _ _ _ _ _ _ _ _ _ _ _ _ _ _ _ _ _ _ _ _ _ _ _ _ _ _ _ _ _ _ _ _ _ _ _ _ _ _ _ _ _ _ _ _ _ _ _ _ _ _ _ _ _ _ _ _ _ _ _ _ _ _ _ _ _ _ _ h1 (by rw [h2, hdrop]; simp [alP])

theorem rv_i {k : IntKind} {n : Int} {v : AV} : resetV (.int k n) v = v := rfl
theorem rv_b {b : Bool} {v : AV} : resetV (.bool b) v = v := rfl
theorem rv_p {i o : Nat} {v : AV} : resetV (.ptr i o) v = v := rfl
theorem stepK_same {R : Type} {c : CallI} {fuel k : Nat} {body : Code} {s0 s : List AV} {a a' : AObj} {K : Ex → List AV → AH → Option R} : stepK Try.D c fuel body k s0 ⟨[a], []⟩ K .normal s ⟨[a'], []⟩ = loopC Try.D c fuel body k (resetL s0 s) ⟨[a'], []⟩ K := rfl

theorem w_loop (fuel : Nat) (c0 c1 c2 c3 c4 c5 c6 c7 c8 c9 c10 : Int) {l : AV} (hc : tyV dtCfg (.agg (cfC c0 c1 c2 c3 c4 c5 c6 c7 c8 c9 c10))) (hl : tyV (.sl 14 dtMom) l) (b8 : 1 ≤ c8 ∧ c8 ≤ 1099511627776) (b9 : 0 ≤ c9 ∧ c9 ≤ 1099511627776) (hok : ∀ m ∈ mosOf l, okMo m) (hF : ∀ u ∈ l.listOf, (shS Sh.any (hdV (tlV (tlV (tlV (tlV (tlV (tlV (tlV (tlV (tlV u.aggOf))))))))))).listOf.length < fuel) {d r : Int} (bd : 0 ≤ d ∧ d ≤ 1099511627776) (br' : 0 ≤ r ∧ r ≤ 1099511627776) :
    ∀ (q jn n : Nat) (i : Int) (x0 x5 x6 x7 x10 x12 x13 x14 x15 x16 x17 x18 x19 x20 x21 x22 x23 x24 x25 x26 x27 x28 x29 x30 x31 x32 x33 x34 x35 x36 x37 x38 x39 x40 x41 x42 x43 x44 x45 x46 x47 x48 x49 x50 x51 x52 x53 x54 x55 x56 x57 x58 x59 x60 x61 x62 x63 x64 x65 x66 x67 x68 x69 x70 x71 x72 x73 x74 x75 x76 x77 x78 x79 x80 : AV), i = (jn : Int) → jn + q = l.listOf.length → q < n →
    loopC Try.D (cF fuel) fuel wgB n [x0, .int .i64 d, .int .i64 r, l, .ptr 0 0, x5, x6, x7, .bool false, .int .i64 0, x10, .int .i64 i, x12, x13, x14, x15, x16, x17, x18, x19, x20, x21, x22, x23, x24, x25, x26, x27, x28, x29, x30, x31, x32, x33, x34, x35, x36, x37, x38, x39, x40, x41, x42, x43, x44, x45, x46, x47, x48, x49, x50, x51, x52, x53, x54, x55, x56, x57, x58, x59, x60, x61, x62, x63, x64, x65, x66, x67, x68, x69, x70, x71, x72, x73, x74, x75, x76, x77, x78, x79, x80] ⟨[.cells (cfC c0 c1 c2 c3 c4 c5 c6 c7 c8 c9 c10)], []⟩ (kontI Try.D (cF fuel) fuel (bodyOf Try.f18) [1, 1, 0, 1, 0] (endI Try.D Try.f18 fun v _ => some v)) = some (.tuple [.bool (gonH c8 c9 d r (mosOf l) q jn), .int .i64 0])
  | q, jn, 0, i, _, _, _, _, _, _, _, _, _, _, _, _, _, _, _, _, _, _, _, _, _, _, _, _, _, _, _, _, _, _, _, _, _, _, _, _, _, _, _, _, _, _, _, _, _, _, _, _, _, _, _, _, _, _, _, _, _, _, _, _, _, _, _, _, _, _, _, _, _, _, _, _, _, _, hi, h, hn => by omega
  | 0, jn, n + 1, i, x0, x5, x6, x7, x10, x12, x13, x14, x15, x16, x17, x18, x19, x20, x21, x22, x23, x24, x25, x26, x27, x28, x29, x30, x31, x32, x33, x34, x35, x36, x37, x38, x39, x40, x41, x42, x43, x44, x45, x46, x47, x48, x49, x50, x51, x52, x53, x54, x55, x56, x57, x58, x59, x60, x61, x62, x63, x64, x65, x66, x67, x68, x69, x70, x71, x72, x73, x74, x75, x76, x77, x78, x79, x80, hi, h, hn => by
    subst hi
    rw [w_step, (sl_facts hl).1, lt_false (by omega : ¬ jn < l.listOf.length)]
    simp only [br, resetV_self]
    exact w_end fuel _ _ _ _ _ _ _ _ _ _ _ _ _ _ _ _ _ _ _ _ _ _ _ _ _ _ _ _ _ _ _ _ _ _ _ _ _ _ _ _ _ _ _ _ _ _ _ _ _ _ _ _ _ _ _ _ _ _ _ _ _ _ _ _ _ _ _ _ _ _ _ _ _ _ _ _ _ _ _ _ _ _
  | q + 1, jn, n + 1, i, x0, x5, x6, x7, x10, x12, x13, x14, x15, x16, x17, x18, x19, x20, x21, x22, x23, x24, x25, x26, x27, x28, x29, x30, x31, x32, x33, x34, x35, x36, x37, x38, x39, x40, x41, x42, x43, x44, x45, x46, x47, x48, x49, x50, x51, x52, x53, x54, x55, x56, x57, x58, x59, x60, x61, x62, x63, x64, x65, x66, x67, x68, x69, x70, x71, x72, x73, x74, x75, x76, x77, x78, x79, x80, hi, h, hn => by
    subst hi
    obtain ⟨hB, hmax, hT, -, -⟩ := sl_facts hl
    have hj : jn < l.listOf.length := by omega
    have hv := fun H => valH_of (k35 hc hl b8 hok (d := d) (r := r) (wf64 (by omega) (by omega)) (wf64 (by omega) (by omega)) hj H)
    obtain ⟨u, hu⟩ : ∃ u, l.listOf[jn]? = some u := ⟨_, List.getElem?_eq_getElem hj⟩
    have hmem := List.mem_of_getElem? hu
    have tu := hT u hmem
    have ha := atM_of hu
    rw [w_step, hB, lt_true hj]
    simp only [br]
    rw [hv]
    simp only [ftB, bool_b, gonH]
    cases holdsE c8 d r (mosOf l) jn with
    | false =>
      simp only [Bool.false_eq_true, if_false, resetV_self]
      exact w_end fuel _ _ _ _ _ _ _ _ _ _ _ _ _ _ _ _ _ _ _ _ _ _ _ _ _ _ _ _ _ _ _ _ _ _ _ _ _ _ _ _ _ _ _ _ _ _ _ _ _ _ _ _ _ _ _ _ _ _ _ _ _ _ _ _ _ _ _ _ _ _ _ _ _ _ _ _ _ _ _ _ _ _
    | true =>
      simp only [if_true]
      refine wi_loop fuel c0 c1 c2 c3 c4 c5 c6 c7 c8 c9 c10 hl d r jn hu _ (fun o => o = _) (shS Sh.any (hdV (tlV (tlV (tlV (tlV (tlV (tlV (tlV (tlV (tlV u.aggOf))))))))))).listOf.length 0 fuel _ _ _ _ _ _ _ _ _ _ _ _ _ _ _ _ _ _ _ _ _ _ _ _ _ _ _ _ _ _ _ _ _ _ _ _ _ _ _ _ _ _ _ _ _ _ _ _ _ _ _ _ _ _ _ _ _ _ _ _ _ _ _ _ _ _ _ _ _ _ _ _ _ _ _ rfl rfl (by omega) (hF u hmem) ?_
      intro i k v' x0 x5 x6 x7 x10 x14 x15 x16 x17 x18 x19 x20 x21 x22 x23 x24 x25 x26 x27 x28 x29 x30 x31 x32 x33 x34 x35 x36 x37 x38 x39 x40 x41 x42 x43 x44 x45 x46 x47 x48 x49 x50 x51 x52 x53 x54 x55 x56 x57 x58 x59 x60 x61 x62 x63 x64 x65 x66 x67 x68 x69 x70 x71 x72 x73 x74 x75 x76 x77 x78 x79 x80 hi' hv'
      subst hi'
      have hal : v' = (moOf u).al := by rw [hv', List.drop_zero]; rfl
      rw [← ha] at hal
      obtain ⟨o1, o2, o3⟩ := hok (moOf u) (List.mem_map_of_mem hmem)
      have hE : untilE c8 (moOf u).ac = endE c8 (moOf u) := by
        unfold untilE endE
        split
        · rfl
        · exact wrapN (by omega) (by omega)
      have hbE : -1 ≤ endE c8 (moOf u) ∧ endE c8 (moOf u) ≤ 2199023255552 := by unfold endE; split <;> omega
      have hk : ∀ H, valH Try.D 32 [.agg (cfC c0 c1 c2 c3 c4 c5 c6 c7 c8 c9 c10), u] H = some (.int .i64 (endE c8 (moOf u))) := fun H => by rw [← hE]; exact valH_of (un32 hc tu H)
      obtain ⟨x, hx, hs, hnn⟩ := val_num hk
      dsimp only
      rw [w_post, hB, lt_true hj, ge_true, Int.toNat_natCast, hu, ← hal, ha]
      cases v' with
      | false =>
        simp only [br, Bool.false_and, Bool.false_eq_true, if_false]
        rw [stepK_same, wrap_next hj hmax]
        simp only [resetL, rv_i, rv_b, rv_p, resetV_self]
        exact w_loop fuel c0 c1 c2 c3 c4 c5 c6 c7 c8 c9 c10 hc hl b8 b9 hok hF bd br' q (jn + 1) n _ _ _ _ _ _ _ _ _ _ _ _ _ _ _ _ _ _ _ _ _ _ _ _ _ _ _ _ _ _ _ _ _ _ _ _ _ _ _ _ _ _ _ _ _ _ _ _ _ _ _ _ _ _ _ _ _ _ _ _ _ _ _ _ _ _ _ _ _ _ _ _ _ _ _ rfl (by omega) (by omega)
      | true =>
        simp only [br, Bool.and_self, fit_dtMom tu, eta_dtMom tu]
        rw [hx]
        simp only [hs, Bool.true_and]
        generalize x.numOf = e at hnn ⊢
        obtain rfl := hnn.symm
        rw [wrapN (n := endE c8 (moOf u) + c9) (by omega) (by omega), wrapN (n := endE c8 (moOf u) + c9 + d) (by omega) (by omega), wrapN (n := endE c8 (moOf u) + c9 + d + r) (by omega) (by omega), wrapN (n := endE c8 (moOf u) + c9 + d + r + 1) (by omega) (by omega)]
        by_cases hw : (moOf u).now > endE c8 (moOf u) + c9 + d + r + 1
        · rw [dec_yes (show (hdV u.aggOf).numOf > _ from hw), decide_eq_true hw]
          simp only [if_true]
          rw [stepK_r]
          exact w_ret fuel _ _ _ _ _ _ _ _ _ _ _ _ _ _ _ _ _ _ _ _ _ _ _ _ _ _ _ _ _ _ _ _ _ _ _ _ _ _ _ _ _ _ _ _ _ _ _ _ _ _ _ _ _ _ _ _ _ _ _ _ _ _ _ _ _ _ _ _ _ _ _ _ _ _ _ _ _ _ _ _ _ _
        · rw [dec_no (show ¬ (hdV u.aggOf).numOf > _ from hw), decide_eq_false hw]
          simp only [Bool.false_eq_true, if_false]
          rw [stepK_same, wrap_next hj hmax]
          simp only [resetL, rv_i, rv_b, rv_p, resetV_self]
          exact w_loop fuel c0 c1 c2 c3 c4 c5 c6 c7 c8 c9 c10 hc hl b8 b9 hok hF bd br' q (jn + 1) n _ _ _ _ _ _ _ _ _ _ _ _ _ _ _ _ _ _ _ _ _ _ _ _ _ _ _ _ _ _ _ _ _ _ _ _ _ _ _ _ _ _ _ _ _ _ _ _ _ _ _ _ _ _ _ _ _ _ _ _ _ _ _ _ _ _ _ _ _ _ _ _ _ _ _ rfl (by omega) (by omega)

theorem run18 {c0 c1 c2 c3 c4 c5 c6 c7 c8 c9 c10 : Int} {l : AV} {d r : Int} (hc : tyV dtCfg (.agg (cfC c0 c1 c2 c3 c4 c5 c6 c7 c8 c9 c10))) (hl : tyV (.sl 14 dtMom) l) (hd : (Lit.int .i64 d).wf = true) (hr : (Lit.int .i64 r).wf = true) : runI Try.D (cF (fuelF l)) (fuelF l) Try.f18 [.agg (cfC c0 c1 c2 c3 c4 c5 c6 c7 c8 c9 c10), .int .i64 d, .int .i64 r, l] ⟨[], []⟩ (fun v _ => some v) = some (.tuple [.bool (gonB c0 c1 c2 c3 c4 c5 c6 c7 c8 c9 c10 l d r), .int .i64 (numE c0 c1 c2 c3 c4 c5 c6 c7 c8 c9 c10 l d r)]) := by
  have hk := fun H => valH_of (k34 c0 c1 c2 c3 c4 c5 c6 c7 c8 c9 c10 hc hl hd hr H)
  rw [w_pre, hk]
  unfold gonB
  simp only [ftI, num_i, br]
  by_cases h : numE c0 c1 c2 c3 c4 c5 c6 c7 c8 c9 c10 l d r = 0
  · obtain ⟨h1, h2, h3, h4, h5⟩ := num0 h
    rw [if_pos h, h]
    simp only [bne_self_eq_false]
    have hok := ordE_ok (mosOf l) 0 (by omega) h3
    have hlen : (mosOf l).length = l.listOf.length := by unfold mosOf; rw [List.length_map]
    have := gone_all (le := c8) (g := c9) (d := d) (r := r) (L := mosOf l) l.listOf.length 0 0 0 true (by omega) trivial
    rw [List.drop_zero, show decide ((0 : Nat) = 0) = true from rfl] at this
    rw [this]
    exact w_loop (fuelF l) c0 c1 c2 c3 c4 c5 c6 c7 c8 c9 c10 hc hl ⟨h1.2.2.2.2.2.2.2.2.1.1, h1.2.2.2.2.2.2.2.2.1.2⟩ ⟨h1.2.2.2.2.2.2.2.2.2.1.1, h1.2.2.2.2.2.2.2.2.2.1.2⟩ hok (fun u hu => fuelF_p hu) h4 h5 l.listOf.length 0 (fuelF l) 0 _ _ _ _ _ _ _ _ _ _ _ _ _ _ _ _ _ _ _ _ _ _ _ _ _ _ _ _ _ _ _ _ _ _ _ _ _ _ _ _ _ _ _ _ _ _ _ _ _ _ _ _ _ _ _ _ _ _ _ _ _ _ _ _ _ _ _ _ _ _ _ _ _ _ rfl (by omega) (by unfold fuelF; omega)
  · rw [if_neg h]
    have : (numE c0 c1 c2 c3 c4 c5 c6 c7 c8 c9 c10 l d r != 0) = true := by rw [bne_iff_ne]; exact h
    rw [this]
theorem k18 {c0 c1 c2 c3 c4 c5 c6 c7 c8 c9 c10 : Int} {l : AV} {d r : Int} (hc : tyV dtCfg (.agg (cfC c0 c1 c2 c3 c4 c5 c6 c7 c8 c9 c10))) (hl : tyV (.sl 14 dtMom) l) (hd : (Lit.int .i64 d).wf = true) (hr : (Lit.int .i64 r).wf = true) (H : AH) : callL Try.D 18 [.agg (cfC c0 c1 c2 c3 c4 c5 c6 c7 c8 c9 c10), .int .i64 d, .int .i64 r, l] H = some (.tuple [.bool (gonB c0 c1 c2 c3 c4 c5 c6 c7 c8 c9 c10 l d r), .int .i64 (numE c0 c1 c2 c3 c4 c5 c6 c7 c8 c9 c10 l d r)], H) := by
  have he : gonB c0 c1 c2 c3 c4 c5 c6 c7 c8 c9 c10 (erase l) d r = gonB c0 c1 c2 c3 c4 c5 c6 c7 c8 c9 c10 l d r := by unfold gonB; rw [numE_erase hl, mosOf_erase hl]
  rw [← he, ← numE_erase hl]
  exact callL_D tabF_ok (fuel := fuelF (erase l)) (n := 6) (fn := Try.f18) (ds := [dtCfg, dtI, dtI, .sl 14 dtMom]) (v := .tuple [.bool (gonB c0 c1 c2 c3 c4 c5 c6 c7 c8 c9 c10 (erase l) d r), .int .i64 (numE c0 c1 c2 c3 c4 c5 c6 c7 c8 c9 c10 (erase l) d r)]) (by kernel_rfl) (by kernel_rfl) (by kernel_rfl) ⟨hc, ty_i hd, ty_i hr, hl, trivial⟩ (run18 hc (tyV_erase hl) hd hr) rfl
end Go.Proofs.Ytoagnbpmoihojaa

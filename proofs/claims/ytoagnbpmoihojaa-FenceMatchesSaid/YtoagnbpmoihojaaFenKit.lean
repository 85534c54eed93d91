/- Copies and equality of lists. -/
import Derived.Test.YtoagnbpmoihojaaFenShort
import Derived.Test.YtoagnbpmoihojaaEk
set_option maxRecDepth 100000
set_option linter.unusedSimpArgs false
set_option linter.unusedVariables false
namespace Go.Proofs.Ytoagnbpmoihojaa
open Go.Sx

def bzF (n : Nat) : Nat := match n with | 1 => 8 | 6 => 48 | 8 => 80 | 9 => 56 | 10 => 128 | 14 => 176 | 15 => 152 | _ => 0

theorem pre14 {R : Type} (fuel : Nat) (a b : AV) (K : AV → AH → Option R) : runI Try.D (cF fuel) fuel Try.f14 [a, b] ⟨[], []⟩ K = br (AV.listN 1 a) (fun _ => br (AV.listN 1 b) (fun _ => br ((↑a.listOf.length : Int) != (↑b.listOf.length : Int)) (fun _ => K (.bool false) ⟨[], []⟩) (fun _ => loopF Try.D (cF fuel) fuel Try.f14 [1, 1, 0, 1, 0] fuel [a, b, .top, .top, .bool false, .int .i64 (0 : Int), a, .int .i64 (↑a.listOf.length : Int), b, .int .i64 (↑b.listOf.length : Int), .bool ((↑a.listOf.length : Int) != (↑b.listOf.length : Int)), .top, .top, .top, .top, .top, .top, .top, .top, .top, .top, .top, .top, .top, .top, .top] ⟨[], []⟩ K)) (fun _ => none)) (fun _ => none) := by kernel_rfl
theorem step14 {R : Type} (fuel k : Nat) (a b : AV) (i : Int) (x2 x3 x6 x7 x8 x9 x10 x11 x12 x13 x14 x15 x16 x17 x18 x19 x20 x21 x22 x23 x24 x25 : AV) (K : AV → AH → Option R) : loopF Try.D (cF fuel) fuel Try.f14 [1, 1, 0, 1, 0] (k + 1) [a, b, x2, x3, .bool false, .int .i64 i, x6, x7, x8, x9, x10, x11, x12, x13, x14, x15, x16, x17, x18, x19, x20, x21, x22, x23, x24, x25] ⟨[], []⟩ K = br (AV.listN 1 a) (fun _ => br (decide (i < (↑a.listOf.length : Int))) (fun _ => br (AV.listN 1 a && (decide ((0 : Int) ≤ i) && decide (i < (↑a.listOf.length : Int)))) (fun _ => (match a.listOf[i.toNat]? with | some u3 => br (fitS (.int .i64) u3) (fun _ => br (AV.listN 1 b && (decide ((0 : Int) ≤ i) && decide (i < (↑b.listOf.length : Int)))) (fun _ => (match b.listOf[i.toNat]? with | some u6 => br (fitS (.int .i64) u6) (fun _ => br (u3.numOf != u6.numOf) (fun _ => K (.bool false) ⟨[], []⟩) (fun _ => loopF Try.D (cF fuel) fuel Try.f14 [1, 1, 0, 1, 0] k [resetV a a, resetV b b, resetV x2 x2, resetV x3 x3, .bool false, .int .i64 (IntKind.i64.wrap (i + (1 : Int))), resetV x6 x6, resetV x7 x7, resetV x8 x8, resetV x9 x9, resetV x10 x10, resetV x11 (.int .i64 i), resetV x12 a, resetV x13 (.int .i64 (↑a.listOf.length : Int)), resetV x14 (.bool (decide (i < (↑a.listOf.length : Int)))), resetV x15 (.int .i64 i), resetV x16 (.int .i64 (IntKind.i64.wrap (i + (1 : Int)))), resetV x17 a, resetV x18 (.int .i64 i), resetV x19 (AV.int .i64 u3.numOf).rop, resetV x20 (.int .i64 u3.numOf), resetV x21 b, resetV x22 (.int .i64 i), resetV x23 (AV.int .i64 u6.numOf).rop, resetV x24 (.int .i64 u6.numOf), resetV x25 (.bool (u3.numOf != u6.numOf))] ⟨[], []⟩ K)) (fun _ => none) | none => none)) (fun _ => none)) (fun _ => none) | none => none)) (fun _ => none)) (fun _ => K (.bool true) ⟨[], []⟩)) (fun _ => none) := by kernel_rfl
theorem loop14 {R : Type} (fuel : Nat) {a b : AV} (ha : tyV (.sl 1 dtI) a) (hb : tyV (.sl 1 dtI) b) (hs : nrm a = nrm b) (K : AV → AH → Option R) : ∀ (r i k : Nat) (x2 x3 x6 x7 x8 x9 x10 x11 x12 x13 x14 x15 x16 x17 x18 x19 x20 x21 x22 x23 x24 x25 : AV), i + r = a.listOf.length → r < k →
    loopF Try.D (cF fuel) fuel Try.f14 [1, 1, 0, 1, 0] k [a, b, x2, x3, .bool false, .int .i64 (i : Int), x6, x7, x8, x9, x10, x11, x12, x13, x14, x15, x16, x17, x18, x19, x20, x21, x22, x23, x24, x25] ⟨[], []⟩ K = K (.bool true) ⟨[], []⟩
  | r, i, 0, _, _, _, _, _, _, _, _, _, _, _, _, _, _, _, _, _, _, _, _, _, _, h, hk => by omega
  | 0, i, k + 1, x2, x3, x6, x7, x8, x9, x10, x11, x12, x13, x14, x15, x16, x17, x18, x19, x20, x21, x22, x23, x24, x25, h, hk => by
    rw [step14, (sl_facts ha).1, lt_false (by omega : ¬ i < a.listOf.length)]
    rfl
  | r + 1, i, k + 1, x2, x3, x6, x7, x8, x9, x10, x11, x12, x13, x14, x15, x16, x17, x18, x19, x20, x21, x22, x23, x24, x25, h, hk => by
    obtain ⟨hA, hmax, hT, -, -⟩ := sl_facts ha
    obtain ⟨hB, -, hU, -, -⟩ := sl_facts hb
    obtain ⟨hlen, hget⟩ := nrmL_get (list_same ha hb hs)
    have hi : i < a.listOf.length := by omega
    have hj : i < b.listOf.length := by omega
    obtain ⟨u, hu⟩ : ∃ u, a.listOf[i]? = some u := ⟨_, List.getElem?_eq_getElem hi⟩
    obtain ⟨w, hw⟩ : ∃ w, b.listOf[i]? = some w := ⟨_, List.getElem?_eq_getElem hj⟩
    have tu := hT u (List.mem_of_getElem? hu)
    have tw := hU w (List.mem_of_getElem? hw)
    have huw := hget i u w hu hw
    rw [flatV rfl tu, flatV rfl tw] at huw
    subst huw
    rw [step14, hA, hB, lt_true hi, lt_true hj, ge_true, Int.toNat_natCast, hu, hw]
    simp only [br, Bool.and_self, fit_dtI tu, fit_dtI tw]
    simp only [bne_self_eq_false, beq_self_eq_true, Bool.and_self, Bool.not_true]
    rw [wrap_next hi hmax]
    try simp only [resetV_self]
    exact loop14 fuel ha hb hs K r (i + 1) k _ _ _ _ _ _ _ _ _ _ _ _ _ _ _ _ _ _ _ _ _ _ (by omega) (by omega)

theorem eq14 {a b : AV} (ha : tyV (.sl 1 dtI) a) (hb : tyV (.sl 1 dtI) b) (hs : nrm a = nrm b) (H : AH) : callL Try.D 14 [a, b] H = some (.bool true, H) := by
  refine callL_D (tabF_ok) (fuel := (erase a).listOf.length + 1) (n := 6) (fn := Try.f14) (ds := [.sl 1 dtI, .sl 1 dtI]) (v := .bool true) (by kernel_rfl) (by kernel_rfl) (by kernel_rfl) ⟨ha, hb, trivial⟩ ?_ rfl
  have ha' := tyV_erase ha
  have hb' := tyV_erase hb
  have hs' : nrm (erase a) = nrm (erase b) := by rw [tyV_nrm ha, tyV_nrm hb]; exact hs
  show runI Try.D (cF ((erase a).listOf.length + 1)) ((erase a).listOf.length + 1) Try.f14 [erase a, erase b] ⟨[], []⟩ (fun v _ => some v) = _
  generalize erase a = a at ha' hs' ⊢
  generalize erase b = b at hb' hs' ⊢
  have hlen := (nrmL_get (list_same ha' hb' hs')).1
  rw [pre14, (sl_facts ha').1, (sl_facts hb').1, ← hlen]
  simp only [br, bne_self_eq_false]
  try simp only [resetV_self]
  exact loop14 _ ha' hb' hs' _ a.listOf.length 0 _ _ _ _ _ _ _ _ _ _ _ _ _ _ _ _ _ _ _ _ _ _ _ (by omega) (by omega)
theorem pre72 {R : Type} (fuel : Nat) (a b : AV) (K : AV → AH → Option R) : runI Try.D (cF fuel) fuel Try.f72 [a, b] ⟨[], []⟩ K = br (AV.listN 6 a) (fun _ => br (AV.listN 6 b) (fun _ => br ((↑a.listOf.length : Int) != (↑b.listOf.length : Int)) (fun _ => K (.bool false) ⟨[], []⟩) (fun _ => loopF Try.D (cF fuel) fuel Try.f72 [1, 1, 0, 1, 0] fuel [a, b, .top, .top, .bool false, .int .i64 (0 : Int), a, .int .i64 (↑a.listOf.length : Int), b, .int .i64 (↑b.listOf.length : Int), .bool ((↑a.listOf.length : Int) != (↑b.listOf.length : Int)), .top, .top, .top, .top, .top, .top, .top, .top, .top, .top, .top, .top, .top, .top, .top] ⟨[], []⟩ K)) (fun _ => none)) (fun _ => none) := by kernel_rfl
theorem step72 {R : Type} (fuel k : Nat) (a b : AV) (i : Int) (x2 x3 x6 x7 x8 x9 x10 x11 x12 x13 x14 x15 x16 x17 x18 x19 x20 x21 x22 x23 x24 x25 : AV) (K : AV → AH → Option R) : loopF Try.D (cF fuel) fuel Try.f72 [1, 1, 0, 1, 0] (k + 1) [a, b, x2, x3, .bool false, .int .i64 i, x6, x7, x8, x9, x10, x11, x12, x13, x14, x15, x16, x17, x18, x19, x20, x21, x22, x23, x24, x25] ⟨[], []⟩ K = br (AV.listN 6 a) (fun _ => br (decide (i < (↑a.listOf.length : Int))) (fun _ => br (AV.listN 6 a && (decide ((0 : Int) ≤ i) && decide (i < (↑a.listOf.length : Int)))) (fun _ => (match a.listOf[i.toNat]? with | some u3 => br (u3.isAgg && fitL [.bool, .int .i64, .int .i64, .int .i64, .int .i64, .int .i64] u3.aggOf) (fun _ => br (AV.listN 6 b && (decide ((0 : Int) ≤ i) && decide (i < (↑b.listOf.length : Int)))) (fun _ => (match b.listOf[i.toNat]? with | some u6 => br (u6.isAgg && fitL [.bool, .int .i64, .int .i64, .int .i64, .int .i64, .int .i64] u6.aggOf) (fun _ => br (!((hdV u3.aggOf).boolOf == (hdV u6.aggOf).boolOf && ((hdV (tlV u3.aggOf)).numOf == (hdV (tlV u6.aggOf)).numOf && ((hdV (tlV (tlV u3.aggOf))).numOf == (hdV (tlV (tlV u6.aggOf))).numOf && ((hdV (tlV (tlV (tlV u3.aggOf)))).numOf == (hdV (tlV (tlV (tlV u6.aggOf)))).numOf && ((hdV (tlV (tlV (tlV (tlV u3.aggOf))))).numOf == (hdV (tlV (tlV (tlV (tlV u6.aggOf))))).numOf && true)))) && ((hdV (tlV (tlV (tlV (tlV (tlV u3.aggOf)))))).numOf == (hdV (tlV (tlV (tlV (tlV (tlV u6.aggOf)))))).numOf && true))) (fun _ => K (.bool false) ⟨[], []⟩) (fun _ => loopF Try.D (cF fuel) fuel Try.f72 [1, 1, 0, 1, 0] k [resetV a a, resetV b b, resetV x2 x2, resetV x3 x3, .bool false, .int .i64 (IntKind.i64.wrap (i + (1 : Int))), resetV x6 x6, resetV x7 x7, resetV x8 x8, resetV x9 x9, resetV x10 x10, resetV x11 (.int .i64 i), resetV x12 a, resetV x13 (.int .i64 (↑a.listOf.length : Int)), resetV x14 (.bool (decide (i < (↑a.listOf.length : Int)))), resetV x15 (.int .i64 i), resetV x16 (.int .i64 (IntKind.i64.wrap (i + (1 : Int)))), resetV x17 a, resetV x18 (.int .i64 i), resetV x19 (AV.agg (shL [.bool, .int .i64, .int .i64, .int .i64, .int .i64, .int .i64] u3.aggOf)).rop, resetV x20 (.agg (shL [.bool, .int .i64, .int .i64, .int .i64, .int .i64, .int .i64] u3.aggOf)), resetV x21 b, resetV x22 (.int .i64 i), resetV x23 (AV.agg (shL [.bool, .int .i64, .int .i64, .int .i64, .int .i64, .int .i64] u6.aggOf)).rop, resetV x24 (.agg (shL [.bool, .int .i64, .int .i64, .int .i64, .int .i64, .int .i64] u6.aggOf)), resetV x25 (.bool !((hdV u3.aggOf).boolOf == (hdV u6.aggOf).boolOf && ((hdV (tlV u3.aggOf)).numOf == (hdV (tlV u6.aggOf)).numOf && ((hdV (tlV (tlV u3.aggOf))).numOf == (hdV (tlV (tlV u6.aggOf))).numOf && ((hdV (tlV (tlV (tlV u3.aggOf)))).numOf == (hdV (tlV (tlV (tlV u6.aggOf)))).numOf && ((hdV (tlV (tlV (tlV (tlV u3.aggOf))))).numOf == (hdV (tlV (tlV (tlV (tlV u6.aggOf))))).numOf && true)))) && ((hdV (tlV (tlV (tlV (tlV (tlV u3.aggOf)))))).numOf == (hdV (tlV (tlV (tlV (tlV (tlV u6.aggOf)))))).numOf && true)))] ⟨[], []⟩ K)) (fun _ => none) | none => none)) (fun _ => none)) (fun _ => none) | none => none)) (fun _ => none)) (fun _ => K (.bool true) ⟨[], []⟩)) (fun _ => none) := by kernel_rfl
theorem loop72 {R : Type} (fuel : Nat) {a b : AV} (ha : tyV (.sl 6 dtTS) a) (hb : tyV (.sl 6 dtTS) b) (hs : nrm a = nrm b) (K : AV → AH → Option R) : ∀ (r i k : Nat) (x2 x3 x6 x7 x8 x9 x10 x11 x12 x13 x14 x15 x16 x17 x18 x19 x20 x21 x22 x23 x24 x25 : AV), i + r = a.listOf.length → r < k →
    loopF Try.D (cF fuel) fuel Try.f72 [1, 1, 0, 1, 0] k [a, b, x2, x3, .bool false, .int .i64 (i : Int), x6, x7, x8, x9, x10, x11, x12, x13, x14, x15, x16, x17, x18, x19, x20, x21, x22, x23, x24, x25] ⟨[], []⟩ K = K (.bool true) ⟨[], []⟩
  | r, i, 0, _, _, _, _, _, _, _, _, _, _, _, _, _, _, _, _, _, _, _, _, _, _, h, hk => by omega
  | 0, i, k + 1, x2, x3, x6, x7, x8, x9, x10, x11, x12, x13, x14, x15, x16, x17, x18, x19, x20, x21, x22, x23, x24, x25, h, hk => by
    rw [step72, (sl_facts ha).1, lt_false (by omega : ¬ i < a.listOf.length)]
    rfl
  | r + 1, i, k + 1, x2, x3, x6, x7, x8, x9, x10, x11, x12, x13, x14, x15, x16, x17, x18, x19, x20, x21, x22, x23, x24, x25, h, hk => by
    obtain ⟨hA, hmax, hT, -, -⟩ := sl_facts ha
    obtain ⟨hB, -, hU, -, -⟩ := sl_facts hb
    obtain ⟨hlen, hget⟩ := nrmL_get (list_same ha hb hs)
    have hi : i < a.listOf.length := by omega
    have hj : i < b.listOf.length := by omega
    obtain ⟨u, hu⟩ : ∃ u, a.listOf[i]? = some u := ⟨_, List.getElem?_eq_getElem hi⟩
    obtain ⟨w, hw⟩ : ∃ w, b.listOf[i]? = some w := ⟨_, List.getElem?_eq_getElem hj⟩
    have tu := hT u (List.mem_of_getElem? hu)
    have tw := hU w (List.mem_of_getElem? hw)
    have huw := hget i u w hu hw
    rw [flatV rfl tu, flatV rfl tw] at huw
    subst huw
    rw [step72, hA, hB, lt_true hi, lt_true hj, ge_true, Int.toNat_natCast, hu, hw]
    simp only [br, Bool.and_self, fit_dtTS tu, fit_dtTS tw]
    simp only [bne_self_eq_false, beq_self_eq_true, Bool.and_self, Bool.not_true]
    rw [wrap_next hi hmax]
    try simp only [resetV_self]
    exact loop72 fuel ha hb hs K r (i + 1) k _ _ _ _ _ _ _ _ _ _ _ _ _ _ _ _ _ _ _ _ _ _ (by omega) (by omega)

theorem eq72 {a b : AV} (ha : tyV (.sl 6 dtTS) a) (hb : tyV (.sl 6 dtTS) b) (hs : nrm a = nrm b) (H : AH) : callL Try.D 72 [a, b] H = some (.bool true, H) := by
  refine callL_D (tabF_ok) (fuel := (erase a).listOf.length + 1) (n := 6) (fn := Try.f72) (ds := [.sl 6 dtTS, .sl 6 dtTS]) (v := .bool true) (by kernel_rfl) (by kernel_rfl) (by kernel_rfl) ⟨ha, hb, trivial⟩ ?_ rfl
  have ha' := tyV_erase ha
  have hb' := tyV_erase hb
  have hs' : nrm (erase a) = nrm (erase b) := by rw [tyV_nrm ha, tyV_nrm hb]; exact hs
  show runI Try.D (cF ((erase a).listOf.length + 1)) ((erase a).listOf.length + 1) Try.f72 [erase a, erase b] ⟨[], []⟩ (fun v _ => some v) = _
  generalize erase a = a at ha' hs' ⊢
  generalize erase b = b at hb' hs' ⊢
  have hlen := (nrmL_get (list_same ha' hb' hs')).1
  rw [pre72, (sl_facts ha').1, (sl_facts hb').1, ← hlen]
  simp only [br, bne_self_eq_false]
  try simp only [resetV_self]
  exact loop72 _ ha' hb' hs' _ a.listOf.length 0 _ _ _ _ _ _ _ _ _ _ _ _ _ _ _ _ _ _ _ _ _ _ _ (by omega) (by omega)
theorem pre45 {R : Type} (fuel : Nat) (a b : AV) (K : AV → AH → Option R) : runI Try.D (cF fuel) fuel Try.f45 [a, b] ⟨[], []⟩ K = br (AV.listN 9 a) (fun _ => br (AV.listN 9 b) (fun _ => br ((↑a.listOf.length : Int) != (↑b.listOf.length : Int)) (fun _ => K (.bool false) ⟨[], []⟩) (fun _ => loopF Try.D (cF fuel) fuel Try.f45 [1, 1, 0, 1, 0] fuel [a, b, .top, .top, .bool false, .int .i64 (0 : Int), a, .int .i64 (↑a.listOf.length : Int), b, .int .i64 (↑b.listOf.length : Int), .bool ((↑a.listOf.length : Int) != (↑b.listOf.length : Int)), .top, .top, .top, .top, .top, .top, .top, .top, .top, .top, .top, .top, .top, .top, .top] ⟨[], []⟩ K)) (fun _ => none)) (fun _ => none) := by kernel_rfl
theorem step45 {R : Type} (fuel k : Nat) (a b : AV) (i : Int) (x2 x3 x6 x7 x8 x9 x10 x11 x12 x13 x14 x15 x16 x17 x18 x19 x20 x21 x22 x23 x24 x25 : AV) (K : AV → AH → Option R) : loopF Try.D (cF fuel) fuel Try.f45 [1, 1, 0, 1, 0] (k + 1) [a, b, x2, x3, .bool false, .int .i64 i, x6, x7, x8, x9, x10, x11, x12, x13, x14, x15, x16, x17, x18, x19, x20, x21, x22, x23, x24, x25] ⟨[], []⟩ K = br (AV.listN 9 a) (fun _ => br (decide (i < (↑a.listOf.length : Int))) (fun _ => br (AV.listN 9 a && (decide ((0 : Int) ≤ i) && decide (i < (↑a.listOf.length : Int)))) (fun _ => (match a.listOf[i.toNat]? with | some u3 => br (u3.isAgg && fitL [.int .i64, .int .i64, .int .i64, .int .i64, .int .i64, .bool, .bool, .bool, .int .i64] u3.aggOf) (fun _ => br (AV.listN 9 b && (decide ((0 : Int) ≤ i) && decide (i < (↑b.listOf.length : Int)))) (fun _ => (match b.listOf[i.toNat]? with | some u6 => br (u6.isAgg && fitL [.int .i64, .int .i64, .int .i64, .int .i64, .int .i64, .bool, .bool, .bool, .int .i64] u6.aggOf) (fun _ => br (!((hdV u3.aggOf).numOf == (hdV u6.aggOf).numOf && ((hdV (tlV u3.aggOf)).numOf == (hdV (tlV u6.aggOf)).numOf && ((hdV (tlV (tlV u3.aggOf))).numOf == (hdV (tlV (tlV u6.aggOf))).numOf && ((hdV (tlV (tlV (tlV u3.aggOf)))).numOf == (hdV (tlV (tlV (tlV u6.aggOf)))).numOf && ((hdV (tlV (tlV (tlV (tlV u3.aggOf))))).numOf == (hdV (tlV (tlV (tlV (tlV u6.aggOf))))).numOf && true)) && ((hdV (tlV (tlV (tlV (tlV (tlV u3.aggOf)))))).boolOf == (hdV (tlV (tlV (tlV (tlV (tlV u6.aggOf)))))).boolOf && ((hdV (tlV (tlV (tlV (tlV (tlV (tlV u3.aggOf))))))).boolOf == (hdV (tlV (tlV (tlV (tlV (tlV (tlV u6.aggOf))))))).boolOf && ((hdV (tlV (tlV (tlV (tlV (tlV (tlV (tlV u3.aggOf)))))))).boolOf == (hdV (tlV (tlV (tlV (tlV (tlV (tlV (tlV u6.aggOf)))))))).boolOf && ((hdV (tlV (tlV (tlV (tlV (tlV (tlV (tlV (tlV u3.aggOf))))))))).numOf == (hdV (tlV (tlV (tlV (tlV (tlV (tlV (tlV (tlV u6.aggOf))))))))).numOf && true)))))))) (fun _ => K (.bool false) ⟨[], []⟩) (fun _ => loopF Try.D (cF fuel) fuel Try.f45 [1, 1, 0, 1, 0] k [resetV a a, resetV b b, resetV x2 x2, resetV x3 x3, .bool false, .int .i64 (IntKind.i64.wrap (i + (1 : Int))), resetV x6 x6, resetV x7 x7, resetV x8 x8, resetV x9 x9, resetV x10 x10, resetV x11 (.int .i64 i), resetV x12 a, resetV x13 (.int .i64 (↑a.listOf.length : Int)), resetV x14 (.bool (decide (i < (↑a.listOf.length : Int)))), resetV x15 (.int .i64 i), resetV x16 (.int .i64 (IntKind.i64.wrap (i + (1 : Int)))), resetV x17 a, resetV x18 (.int .i64 i), resetV x19 (AV.agg (shL [.int .i64, .int .i64, .int .i64, .int .i64, .int .i64, .bool, .bool, .bool, .int .i64] u3.aggOf)).rop, resetV x20 (.agg (shL [.int .i64, .int .i64, .int .i64, .int .i64, .int .i64, .bool, .bool, .bool, .int .i64] u3.aggOf)), resetV x21 b, resetV x22 (.int .i64 i), resetV x23 (AV.agg (shL [.int .i64, .int .i64, .int .i64, .int .i64, .int .i64, .bool, .bool, .bool, .int .i64] u6.aggOf)).rop, resetV x24 (.agg (shL [.int .i64, .int .i64, .int .i64, .int .i64, .int .i64, .bool, .bool, .bool, .int .i64] u6.aggOf)), resetV x25 (.bool !((hdV u3.aggOf).numOf == (hdV u6.aggOf).numOf && ((hdV (tlV u3.aggOf)).numOf == (hdV (tlV u6.aggOf)).numOf && ((hdV (tlV (tlV u3.aggOf))).numOf == (hdV (tlV (tlV u6.aggOf))).numOf && ((hdV (tlV (tlV (tlV u3.aggOf)))).numOf == (hdV (tlV (tlV (tlV u6.aggOf)))).numOf && ((hdV (tlV (tlV (tlV (tlV u3.aggOf))))).numOf == (hdV (tlV (tlV (tlV (tlV u6.aggOf))))).numOf && true)) && ((hdV (tlV (tlV (tlV (tlV (tlV u3.aggOf)))))).boolOf == (hdV (tlV (tlV (tlV (tlV (tlV u6.aggOf)))))).boolOf && ((hdV (tlV (tlV (tlV (tlV (tlV (tlV u3.aggOf))))))).boolOf == (hdV (tlV (tlV (tlV (tlV (tlV (tlV u6.aggOf))))))).boolOf && ((hdV (tlV (tlV (tlV (tlV (tlV (tlV (tlV u3.aggOf)))))))).boolOf == (hdV (tlV (tlV (tlV (tlV (tlV (tlV (tlV u6.aggOf)))))))).boolOf && ((hdV (tlV (tlV (tlV (tlV (tlV (tlV (tlV (tlV u3.aggOf))))))))).numOf == (hdV (tlV (tlV (tlV (tlV (tlV (tlV (tlV (tlV u6.aggOf))))))))).numOf && true))))))))] ⟨[], []⟩ K)) (fun _ => none) | none => none)) (fun _ => none)) (fun _ => none) | none => none)) (fun _ => none)) (fun _ => K (.bool true) ⟨[], []⟩)) (fun _ => none) := by kernel_rfl
theorem loop45 {R : Type} (fuel : Nat) {a b : AV} (ha : tyV (.sl 9 dtProc) a) (hb : tyV (.sl 9 dtProc) b) (hs : nrm a = nrm b) (K : AV → AH → Option R) : ∀ (r i k : Nat) (x2 x3 x6 x7 x8 x9 x10 x11 x12 x13 x14 x15 x16 x17 x18 x19 x20 x21 x22 x23 x24 x25 : AV), i + r = a.listOf.length → r < k →
    loopF Try.D (cF fuel) fuel Try.f45 [1, 1, 0, 1, 0] k [a, b, x2, x3, .bool false, .int .i64 (i : Int), x6, x7, x8, x9, x10, x11, x12, x13, x14, x15, x16, x17, x18, x19, x20, x21, x22, x23, x24, x25] ⟨[], []⟩ K = K (.bool true) ⟨[], []⟩
  | r, i, 0, _, _, _, _, _, _, _, _, _, _, _, _, _, _, _, _, _, _, _, _, _, _, h, hk => by omega
  | 0, i, k + 1, x2, x3, x6, x7, x8, x9, x10, x11, x12, x13, x14, x15, x16, x17, x18, x19, x20, x21, x22, x23, x24, x25, h, hk => by
    rw [step45, (sl_facts ha).1, lt_false (by omega : ¬ i < a.listOf.length)]
    rfl
  | r + 1, i, k + 1, x2, x3, x6, x7, x8, x9, x10, x11, x12, x13, x14, x15, x16, x17, x18, x19, x20, x21, x22, x23, x24, x25, h, hk => by
    obtain ⟨hA, hmax, hT, -, -⟩ := sl_facts ha
    obtain ⟨hB, -, hU, -, -⟩ := sl_facts hb
    obtain ⟨hlen, hget⟩ := nrmL_get (list_same ha hb hs)
    have hi : i < a.listOf.length := by omega
    have hj : i < b.listOf.length := by omega
    obtain ⟨u, hu⟩ : ∃ u, a.listOf[i]? = some u := ⟨_, List.getElem?_eq_getElem hi⟩
    obtain ⟨w, hw⟩ : ∃ w, b.listOf[i]? = some w := ⟨_, List.getElem?_eq_getElem hj⟩
    have tu := hT u (List.mem_of_getElem? hu)
    have tw := hU w (List.mem_of_getElem? hw)
    have huw := hget i u w hu hw
    rw [flatV rfl tu, flatV rfl tw] at huw
    subst huw
    rw [step45, hA, hB, lt_true hi, lt_true hj, ge_true, Int.toNat_natCast, hu, hw]
    simp only [br, Bool.and_self, fit_dtProc tu, fit_dtProc tw]
    simp only [bne_self_eq_false, beq_self_eq_true, Bool.and_self, Bool.not_true]
    rw [wrap_next hi hmax]
    try simp only [resetV_self]
    exact loop45 fuel ha hb hs K r (i + 1) k _ _ _ _ _ _ _ _ _ _ _ _ _ _ _ _ _ _ _ _ _ _ (by omega) (by omega)

theorem eq45 {a b : AV} (ha : tyV (.sl 9 dtProc) a) (hb : tyV (.sl 9 dtProc) b) (hs : nrm a = nrm b) (H : AH) : callL Try.D 45 [a, b] H = some (.bool true, H) := by
  refine callL_D (tabF_ok) (fuel := (erase a).listOf.length + 1) (n := 6) (fn := Try.f45) (ds := [.sl 9 dtProc, .sl 9 dtProc]) (v := .bool true) (by kernel_rfl) (by kernel_rfl) (by kernel_rfl) ⟨ha, hb, trivial⟩ ?_ rfl
  have ha' := tyV_erase ha
  have hb' := tyV_erase hb
  have hs' : nrm (erase a) = nrm (erase b) := by rw [tyV_nrm ha, tyV_nrm hb]; exact hs
  show runI Try.D (cF ((erase a).listOf.length + 1)) ((erase a).listOf.length + 1) Try.f45 [erase a, erase b] ⟨[], []⟩ (fun v _ => some v) = _
  generalize erase a = a at ha' hs' ⊢
  generalize erase b = b at hb' hs' ⊢
  have hlen := (nrmL_get (list_same ha' hb' hs')).1
  rw [pre45, (sl_facts ha').1, (sl_facts hb').1, ← hlen]
  simp only [br, bne_self_eq_false]
  try simp only [resetV_self]
  exact loop45 _ ha' hb' hs' _ a.listOf.length 0 _ _ _ _ _ _ _ _ _ _ _ _ _ _ _ _ _ _ _ _ _ _ _ (by omega) (by omega)
theorem pre71 {R : Type} (fuel : Nat) (a b : AV) (K : AV → AH → Option R) : runI Try.D (cF fuel) fuel Try.f71 [a, b] ⟨[], []⟩ K = br (AV.listN 8 a) (fun _ => br (AV.listN 8 b) (fun _ => br ((↑a.listOf.length : Int) != (↑b.listOf.length : Int)) (fun _ => K (.bool false) ⟨[], []⟩) (fun _ => loopF Try.D (cF fuel) fuel Try.f71 [1, 1, 0, 1, 0] fuel [a, b, .top, .top, .bool false, .int .i64 (0 : Int), a, .int .i64 (↑a.listOf.length : Int), b, .int .i64 (↑b.listOf.length : Int), .bool ((↑a.listOf.length : Int) != (↑b.listOf.length : Int)), .top, .top, .top, .top, .top, .top, .top, .top, .top, .top, .top, .top, .top, .top, .top, .top] ⟨[], []⟩ K)) (fun _ => none)) (fun _ => none) := by kernel_rfl
theorem step71 {R : Type} (fuel k : Nat) (a b : AV) (i : Int) (x2 x3 x6 x7 x8 x9 x10 x11 x12 x13 x14 x15 x16 x17 x18 x19 x20 x21 x22 x23 x24 x25 x26 : AV) (K : AV → AH → Option R) : loopF Try.D (cF fuel) fuel Try.f71 [1, 1, 0, 1, 0] (k + 1) [a, b, x2, x3, .bool false, .int .i64 i, x6, x7, x8, x9, x10, x11, x12, x13, x14, x15, x16, x17, x18, x19, x20, x21, x22, x23, x24, x25, x26] ⟨[], []⟩ K = br (AV.listN 8 a) (fun _ => br (decide (i < (↑a.listOf.length : Int))) (fun _ => br (AV.listN 8 a && (decide ((0 : Int) ≤ i) && decide (i < (↑a.listOf.length : Int)))) (fun _ => (match a.listOf[i.toNat]? with | some u3 => br (u3.isAgg && fitL [.int .u8, .int .i64, .int .i64, .int .i64, .int .i64, .int .i64, .int .i64, .any] u3.aggOf) (fun _ => br (AV.listN 8 b && (decide ((0 : Int) ≤ i) && decide (i < (↑b.listOf.length : Int)))) (fun _ => (match b.listOf[i.toNat]? with | some u6 => br (u6.isAgg && fitL [.int .u8, .int .i64, .int .i64, .int .i64, .int .i64, .int .i64, .int .i64, .any] u6.aggOf) (fun _ => (match valH Try.D 74 [.agg (shL [.int .u8, .int .i64, .int .i64, .int .i64, .int .i64, .int .i64, .int .i64, .any] u3.aggOf), .agg (shL [.int .u8, .int .i64, .int .i64, .int .i64, .int .i64, .int .i64, .int .i64, .any] u6.aggOf)] ⟨[], []⟩ with | some u8 => br (fitS .bool u8) (fun _ => br (!u8.boolOf) (fun _ => K (.bool false) ⟨[], []⟩) (fun _ => loopF Try.D (cF fuel) fuel Try.f71 [1, 1, 0, 1, 0] k [resetV a a, resetV b b, resetV x2 x2, resetV x3 x3, .bool false, .int .i64 (IntKind.i64.wrap (i + (1 : Int))), resetV x6 x6, resetV x7 x7, resetV x8 x8, resetV x9 x9, resetV x10 x10, resetV x11 (.int .i64 i), resetV x12 a, resetV x13 (.int .i64 (↑a.listOf.length : Int)), resetV x14 (.bool (decide (i < (↑a.listOf.length : Int)))), resetV x15 (.int .i64 i), resetV x16 (.int .i64 (IntKind.i64.wrap (i + (1 : Int)))), resetV x17 a, resetV x18 (.int .i64 i), resetV x19 (AV.agg (shL [.int .u8, .int .i64, .int .i64, .int .i64, .int .i64, .int .i64, .int .i64, .any] u3.aggOf)).rop, resetV x20 (.agg (shL [.int .u8, .int .i64, .int .i64, .int .i64, .int .i64, .int .i64, .int .i64, .any] u3.aggOf)), resetV x21 b, resetV x22 (.int .i64 i), resetV x23 (AV.agg (shL [.int .u8, .int .i64, .int .i64, .int .i64, .int .i64, .int .i64, .int .i64, .any] u6.aggOf)).rop, resetV x24 (.agg (shL [.int .u8, .int .i64, .int .i64, .int .i64, .int .i64, .int .i64, .int .i64, .any] u6.aggOf)), resetV x25 (.bool u8.boolOf), resetV x26 (.bool !u8.boolOf)] ⟨[], []⟩ K)) (fun _ => none) | none => none)) (fun _ => none) | none => none)) (fun _ => none)) (fun _ => none) | none => none)) (fun _ => none)) (fun _ => K (.bool true) ⟨[], []⟩)) (fun _ => none) := by kernel_rfl
theorem loop71 {R : Type} (fuel : Nat) {a b : AV} (ha : tyV (.sl 8 dtTask) a) (hb : tyV (.sl 8 dtTask) b) (hs : nrm a = nrm b) (hE : ∀ u w, tyV dtTask u → tyV dtTask w → nrm u = nrm w → ∀ H, callL Try.D 74 [u, w] H = some (.bool true, H)) (K : AV → AH → Option R) : ∀ (r i k : Nat) (x2 x3 x6 x7 x8 x9 x10 x11 x12 x13 x14 x15 x16 x17 x18 x19 x20 x21 x22 x23 x24 x25 x26 : AV), i + r = a.listOf.length → r < k →
    loopF Try.D (cF fuel) fuel Try.f71 [1, 1, 0, 1, 0] k [a, b, x2, x3, .bool false, .int .i64 (i : Int), x6, x7, x8, x9, x10, x11, x12, x13, x14, x15, x16, x17, x18, x19, x20, x21, x22, x23, x24, x25, x26] ⟨[], []⟩ K = K (.bool true) ⟨[], []⟩
  | r, i, 0, _, _, _, _, _, _, _, _, _, _, _, _, _, _, _, _, _, _, _, _, _, _, _, h, hk => by omega
  | 0, i, k + 1, x2, x3, x6, x7, x8, x9, x10, x11, x12, x13, x14, x15, x16, x17, x18, x19, x20, x21, x22, x23, x24, x25, x26, h, hk => by
    rw [step71, (sl_facts ha).1, lt_false (by omega : ¬ i < a.listOf.length)]
    rfl
  | r + 1, i, k + 1, x2, x3, x6, x7, x8, x9, x10, x11, x12, x13, x14, x15, x16, x17, x18, x19, x20, x21, x22, x23, x24, x25, x26, h, hk => by
    obtain ⟨hA, hmax, hT, -, -⟩ := sl_facts ha
    obtain ⟨hB, -, hU, -, -⟩ := sl_facts hb
    obtain ⟨hlen, hget⟩ := nrmL_get (list_same ha hb hs)
    have hi : i < a.listOf.length := by omega
    have hj : i < b.listOf.length := by omega
    obtain ⟨u, hu⟩ : ∃ u, a.listOf[i]? = some u := ⟨_, List.getElem?_eq_getElem hi⟩
    obtain ⟨w, hw⟩ : ∃ w, b.listOf[i]? = some w := ⟨_, List.getElem?_eq_getElem hj⟩
    have tu := hT u (List.mem_of_getElem? hu)
    have tw := hU w (List.mem_of_getElem? hw)
    have huw := hget i u w hu hw
    rw [step71, hA, hB, lt_true hi, lt_true hj, ge_true, Int.toNat_natCast, hu, hw]
    simp only [br, Bool.and_self, fit_dtTask tu, fit_dtTask tw, eta_dtTask tu, eta_dtTask tw]
    rw [valH_of (hE u w tu tw huw _)]
    simp only [fitS, AV.boolOf, Bool.not_true]
    rw [wrap_next hi hmax]
    try simp only [resetV_self]
    exact loop71 fuel ha hb hs hE K r (i + 1) k _ _ _ _ _ _ _ _ _ _ _ _ _ _ _ _ _ _ _ _ _ _ _ (by omega) (by omega)

theorem eq71 (hE : ∀ u w, tyV dtTask u → tyV dtTask w → nrm u = nrm w → ∀ H, callL Try.D 74 [u, w] H = some (.bool true, H)) {a b : AV} (ha : tyV (.sl 8 dtTask) a) (hb : tyV (.sl 8 dtTask) b) (hs : nrm a = nrm b) (H : AH) : callL Try.D 71 [a, b] H = some (.bool true, H) := by
  refine callL_D (tabF_ok) (fuel := (erase a).listOf.length + 1) (n := 6) (fn := Try.f71) (ds := [.sl 8 dtTask, .sl 8 dtTask]) (v := .bool true) (by kernel_rfl) (by kernel_rfl) (by kernel_rfl) ⟨ha, hb, trivial⟩ ?_ rfl
  have ha' := tyV_erase ha
  have hb' := tyV_erase hb
  have hs' : nrm (erase a) = nrm (erase b) := by rw [tyV_nrm ha, tyV_nrm hb]; exact hs
  show runI Try.D (cF ((erase a).listOf.length + 1)) ((erase a).listOf.length + 1) Try.f71 [erase a, erase b] ⟨[], []⟩ (fun v _ => some v) = _
  generalize erase a = a at ha' hs' ⊢
  generalize erase b = b at hb' hs' ⊢
  have hlen := (nrmL_get (list_same ha' hb' hs')).1
  rw [pre71, (sl_facts ha').1, (sl_facts hb').1, ← hlen]
  simp only [br, bne_self_eq_false]
  try simp only [resetV_self]
  exact loop71 _ ha' hb' hs' hE _ a.listOf.length 0 _ _ _ _ _ _ _ _ _ _ _ _ _ _ _ _ _ _ _ _ _ _ _ _ (by omega) (by omega)
theorem pre62 {R : Type} (fuel : Nat) (a b : AV) (K : AV → AH → Option R) : runI Try.D (cF fuel) fuel Try.f62 [a, b] ⟨[], []⟩ K = br (AV.listN 10 a) (fun _ => br (AV.listN 10 b) (fun _ => br ((↑a.listOf.length : Int) != (↑b.listOf.length : Int)) (fun _ => K (.bool false) ⟨[], []⟩) (fun _ => loopF Try.D (cF fuel) fuel Try.f62 [1, 1, 0, 1, 0] fuel [a, b, .top, .top, .bool false, .int .i64 (0 : Int), a, .int .i64 (↑a.listOf.length : Int), b, .int .i64 (↑b.listOf.length : Int), .bool ((↑a.listOf.length : Int) != (↑b.listOf.length : Int)), .top, .top, .top, .top, .top, .top, .top, .top, .top, .top, .top, .top, .top, .top, .top, .top] ⟨[], []⟩ K)) (fun _ => none)) (fun _ => none) := by kernel_rfl
theorem step62 {R : Type} (fuel k : Nat) (a b : AV) (i : Int) (x2 x3 x6 x7 x8 x9 x10 x11 x12 x13 x14 x15 x16 x17 x18 x19 x20 x21 x22 x23 x24 x25 x26 : AV) (K : AV → AH → Option R) : loopF Try.D (cF fuel) fuel Try.f62 [1, 1, 0, 1, 0] (k + 1) [a, b, x2, x3, .bool false, .int .i64 i, x6, x7, x8, x9, x10, x11, x12, x13, x14, x15, x16, x17, x18, x19, x20, x21, x22, x23, x24, x25, x26] ⟨[], []⟩ K = br (AV.listN 10 a) (fun _ => br (decide (i < (↑a.listOf.length : Int))) (fun _ => br (AV.listN 10 a && (decide ((0 : Int) ≤ i) && decide (i < (↑a.listOf.length : Int)))) (fun _ => (match a.listOf[i.toNat]? with | some u3 => br (u3.isAgg && fitL [.int .i64, .int .i64, .int .i64, .int .i64, .any, .any, .int .i64, .int .i64, .bool, .any] u3.aggOf) (fun _ => br (AV.listN 10 b && (decide ((0 : Int) ≤ i) && decide (i < (↑b.listOf.length : Int)))) (fun _ => (match b.listOf[i.toNat]? with | some u6 => br (u6.isAgg && fitL [.int .i64, .int .i64, .int .i64, .int .i64, .any, .any, .int .i64, .int .i64, .bool, .any] u6.aggOf) (fun _ => (match valH Try.D 67 [.agg (shL [.int .i64, .int .i64, .int .i64, .int .i64, .any, .any, .int .i64, .int .i64, .bool, .any] u3.aggOf), .agg (shL [.int .i64, .int .i64, .int .i64, .int .i64, .any, .any, .int .i64, .int .i64, .bool, .any] u6.aggOf)] ⟨[], []⟩ with | some u8 => br (fitS .bool u8) (fun _ => br (!u8.boolOf) (fun _ => K (.bool false) ⟨[], []⟩) (fun _ => loopF Try.D (cF fuel) fuel Try.f62 [1, 1, 0, 1, 0] k [resetV a a, resetV b b, resetV x2 x2, resetV x3 x3, .bool false, .int .i64 (IntKind.i64.wrap (i + (1 : Int))), resetV x6 x6, resetV x7 x7, resetV x8 x8, resetV x9 x9, resetV x10 x10, resetV x11 (.int .i64 i), resetV x12 a, resetV x13 (.int .i64 (↑a.listOf.length : Int)), resetV x14 (.bool (decide (i < (↑a.listOf.length : Int)))), resetV x15 (.int .i64 i), resetV x16 (.int .i64 (IntKind.i64.wrap (i + (1 : Int)))), resetV x17 a, resetV x18 (.int .i64 i), resetV x19 (AV.agg (shL [.int .i64, .int .i64, .int .i64, .int .i64, .any, .any, .int .i64, .int .i64, .bool, .any] u3.aggOf)).rop, resetV x20 (.agg (shL [.int .i64, .int .i64, .int .i64, .int .i64, .any, .any, .int .i64, .int .i64, .bool, .any] u3.aggOf)), resetV x21 b, resetV x22 (.int .i64 i), resetV x23 (AV.agg (shL [.int .i64, .int .i64, .int .i64, .int .i64, .any, .any, .int .i64, .int .i64, .bool, .any] u6.aggOf)).rop, resetV x24 (.agg (shL [.int .i64, .int .i64, .int .i64, .int .i64, .any, .any, .int .i64, .int .i64, .bool, .any] u6.aggOf)), resetV x25 (.bool u8.boolOf), resetV x26 (.bool !u8.boolOf)] ⟨[], []⟩ K)) (fun _ => none) | none => none)) (fun _ => none) | none => none)) (fun _ => none)) (fun _ => none) | none => none)) (fun _ => none)) (fun _ => K (.bool true) ⟨[], []⟩)) (fun _ => none) := by kernel_rfl
theorem loop62 {R : Type} (fuel : Nat) {a b : AV} (ha : tyV (.sl 10 dtAlloc) a) (hb : tyV (.sl 10 dtAlloc) b) (hs : nrm a = nrm b) (hE : ∀ u w, tyV dtAlloc u → tyV dtAlloc w → nrm u = nrm w → ∀ H, callL Try.D 67 [u, w] H = some (.bool true, H)) (K : AV → AH → Option R) : ∀ (r i k : Nat) (x2 x3 x6 x7 x8 x9 x10 x11 x12 x13 x14 x15 x16 x17 x18 x19 x20 x21 x22 x23 x24 x25 x26 : AV), i + r = a.listOf.length → r < k →
    loopF Try.D (cF fuel) fuel Try.f62 [1, 1, 0, 1, 0] k [a, b, x2, x3, .bool false, .int .i64 (i : Int), x6, x7, x8, x9, x10, x11, x12, x13, x14, x15, x16, x17, x18, x19, x20, x21, x22, x23, x24, x25, x26] ⟨[], []⟩ K = K (.bool true) ⟨[], []⟩
  | r, i, 0, _, _, _, _, _, _, _, _, _, _, _, _, _, _, _, _, _, _, _, _, _, _, _, h, hk => by omega
  | 0, i, k + 1, x2, x3, x6, x7, x8, x9, x10, x11, x12, x13, x14, x15, x16, x17, x18, x19, x20, x21, x22, x23, x24, x25, x26, h, hk => by
    rw [step62, (sl_facts ha).1, lt_false (by omega : ¬ i < a.listOf.length)]
    rfl
  | r + 1, i, k + 1, x2, x3, x6, x7, x8, x9, x10, x11, x12, x13, x14, x15, x16, x17, x18, x19, x20, x21, x22, x23, x24, x25, x26, h, hk => by
    obtain ⟨hA, hmax, hT, -, -⟩ := sl_facts ha
    obtain ⟨hB, -, hU, -, -⟩ := sl_facts hb
    obtain ⟨hlen, hget⟩ := nrmL_get (list_same ha hb hs)
    have hi : i < a.listOf.length := by omega
    have hj : i < b.listOf.length := by omega
    obtain ⟨u, hu⟩ : ∃ u, a.listOf[i]? = some u := ⟨_, List.getElem?_eq_getElem hi⟩
    obtain ⟨w, hw⟩ : ∃ w, b.listOf[i]? = some w := ⟨_, List.getElem?_eq_getElem hj⟩
    have tu := hT u (List.mem_of_getElem? hu)
    have tw := hU w (List.mem_of_getElem? hw)
    have huw := hget i u w hu hw
    rw [step62, hA, hB, lt_true hi, lt_true hj, ge_true, Int.toNat_natCast, hu, hw]
    simp only [br, Bool.and_self, fit_dtAlloc tu, fit_dtAlloc tw, eta_dtAlloc tu, eta_dtAlloc tw]
    rw [valH_of (hE u w tu tw huw _)]
    simp only [fitS, AV.boolOf, Bool.not_true]
    rw [wrap_next hi hmax]
    try simp only [resetV_self]
    exact loop62 fuel ha hb hs hE K r (i + 1) k _ _ _ _ _ _ _ _ _ _ _ _ _ _ _ _ _ _ _ _ _ _ _ (by omega) (by omega)

theorem eq62 (hE : ∀ u w, tyV dtAlloc u → tyV dtAlloc w → nrm u = nrm w → ∀ H, callL Try.D 67 [u, w] H = some (.bool true, H)) {a b : AV} (ha : tyV (.sl 10 dtAlloc) a) (hb : tyV (.sl 10 dtAlloc) b) (hs : nrm a = nrm b) (H : AH) : callL Try.D 62 [a, b] H = some (.bool true, H) := by
  refine callL_D (tabF_ok) (fuel := (erase a).listOf.length + 1) (n := 6) (fn := Try.f62) (ds := [.sl 10 dtAlloc, .sl 10 dtAlloc]) (v := .bool true) (by kernel_rfl) (by kernel_rfl) (by kernel_rfl) ⟨ha, hb, trivial⟩ ?_ rfl
  have ha' := tyV_erase ha
  have hb' := tyV_erase hb
  have hs' : nrm (erase a) = nrm (erase b) := by rw [tyV_nrm ha, tyV_nrm hb]; exact hs
  show runI Try.D (cF ((erase a).listOf.length + 1)) ((erase a).listOf.length + 1) Try.f62 [erase a, erase b] ⟨[], []⟩ (fun v _ => some v) = _
  generalize erase a = a at ha' hs' ⊢
  generalize erase b = b at hb' hs' ⊢
  have hlen := (nrmL_get (list_same ha' hb' hs')).1
  rw [pre62, (sl_facts ha').1, (sl_facts hb').1, ← hlen]
  simp only [br, bne_self_eq_false]
  try simp only [resetV_self]
  exact loop62 _ ha' hb' hs' hE _ a.listOf.length 0 _ _ _ _ _ _ _ _ _ _ _ _ _ _ _ _ _ _ _ _ _ _ _ _ (by omega) (by omega)
theorem pre46 {R : Type} (fuel : Nat) (a b : AV) (K : AV → AH → Option R) : runI Try.D (cF fuel) fuel Try.f46 [a, b] ⟨[], []⟩ K = br (AV.listN 15 a) (fun _ => br (AV.listN 15 b) (fun _ => br ((↑a.listOf.length : Int) != (↑b.listOf.length : Int)) (fun _ => K (.bool false) ⟨[], []⟩) (fun _ => loopF Try.D (cF fuel) fuel Try.f46 [1, 1, 0, 1, 0] fuel [a, b, .top, .top, .bool false, .int .i64 (0 : Int), a, .int .i64 (↑a.listOf.length : Int), b, .int .i64 (↑b.listOf.length : Int), .bool ((↑a.listOf.length : Int) != (↑b.listOf.length : Int)), .top, .top, .top, .top, .top, .top, .top, .top, .top, .top, .top, .top, .top, .top, .top, .top] ⟨[], []⟩ K)) (fun _ => none)) (fun _ => none) := by kernel_rfl
theorem step46 {R : Type} (fuel k : Nat) (a b : AV) (i : Int) (x2 x3 x6 x7 x8 x9 x10 x11 x12 x13 x14 x15 x16 x17 x18 x19 x20 x21 x22 x23 x24 x25 x26 : AV) (K : AV → AH → Option R) : loopF Try.D (cF fuel) fuel Try.f46 [1, 1, 0, 1, 0] (k + 1) [a, b, x2, x3, .bool false, .int .i64 i, x6, x7, x8, x9, x10, x11, x12, x13, x14, x15, x16, x17, x18, x19, x20, x21, x22, x23, x24, x25, x26] ⟨[], []⟩ K = br (AV.listN 15 a) (fun _ => br (decide (i < (↑a.listOf.length : Int))) (fun _ => br (AV.listN 15 a && (decide ((0 : Int) ≤ i) && decide (i < (↑a.listOf.length : Int)))) (fun _ => (match a.listOf[i.toNat]? with | some u3 => br (u3.isAgg && fitL [.int .u8, .int .i64, .int .i64, .int .i64, .int .i64, .int .i64, .any, .any, .int .i64, .int .i64, .int .i64, .int .i64, .int .i64, .int .i64, .int .i64] u3.aggOf) (fun _ => br (AV.listN 15 b && (decide ((0 : Int) ≤ i) && decide (i < (↑b.listOf.length : Int)))) (fun _ => (match b.listOf[i.toNat]? with | some u6 => br (u6.isAgg && fitL [.int .u8, .int .i64, .int .i64, .int .i64, .int .i64, .int .i64, .any, .any, .int .i64, .int .i64, .int .i64, .int .i64, .int .i64, .int .i64, .int .i64] u6.aggOf) (fun _ => (match valH Try.D 63 [.agg (shL [.int .u8, .int .i64, .int .i64, .int .i64, .int .i64, .int .i64, .any, .any, .int .i64, .int .i64, .int .i64, .int .i64, .int .i64, .int .i64, .int .i64] u3.aggOf), .agg (shL [.int .u8, .int .i64, .int .i64, .int .i64, .int .i64, .int .i64, .any, .any, .int .i64, .int .i64, .int .i64, .int .i64, .int .i64, .int .i64, .int .i64] u6.aggOf)] ⟨[], []⟩ with | some u8 => br (fitS .bool u8) (fun _ => br (!u8.boolOf) (fun _ => K (.bool false) ⟨[], []⟩) (fun _ => loopF Try.D (cF fuel) fuel Try.f46 [1, 1, 0, 1, 0] k [resetV a a, resetV b b, resetV x2 x2, resetV x3 x3, .bool false, .int .i64 (IntKind.i64.wrap (i + (1 : Int))), resetV x6 x6, resetV x7 x7, resetV x8 x8, resetV x9 x9, resetV x10 x10, resetV x11 (.int .i64 i), resetV x12 a, resetV x13 (.int .i64 (↑a.listOf.length : Int)), resetV x14 (.bool (decide (i < (↑a.listOf.length : Int)))), resetV x15 (.int .i64 i), resetV x16 (.int .i64 (IntKind.i64.wrap (i + (1 : Int)))), resetV x17 a, resetV x18 (.int .i64 i), resetV x19 (AV.agg (shL [.int .u8, .int .i64, .int .i64, .int .i64, .int .i64, .int .i64, .any, .any, .int .i64, .int .i64, .int .i64, .int .i64, .int .i64, .int .i64, .int .i64] u3.aggOf)).rop, resetV x20 (.agg (shL [.int .u8, .int .i64, .int .i64, .int .i64, .int .i64, .int .i64, .any, .any, .int .i64, .int .i64, .int .i64, .int .i64, .int .i64, .int .i64, .int .i64] u3.aggOf)), resetV x21 b, resetV x22 (.int .i64 i), resetV x23 (AV.agg (shL [.int .u8, .int .i64, .int .i64, .int .i64, .int .i64, .int .i64, .any, .any, .int .i64, .int .i64, .int .i64, .int .i64, .int .i64, .int .i64, .int .i64] u6.aggOf)).rop, resetV x24 (.agg (shL [.int .u8, .int .i64, .int .i64, .int .i64, .int .i64, .int .i64, .any, .any, .int .i64, .int .i64, .int .i64, .int .i64, .int .i64, .int .i64, .int .i64] u6.aggOf)), resetV x25 (.bool u8.boolOf), resetV x26 (.bool !u8.boolOf)] ⟨[], []⟩ K)) (fun _ => none) | none => none)) (fun _ => none) | none => none)) (fun _ => none)) (fun _ => none) | none => none)) (fun _ => none)) (fun _ => K (.bool true) ⟨[], []⟩)) (fun _ => none) := by kernel_rfl
theorem loop46 {R : Type} (fuel : Nat) {a b : AV} (ha : tyV (.sl 15 dtRec) a) (hb : tyV (.sl 15 dtRec) b) (hs : nrm a = nrm b) (hE : ∀ u w, tyV dtRec u → tyV dtRec w → nrm u = nrm w → ∀ H, callL Try.D 63 [u, w] H = some (.bool true, H)) (K : AV → AH → Option R) : ∀ (r i k : Nat) (x2 x3 x6 x7 x8 x9 x10 x11 x12 x13 x14 x15 x16 x17 x18 x19 x20 x21 x22 x23 x24 x25 x26 : AV), i + r = a.listOf.length → r < k →
    loopF Try.D (cF fuel) fuel Try.f46 [1, 1, 0, 1, 0] k [a, b, x2, x3, .bool false, .int .i64 (i : Int), x6, x7, x8, x9, x10, x11, x12, x13, x14, x15, x16, x17, x18, x19, x20, x21, x22, x23, x24, x25, x26] ⟨[], []⟩ K = K (.bool true) ⟨[], []⟩
  | r, i, 0, _, _, _, _, _, _, _, _, _, _, _, _, _, _, _, _, _, _, _, _, _, _, _, h, hk => by omega
  | 0, i, k + 1, x2, x3, x6, x7, x8, x9, x10, x11, x12, x13, x14, x15, x16, x17, x18, x19, x20, x21, x22, x23, x24, x25, x26, h, hk => by
    rw [step46, (sl_facts ha).1, lt_false (by omega : ¬ i < a.listOf.length)]
    rfl
  | r + 1, i, k + 1, x2, x3, x6, x7, x8, x9, x10, x11, x12, x13, x14, x15, x16, x17, x18, x19, x20, x21, x22, x23, x24, x25, x26, h, hk => by
    obtain ⟨hA, hmax, hT, -, -⟩ := sl_facts ha
    obtain ⟨hB, -, hU, -, -⟩ := sl_facts hb
    obtain ⟨hlen, hget⟩ := nrmL_get (list_same ha hb hs)
    have hi : i < a.listOf.length := by omega
    have hj : i < b.listOf.length := by omega
    obtain ⟨u, hu⟩ : ∃ u, a.listOf[i]? = some u := ⟨_, List.getElem?_eq_getElem hi⟩
    obtain ⟨w, hw⟩ : ∃ w, b.listOf[i]? = some w := ⟨_, List.getElem?_eq_getElem hj⟩
    have tu := hT u (List.mem_of_getElem? hu)
    have tw := hU w (List.mem_of_getElem? hw)
    have huw := hget i u w hu hw
    rw [step46, hA, hB, lt_true hi, lt_true hj, ge_true, Int.toNat_natCast, hu, hw]
    simp only [br, Bool.and_self, fit_dtRec tu, fit_dtRec tw, eta_dtRec tu, eta_dtRec tw]
    rw [valH_of (hE u w tu tw huw _)]
    simp only [fitS, AV.boolOf, Bool.not_true]
    rw [wrap_next hi hmax]
    try simp only [resetV_self]
    exact loop46 fuel ha hb hs hE K r (i + 1) k _ _ _ _ _ _ _ _ _ _ _ _ _ _ _ _ _ _ _ _ _ _ _ (by omega) (by omega)

theorem eq46 (hE : ∀ u w, tyV dtRec u → tyV dtRec w → nrm u = nrm w → ∀ H, callL Try.D 63 [u, w] H = some (.bool true, H)) {a b : AV} (ha : tyV (.sl 15 dtRec) a) (hb : tyV (.sl 15 dtRec) b) (hs : nrm a = nrm b) (H : AH) : callL Try.D 46 [a, b] H = some (.bool true, H) := by
  refine callL_D (tabF_ok) (fuel := (erase a).listOf.length + 1) (n := 6) (fn := Try.f46) (ds := [.sl 15 dtRec, .sl 15 dtRec]) (v := .bool true) (by kernel_rfl) (by kernel_rfl) (by kernel_rfl) ⟨ha, hb, trivial⟩ ?_ rfl
  have ha' := tyV_erase ha
  have hb' := tyV_erase hb
  have hs' : nrm (erase a) = nrm (erase b) := by rw [tyV_nrm ha, tyV_nrm hb]; exact hs
  show runI Try.D (cF ((erase a).listOf.length + 1)) ((erase a).listOf.length + 1) Try.f46 [erase a, erase b] ⟨[], []⟩ (fun v _ => some v) = _
  generalize erase a = a at ha' hs' ⊢
  generalize erase b = b at hb' hs' ⊢
  have hlen := (nrmL_get (list_same ha' hb' hs')).1
  rw [pre46, (sl_facts ha').1, (sl_facts hb').1, ← hlen]
  simp only [br, bne_self_eq_false]
  try simp only [resetV_self]
  exact loop46 _ ha' hb' hs' hE _ a.listOf.length 0 _ _ _ _ _ _ _ _ _ _ _ _ _ _ _ _ _ _ _ _ _ _ _ _ (by omega) (by omega)
theorem pre19 {R : Type} (fuel : Nat) (a b : AV) (K : AV → AH → Option R) : runI Try.D (cF fuel) fuel Try.f19 [a, b] ⟨[], []⟩ K = br (AV.listN 14 a) (fun _ => br (AV.listN 14 b) (fun _ => br ((↑a.listOf.length : Int) != (↑b.listOf.length : Int)) (fun _ => K (.bool false) ⟨[], []⟩) (fun _ => loopF Try.D (cF fuel) fuel Try.f19 [1, 1, 0, 1, 0] fuel [a, b, .top, .top, .bool false, .int .i64 (0 : Int), a, .int .i64 (↑a.listOf.length : Int), b, .int .i64 (↑b.listOf.length : Int), .bool ((↑a.listOf.length : Int) != (↑b.listOf.length : Int)), .top, .top, .top, .top, .top, .top, .top, .top, .top, .top, .top, .top, .top, .top, .top, .top] ⟨[], []⟩ K)) (fun _ => none)) (fun _ => none) := by kernel_rfl
theorem step19 {R : Type} (fuel k : Nat) (a b : AV) (i : Int) (x2 x3 x6 x7 x8 x9 x10 x11 x12 x13 x14 x15 x16 x17 x18 x19 x20 x21 x22 x23 x24 x25 x26 : AV) (K : AV → AH → Option R) : loopF Try.D (cF fuel) fuel Try.f19 [1, 1, 0, 1, 0] (k + 1) [a, b, x2, x3, .bool false, .int .i64 i, x6, x7, x8, x9, x10, x11, x12, x13, x14, x15, x16, x17, x18, x19, x20, x21, x22, x23, x24, x25, x26] ⟨[], []⟩ K = br (AV.listN 14 a) (fun _ => br (decide (i < (↑a.listOf.length : Int))) (fun _ => br (AV.listN 14 a && (decide ((0 : Int) ≤ i) && decide (i < (↑a.listOf.length : Int)))) (fun _ => (match a.listOf[i.toNat]? with | some u3 => br (u3.isAgg && fitL [.int .i64, .bool, .bool, .bool, .int .i64, .int .i64, .int .i64, .int .i64, .any, .any, .any, .int .i64, .any, .any] u3.aggOf) (fun _ => br (AV.listN 14 b && (decide ((0 : Int) ≤ i) && decide (i < (↑b.listOf.length : Int)))) (fun _ => (match b.listOf[i.toNat]? with | some u6 => br (u6.isAgg && fitL [.int .i64, .bool, .bool, .bool, .int .i64, .int .i64, .int .i64, .int .i64, .any, .any, .any, .int .i64, .any, .any] u6.aggOf) (fun _ => (match valH Try.D 36 [.agg (shL [.int .i64, .bool, .bool, .bool, .int .i64, .int .i64, .int .i64, .int .i64, .any, .any, .any, .int .i64, .any, .any] u3.aggOf), .agg (shL [.int .i64, .bool, .bool, .bool, .int .i64, .int .i64, .int .i64, .int .i64, .any, .any, .any, .int .i64, .any, .any] u6.aggOf)] ⟨[], []⟩ with | some u8 => br (fitS .bool u8) (fun _ => br (!u8.boolOf) (fun _ => K (.bool false) ⟨[], []⟩) (fun _ => loopF Try.D (cF fuel) fuel Try.f19 [1, 1, 0, 1, 0] k [resetV a a, resetV b b, resetV x2 x2, resetV x3 x3, .bool false, .int .i64 (IntKind.i64.wrap (i + (1 : Int))), resetV x6 x6, resetV x7 x7, resetV x8 x8, resetV x9 x9, resetV x10 x10, resetV x11 (.int .i64 i), resetV x12 a, resetV x13 (.int .i64 (↑a.listOf.length : Int)), resetV x14 (.bool (decide (i < (↑a.listOf.length : Int)))), resetV x15 (.int .i64 i), resetV x16 (.int .i64 (IntKind.i64.wrap (i + (1 : Int)))), resetV x17 a, resetV x18 (.int .i64 i), resetV x19 (AV.agg (shL [.int .i64, .bool, .bool, .bool, .int .i64, .int .i64, .int .i64, .int .i64, .any, .any, .any, .int .i64, .any, .any] u3.aggOf)).rop, resetV x20 (.agg (shL [.int .i64, .bool, .bool, .bool, .int .i64, .int .i64, .int .i64, .int .i64, .any, .any, .any, .int .i64, .any, .any] u3.aggOf)), resetV x21 b, resetV x22 (.int .i64 i), resetV x23 (AV.agg (shL [.int .i64, .bool, .bool, .bool, .int .i64, .int .i64, .int .i64, .int .i64, .any, .any, .any, .int .i64, .any, .any] u6.aggOf)).rop, resetV x24 (.agg (shL [.int .i64, .bool, .bool, .bool, .int .i64, .int .i64, .int .i64, .int .i64, .any, .any, .any, .int .i64, .any, .any] u6.aggOf)), resetV x25 (.bool u8.boolOf), resetV x26 (.bool !u8.boolOf)] ⟨[], []⟩ K)) (fun _ => none) | none => none)) (fun _ => none) | none => none)) (fun _ => none)) (fun _ => none) | none => none)) (fun _ => none)) (fun _ => K (.bool true) ⟨[], []⟩)) (fun _ => none) := by kernel_rfl
theorem loop19 {R : Type} (fuel : Nat) {a b : AV} (ha : tyV (.sl 14 dtMom) a) (hb : tyV (.sl 14 dtMom) b) (hs : nrm a = nrm b) (hE : ∀ u w, tyV dtMom u → tyV dtMom w → nrm u = nrm w → ∀ H, callL Try.D 36 [u, w] H = some (.bool true, H)) (K : AV → AH → Option R) : ∀ (r i k : Nat) (x2 x3 x6 x7 x8 x9 x10 x11 x12 x13 x14 x15 x16 x17 x18 x19 x20 x21 x22 x23 x24 x25 x26 : AV), i + r = a.listOf.length → r < k →
    loopF Try.D (cF fuel) fuel Try.f19 [1, 1, 0, 1, 0] k [a, b, x2, x3, .bool false, .int .i64 (i : Int), x6, x7, x8, x9, x10, x11, x12, x13, x14, x15, x16, x17, x18, x19, x20, x21, x22, x23, x24, x25, x26] ⟨[], []⟩ K = K (.bool true) ⟨[], []⟩
  | r, i, 0, _, _, _, _, _, _, _, _, _, _, _, _, _, _, _, _, _, _, _, _, _, _, _, h, hk => by omega
  | 0, i, k + 1, x2, x3, x6, x7, x8, x9, x10, x11, x12, x13, x14, x15, x16, x17, x18, x19, x20, x21, x22, x23, x24, x25, x26, h, hk => by
    rw [step19, (sl_facts ha).1, lt_false (by omega : ¬ i < a.listOf.length)]
    rfl
  | r + 1, i, k + 1, x2, x3, x6, x7, x8, x9, x10, x11, x12, x13, x14, x15, x16, x17, x18, x19, x20, x21, x22, x23, x24, x25, x26, h, hk => by
    obtain ⟨hA, hmax, hT, -, -⟩ := sl_facts ha
    obtain ⟨hB, -, hU, -, -⟩ := sl_facts hb
    obtain ⟨hlen, hget⟩ := nrmL_get (list_same ha hb hs)
    have hi : i < a.listOf.length := by omega
    have hj : i < b.listOf.length := by omega
    obtain ⟨u, hu⟩ : ∃ u, a.listOf[i]? = some u := ⟨_, List.getElem?_eq_getElem hi⟩
    obtain ⟨w, hw⟩ : ∃ w, b.listOf[i]? = some w := ⟨_, List.getElem?_eq_getElem hj⟩
    have tu := hT u (List.mem_of_getElem? hu)
    have tw := hU w (List.mem_of_getElem? hw)
    have huw := hget i u w hu hw
    rw [step19, hA, hB, lt_true hi, lt_true hj, ge_true, Int.toNat_natCast, hu, hw]
    simp only [br, Bool.and_self, fit_dtMom tu, fit_dtMom tw, eta_dtMom tu, eta_dtMom tw]
    rw [valH_of (hE u w tu tw huw _)]
    simp only [fitS, AV.boolOf, Bool.not_true]
    rw [wrap_next hi hmax]
    try simp only [resetV_self]
    exact loop19 fuel ha hb hs hE K r (i + 1) k _ _ _ _ _ _ _ _ _ _ _ _ _ _ _ _ _ _ _ _ _ _ _ (by omega) (by omega)

theorem eq19 (hE : ∀ u w, tyV dtMom u → tyV dtMom w → nrm u = nrm w → ∀ H, callL Try.D 36 [u, w] H = some (.bool true, H)) {a b : AV} (ha : tyV (.sl 14 dtMom) a) (hb : tyV (.sl 14 dtMom) b) (hs : nrm a = nrm b) (H : AH) : callL Try.D 19 [a, b] H = some (.bool true, H) := by
  refine callL_D (tabF_ok) (fuel := (erase a).listOf.length + 1) (n := 6) (fn := Try.f19) (ds := [.sl 14 dtMom, .sl 14 dtMom]) (v := .bool true) (by kernel_rfl) (by kernel_rfl) (by kernel_rfl) ⟨ha, hb, trivial⟩ ?_ rfl
  have ha' := tyV_erase ha
  have hb' := tyV_erase hb
  have hs' : nrm (erase a) = nrm (erase b) := by rw [tyV_nrm ha, tyV_nrm hb]; exact hs
  show runI Try.D (cF ((erase a).listOf.length + 1)) ((erase a).listOf.length + 1) Try.f19 [erase a, erase b] ⟨[], []⟩ (fun v _ => some v) = _
  generalize erase a = a at ha' hs' ⊢
  generalize erase b = b at hb' hs' ⊢
  have hlen := (nrmL_get (list_same ha' hb' hs')).1
  rw [pre19, (sl_facts ha').1, (sl_facts hb').1, ← hlen]
  simp only [br, bne_self_eq_false]
  try simp only [resetV_self]
  exact loop19 _ ha' hb' hs' hE _ a.listOf.length 0 _ _ _ _ _ _ _ _ _ _ _ _ _ _ _ _ _ _ _ _ _ _ _ _ (by omega) (by omega)
theorem form41 {R : Type} (fuel : Nat) (a : AV) (K : AV → AH → Option R) : runI Try.D (cF fuel) fuel Try.f41 [a] ⟨[], []⟩ K = br (AV.listN 1 a) (fun _ => (if a.listOf.length = 0 then K .nils ⟨[], []⟩ else (if fitsRoom a.listOf.length 8 = true then K (.inl true (Spare.tok 0 0) 1 (detokL a.listOf)) ⟨[], [(0, 1, 3)]⟩ else none))) (fun _ => none) := by kernel_rfl
theorem cp41 {a : AV} (ha : tyV (.sl 1 dtI) a) (hb : szV bzF (.sl 1 dtI) a) : ∃ v, (∀ H : AH, callL Try.D 41 [a] H = some (v, H)) ∧ tyV (.sl 1 dtI) v ∧ nrm v = nrm a := by
  have ha' := tyV_erase ha
  have hb' : szV bzF (.sl 1 dtI) (erase a) := szV_erase ha hb
  obtain ⟨hA, hmax, hT, hN, -⟩ := sl_facts ha'
  have hlen := (sz_list ha' hb').1
  by_cases h0 : (erase a).listOf.length = 0
  · refine ⟨.nils, fun H => ?_, .inl rfl, ?_⟩
    · refine callL_D (tabF_ok) (fuel := 1) (n := 6) (fn := Try.f41) (ds := [.sl 1 dtI]) (v := .nils) (by kernel_rfl) (by kernel_rfl) (by kernel_rfl) ⟨ha, trivial⟩ ?_ rfl
      show runI Try.D (cF 1) 1 Try.f41 [erase a] ⟨[], []⟩ (fun v _ => some v) = _
      rw [form41, hA, if_pos h0]
      rfl
    · rw [← tyV_nrm ha, hN, List.length_eq_zero_iff.1 h0]
      rfl
  · refine ⟨.inl true .unk 1 (erase a).listOf, fun H => ?_, ty_new rfl hmax hT, ?_⟩
    · have hd : detok (.inl true (.tok 0 0) 1 (detokL (erase a).listOf)) = .inl true .unk 1 (erase a).listOf := by
        simp only [detok, Spare.detok, ty_detokL hT]
      rw [← hd]
      refine callL_D (tabF_ok) (fuel := 1) (n := 6) (fn := Try.f41) (ds := [.sl 1 dtI]) (v := .inl true (.tok 0 0) 1 (detokL (erase a).listOf)) (by kernel_rfl) (by kernel_rfl) (by kernel_rfl) ⟨ha, trivial⟩ ?_ ?_
      · show runI Try.D (cF 1) 1 Try.f41 [erase a] ⟨[], []⟩ (fun v _ => some v) = _
        rw [form41, hA, if_neg h0, if_pos (fits_bytes (b := 8) hlen (by decide) (by decide))]
        rfl
      · rw [hd]
        simp only [below, ty_ebelowL hT]
        rfl
    · rw [← tyV_nrm ha, hN]
      rfl
theorem form70 {R : Type} (fuel : Nat) (a : AV) (K : AV → AH → Option R) : runI Try.D (cF fuel) fuel Try.f70 [a] ⟨[], []⟩ K = br (AV.listN 6 a) (fun _ => (if a.listOf.length = 0 then K .nils ⟨[], []⟩ else (if fitsRoom a.listOf.length 48 = true then K (.inl true (Spare.tok 0 0) 6 (detokL a.listOf)) ⟨[], [(0, 6, 116)]⟩ else none))) (fun _ => none) := by kernel_rfl
theorem cp70 {a : AV} (ha : tyV (.sl 6 dtTS) a) (hb : szV bzF (.sl 6 dtTS) a) : ∃ v, (∀ H : AH, callL Try.D 70 [a] H = some (v, H)) ∧ tyV (.sl 6 dtTS) v ∧ nrm v = nrm a := by
  have ha' := tyV_erase ha
  have hb' : szV bzF (.sl 6 dtTS) (erase a) := szV_erase ha hb
  obtain ⟨hA, hmax, hT, hN, -⟩ := sl_facts ha'
  have hlen := (sz_list ha' hb').1
  by_cases h0 : (erase a).listOf.length = 0
  · refine ⟨.nils, fun H => ?_, .inl rfl, ?_⟩
    · refine callL_D (tabF_ok) (fuel := 1) (n := 6) (fn := Try.f70) (ds := [.sl 6 dtTS]) (v := .nils) (by kernel_rfl) (by kernel_rfl) (by kernel_rfl) ⟨ha, trivial⟩ ?_ rfl
      show runI Try.D (cF 1) 1 Try.f70 [erase a] ⟨[], []⟩ (fun v _ => some v) = _
      rw [form70, hA, if_pos h0]
      rfl
    · rw [← tyV_nrm ha, hN, List.length_eq_zero_iff.1 h0]
      rfl
  · refine ⟨.inl true .unk 6 (erase a).listOf, fun H => ?_, ty_new rfl hmax hT, ?_⟩
    · have hd : detok (.inl true (.tok 0 0) 6 (detokL (erase a).listOf)) = .inl true .unk 6 (erase a).listOf := by
        simp only [detok, Spare.detok, ty_detokL hT]
      rw [← hd]
      refine callL_D (tabF_ok) (fuel := 1) (n := 6) (fn := Try.f70) (ds := [.sl 6 dtTS]) (v := .inl true (.tok 0 0) 6 (detokL (erase a).listOf)) (by kernel_rfl) (by kernel_rfl) (by kernel_rfl) ⟨ha, trivial⟩ ?_ ?_
      · show runI Try.D (cF 1) 1 Try.f70 [erase a] ⟨[], []⟩ (fun v _ => some v) = _
        rw [form70, hA, if_neg h0, if_pos (fits_bytes (b := 48) hlen (by decide) (by decide))]
        rfl
      · rw [hd]
        simp only [below, ty_ebelowL hT]
        rfl
    · rw [← tyV_nrm ha, hN]
      rfl
theorem form40 {R : Type} (fuel : Nat) (a : AV) (K : AV → AH → Option R) : runI Try.D (cF fuel) fuel Try.f40 [a] ⟨[], []⟩ K = br (AV.listN 9 a) (fun _ => (if a.listOf.length = 0 then K .nils ⟨[], []⟩ else (if fitsRoom a.listOf.length 56 = true then K (.inl true (Spare.tok 0 0) 9 (detokL a.listOf)) ⟨[], [(0, 9, 67)]⟩ else none))) (fun _ => none) := by kernel_rfl
theorem cp40 {a : AV} (ha : tyV (.sl 9 dtProc) a) (hb : szV bzF (.sl 9 dtProc) a) : ∃ v, (∀ H : AH, callL Try.D 40 [a] H = some (v, H)) ∧ tyV (.sl 9 dtProc) v ∧ nrm v = nrm a := by
  have ha' := tyV_erase ha
  have hb' : szV bzF (.sl 9 dtProc) (erase a) := szV_erase ha hb
  obtain ⟨hA, hmax, hT, hN, -⟩ := sl_facts ha'
  have hlen := (sz_list ha' hb').1
  by_cases h0 : (erase a).listOf.length = 0
  · refine ⟨.nils, fun H => ?_, .inl rfl, ?_⟩
    · refine callL_D (tabF_ok) (fuel := 1) (n := 6) (fn := Try.f40) (ds := [.sl 9 dtProc]) (v := .nils) (by kernel_rfl) (by kernel_rfl) (by kernel_rfl) ⟨ha, trivial⟩ ?_ rfl
      show runI Try.D (cF 1) 1 Try.f40 [erase a] ⟨[], []⟩ (fun v _ => some v) = _
      rw [form40, hA, if_pos h0]
      rfl
    · rw [← tyV_nrm ha, hN, List.length_eq_zero_iff.1 h0]
      rfl
  · refine ⟨.inl true .unk 9 (erase a).listOf, fun H => ?_, ty_new rfl hmax hT, ?_⟩
    · have hd : detok (.inl true (.tok 0 0) 9 (detokL (erase a).listOf)) = .inl true .unk 9 (erase a).listOf := by
        simp only [detok, Spare.detok, ty_detokL hT]
      rw [← hd]
      refine callL_D (tabF_ok) (fuel := 1) (n := 6) (fn := Try.f40) (ds := [.sl 9 dtProc]) (v := .inl true (.tok 0 0) 9 (detokL (erase a).listOf)) (by kernel_rfl) (by kernel_rfl) (by kernel_rfl) ⟨ha, trivial⟩ ?_ ?_
      · show runI Try.D (cF 1) 1 Try.f40 [erase a] ⟨[], []⟩ (fun v _ => some v) = _
        rw [form40, hA, if_neg h0, if_pos (fits_bytes (b := 56) hlen (by decide) (by decide))]
        rfl
      · rw [hd]
        simp only [below, ty_ebelowL hT]
        rfl
    · rw [← tyV_nrm ha, hN]
      rfl
theorem pre69 {R : Type} (fuel : Nat) (a : AV) (K : AV → AH → Option R) : runI Try.D (cF fuel) fuel Try.f69 [a] ⟨[], []⟩ K = loopF Try.D (cF fuel) fuel Try.f69 [1, 1, 0, 1, 0] fuel [a, .top, .nils, .nils, .int .i64 (0 : Int), .top, .top, .top, .top, .top, .top, .top, .top, .top, .top, .top, .top, .top, .top, .top] ⟨[], []⟩ K := by kernel_rfl
theorem stepN69 {R : Type} (fuel k : Nat) (a : AV) (i : Int) (x1 x5 x6 x7 x8 x9 x10 x11 x12 x13 x14 x15 x16 x17 x18 x19 : AV) (K : AV → AH → Option R) : loopF Try.D (cF fuel) fuel Try.f69 [1, 1, 0, 1, 0] (k + 1) [a, x1, .nils, .nils, .int .i64 i, x5, x6, x7, x8, x9, x10, x11, x12, x13, x14, x15, x16, x17, x18, x19] ⟨[], []⟩ K = br (AV.listN 8 a) (fun _ => br (decide (i < (↑a.listOf.length : Int))) (fun _ => br (AV.listN 8 a && (decide ((0 : Int) ≤ i) && decide (i < (↑a.listOf.length : Int)))) (fun _ => (match a.listOf[i.toNat]? with | some u3 => br (u3.isAgg && fitL [.int .u8, .int .i64, .int .i64, .int .i64, .int .i64, .int .i64, .int .i64, .any] u3.aggOf) (fun _ => (match valH Try.D 73 [.agg (shL [.int .u8, .int .i64, .int .i64, .int .i64, .int .i64, .int .i64, .int .i64, .any] u3.aggOf)] ⟨[], []⟩ with | some u5 => br (u5.isAgg && fitL [.int .u8, .int .i64, .int .i64, .int .i64, .int .i64, .int .i64, .int .i64, .any] u5.aggOf) (fun _ => loopF Try.D (cF fuel) fuel Try.f69 [1, 1, 0, 1, 0] k [resetV a a, resetV x1 x1, .nils, .inl true (Spare.tok 0 0) 8 (detokL (detokL [.agg (shL [.int .u8, .int .i64, .int .i64, .int .i64, .int .i64, .int .i64, .int .i64, .any] u5.aggOf)])), .int .i64 (IntKind.i64.wrap (i + (1 : Int))), resetV x5 (.int .i64 i), resetV x6 a, resetV x7 (.int .i64 (↑a.listOf.length : Int)), resetV x8 (.bool (decide (i < (↑a.listOf.length : Int)))), resetV x9 (.int .i64 i), resetV x10 (.int .i64 (IntKind.i64.wrap (i + (1 : Int)))), resetV x11 .nils, resetV x12 a, resetV x13 (.int .i64 i), resetV x14 (AV.agg (shL [.int .u8, .int .i64, .int .i64, .int .i64, .int .i64, .int .i64, .int .i64, .any] u3.aggOf)).rop, resetV x15 (.agg (shL [.int .u8, .int .i64, .int .i64, .int .i64, .int .i64, .int .i64, .int .i64, .any] u3.aggOf)), resetV x16 (.agg (shL [.int .u8, .int .i64, .int .i64, .int .i64, .int .i64, .int .i64, .int .i64, .any] u5.aggOf)), resetV x17 (.inl true Spare.zero 8 (detokL [.agg (shL [.int .u8, .int .i64, .int .i64, .int .i64, .int .i64, .int .i64, .int .i64, .any] u5.aggOf)])), resetV x18 (.inl true (Spare.tok 0 0) 8 (detokL (detokL [.agg (shL [.int .u8, .int .i64, .int .i64, .int .i64, .int .i64, .int .i64, .int .i64, .any] u5.aggOf)]))), resetV x19 x19] ⟨[], [(0, 8, 81)]⟩ K) (fun _ => none) | none => none)) (fun _ => none) | none => none)) (fun _ => none)) (fun _ => K .nils ⟨[], []⟩)) (fun _ => none) := by kernel_rfl
theorem step69 {R : Type} (fuel k : Nat) (a : AV) (i : Int) (g : Nat) (ys : List AV) (x1 x5 x6 x7 x8 x9 x10 x11 x12 x13 x14 x15 x16 x17 x18 x19 : AV) (K : AV → AH → Option R) : loopF Try.D (cF fuel) fuel Try.f69 [1, 1, 0, 1, 0] (k + 1) [a, x1, .nils, (.inl true (.tok 0 g) 8 ys), .int .i64 i, x5, x6, x7, x8, x9, x10, x11, x12, x13, x14, x15, x16, x17, x18, x19] ⟨[], [(g, 8, 81)]⟩ K = br (AV.listN 8 a) (fun _ => br (decide (i < (↑a.listOf.length : Int))) (fun _ => br (AV.listN 8 a && (decide ((0 : Int) ≤ i) && decide (i < (↑a.listOf.length : Int)))) (fun _ => (match a.listOf[i.toNat]? with | some u3 => br (u3.isAgg && fitL [.int .u8, .int .i64, .int .i64, .int .i64, .int .i64, .int .i64, .int .i64, .any] u3.aggOf) (fun _ => (match valH Try.D 73 [.agg (shL [.int .u8, .int .i64, .int .i64, .int .i64, .int .i64, .int .i64, .int .i64, .any] u3.aggOf)] ⟨[], [(g, 8, 81)]⟩ with | some u5 => br (u5.isAgg && fitL [.int .u8, .int .i64, .int .i64, .int .i64, .int .i64, .int .i64, .int .i64, .any] u5.aggOf) (fun _ => (if fitsRoom (ys.length + 1) 80 = true ∧ 8 = 8 then (if some (g, 8, 81) = some (g, 8, 81) then loopF Try.D (cF fuel) fuel Try.f69 [1, 1, 0, 1, 0] k [resetV a a, resetV x1 x1, .nils, .inl true (Spare.tok 0 (g + 1)) 8 (ys ++ detokL (detokL [.agg (shL [.int .u8, .int .i64, .int .i64, .int .i64, .int .i64, .int .i64, .int .i64, .any] u5.aggOf)])), .int .i64 (IntKind.i64.wrap (i + (1 : Int))), resetV x5 (.int .i64 i), resetV x6 a, resetV x7 (.int .i64 (↑a.listOf.length : Int)), resetV x8 (.bool (decide (i < (↑a.listOf.length : Int)))), resetV x9 (.int .i64 i), resetV x10 (.int .i64 (IntKind.i64.wrap (i + (1 : Int)))), resetV x11 (.inl true (Spare.tok 0 g) 8 ys), resetV x12 a, resetV x13 (.int .i64 i), resetV x14 (AV.agg (shL [.int .u8, .int .i64, .int .i64, .int .i64, .int .i64, .int .i64, .int .i64, .any] u3.aggOf)).rop, resetV x15 (.agg (shL [.int .u8, .int .i64, .int .i64, .int .i64, .int .i64, .int .i64, .int .i64, .any] u3.aggOf)), resetV x16 (.agg (shL [.int .u8, .int .i64, .int .i64, .int .i64, .int .i64, .int .i64, .int .i64, .any] u5.aggOf)), resetV x17 (.inl true Spare.zero 8 (detokL [.agg (shL [.int .u8, .int .i64, .int .i64, .int .i64, .int .i64, .int .i64, .int .i64, .any] u5.aggOf)])), resetV x18 (.inl true (Spare.tok 0 (g + 1)) 8 (ys ++ detokL (detokL [.agg (shL [.int .u8, .int .i64, .int .i64, .int .i64, .int .i64, .int .i64, .int .i64, .any] u5.aggOf)]))), resetV x19 x19] ⟨[], [(g + 1, 8, 81)]⟩ K else none) else none)) (fun _ => none) | none => none)) (fun _ => none) | none => none)) (fun _ => none)) (fun _ => K (.inl true (Spare.tok 0 g) 8 ys) ⟨[], [(g, 8, 81)]⟩)) (fun _ => none) := by kernel_rfl
theorem loop69 {R : Type} (fuel : Nat) {a : AV} (ha : tyV (.sl 8 dtTask) a) (hb : szV bzF (.sl 8 dtTask) a) (hE : ∀ u, tyV dtTask u → szV bzF dtTask u → ∃ v, (∀ H : AH, callL Try.D 73 [u] H = some (v, H)) ∧ tyV dtTask v ∧ nrm v = nrm u) (K : AV → AH → Option R) : ∀ (r i k g : Nat) (ys : List AV) (x1 x5 x6 x7 x8 x9 x10 x11 x12 x13 x14 x15 x16 x17 x18 x19 : AV), i + r = a.listOf.length → r < k → ys.length = i → (∀ u ∈ ys, tyV dtTask u) →
    ∃ g' ys', loopF Try.D (cF fuel) fuel Try.f69 [1, 1, 0, 1, 0] k [a, x1, .nils, (.inl true (.tok 0 g) 8 ys), .int .i64 (i : Int), x5, x6, x7, x8, x9, x10, x11, x12, x13, x14, x15, x16, x17, x18, x19] ⟨[], [(g, 8, 81)]⟩ K = K (.inl true (.tok 0 g') 8 ys') ⟨[], [(g', 8, 81)]⟩ ∧ ys'.length = a.listOf.length ∧ (∀ u ∈ ys', tyV dtTask u) ∧ nrmL ys' = nrmL ys ++ nrmL (a.listOf.drop i)
  | r, i, 0, g, ys, _, _, _, _, _, _, _, _, _, _, _, _, _, _, _, _, h, hk, hl, hy => by omega
  | 0, i, k + 1, g, ys, x1, x5, x6, x7, x8, x9, x10, x11, x12, x13, x14, x15, x16, x17, x18, x19, h, hk, hl, hy => by
    refine ⟨g, ys, ?_, by omega, hy, by rw [List.drop_eq_nil_of_le (by omega)]; simp [nrmL]⟩
    rw [step69, (sl_facts ha).1, lt_false (by omega : ¬ i < a.listOf.length)]
    rfl
  | r + 1, i, k + 1, g, ys, x1, x5, x6, x7, x8, x9, x10, x11, x12, x13, x14, x15, x16, x17, x18, x19, h, hk, hl, hy => by
    obtain ⟨hA, hmax, hT, -, -⟩ := sl_facts ha
    obtain ⟨hblen, hbel⟩ := sz_list ha hb
    have hi : i < a.listOf.length := by omega
    obtain ⟨u, hu⟩ : ∃ u, a.listOf[i]? = some u := ⟨_, List.getElem?_eq_getElem hi⟩
    have hmem := List.mem_of_getElem? hu
    have tu := hT u hmem
    obtain ⟨v, hv, tv, hvn⟩ := hE u tu (hbel u hmem)
    have hy' : ∀ w ∈ ys ++ [v], tyV dtTask w := by
      intro w hw
      rcases List.mem_append.1 hw with hw | hw
      · exact hy w hw
      · simp only [List.mem_singleton] at hw; subst hw; exact tv
    have ih := fun (x1 x5 x6 x7 x8 x9 x10 x11 x12 x13 x14 x15 x16 x17 x18 x19 : AV) => loop69 fuel ha hb hE K r (i + 1) k (g + 1) (ys ++ [v]) x1 x5 x6 x7 x8 x9 x10 x11 x12 x13 x14 x15 x16 x17 x18 x19 (by omega) (by omega) (by simp [hl]) hy'
    rw [step69, hA, lt_true hi, ge_true, Int.toNat_natCast, hu]
    simp only [br, Bool.and_self, fit_dtTask tu, eta_dtTask tu]
    rw [valH_of (hv _)]
    simp only [fit_dtTask tv, eta_dtTask tv, detokL, tyV_detok tv]
    rw [if_pos ⟨show fitsRoom (ys.length + 1) 80 = true from fits_bytes (Nat.le_trans (Nat.mul_le_mul_right _ (by omega)) hblen) (by decide) (by decide), by first | trivial | rfl⟩, if_pos (by first | trivial | rfl), wrap_next hi hmax]
    have e : nrmL (ys ++ [v]) ++ nrmL (a.listOf.drop (i + 1)) = nrmL ys ++ nrmL (a.listOf.drop i) := by
      rw [nrm_drop hu, nrmL_app]
      simp [nrmL, hvn]
    rw [← e]
    try simp only [resetV_self]
    exact ih _ _ _ _ _ _ _ _ _ _ _ _ _ _ _ _

theorem cp69 (hE : ∀ u, tyV dtTask u → szV bzF dtTask u → ∃ v, (∀ H : AH, callL Try.D 73 [u] H = some (v, H)) ∧ tyV dtTask v ∧ nrm v = nrm u) {a : AV} (ha : tyV (.sl 8 dtTask) a) (hb : szV bzF (.sl 8 dtTask) a) : ∃ v, (∀ H : AH, callL Try.D 69 [a] H = some (v, H)) ∧ tyV (.sl 8 dtTask) v ∧ nrm v = nrm a := by
  have ha' := tyV_erase ha
  have hb' : szV bzF (.sl 8 dtTask) (erase a) := szV_erase ha hb
  obtain ⟨hA, hmax, hT, hN, -⟩ := sl_facts ha'
  obtain ⟨hlen, hbel⟩ := sz_list ha' hb'
  by_cases h0 : (erase a).listOf.length = 0
  · refine ⟨.nils, fun H => ?_, .inl rfl, ?_⟩
    · refine callL_D (tabF_ok) (fuel := 1) (n := 6) (fn := Try.f69) (ds := [.sl 8 dtTask]) (v := .nils) (by kernel_rfl) (by kernel_rfl) (by kernel_rfl) ⟨ha, trivial⟩ ?_ rfl
      show runI Try.D (cF 1) 1 Try.f69 [erase a] ⟨[], []⟩ (fun v _ => some v) = _
      rw [pre69, stepN69, hA, show decide ((0 : Int) < ((erase a).listOf.length : Int)) = false by rw [h0]; rfl]
      rfl
    · rw [← tyV_nrm ha, hN, List.length_eq_zero_iff.1 h0]
      rfl
  · have hi : 0 < (erase a).listOf.length := by omega
    obtain ⟨u, hu⟩ : ∃ u, (erase a).listOf[0]? = some u := ⟨_, List.getElem?_eq_getElem hi⟩
    have hmem := List.mem_of_getElem? hu
    have tu := hT u hmem
    obtain ⟨v, hv, tv, hvn⟩ := hE u tu (hbel u hmem)
    have key : ∃ g' ys', runI Try.D (cF ((erase a).listOf.length + 1)) ((erase a).listOf.length + 1) Try.f69 [erase a] ⟨[], []⟩ (fun v _ => some v) = some (.inl true (.tok 0 g') 8 ys') ∧ ys'.length = (erase a).listOf.length ∧ (∀ u ∈ ys', tyV dtTask u) ∧ nrmL ys' = nrmL (erase a).listOf := by
      have ih := fun (x1 x5 x6 x7 x8 x9 x10 x11 x12 x13 x14 x15 x16 x17 x18 x19 : AV) => loop69 ((erase a).listOf.length + 1) ha' hb' hE (fun v _ => some v) ((erase a).listOf.length - 1) 1 (erase a).listOf.length 0 [v] x1 x5 x6 x7 x8 x9 x10 x11 x12 x13 x14 x15 x16 x17 x18 x19 (by omega) (by omega) rfl (by simpa using tv)
      rw [pre69, stepN69, hA, show decide ((0 : Int) < ((erase a).listOf.length : Int)) = true by simpa using hi, show ((0 : Int)).toNat = 0 from rfl, hu]
      simp only [br, Bool.and_self, fit_dtTask tu, eta_dtTask tu, show decide ((0 : Int) ≤ 0) = true from rfl]
      rw [valH_of (hv _)]
      simp only [fit_dtTask tv, eta_dtTask tv, detokL, tyV_detok tv]
      rw [show IntKind.i64.wrap (0 + 1) = ((1 : Nat) : Int) from rfl]
      have e : nrmL [v] ++ nrmL ((erase a).listOf.drop 1) = nrmL (erase a).listOf := by
        have := nrm_drop hu
        simp only [List.drop_zero] at this
        rw [this]
        simp [nrmL, hvn]
      rw [← e]
      try simp only [resetV_self]
      exact ih _ _ _ _ _ _ _ _ _ _ _ _ _ _ _ _
    obtain ⟨g', ys', h1, h2, h3, h4⟩ := key
    refine ⟨.inl true .unk 8 ys', fun H => ?_, ty_new rfl (by omega) h3, ?_⟩
    · have hd : detok (.inl true (.tok 0 g') 8 ys') = .inl true .unk 8 ys' := by
        simp only [detok, Spare.detok, ty_detokL h3]
      rw [← hd]
      refine callL_D (tabF_ok) (fuel := (erase a).listOf.length + 1) (n := 6) (fn := Try.f69) (ds := [.sl 8 dtTask]) (v := .inl true (.tok 0 g') 8 ys') (by kernel_rfl) (by kernel_rfl) (by kernel_rfl) ⟨ha, trivial⟩ h1 ?_
      rw [hd]
      simp only [below, ty_ebelowL h3]
      rfl
    · rw [← tyV_nrm ha, hN]
      simp only [nrm, h4]
theorem pre47 {R : Type} (fuel : Nat) (a : AV) (K : AV → AH → Option R) : runI Try.D (cF fuel) fuel Try.f47 [a] ⟨[], []⟩ K = loopF Try.D (cF fuel) fuel Try.f47 [1, 1, 0, 1, 0] fuel [a, .top, .nils, .nils, .int .i64 (0 : Int), .top, .top, .top, .top, .top, .top, .top, .top, .top, .top, .top, .top, .top, .top, .top] ⟨[], []⟩ K := by kernel_rfl
theorem stepN47 {R : Type} (fuel k : Nat) (a : AV) (i : Int) (x1 x5 x6 x7 x8 x9 x10 x11 x12 x13 x14 x15 x16 x17 x18 x19 : AV) (K : AV → AH → Option R) : loopF Try.D (cF fuel) fuel Try.f47 [1, 1, 0, 1, 0] (k + 1) [a, x1, .nils, .nils, .int .i64 i, x5, x6, x7, x8, x9, x10, x11, x12, x13, x14, x15, x16, x17, x18, x19] ⟨[], []⟩ K = br (AV.listN 10 a) (fun _ => br (decide (i < (↑a.listOf.length : Int))) (fun _ => br (AV.listN 10 a && (decide ((0 : Int) ≤ i) && decide (i < (↑a.listOf.length : Int)))) (fun _ => (match a.listOf[i.toNat]? with | some u3 => br (u3.isAgg && fitL [.int .i64, .int .i64, .int .i64, .int .i64, .any, .any, .int .i64, .int .i64, .bool, .any] u3.aggOf) (fun _ => (match valH Try.D 64 [.agg (shL [.int .i64, .int .i64, .int .i64, .int .i64, .any, .any, .int .i64, .int .i64, .bool, .any] u3.aggOf)] ⟨[], []⟩ with | some u5 => br (u5.isAgg && fitL [.int .i64, .int .i64, .int .i64, .int .i64, .any, .any, .int .i64, .int .i64, .bool, .any] u5.aggOf) (fun _ => loopF Try.D (cF fuel) fuel Try.f47 [1, 1, 0, 1, 0] k [resetV a a, resetV x1 x1, .nils, .inl true (Spare.tok 0 0) 10 (detokL (detokL [.agg (shL [.int .i64, .int .i64, .int .i64, .int .i64, .any, .any, .int .i64, .int .i64, .bool, .any] u5.aggOf)])), .int .i64 (IntKind.i64.wrap (i + (1 : Int))), resetV x5 (.int .i64 i), resetV x6 a, resetV x7 (.int .i64 (↑a.listOf.length : Int)), resetV x8 (.bool (decide (i < (↑a.listOf.length : Int)))), resetV x9 (.int .i64 i), resetV x10 (.int .i64 (IntKind.i64.wrap (i + (1 : Int)))), resetV x11 .nils, resetV x12 a, resetV x13 (.int .i64 i), resetV x14 (AV.agg (shL [.int .i64, .int .i64, .int .i64, .int .i64, .any, .any, .int .i64, .int .i64, .bool, .any] u3.aggOf)).rop, resetV x15 (.agg (shL [.int .i64, .int .i64, .int .i64, .int .i64, .any, .any, .int .i64, .int .i64, .bool, .any] u3.aggOf)), resetV x16 (.agg (shL [.int .i64, .int .i64, .int .i64, .int .i64, .any, .any, .int .i64, .int .i64, .bool, .any] u5.aggOf)), resetV x17 (.inl true Spare.zero 10 (detokL [.agg (shL [.int .i64, .int .i64, .int .i64, .int .i64, .any, .any, .int .i64, .int .i64, .bool, .any] u5.aggOf)])), resetV x18 (.inl true (Spare.tok 0 0) 10 (detokL (detokL [.agg (shL [.int .i64, .int .i64, .int .i64, .int .i64, .any, .any, .int .i64, .int .i64, .bool, .any] u5.aggOf)]))), resetV x19 x19] ⟨[], [(0, 10, 79)]⟩ K) (fun _ => none) | none => none)) (fun _ => none) | none => none)) (fun _ => none)) (fun _ => K .nils ⟨[], []⟩)) (fun _ => none) := by kernel_rfl
theorem step47 {R : Type} (fuel k : Nat) (a : AV) (i : Int) (g : Nat) (ys : List AV) (x1 x5 x6 x7 x8 x9 x10 x11 x12 x13 x14 x15 x16 x17 x18 x19 : AV) (K : AV → AH → Option R) : loopF Try.D (cF fuel) fuel Try.f47 [1, 1, 0, 1, 0] (k + 1) [a, x1, .nils, (.inl true (.tok 0 g) 10 ys), .int .i64 i, x5, x6, x7, x8, x9, x10, x11, x12, x13, x14, x15, x16, x17, x18, x19] ⟨[], [(g, 10, 79)]⟩ K = br (AV.listN 10 a) (fun _ => br (decide (i < (↑a.listOf.length : Int))) (fun _ => br (AV.listN 10 a && (decide ((0 : Int) ≤ i) && decide (i < (↑a.listOf.length : Int)))) (fun _ => (match a.listOf[i.toNat]? with | some u3 => br (u3.isAgg && fitL [.int .i64, .int .i64, .int .i64, .int .i64, .any, .any, .int .i64, .int .i64, .bool, .any] u3.aggOf) (fun _ => (match valH Try.D 64 [.agg (shL [.int .i64, .int .i64, .int .i64, .int .i64, .any, .any, .int .i64, .int .i64, .bool, .any] u3.aggOf)] ⟨[], [(g, 10, 79)]⟩ with | some u5 => br (u5.isAgg && fitL [.int .i64, .int .i64, .int .i64, .int .i64, .any, .any, .int .i64, .int .i64, .bool, .any] u5.aggOf) (fun _ => (if fitsRoom (ys.length + 1) 128 = true ∧ 10 = 10 then (if some (g, 10, 79) = some (g, 10, 79) then loopF Try.D (cF fuel) fuel Try.f47 [1, 1, 0, 1, 0] k [resetV a a, resetV x1 x1, .nils, .inl true (Spare.tok 0 (g + 1)) 10 (ys ++ detokL (detokL [.agg (shL [.int .i64, .int .i64, .int .i64, .int .i64, .any, .any, .int .i64, .int .i64, .bool, .any] u5.aggOf)])), .int .i64 (IntKind.i64.wrap (i + (1 : Int))), resetV x5 (.int .i64 i), resetV x6 a, resetV x7 (.int .i64 (↑a.listOf.length : Int)), resetV x8 (.bool (decide (i < (↑a.listOf.length : Int)))), resetV x9 (.int .i64 i), resetV x10 (.int .i64 (IntKind.i64.wrap (i + (1 : Int)))), resetV x11 (.inl true (Spare.tok 0 g) 10 ys), resetV x12 a, resetV x13 (.int .i64 i), resetV x14 (AV.agg (shL [.int .i64, .int .i64, .int .i64, .int .i64, .any, .any, .int .i64, .int .i64, .bool, .any] u3.aggOf)).rop, resetV x15 (.agg (shL [.int .i64, .int .i64, .int .i64, .int .i64, .any, .any, .int .i64, .int .i64, .bool, .any] u3.aggOf)), resetV x16 (.agg (shL [.int .i64, .int .i64, .int .i64, .int .i64, .any, .any, .int .i64, .int .i64, .bool, .any] u5.aggOf)), resetV x17 (.inl true Spare.zero 10 (detokL [.agg (shL [.int .i64, .int .i64, .int .i64, .int .i64, .any, .any, .int .i64, .int .i64, .bool, .any] u5.aggOf)])), resetV x18 (.inl true (Spare.tok 0 (g + 1)) 10 (ys ++ detokL (detokL [.agg (shL [.int .i64, .int .i64, .int .i64, .int .i64, .any, .any, .int .i64, .int .i64, .bool, .any] u5.aggOf)]))), resetV x19 x19] ⟨[], [(g + 1, 10, 79)]⟩ K else none) else none)) (fun _ => none) | none => none)) (fun _ => none) | none => none)) (fun _ => none)) (fun _ => K (.inl true (Spare.tok 0 g) 10 ys) ⟨[], [(g, 10, 79)]⟩)) (fun _ => none) := by kernel_rfl
theorem loop47 {R : Type} (fuel : Nat) {a : AV} (ha : tyV (.sl 10 dtAlloc) a) (hb : szV bzF (.sl 10 dtAlloc) a) (hE : ∀ u, tyV dtAlloc u → szV bzF dtAlloc u → ∃ v, (∀ H : AH, callL Try.D 64 [u] H = some (v, H)) ∧ tyV dtAlloc v ∧ nrm v = nrm u) (K : AV → AH → Option R) : ∀ (r i k g : Nat) (ys : List AV) (x1 x5 x6 x7 x8 x9 x10 x11 x12 x13 x14 x15 x16 x17 x18 x19 : AV), i + r = a.listOf.length → r < k → ys.length = i → (∀ u ∈ ys, tyV dtAlloc u) →
    ∃ g' ys', loopF Try.D (cF fuel) fuel Try.f47 [1, 1, 0, 1, 0] k [a, x1, .nils, (.inl true (.tok 0 g) 10 ys), .int .i64 (i : Int), x5, x6, x7, x8, x9, x10, x11, x12, x13, x14, x15, x16, x17, x18, x19] ⟨[], [(g, 10, 79)]⟩ K = K (.inl true (.tok 0 g') 10 ys') ⟨[], [(g', 10, 79)]⟩ ∧ ys'.length = a.listOf.length ∧ (∀ u ∈ ys', tyV dtAlloc u) ∧ nrmL ys' = nrmL ys ++ nrmL (a.listOf.drop i)
  | r, i, 0, g, ys, _, _, _, _, _, _, _, _, _, _, _, _, _, _, _, _, h, hk, hl, hy => by omega
  | 0, i, k + 1, g, ys, x1, x5, x6, x7, x8, x9, x10, x11, x12, x13, x14, x15, x16, x17, x18, x19, h, hk, hl, hy => by
    refine ⟨g, ys, ?_, by omega, hy, by rw [List.drop_eq_nil_of_le (by omega)]; simp [nrmL]⟩
    rw [step47, (sl_facts ha).1, lt_false (by omega : ¬ i < a.listOf.length)]
    rfl
  | r + 1, i, k + 1, g, ys, x1, x5, x6, x7, x8, x9, x10, x11, x12, x13, x14, x15, x16, x17, x18, x19, h, hk, hl, hy => by
    obtain ⟨hA, hmax, hT, -, -⟩ := sl_facts ha
    obtain ⟨hblen, hbel⟩ := sz_list ha hb
    have hi : i < a.listOf.length := by omega
    obtain ⟨u, hu⟩ : ∃ u, a.listOf[i]? = some u := ⟨_, List.getElem?_eq_getElem hi⟩
    have hmem := List.mem_of_getElem? hu
    have tu := hT u hmem
    obtain ⟨v, hv, tv, hvn⟩ := hE u tu (hbel u hmem)
    have hy' : ∀ w ∈ ys ++ [v], tyV dtAlloc w := by
      intro w hw
      rcases List.mem_append.1 hw with hw | hw
      · exact hy w hw
      · simp only [List.mem_singleton] at hw; subst hw; exact tv
    have ih := fun (x1 x5 x6 x7 x8 x9 x10 x11 x12 x13 x14 x15 x16 x17 x18 x19 : AV) => loop47 fuel ha hb hE K r (i + 1) k (g + 1) (ys ++ [v]) x1 x5 x6 x7 x8 x9 x10 x11 x12 x13 x14 x15 x16 x17 x18 x19 (by omega) (by omega) (by simp [hl]) hy'
    rw [step47, hA, lt_true hi, ge_true, Int.toNat_natCast, hu]
    simp only [br, Bool.and_self, fit_dtAlloc tu, eta_dtAlloc tu]
    rw [valH_of (hv _)]
    simp only [fit_dtAlloc tv, eta_dtAlloc tv, detokL, tyV_detok tv]
    rw [if_pos ⟨show fitsRoom (ys.length + 1) 128 = true from fits_bytes (Nat.le_trans (Nat.mul_le_mul_right _ (by omega)) hblen) (by decide) (by decide), by first | trivial | rfl⟩, if_pos (by first | trivial | rfl), wrap_next hi hmax]
    have e : nrmL (ys ++ [v]) ++ nrmL (a.listOf.drop (i + 1)) = nrmL ys ++ nrmL (a.listOf.drop i) := by
      rw [nrm_drop hu, nrmL_app]
      simp [nrmL, hvn]
    rw [← e]
    try simp only [resetV_self]
    exact ih _ _ _ _ _ _ _ _ _ _ _ _ _ _ _ _

theorem cp47 (hE : ∀ u, tyV dtAlloc u → szV bzF dtAlloc u → ∃ v, (∀ H : AH, callL Try.D 64 [u] H = some (v, H)) ∧ tyV dtAlloc v ∧ nrm v = nrm u) {a : AV} (ha : tyV (.sl 10 dtAlloc) a) (hb : szV bzF (.sl 10 dtAlloc) a) : ∃ v, (∀ H : AH, callL Try.D 47 [a] H = some (v, H)) ∧ tyV (.sl 10 dtAlloc) v ∧ nrm v = nrm a := by
  have ha' := tyV_erase ha
  have hb' : szV bzF (.sl 10 dtAlloc) (erase a) := szV_erase ha hb
  obtain ⟨hA, hmax, hT, hN, -⟩ := sl_facts ha'
  obtain ⟨hlen, hbel⟩ := sz_list ha' hb'
  by_cases h0 : (erase a).listOf.length = 0
  · refine ⟨.nils, fun H => ?_, .inl rfl, ?_⟩
    · refine callL_D (tabF_ok) (fuel := 1) (n := 6) (fn := Try.f47) (ds := [.sl 10 dtAlloc]) (v := .nils) (by kernel_rfl) (by kernel_rfl) (by kernel_rfl) ⟨ha, trivial⟩ ?_ rfl
      show runI Try.D (cF 1) 1 Try.f47 [erase a] ⟨[], []⟩ (fun v _ => some v) = _
      rw [pre47, stepN47, hA, show decide ((0 : Int) < ((erase a).listOf.length : Int)) = false by rw [h0]; rfl]
      rfl
    · rw [← tyV_nrm ha, hN, List.length_eq_zero_iff.1 h0]
      rfl
  · have hi : 0 < (erase a).listOf.length := by omega
    obtain ⟨u, hu⟩ : ∃ u, (erase a).listOf[0]? = some u := ⟨_, List.getElem?_eq_getElem hi⟩
    have hmem := List.mem_of_getElem? hu
    have tu := hT u hmem
    obtain ⟨v, hv, tv, hvn⟩ := hE u tu (hbel u hmem)
    have key : ∃ g' ys', runI Try.D (cF ((erase a).listOf.length + 1)) ((erase a).listOf.length + 1) Try.f47 [erase a] ⟨[], []⟩ (fun v _ => some v) = some (.inl true (.tok 0 g') 10 ys') ∧ ys'.length = (erase a).listOf.length ∧ (∀ u ∈ ys', tyV dtAlloc u) ∧ nrmL ys' = nrmL (erase a).listOf := by
      have ih := fun (x1 x5 x6 x7 x8 x9 x10 x11 x12 x13 x14 x15 x16 x17 x18 x19 : AV) => loop47 ((erase a).listOf.length + 1) ha' hb' hE (fun v _ => some v) ((erase a).listOf.length - 1) 1 (erase a).listOf.length 0 [v] x1 x5 x6 x7 x8 x9 x10 x11 x12 x13 x14 x15 x16 x17 x18 x19 (by omega) (by omega) rfl (by simpa using tv)
      rw [pre47, stepN47, hA, show decide ((0 : Int) < ((erase a).listOf.length : Int)) = true by simpa using hi, show ((0 : Int)).toNat = 0 from rfl, hu]
      simp only [br, Bool.and_self, fit_dtAlloc tu, eta_dtAlloc tu, show decide ((0 : Int) ≤ 0) = true from rfl]
      rw [valH_of (hv _)]
      simp only [fit_dtAlloc tv, eta_dtAlloc tv, detokL, tyV_detok tv]
      rw [show IntKind.i64.wrap (0 + 1) = ((1 : Nat) : Int) from rfl]
      have e : nrmL [v] ++ nrmL ((erase a).listOf.drop 1) = nrmL (erase a).listOf := by
        have := nrm_drop hu
        simp only [List.drop_zero] at this
        rw [this]
        simp [nrmL, hvn]
      rw [← e]
      try simp only [resetV_self]
      exact ih _ _ _ _ _ _ _ _ _ _ _ _ _ _ _ _
    obtain ⟨g', ys', h1, h2, h3, h4⟩ := key
    refine ⟨.inl true .unk 10 ys', fun H => ?_, ty_new rfl (by omega) h3, ?_⟩
    · have hd : detok (.inl true (.tok 0 g') 10 ys') = .inl true .unk 10 ys' := by
        simp only [detok, Spare.detok, ty_detokL h3]
      rw [← hd]
      refine callL_D (tabF_ok) (fuel := (erase a).listOf.length + 1) (n := 6) (fn := Try.f47) (ds := [.sl 10 dtAlloc]) (v := .inl true (.tok 0 g') 10 ys') (by kernel_rfl) (by kernel_rfl) (by kernel_rfl) ⟨ha, trivial⟩ h1 ?_
      rw [hd]
      simp only [below, ty_ebelowL h3]
      rfl
    · rw [← tyV_nrm ha, hN]
      simp only [nrm, h4]
theorem pre42 {R : Type} (fuel : Nat) (a : AV) (K : AV → AH → Option R) : runI Try.D (cF fuel) fuel Try.f42 [a] ⟨[], []⟩ K = loopF Try.D (cF fuel) fuel Try.f42 [1, 1, 0, 1, 0] fuel [a, .top, .nils, .nils, .int .i64 (0 : Int), .top, .top, .top, .top, .top, .top, .top, .top, .top, .top, .top, .top, .top, .top, .top] ⟨[], []⟩ K := by kernel_rfl
theorem stepN42 {R : Type} (fuel k : Nat) (a : AV) (i : Int) (x1 x5 x6 x7 x8 x9 x10 x11 x12 x13 x14 x15 x16 x17 x18 x19 : AV) (K : AV → AH → Option R) : loopF Try.D (cF fuel) fuel Try.f42 [1, 1, 0, 1, 0] (k + 1) [a, x1, .nils, .nils, .int .i64 i, x5, x6, x7, x8, x9, x10, x11, x12, x13, x14, x15, x16, x17, x18, x19] ⟨[], []⟩ K = br (AV.listN 15 a) (fun _ => br (decide (i < (↑a.listOf.length : Int))) (fun _ => br (AV.listN 15 a && (decide ((0 : Int) ≤ i) && decide (i < (↑a.listOf.length : Int)))) (fun _ => (match a.listOf[i.toNat]? with | some u3 => br (u3.isAgg && fitL [.int .u8, .int .i64, .int .i64, .int .i64, .int .i64, .int .i64, .any, .any, .int .i64, .int .i64, .int .i64, .int .i64, .int .i64, .int .i64, .int .i64] u3.aggOf) (fun _ => (match valH Try.D 48 [.agg (shL [.int .u8, .int .i64, .int .i64, .int .i64, .int .i64, .int .i64, .any, .any, .int .i64, .int .i64, .int .i64, .int .i64, .int .i64, .int .i64, .int .i64] u3.aggOf)] ⟨[], []⟩ with | some u5 => br (u5.isAgg && fitL [.int .u8, .int .i64, .int .i64, .int .i64, .int .i64, .int .i64, .any, .any, .int .i64, .int .i64, .int .i64, .int .i64, .int .i64, .int .i64, .int .i64] u5.aggOf) (fun _ => loopF Try.D (cF fuel) fuel Try.f42 [1, 1, 0, 1, 0] k [resetV a a, resetV x1 x1, .nils, .inl true (Spare.tok 0 0) 15 (detokL (detokL [.agg (shL [.int .u8, .int .i64, .int .i64, .int .i64, .int .i64, .int .i64, .any, .any, .int .i64, .int .i64, .int .i64, .int .i64, .int .i64, .int .i64, .int .i64] u5.aggOf)])), .int .i64 (IntKind.i64.wrap (i + (1 : Int))), resetV x5 (.int .i64 i), resetV x6 a, resetV x7 (.int .i64 (↑a.listOf.length : Int)), resetV x8 (.bool (decide (i < (↑a.listOf.length : Int)))), resetV x9 (.int .i64 i), resetV x10 (.int .i64 (IntKind.i64.wrap (i + (1 : Int)))), resetV x11 .nils, resetV x12 a, resetV x13 (.int .i64 i), resetV x14 (AV.agg (shL [.int .u8, .int .i64, .int .i64, .int .i64, .int .i64, .int .i64, .any, .any, .int .i64, .int .i64, .int .i64, .int .i64, .int .i64, .int .i64, .int .i64] u3.aggOf)).rop, resetV x15 (.agg (shL [.int .u8, .int .i64, .int .i64, .int .i64, .int .i64, .int .i64, .any, .any, .int .i64, .int .i64, .int .i64, .int .i64, .int .i64, .int .i64, .int .i64] u3.aggOf)), resetV x16 (.agg (shL [.int .u8, .int .i64, .int .i64, .int .i64, .int .i64, .int .i64, .any, .any, .int .i64, .int .i64, .int .i64, .int .i64, .int .i64, .int .i64, .int .i64] u5.aggOf)), resetV x17 (.inl true Spare.zero 15 (detokL [.agg (shL [.int .u8, .int .i64, .int .i64, .int .i64, .int .i64, .int .i64, .any, .any, .int .i64, .int .i64, .int .i64, .int .i64, .int .i64, .int .i64, .int .i64] u5.aggOf)])), resetV x18 (.inl true (Spare.tok 0 0) 15 (detokL (detokL [.agg (shL [.int .u8, .int .i64, .int .i64, .int .i64, .int .i64, .int .i64, .any, .any, .int .i64, .int .i64, .int .i64, .int .i64, .int .i64, .int .i64, .int .i64] u5.aggOf)]))), resetV x19 x19] ⟨[], [(0, 15, 93)]⟩ K) (fun _ => none) | none => none)) (fun _ => none) | none => none)) (fun _ => none)) (fun _ => K .nils ⟨[], []⟩)) (fun _ => none) := by kernel_rfl
theorem step42 {R : Type} (fuel k : Nat) (a : AV) (i : Int) (g : Nat) (ys : List AV) (x1 x5 x6 x7 x8 x9 x10 x11 x12 x13 x14 x15 x16 x17 x18 x19 : AV) (K : AV → AH → Option R) : loopF Try.D (cF fuel) fuel Try.f42 [1, 1, 0, 1, 0] (k + 1) [a, x1, .nils, (.inl true (.tok 0 g) 15 ys), .int .i64 i, x5, x6, x7, x8, x9, x10, x11, x12, x13, x14, x15, x16, x17, x18, x19] ⟨[], [(g, 15, 93)]⟩ K = br (AV.listN 15 a) (fun _ => br (decide (i < (↑a.listOf.length : Int))) (fun _ => br (AV.listN 15 a && (decide ((0 : Int) ≤ i) && decide (i < (↑a.listOf.length : Int)))) (fun _ => (match a.listOf[i.toNat]? with | some u3 => br (u3.isAgg && fitL [.int .u8, .int .i64, .int .i64, .int .i64, .int .i64, .int .i64, .any, .any, .int .i64, .int .i64, .int .i64, .int .i64, .int .i64, .int .i64, .int .i64] u3.aggOf) (fun _ => (match valH Try.D 48 [.agg (shL [.int .u8, .int .i64, .int .i64, .int .i64, .int .i64, .int .i64, .any, .any, .int .i64, .int .i64, .int .i64, .int .i64, .int .i64, .int .i64, .int .i64] u3.aggOf)] ⟨[], [(g, 15, 93)]⟩ with | some u5 => br (u5.isAgg && fitL [.int .u8, .int .i64, .int .i64, .int .i64, .int .i64, .int .i64, .any, .any, .int .i64, .int .i64, .int .i64, .int .i64, .int .i64, .int .i64, .int .i64] u5.aggOf) (fun _ => (if fitsRoom (ys.length + 1) 152 = true ∧ 15 = 15 then (if some (g, 15, 93) = some (g, 15, 93) then loopF Try.D (cF fuel) fuel Try.f42 [1, 1, 0, 1, 0] k [resetV a a, resetV x1 x1, .nils, .inl true (Spare.tok 0 (g + 1)) 15 (ys ++ detokL (detokL [.agg (shL [.int .u8, .int .i64, .int .i64, .int .i64, .int .i64, .int .i64, .any, .any, .int .i64, .int .i64, .int .i64, .int .i64, .int .i64, .int .i64, .int .i64] u5.aggOf)])), .int .i64 (IntKind.i64.wrap (i + (1 : Int))), resetV x5 (.int .i64 i), resetV x6 a, resetV x7 (.int .i64 (↑a.listOf.length : Int)), resetV x8 (.bool (decide (i < (↑a.listOf.length : Int)))), resetV x9 (.int .i64 i), resetV x10 (.int .i64 (IntKind.i64.wrap (i + (1 : Int)))), resetV x11 (.inl true (Spare.tok 0 g) 15 ys), resetV x12 a, resetV x13 (.int .i64 i), resetV x14 (AV.agg (shL [.int .u8, .int .i64, .int .i64, .int .i64, .int .i64, .int .i64, .any, .any, .int .i64, .int .i64, .int .i64, .int .i64, .int .i64, .int .i64, .int .i64] u3.aggOf)).rop, resetV x15 (.agg (shL [.int .u8, .int .i64, .int .i64, .int .i64, .int .i64, .int .i64, .any, .any, .int .i64, .int .i64, .int .i64, .int .i64, .int .i64, .int .i64, .int .i64] u3.aggOf)), resetV x16 (.agg (shL [.int .u8, .int .i64, .int .i64, .int .i64, .int .i64, .int .i64, .any, .any, .int .i64, .int .i64, .int .i64, .int .i64, .int .i64, .int .i64, .int .i64] u5.aggOf)), resetV x17 (.inl true Spare.zero 15 (detokL [.agg (shL [.int .u8, .int .i64, .int .i64, .int .i64, .int .i64, .int .i64, .any, .any, .int .i64, .int .i64, .int .i64, .int .i64, .int .i64, .int .i64, .int .i64] u5.aggOf)])), resetV x18 (.inl true (Spare.tok 0 (g + 1)) 15 (ys ++ detokL (detokL [.agg (shL [.int .u8, .int .i64, .int .i64, .int .i64, .int .i64, .int .i64, .any, .any, .int .i64, .int .i64, .int .i64, .int .i64, .int .i64, .int .i64, .int .i64] u5.aggOf)]))), resetV x19 x19] ⟨[], [(g + 1, 15, 93)]⟩ K else none) else none)) (fun _ => none) | none => none)) (fun _ => none) | none => none)) (fun _ => none)) (fun _ => K (.inl true (Spare.tok 0 g) 15 ys) ⟨[], [(g, 15, 93)]⟩)) (fun _ => none) := by kernel_rfl
theorem loop42 {R : Type} (fuel : Nat) {a : AV} (ha : tyV (.sl 15 dtRec) a) (hb : szV bzF (.sl 15 dtRec) a) (hE : ∀ u, tyV dtRec u → szV bzF dtRec u → ∃ v, (∀ H : AH, callL Try.D 48 [u] H = some (v, H)) ∧ tyV dtRec v ∧ nrm v = nrm u) (K : AV → AH → Option R) : ∀ (r i k g : Nat) (ys : List AV) (x1 x5 x6 x7 x8 x9 x10 x11 x12 x13 x14 x15 x16 x17 x18 x19 : AV), i + r = a.listOf.length → r < k → ys.length = i → (∀ u ∈ ys, tyV dtRec u) →
    ∃ g' ys', loopF Try.D (cF fuel) fuel Try.f42 [1, 1, 0, 1, 0] k [a, x1, .nils, (.inl true (.tok 0 g) 15 ys), .int .i64 (i : Int), x5, x6, x7, x8, x9, x10, x11, x12, x13, x14, x15, x16, x17, x18, x19] ⟨[], [(g, 15, 93)]⟩ K = K (.inl true (.tok 0 g') 15 ys') ⟨[], [(g', 15, 93)]⟩ ∧ ys'.length = a.listOf.length ∧ (∀ u ∈ ys', tyV dtRec u) ∧ nrmL ys' = nrmL ys ++ nrmL (a.listOf.drop i)
  | r, i, 0, g, ys, _, _, _, _, _, _, _, _, _, _, _, _, _, _, _, _, h, hk, hl, hy => by omega
  | 0, i, k + 1, g, ys, x1, x5, x6, x7, x8, x9, x10, x11, x12, x13, x14, x15, x16, x17, x18, x19, h, hk, hl, hy => by
    refine ⟨g, ys, ?_, by omega, hy, by rw [List.drop_eq_nil_of_le (by omega)]; simp [nrmL]⟩
    rw [step42, (sl_facts ha).1, lt_false (by omega : ¬ i < a.listOf.length)]
    rfl
  | r + 1, i, k + 1, g, ys, x1, x5, x6, x7, x8, x9, x10, x11, x12, x13, x14, x15, x16, x17, x18, x19, h, hk, hl, hy => by
    obtain ⟨hA, hmax, hT, -, -⟩ := sl_facts ha
    obtain ⟨hblen, hbel⟩ := sz_list ha hb
    have hi : i < a.listOf.length := by omega
    obtain ⟨u, hu⟩ : ∃ u, a.listOf[i]? = some u := ⟨_, List.getElem?_eq_getElem hi⟩
    have hmem := List.mem_of_getElem? hu
    have tu := hT u hmem
    obtain ⟨v, hv, tv, hvn⟩ := hE u tu (hbel u hmem)
    have hy' : ∀ w ∈ ys ++ [v], tyV dtRec w := by
      intro w hw
      rcases List.mem_append.1 hw with hw | hw
      · exact hy w hw
      · simp only [List.mem_singleton] at hw; subst hw; exact tv
    have ih := fun (x1 x5 x6 x7 x8 x9 x10 x11 x12 x13 x14 x15 x16 x17 x18 x19 : AV) => loop42 fuel ha hb hE K r (i + 1) k (g + 1) (ys ++ [v]) x1 x5 x6 x7 x8 x9 x10 x11 x12 x13 x14 x15 x16 x17 x18 x19 (by omega) (by omega) (by simp [hl]) hy'
    rw [step42, hA, lt_true hi, ge_true, Int.toNat_natCast, hu]
    simp only [br, Bool.and_self, fit_dtRec tu, eta_dtRec tu]
    rw [valH_of (hv _)]
    simp only [fit_dtRec tv, eta_dtRec tv, detokL, tyV_detok tv]
    rw [if_pos ⟨show fitsRoom (ys.length + 1) 152 = true from fits_bytes (Nat.le_trans (Nat.mul_le_mul_right _ (by omega)) hblen) (by decide) (by decide), by first | trivial | rfl⟩, if_pos (by first | trivial | rfl), wrap_next hi hmax]
    have e : nrmL (ys ++ [v]) ++ nrmL (a.listOf.drop (i + 1)) = nrmL ys ++ nrmL (a.listOf.drop i) := by
      rw [nrm_drop hu, nrmL_app]
      simp [nrmL, hvn]
    rw [← e]
    try simp only [resetV_self]
    exact ih _ _ _ _ _ _ _ _ _ _ _ _ _ _ _ _

theorem cp42 (hE : ∀ u, tyV dtRec u → szV bzF dtRec u → ∃ v, (∀ H : AH, callL Try.D 48 [u] H = some (v, H)) ∧ tyV dtRec v ∧ nrm v = nrm u) {a : AV} (ha : tyV (.sl 15 dtRec) a) (hb : szV bzF (.sl 15 dtRec) a) : ∃ v, (∀ H : AH, callL Try.D 42 [a] H = some (v, H)) ∧ tyV (.sl 15 dtRec) v ∧ nrm v = nrm a := by
  have ha' := tyV_erase ha
  have hb' : szV bzF (.sl 15 dtRec) (erase a) := szV_erase ha hb
  obtain ⟨hA, hmax, hT, hN, -⟩ := sl_facts ha'
  obtain ⟨hlen, hbel⟩ := sz_list ha' hb'
  by_cases h0 : (erase a).listOf.length = 0
  · refine ⟨.nils, fun H => ?_, .inl rfl, ?_⟩
    · refine callL_D (tabF_ok) (fuel := 1) (n := 6) (fn := Try.f42) (ds := [.sl 15 dtRec]) (v := .nils) (by kernel_rfl) (by kernel_rfl) (by kernel_rfl) ⟨ha, trivial⟩ ?_ rfl
      show runI Try.D (cF 1) 1 Try.f42 [erase a] ⟨[], []⟩ (fun v _ => some v) = _
      rw [pre42, stepN42, hA, show decide ((0 : Int) < ((erase a).listOf.length : Int)) = false by rw [h0]; rfl]
      rfl
    · rw [← tyV_nrm ha, hN, List.length_eq_zero_iff.1 h0]
      rfl
  · have hi : 0 < (erase a).listOf.length := by omega
    obtain ⟨u, hu⟩ : ∃ u, (erase a).listOf[0]? = some u := ⟨_, List.getElem?_eq_getElem hi⟩
    have hmem := List.mem_of_getElem? hu
    have tu := hT u hmem
    obtain ⟨v, hv, tv, hvn⟩ := hE u tu (hbel u hmem)
    have key : ∃ g' ys', runI Try.D (cF ((erase a).listOf.length + 1)) ((erase a).listOf.length + 1) Try.f42 [erase a] ⟨[], []⟩ (fun v _ => some v) = some (.inl true (.tok 0 g') 15 ys') ∧ ys'.length = (erase a).listOf.length ∧ (∀ u ∈ ys', tyV dtRec u) ∧ nrmL ys' = nrmL (erase a).listOf := by
      have ih := fun (x1 x5 x6 x7 x8 x9 x10 x11 x12 x13 x14 x15 x16 x17 x18 x19 : AV) => loop42 ((erase a).listOf.length + 1) ha' hb' hE (fun v _ => some v) ((erase a).listOf.length - 1) 1 (erase a).listOf.length 0 [v] x1 x5 x6 x7 x8 x9 x10 x11 x12 x13 x14 x15 x16 x17 x18 x19 (by omega) (by omega) rfl (by simpa using tv)
      rw [pre42, stepN42, hA, show decide ((0 : Int) < ((erase a).listOf.length : Int)) = true by simpa using hi, show ((0 : Int)).toNat = 0 from rfl, hu]
      simp only [br, Bool.and_self, fit_dtRec tu, eta_dtRec tu, show decide ((0 : Int) ≤ 0) = true from rfl]
      rw [valH_of (hv _)]
      simp only [fit_dtRec tv, eta_dtRec tv, detokL, tyV_detok tv]
      rw [show IntKind.i64.wrap (0 + 1) = ((1 : Nat) : Int) from rfl]
      have e : nrmL [v] ++ nrmL ((erase a).listOf.drop 1) = nrmL (erase a).listOf := by
        have := nrm_drop hu
        simp only [List.drop_zero] at this
        rw [this]
        simp [nrmL, hvn]
      rw [← e]
      try simp only [resetV_self]
      exact ih _ _ _ _ _ _ _ _ _ _ _ _ _ _ _ _
    obtain ⟨g', ys', h1, h2, h3, h4⟩ := key
    refine ⟨.inl true .unk 15 ys', fun H => ?_, ty_new rfl (by omega) h3, ?_⟩
    · have hd : detok (.inl true (.tok 0 g') 15 ys') = .inl true .unk 15 ys' := by
        simp only [detok, Spare.detok, ty_detokL h3]
      rw [← hd]
      refine callL_D (tabF_ok) (fuel := (erase a).listOf.length + 1) (n := 6) (fn := Try.f42) (ds := [.sl 15 dtRec]) (v := .inl true (.tok 0 g') 15 ys') (by kernel_rfl) (by kernel_rfl) (by kernel_rfl) ⟨ha, trivial⟩ h1 ?_
      rw [hd]
      simp only [below, ty_ebelowL h3]
      rfl
    · rw [← tyV_nrm ha, hN]
      simp only [nrm, h4]
theorem pre11 {R : Type} (fuel : Nat) (a : AV) (K : AV → AH → Option R) : runI Try.D (cF fuel) fuel Try.f11 [a] ⟨[], []⟩ K = loopF Try.D (cF fuel) fuel Try.f11 [1, 1, 0, 1, 0] fuel [a, .top, .nils, .nils, .int .i64 (0 : Int), .top, .top, .top, .top, .top, .top, .top, .top, .top, .top, .top, .top, .top, .top, .top] ⟨[], []⟩ K := by kernel_rfl
theorem stepN11 {R : Type} (fuel k : Nat) (a : AV) (i : Int) (x1 x5 x6 x7 x8 x9 x10 x11 x12 x13 x14 x15 x16 x17 x18 x19 : AV) (K : AV → AH → Option R) : loopF Try.D (cF fuel) fuel Try.f11 [1, 1, 0, 1, 0] (k + 1) [a, x1, .nils, .nils, .int .i64 i, x5, x6, x7, x8, x9, x10, x11, x12, x13, x14, x15, x16, x17, x18, x19] ⟨[], []⟩ K = br (AV.listN 14 a) (fun _ => br (decide (i < (↑a.listOf.length : Int))) (fun _ => br (AV.listN 14 a && (decide ((0 : Int) ≤ i) && decide (i < (↑a.listOf.length : Int)))) (fun _ => (match a.listOf[i.toNat]? with | some u3 => br (u3.isAgg && fitL [.int .i64, .bool, .bool, .bool, .int .i64, .int .i64, .int .i64, .int .i64, .any, .any, .any, .int .i64, .any, .any] u3.aggOf) (fun _ => (match valH Try.D 29 [.agg (shL [.int .i64, .bool, .bool, .bool, .int .i64, .int .i64, .int .i64, .int .i64, .any, .any, .any, .int .i64, .any, .any] u3.aggOf)] ⟨[], []⟩ with | some u5 => br (u5.isAgg && fitL [.int .i64, .bool, .bool, .bool, .int .i64, .int .i64, .int .i64, .int .i64, .any, .any, .any, .int .i64, .any, .any] u5.aggOf) (fun _ => loopF Try.D (cF fuel) fuel Try.f11 [1, 1, 0, 1, 0] k [resetV a a, resetV x1 x1, .nils, .inl true (Spare.tok 0 0) 14 (detokL (detokL [.agg (shL [.int .i64, .bool, .bool, .bool, .int .i64, .int .i64, .int .i64, .int .i64, .any, .any, .any, .int .i64, .any, .any] u5.aggOf)])), .int .i64 (IntKind.i64.wrap (i + (1 : Int))), resetV x5 (.int .i64 i), resetV x6 a, resetV x7 (.int .i64 (↑a.listOf.length : Int)), resetV x8 (.bool (decide (i < (↑a.listOf.length : Int)))), resetV x9 (.int .i64 i), resetV x10 (.int .i64 (IntKind.i64.wrap (i + (1 : Int)))), resetV x11 .nils, resetV x12 a, resetV x13 (.int .i64 i), resetV x14 (AV.agg (shL [.int .i64, .bool, .bool, .bool, .int .i64, .int .i64, .int .i64, .int .i64, .any, .any, .any, .int .i64, .any, .any] u3.aggOf)).rop, resetV x15 (.agg (shL [.int .i64, .bool, .bool, .bool, .int .i64, .int .i64, .int .i64, .int .i64, .any, .any, .any, .int .i64, .any, .any] u3.aggOf)), resetV x16 (.agg (shL [.int .i64, .bool, .bool, .bool, .int .i64, .int .i64, .int .i64, .int .i64, .any, .any, .any, .int .i64, .any, .any] u5.aggOf)), resetV x17 (.inl true Spare.zero 14 (detokL [.agg (shL [.int .i64, .bool, .bool, .bool, .int .i64, .int .i64, .int .i64, .int .i64, .any, .any, .any, .int .i64, .any, .any] u5.aggOf)])), resetV x18 (.inl true (Spare.tok 0 0) 14 (detokL (detokL [.agg (shL [.int .i64, .bool, .bool, .bool, .int .i64, .int .i64, .int .i64, .int .i64, .any, .any, .any, .int .i64, .any, .any] u5.aggOf)]))), resetV x19 x19] ⟨[], [(0, 14, 53)]⟩ K) (fun _ => none) | none => none)) (fun _ => none) | none => none)) (fun _ => none)) (fun _ => K .nils ⟨[], []⟩)) (fun _ => none) := by kernel_rfl
theorem step11 {R : Type} (fuel k : Nat) (a : AV) (i : Int) (g : Nat) (ys : List AV) (x1 x5 x6 x7 x8 x9 x10 x11 x12 x13 x14 x15 x16 x17 x18 x19 : AV) (K : AV → AH → Option R) : loopF Try.D (cF fuel) fuel Try.f11 [1, 1, 0, 1, 0] (k + 1) [a, x1, .nils, (.inl true (.tok 0 g) 14 ys), .int .i64 i, x5, x6, x7, x8, x9, x10, x11, x12, x13, x14, x15, x16, x17, x18, x19] ⟨[], [(g, 14, 53)]⟩ K = br (AV.listN 14 a) (fun _ => br (decide (i < (↑a.listOf.length : Int))) (fun _ => br (AV.listN 14 a && (decide ((0 : Int) ≤ i) && decide (i < (↑a.listOf.length : Int)))) (fun _ => (match a.listOf[i.toNat]? with | some u3 => br (u3.isAgg && fitL [.int .i64, .bool, .bool, .bool, .int .i64, .int .i64, .int .i64, .int .i64, .any, .any, .any, .int .i64, .any, .any] u3.aggOf) (fun _ => (match valH Try.D 29 [.agg (shL [.int .i64, .bool, .bool, .bool, .int .i64, .int .i64, .int .i64, .int .i64, .any, .any, .any, .int .i64, .any, .any] u3.aggOf)] ⟨[], [(g, 14, 53)]⟩ with | some u5 => br (u5.isAgg && fitL [.int .i64, .bool, .bool, .bool, .int .i64, .int .i64, .int .i64, .int .i64, .any, .any, .any, .int .i64, .any, .any] u5.aggOf) (fun _ => (if fitsRoom (ys.length + 1) 176 = true ∧ 14 = 14 then (if some (g, 14, 53) = some (g, 14, 53) then loopF Try.D (cF fuel) fuel Try.f11 [1, 1, 0, 1, 0] k [resetV a a, resetV x1 x1, .nils, .inl true (Spare.tok 0 (g + 1)) 14 (ys ++ detokL (detokL [.agg (shL [.int .i64, .bool, .bool, .bool, .int .i64, .int .i64, .int .i64, .int .i64, .any, .any, .any, .int .i64, .any, .any] u5.aggOf)])), .int .i64 (IntKind.i64.wrap (i + (1 : Int))), resetV x5 (.int .i64 i), resetV x6 a, resetV x7 (.int .i64 (↑a.listOf.length : Int)), resetV x8 (.bool (decide (i < (↑a.listOf.length : Int)))), resetV x9 (.int .i64 i), resetV x10 (.int .i64 (IntKind.i64.wrap (i + (1 : Int)))), resetV x11 (.inl true (Spare.tok 0 g) 14 ys), resetV x12 a, resetV x13 (.int .i64 i), resetV x14 (AV.agg (shL [.int .i64, .bool, .bool, .bool, .int .i64, .int .i64, .int .i64, .int .i64, .any, .any, .any, .int .i64, .any, .any] u3.aggOf)).rop, resetV x15 (.agg (shL [.int .i64, .bool, .bool, .bool, .int .i64, .int .i64, .int .i64, .int .i64, .any, .any, .any, .int .i64, .any, .any] u3.aggOf)), resetV x16 (.agg (shL [.int .i64, .bool, .bool, .bool, .int .i64, .int .i64, .int .i64, .int .i64, .any, .any, .any, .int .i64, .any, .any] u5.aggOf)), resetV x17 (.inl true Spare.zero 14 (detokL [.agg (shL [.int .i64, .bool, .bool, .bool, .int .i64, .int .i64, .int .i64, .int .i64, .any, .any, .any, .int .i64, .any, .any] u5.aggOf)])), resetV x18 (.inl true (Spare.tok 0 (g + 1)) 14 (ys ++ detokL (detokL [.agg (shL [.int .i64, .bool, .bool, .bool, .int .i64, .int .i64, .int .i64, .int .i64, .any, .any, .any, .int .i64, .any, .any] u5.aggOf)]))), resetV x19 x19] ⟨[], [(g + 1, 14, 53)]⟩ K else none) else none)) (fun _ => none) | none => none)) (fun _ => none) | none => none)) (fun _ => none)) (fun _ => K (.inl true (Spare.tok 0 g) 14 ys) ⟨[], [(g, 14, 53)]⟩)) (fun _ => none) := by kernel_rfl
theorem loop11 {R : Type} (fuel : Nat) {a : AV} (ha : tyV (.sl 14 dtMom) a) (hb : szV bzF (.sl 14 dtMom) a) (hE : ∀ u, tyV dtMom u → szV bzF dtMom u → ∃ v, (∀ H : AH, callL Try.D 29 [u] H = some (v, H)) ∧ tyV dtMom v ∧ nrm v = nrm u) (K : AV → AH → Option R) : ∀ (r i k g : Nat) (ys : List AV) (x1 x5 x6 x7 x8 x9 x10 x11 x12 x13 x14 x15 x16 x17 x18 x19 : AV), i + r = a.listOf.length → r < k → ys.length = i → (∀ u ∈ ys, tyV dtMom u) →
    ∃ g' ys', loopF Try.D (cF fuel) fuel Try.f11 [1, 1, 0, 1, 0] k [a, x1, .nils, (.inl true (.tok 0 g) 14 ys), .int .i64 (i : Int), x5, x6, x7, x8, x9, x10, x11, x12, x13, x14, x15, x16, x17, x18, x19] ⟨[], [(g, 14, 53)]⟩ K = K (.inl true (.tok 0 g') 14 ys') ⟨[], [(g', 14, 53)]⟩ ∧ ys'.length = a.listOf.length ∧ (∀ u ∈ ys', tyV dtMom u) ∧ nrmL ys' = nrmL ys ++ nrmL (a.listOf.drop i)
  | r, i, 0, g, ys, _, _, _, _, _, _, _, _, _, _, _, _, _, _, _, _, h, hk, hl, hy => by omega
  | 0, i, k + 1, g, ys, x1, x5, x6, x7, x8, x9, x10, x11, x12, x13, x14, x15, x16, x17, x18, x19, h, hk, hl, hy => by
    refine ⟨g, ys, ?_, by omega, hy, by rw [List.drop_eq_nil_of_le (by omega)]; simp [nrmL]⟩
    rw [step11, (sl_facts ha).1, lt_false (by omega : ¬ i < a.listOf.length)]
    rfl
  | r + 1, i, k + 1, g, ys, x1, x5, x6, x7, x8, x9, x10, x11, x12, x13, x14, x15, x16, x17, x18, x19, h, hk, hl, hy => by
    obtain ⟨hA, hmax, hT, -, -⟩ := sl_facts ha
    obtain ⟨hblen, hbel⟩ := sz_list ha hb
    have hi : i < a.listOf.length := by omega
    obtain ⟨u, hu⟩ : ∃ u, a.listOf[i]? = some u := ⟨_, List.getElem?_eq_getElem hi⟩
    have hmem := List.mem_of_getElem? hu
    have tu := hT u hmem
    obtain ⟨v, hv, tv, hvn⟩ := hE u tu (hbel u hmem)
    have hy' : ∀ w ∈ ys ++ [v], tyV dtMom w := by
      intro w hw
      rcases List.mem_append.1 hw with hw | hw
      · exact hy w hw
      · simp only [List.mem_singleton] at hw; subst hw; exact tv
    have ih := fun (x1 x5 x6 x7 x8 x9 x10 x11 x12 x13 x14 x15 x16 x17 x18 x19 : AV) => loop11 fuel ha hb hE K r (i + 1) k (g + 1) (ys ++ [v]) x1 x5 x6 x7 x8 x9 x10 x11 x12 x13 x14 x15 x16 x17 x18 x19 (by omega) (by omega) (by simp [hl]) hy'
    rw [step11, hA, lt_true hi, ge_true, Int.toNat_natCast, hu]
    simp only [br, Bool.and_self, fit_dtMom tu, eta_dtMom tu]
    rw [valH_of (hv _)]
    simp only [fit_dtMom tv, eta_dtMom tv, detokL, tyV_detok tv]
    rw [if_pos ⟨show fitsRoom (ys.length + 1) 176 = true from fits_bytes (Nat.le_trans (Nat.mul_le_mul_right _ (by omega)) hblen) (by decide) (by decide), by first | trivial | rfl⟩, if_pos (by first | trivial | rfl), wrap_next hi hmax]
    have e : nrmL (ys ++ [v]) ++ nrmL (a.listOf.drop (i + 1)) = nrmL ys ++ nrmL (a.listOf.drop i) := by
      rw [nrm_drop hu, nrmL_app]
      simp [nrmL, hvn]
    rw [← e]
    try simp only [resetV_self]
    exact ih _ _ _ _ _ _ _ _ _ _ _ _ _ _ _ _

theorem cp11 (hE : ∀ u, tyV dtMom u → szV bzF dtMom u → ∃ v, (∀ H : AH, callL Try.D 29 [u] H = some (v, H)) ∧ tyV dtMom v ∧ nrm v = nrm u) {a : AV} (ha : tyV (.sl 14 dtMom) a) (hb : szV bzF (.sl 14 dtMom) a) : ∃ v, (∀ H : AH, callL Try.D 11 [a] H = some (v, H)) ∧ tyV (.sl 14 dtMom) v ∧ nrm v = nrm a := by
  have ha' := tyV_erase ha
  have hb' : szV bzF (.sl 14 dtMom) (erase a) := szV_erase ha hb
  obtain ⟨hA, hmax, hT, hN, -⟩ := sl_facts ha'
  obtain ⟨hlen, hbel⟩ := sz_list ha' hb'
  by_cases h0 : (erase a).listOf.length = 0
  · refine ⟨.nils, fun H => ?_, .inl rfl, ?_⟩
    · refine callL_D (tabF_ok) (fuel := 1) (n := 6) (fn := Try.f11) (ds := [.sl 14 dtMom]) (v := .nils) (by kernel_rfl) (by kernel_rfl) (by kernel_rfl) ⟨ha, trivial⟩ ?_ rfl
      show runI Try.D (cF 1) 1 Try.f11 [erase a] ⟨[], []⟩ (fun v _ => some v) = _
      rw [pre11, stepN11, hA, show decide ((0 : Int) < ((erase a).listOf.length : Int)) = false by rw [h0]; rfl]
      rfl
    · rw [← tyV_nrm ha, hN, List.length_eq_zero_iff.1 h0]
      rfl
  · have hi : 0 < (erase a).listOf.length := by omega
    obtain ⟨u, hu⟩ : ∃ u, (erase a).listOf[0]? = some u := ⟨_, List.getElem?_eq_getElem hi⟩
    have hmem := List.mem_of_getElem? hu
    have tu := hT u hmem
    obtain ⟨v, hv, tv, hvn⟩ := hE u tu (hbel u hmem)
    have key : ∃ g' ys', runI Try.D (cF ((erase a).listOf.length + 1)) ((erase a).listOf.length + 1) Try.f11 [erase a] ⟨[], []⟩ (fun v _ => some v) = some (.inl true (.tok 0 g') 14 ys') ∧ ys'.length = (erase a).listOf.length ∧ (∀ u ∈ ys', tyV dtMom u) ∧ nrmL ys' = nrmL (erase a).listOf := by
      have ih := fun (x1 x5 x6 x7 x8 x9 x10 x11 x12 x13 x14 x15 x16 x17 x18 x19 : AV) => loop11 ((erase a).listOf.length + 1) ha' hb' hE (fun v _ => some v) ((erase a).listOf.length - 1) 1 (erase a).listOf.length 0 [v] x1 x5 x6 x7 x8 x9 x10 x11 x12 x13 x14 x15 x16 x17 x18 x19 (by omega) (by omega) rfl (by simpa using tv)
      rw [pre11, stepN11, hA, show decide ((0 : Int) < ((erase a).listOf.length : Int)) = true by simpa using hi, show ((0 : Int)).toNat = 0 from rfl, hu]
      simp only [br, Bool.and_self, fit_dtMom tu, eta_dtMom tu, show decide ((0 : Int) ≤ 0) = true from rfl]
      rw [valH_of (hv _)]
      simp only [fit_dtMom tv, eta_dtMom tv, detokL, tyV_detok tv]
      rw [show IntKind.i64.wrap (0 + 1) = ((1 : Nat) : Int) from rfl]
      have e : nrmL [v] ++ nrmL ((erase a).listOf.drop 1) = nrmL (erase a).listOf := by
        have := nrm_drop hu
        simp only [List.drop_zero] at this
        rw [this]
        simp [nrmL, hvn]
      rw [← e]
      try simp only [resetV_self]
      exact ih _ _ _ _ _ _ _ _ _ _ _ _ _ _ _ _
    obtain ⟨g', ys', h1, h2, h3, h4⟩ := key
    refine ⟨.inl true .unk 14 ys', fun H => ?_, ty_new rfl (by omega) h3, ?_⟩
    · have hd : detok (.inl true (.tok 0 g') 14 ys') = .inl true .unk 14 ys' := by
        simp only [detok, Spare.detok, ty_detokL h3]
      rw [← hd]
      refine callL_D (tabF_ok) (fuel := (erase a).listOf.length + 1) (n := 6) (fn := Try.f11) (ds := [.sl 14 dtMom]) (v := .inl true (.tok 0 g') 14 ys') (by kernel_rfl) (by kernel_rfl) (by kernel_rfl) ⟨ha, trivial⟩ h1 ?_
      rw [hd]
      simp only [below, ty_ebelowL h3]
      rfl
    · rw [← tyV_nrm ha, hN]
      simp only [nrm, h4]
end Go.Proofs.Ytoagnbpmoihojaa

/- Copies and equality of what a state consists of. -/
import Derived.Test.YtoagnbpmoihojaaDoorRepDat
set_option maxRecDepth 100000
set_option linter.unusedSimpArgs false
set_option linter.unusedVariables false
namespace Go.Proofs.YtoagnbpmoihojaaDoor
open Go.Sx

def dtI : DT := .int .i64
def dtSt : DT := .agg 7 [dtI, dtI, .int .u8, dtI, dtI, dtI, .bool]
def dtTS : DT := .agg 6 [.agg 5 [.bool, dtI, dtI, dtI, dtI], dtI]
def dtProc : DT := .agg 9 [dtI, dtI, .agg 3 [dtI, dtI, dtI], .bool, .bool, .bool, dtI]
def dtSpec : DT := .agg 6 [dtI, .agg 3 [dtI, dtI, dtI], .sl 1 dtI, .sl 6 dtTS]
def dtTask : DT := .agg 8 [.int .u8, dtI, dtI, dtI, dtI, dtI, dtI, .sl 1 dtI]
def dtAlloc : DT := .agg 10 [dtSpec, dtI, dtI, .bool, .sl 8 dtTask]
def dtState : DT := .agg 5 [dtI, dtI, dtI, dtI, .sl 10 dtAlloc]

theorem fit_dtSt {u : AV} (h : tyV dtSt u) : (u.isAgg && fitL [Sh.int IntKind.i64, Sh.int IntKind.i64, Sh.int IntKind.u8, Sh.int IntKind.i64, Sh.int IntKind.i64, Sh.int IntKind.i64, Sh.bool] u.aggOf) = true := ty_fit h rfl rfl
theorem eta_dtSt {u : AV} (h : tyV dtSt u) : AV.agg (shL [Sh.int IntKind.i64, Sh.int IntKind.i64, Sh.int IntKind.u8, Sh.int IntKind.i64, Sh.int IntKind.i64, Sh.int IntKind.i64, Sh.bool] u.aggOf) = u := ty_eta h rfl rfl
theorem fit_dtTS {u : AV} (h : tyV dtTS u) : (u.isAgg && fitL [Sh.bool, Sh.int IntKind.i64, Sh.int IntKind.i64, Sh.int IntKind.i64, Sh.int IntKind.i64, Sh.int IntKind.i64] u.aggOf) = true := ty_fit h rfl rfl
theorem eta_dtTS {u : AV} (h : tyV dtTS u) : AV.agg (shL [Sh.bool, Sh.int IntKind.i64, Sh.int IntKind.i64, Sh.int IntKind.i64, Sh.int IntKind.i64, Sh.int IntKind.i64] u.aggOf) = u := ty_eta h rfl rfl
theorem fit_dtProc {u : AV} (h : tyV dtProc u) : (u.isAgg && fitL [Sh.int IntKind.i64, Sh.int IntKind.i64, Sh.int IntKind.i64, Sh.int IntKind.i64, Sh.int IntKind.i64, Sh.bool, Sh.bool, Sh.bool, Sh.int IntKind.i64] u.aggOf) = true := ty_fit h rfl rfl
theorem eta_dtProc {u : AV} (h : tyV dtProc u) : AV.agg (shL [Sh.int IntKind.i64, Sh.int IntKind.i64, Sh.int IntKind.i64, Sh.int IntKind.i64, Sh.int IntKind.i64, Sh.bool, Sh.bool, Sh.bool, Sh.int IntKind.i64] u.aggOf) = u := ty_eta h rfl rfl
theorem fit_dtSpec {u : AV} (h : tyV dtSpec u) : (u.isAgg && fitL [Sh.int IntKind.i64, Sh.int IntKind.i64, Sh.int IntKind.i64, Sh.int IntKind.i64, Sh.any, Sh.any] u.aggOf) = true := ty_fit h rfl rfl
theorem eta_dtSpec {u : AV} (h : tyV dtSpec u) : AV.agg (shL [Sh.int IntKind.i64, Sh.int IntKind.i64, Sh.int IntKind.i64, Sh.int IntKind.i64, Sh.any, Sh.any] u.aggOf) = u := ty_eta h rfl rfl
theorem fit_dtTask {u : AV} (h : tyV dtTask u) : (u.isAgg && fitL [Sh.int IntKind.u8, Sh.int IntKind.i64, Sh.int IntKind.i64, Sh.int IntKind.i64, Sh.int IntKind.i64, Sh.int IntKind.i64, Sh.int IntKind.i64, Sh.any] u.aggOf) = true := ty_fit h rfl rfl
theorem eta_dtTask {u : AV} (h : tyV dtTask u) : AV.agg (shL [Sh.int IntKind.u8, Sh.int IntKind.i64, Sh.int IntKind.i64, Sh.int IntKind.i64, Sh.int IntKind.i64, Sh.int IntKind.i64, Sh.int IntKind.i64, Sh.any] u.aggOf) = u := ty_eta h rfl rfl
theorem fit_dtAlloc {u : AV} (h : tyV dtAlloc u) : (u.isAgg && fitL [Sh.int IntKind.i64, Sh.int IntKind.i64, Sh.int IntKind.i64, Sh.int IntKind.i64, Sh.any, Sh.any, Sh.int IntKind.i64, Sh.int IntKind.i64, Sh.bool, Sh.any] u.aggOf) = true := ty_fit h rfl rfl
theorem eta_dtAlloc {u : AV} (h : tyV dtAlloc u) : AV.agg (shL [Sh.int IntKind.i64, Sh.int IntKind.i64, Sh.int IntKind.i64, Sh.int IntKind.i64, Sh.any, Sh.any, Sh.int IntKind.i64, Sh.int IntKind.i64, Sh.bool, Sh.any] u.aggOf) = u := ty_eta h rfl rfl
theorem fit_dtState {u : AV} (h : tyV dtState u) : (u.isAgg && fitL [Sh.int IntKind.i64, Sh.int IntKind.i64, Sh.int IntKind.i64, Sh.int IntKind.i64, Sh.any] u.aggOf) = true := ty_fit h rfl rfl
theorem eta_dtState {u : AV} (h : tyV dtState u) : AV.agg (shL [Sh.int IntKind.i64, Sh.int IntKind.i64, Sh.int IntKind.i64, Sh.int IntKind.i64, Sh.any] u.aggOf) = u := ty_eta h rfl rfl
theorem fit_dtI {u : AV} (h : tyV dtI u) : fitS (Sh.int IntKind.i64) u = true := ty_fit1 h rfl rfl

theorem pre79 (m : Array Value) {R : Type} (fuel : Nat) (a b : AV) (K : AV → AH → Option R) :
  runI (Rep.D m) (cD m fuel) fuel Tryd.f79 [a, b] ⟨[], []⟩ K =
  br (AV.listN 1 a)
    (fun _ => br (AV.listN 1 b)
      (fun _ => br ((↑a.listOf.length : Int) != (↑b.listOf.length : Int))
        (fun _ => K (AV.bool false) { objs := [], toks := [] })
        (fun _ => loopF (Rep.D m) (cD m fuel) fuel Tryd.f79 [1, 1, 0, 1, 0] fuel [a, b, AV.top, AV.top, AV.bool false, AV.int IntKind.i64 ((0 : Int)), a, AV.int IntKind.i64 (↑a.listOf.length : Int),
      b, AV.int IntKind.i64 (↑b.listOf.length : Int), AV.bool ((↑a.listOf.length : Int) != (↑b.listOf.length : Int)),
      AV.top, AV.top, AV.top, AV.top, AV.top, AV.top, AV.top, AV.top, AV.top, AV.top, AV.top, AV.top, AV.top, AV.top,
      AV.top] { objs := [], toks := [] } K))
      (fun _ => none))
    (fun _ => none) := by kernel_rfl
theorem step79 (m : Array Value) {R : Type} (fuel k : Nat) (a b : AV) (i : Int) (x2 x3 x6 x7 x8 x9 x10 x11 x12 x13 x14 x15 x16 x17 x18 x19 x20 x21 x22 x23 x24 x25 : AV) (K : AV → AH → Option R) :
  loopF (Rep.D m) (cD m fuel) fuel Tryd.f79 [1, 1, 0, 1, 0] (k + 1) [a, b, x2, x3, .bool false, .int .i64 i, x6, x7, x8, x9, x10, x11, x12, x13, x14, x15, x16, x17, x18, x19, x20, x21, x22, x23, x24, x25] ⟨[], []⟩ K =
  br (AV.listN 1 a)
    (fun _ => br (decide (i < (↑a.listOf.length : Int)))
      (fun _ => br (AV.listN 1 a && (decide ((0 : Int) ≤ i) && decide (i < (↑a.listOf.length : Int))))
        (fun _ => (match a.listOf[i.toNat]? with
          | some u3 => br (fitS (Sh.int IntKind.i64) u3)
            (fun _ => br (AV.listN 1 b && (decide ((0 : Int) ≤ i) && decide (i < (↑b.listOf.length : Int))))
              (fun _ => (match b.listOf[i.toNat]? with
                | some u6 => br (fitS (Sh.int IntKind.i64) u6)
                  (fun _ => br (u3.numOf != u6.numOf)
                    (fun _ => K (AV.bool false) { objs := [], toks := [] })
                    (fun _ => loopF (Rep.D m) (cD m fuel) fuel Tryd.f79 [1, 1, 0, 1, 0] k [a, b, x2, x3, AV.bool false, AV.int IntKind.i64 (IntKind.i64.wrap (i + (1 : Int))), x6, x7, x8, x9, x10,
      AV.int IntKind.i64 i, a, AV.int IntKind.i64 (↑a.listOf.length : Int), AV.bool (decide (i < (↑a.listOf.length : Int))),
      AV.int IntKind.i64 i, AV.int IntKind.i64 (IntKind.i64.wrap (i + (1 : Int))), a, AV.int IntKind.i64 i,
      (AV.int IntKind.i64 u3.numOf).rop, AV.int IntKind.i64 u3.numOf, b, AV.int IntKind.i64 i,
      (AV.int IntKind.i64 u6.numOf).rop, AV.int IntKind.i64 u6.numOf, AV.bool (u3.numOf != u6.numOf)] { objs := [], toks := [] } K))
                  (fun _ => none)
                | none => none))
              (fun _ => none))
            (fun _ => none)
          | none => none))
        (fun _ => none))
      (fun _ => K (AV.bool true) { objs := [], toks := [] }))
    (fun _ => none) := by kernel_rfl
-- PROOFS
theorem loop79 (m : Array Value) {R : Type} (fuel : Nat) {a b : AV} (ha : tyV (.sl 1 dtI) a) (hb : tyV (.sl 1 dtI) b) (hs : nrm a = nrm b) (K : AV → AH → Option R) : ∀ (r i k : Nat) (x2 x3 x6 x7 x8 x9 x10 x11 x12 x13 x14 x15 x16 x17 x18 x19 x20 x21 x22 x23 x24 x25 : AV), i + r = a.listOf.length → r < k →
    loopF (Rep.D m) (cD m fuel) fuel Tryd.f79 [1, 1, 0, 1, 0] k [a, b, x2, x3, .bool false, .int .i64 (i : Int), x6, x7, x8, x9, x10, x11, x12, x13, x14, x15, x16, x17, x18, x19, x20, x21, x22, x23, x24, x25] ⟨[], []⟩ K = K (.bool true) ⟨[], []⟩
  | r, i, 0, _, _, _, _, _, _, _, _, _, _, _, _, _, _, _, _, _, _, _, _, _, _, h, hk => by omega
  | 0, i, k + 1, x2, x3, x6, x7, x8, x9, x10, x11, x12, x13, x14, x15, x16, x17, x18, x19, x20, x21, x22, x23, x24, x25, h, hk => by
    rw [step79, (sl_facts ha).1, lt_false (by omega : ¬ i < a.listOf.length)]
    rfl
  | r + 1, i, k + 1, x2, x3, x6, x7, x8, x9, x10, x11, x12, x13, x14, x15, x16, x17, x18, x19, x20, x21, x22, x23, x24, x25, h, hk => by
    obtain ⟨hA, hmax, hT, -, -⟩ := sl_facts ha
    obtain ⟨hB, -, hU, -, -⟩ := sl_facts hb
    obtain ⟨hlen, hget⟩ := nrmL_get (list_same ha hb hs)
    have hi : i < a.listOf.length := by omega
    have hj : i < b.listOf.length := by omega
    obtain ⟨u, hu⟩ : ∃ u, a.listOf[i]? = some u := ⟨_, List.getElem?_eq_getElem hi⟩
    obtain ⟨w, hw⟩ : ∃ w, b.listOf[i]? = some w := ⟨_, List.getElem?_eq_getElem hj⟩
    have tu := hT u (List.mem_of_getElem? hu)
    have tw := hU w (List.mem_of_getElem? hw)
    have huw := hget i u w hu hw
    rw [flatV rfl tu, flatV rfl tw] at huw
    subst huw
    rw [step79, hA, hB, lt_true hi, lt_true hj, ge_true, Int.toNat_natCast, hu, hw]
    simp only [br, Bool.and_self, fit_dtI tu, fit_dtI tw]
    simp only [bne_self_eq_false, beq_self_eq_true, Bool.and_self, Bool.not_true]
    rw [wrap_next hi hmax]
    exact loop79 m fuel ha hb hs K r (i + 1) k _ _ _ _ _ _ _ _ _ _ _ _ _ _ _ _ _ _ _ _ _ _ (by omega) (by omega)

theorem eq79 (m : Array Value) {a b : AV} (ha : tyV (.sl 1 dtI) a) (hb : tyV (.sl 1 dtI) b) (hs : nrm a = nrm b) (H : AH) : callL (Rep.D m) 79 [a, b] H = some (.bool true, H) := by
  refine callL_D (tabD0_ok m) (fuel := (erase a).listOf.length + 1) (n := 2) (fn := Tryd.f79) (ds := [.sl 1 dtI, .sl 1 dtI]) (v := .bool true) (by kernel_rfl) (by kernel_rfl) (by kernel_rfl) ⟨ha, hb, trivial⟩ ?_ rfl
  have ha' := tyV_erase ha
  have hb' := tyV_erase hb
  have hs' : nrm (erase a) = nrm (erase b) := by rw [tyV_nrm ha, tyV_nrm hb]; exact hs
  show runI (Rep.D m) (cD m ((erase a).listOf.length + 1)) ((erase a).listOf.length + 1) Tryd.f79 [erase a, erase b] ⟨[], []⟩ (fun v _ => some v) = _
  generalize erase a = a at ha' hs' ⊢
  generalize erase b = b at hb' hs' ⊢
  have hlen := (nrmL_get (list_same ha' hb' hs')).1
  rw [pre79, (sl_facts ha').1, (sl_facts hb').1, ← hlen]
  simp only [br, bne_self_eq_false]
  exact loop79 m _ ha' hb' hs' _ a.listOf.length 0 _ _ _ _ _ _ _ _ _ _ _ _ _ _ _ _ _ _ _ _ _ _ _ (by omega) (by omega)
-- DEFS
theorem pre80 (m : Array Value) {R : Type} (fuel : Nat) (a b : AV) (K : AV → AH → Option R) :
  runI (Rep.D m) (cD m fuel) fuel Tryd.f80 [a, b] ⟨[], []⟩ K =
  br (AV.listN 6 a)
    (fun _ => br (AV.listN 6 b)
      (fun _ => br ((↑a.listOf.length : Int) != (↑b.listOf.length : Int))
        (fun _ => K (AV.bool false) { objs := [], toks := [] })
        (fun _ => loopF (Rep.D m) (cD m fuel) fuel Tryd.f80 [1, 1, 0, 1, 0] fuel [a, b, AV.top, AV.top, AV.bool false, AV.int IntKind.i64 ((0 : Int)), a, AV.int IntKind.i64 (↑a.listOf.length : Int),
      b, AV.int IntKind.i64 (↑b.listOf.length : Int), AV.bool ((↑a.listOf.length : Int) != (↑b.listOf.length : Int)),
      AV.top, AV.top, AV.top, AV.top, AV.top, AV.top, AV.top, AV.top, AV.top, AV.top, AV.top, AV.top, AV.top, AV.top,
      AV.top] { objs := [], toks := [] } K))
      (fun _ => none))
    (fun _ => none) := by kernel_rfl
theorem step80 (m : Array Value) {R : Type} (fuel k : Nat) (a b : AV) (i : Int) (x2 x3 x6 x7 x8 x9 x10 x11 x12 x13 x14 x15 x16 x17 x18 x19 x20 x21 x22 x23 x24 x25 : AV) (K : AV → AH → Option R) :
  loopF (Rep.D m) (cD m fuel) fuel Tryd.f80 [1, 1, 0, 1, 0] (k + 1) [a, b, x2, x3, .bool false, .int .i64 i, x6, x7, x8, x9, x10, x11, x12, x13, x14, x15, x16, x17, x18, x19, x20, x21, x22, x23, x24, x25] ⟨[], []⟩ K =
  br (AV.listN 6 a)
    (fun _ => br (decide (i < (↑a.listOf.length : Int)))
      (fun _ => br (AV.listN 6 a && (decide ((0 : Int) ≤ i) && decide (i < (↑a.listOf.length : Int))))
        (fun _ => (match a.listOf[i.toNat]? with
          | some u3 => br (u3.isAgg &&
      fitL [Sh.bool, Sh.int IntKind.i64, Sh.int IntKind.i64, Sh.int IntKind.i64, Sh.int IntKind.i64, Sh.int IntKind.i64]
        u3.aggOf)
            (fun _ => br (AV.listN 6 b && (decide ((0 : Int) ≤ i) && decide (i < (↑b.listOf.length : Int))))
              (fun _ => (match b.listOf[i.toNat]? with
                | some u6 => br (u6.isAgg &&
      fitL [Sh.bool, Sh.int IntKind.i64, Sh.int IntKind.i64, Sh.int IntKind.i64, Sh.int IntKind.i64, Sh.int IntKind.i64]
        u6.aggOf)
                  (fun _ => br (!((hdV u3.aggOf).boolOf == (hdV u6.aggOf).boolOf &&
          ((hdV (tlV u3.aggOf)).numOf == (hdV (tlV u6.aggOf)).numOf &&
            ((hdV (tlV (tlV u3.aggOf))).numOf == (hdV (tlV (tlV u6.aggOf))).numOf &&
              ((hdV (tlV (tlV (tlV u3.aggOf)))).numOf == (hdV (tlV (tlV (tlV u6.aggOf)))).numOf &&
                ((hdV (tlV (tlV (tlV (tlV u3.aggOf))))).numOf == (hdV (tlV (tlV (tlV (tlV u6.aggOf))))).numOf && true)))) &&
        ((hdV (tlV (tlV (tlV (tlV (tlV u3.aggOf)))))).numOf == (hdV (tlV (tlV (tlV (tlV (tlV u6.aggOf)))))).numOf && true)))
                    (fun _ => K (AV.bool false) { objs := [], toks := [] })
                    (fun _ => loopF (Rep.D m) (cD m fuel) fuel Tryd.f80 [1, 1, 0, 1, 0] k [a, b, x2, x3, AV.bool false, AV.int IntKind.i64 (IntKind.i64.wrap (i + (1 : Int))), x6, x7, x8, x9, x10,
      AV.int IntKind.i64 i, a, AV.int IntKind.i64 (↑a.listOf.length : Int), AV.bool (decide (i < (↑a.listOf.length : Int))),
      AV.int IntKind.i64 i, AV.int IntKind.i64 (IntKind.i64.wrap (i + (1 : Int))), a, AV.int IntKind.i64 i,
      (AV.agg
          (shL [Sh.bool, Sh.int IntKind.i64, Sh.int IntKind.i64, Sh.int IntKind.i64, Sh.int IntKind.i64, Sh.int IntKind.i64]
            u3.aggOf)).rop,
      AV.agg
        (shL [Sh.bool, Sh.int IntKind.i64, Sh.int IntKind.i64, Sh.int IntKind.i64, Sh.int IntKind.i64, Sh.int IntKind.i64]
          u3.aggOf),
      b, AV.int IntKind.i64 i,
      (AV.agg
          (shL [Sh.bool, Sh.int IntKind.i64, Sh.int IntKind.i64, Sh.int IntKind.i64, Sh.int IntKind.i64, Sh.int IntKind.i64]
            u6.aggOf)).rop,
      AV.agg
        (shL [Sh.bool, Sh.int IntKind.i64, Sh.int IntKind.i64, Sh.int IntKind.i64, Sh.int IntKind.i64, Sh.int IntKind.i64]
          u6.aggOf),
      AV.bool
        !((hdV u3.aggOf).boolOf == (hdV u6.aggOf).boolOf &&
              ((hdV (tlV u3.aggOf)).numOf == (hdV (tlV u6.aggOf)).numOf &&
                ((hdV (tlV (tlV u3.aggOf))).numOf == (hdV (tlV (tlV u6.aggOf))).numOf &&
                  ((hdV (tlV (tlV (tlV u3.aggOf)))).numOf == (hdV (tlV (tlV (tlV u6.aggOf)))).numOf &&
                    ((hdV (tlV (tlV (tlV (tlV u3.aggOf))))).numOf == (hdV (tlV (tlV (tlV (tlV u6.aggOf))))).numOf &&
                      true)))) &&
            ((hdV (tlV (tlV (tlV (tlV (tlV u3.aggOf)))))).numOf == (hdV (tlV (tlV (tlV (tlV (tlV u6.aggOf)))))).numOf &&
              true))] { objs := [], toks := [] } K))
                  (fun _ => none)
                | none => none))
              (fun _ => none))
            (fun _ => none)
          | none => none))
        (fun _ => none))
      (fun _ => K (AV.bool true) { objs := [], toks := [] }))
    (fun _ => none) := by kernel_rfl
-- PROOFS
theorem loop80 (m : Array Value) {R : Type} (fuel : Nat) {a b : AV} (ha : tyV (.sl 6 dtTS) a) (hb : tyV (.sl 6 dtTS) b) (hs : nrm a = nrm b) (K : AV → AH → Option R) : ∀ (r i k : Nat) (x2 x3 x6 x7 x8 x9 x10 x11 x12 x13 x14 x15 x16 x17 x18 x19 x20 x21 x22 x23 x24 x25 : AV), i + r = a.listOf.length → r < k →
    loopF (Rep.D m) (cD m fuel) fuel Tryd.f80 [1, 1, 0, 1, 0] k [a, b, x2, x3, .bool false, .int .i64 (i : Int), x6, x7, x8, x9, x10, x11, x12, x13, x14, x15, x16, x17, x18, x19, x20, x21, x22, x23, x24, x25] ⟨[], []⟩ K = K (.bool true) ⟨[], []⟩
  | r, i, 0, _, _, _, _, _, _, _, _, _, _, _, _, _, _, _, _, _, _, _, _, _, _, h, hk => by omega
  | 0, i, k + 1, x2, x3, x6, x7, x8, x9, x10, x11, x12, x13, x14, x15, x16, x17, x18, x19, x20, x21, x22, x23, x24, x25, h, hk => by
    rw [step80, (sl_facts ha).1, lt_false (by omega : ¬ i < a.listOf.length)]
    rfl
  | r + 1, i, k + 1, x2, x3, x6, x7, x8, x9, x10, x11, x12, x13, x14, x15, x16, x17, x18, x19, x20, x21, x22, x23, x24, x25, h, hk => by
    obtain ⟨hA, hmax, hT, -, -⟩ := sl_facts ha
    obtain ⟨hB, -, hU, -, -⟩ := sl_facts hb
    obtain ⟨hlen, hget⟩ := nrmL_get (list_same ha hb hs)
    have hi : i < a.listOf.length := by omega
    have hj : i < b.listOf.length := by omega
    obtain ⟨u, hu⟩ : ∃ u, a.listOf[i]? = some u := ⟨_, List.getElem?_eq_getElem hi⟩
    obtain ⟨w, hw⟩ : ∃ w, b.listOf[i]? = some w := ⟨_, List.getElem?_eq_getElem hj⟩
    have tu := hT u (List.mem_of_getElem? hu)
    have tw := hU w (List.mem_of_getElem? hw)
    have huw := hget i u w hu hw
    rw [flatV rfl tu, flatV rfl tw] at huw
    subst huw
    rw [step80, hA, hB, lt_true hi, lt_true hj, ge_true, Int.toNat_natCast, hu, hw]
    simp only [br, Bool.and_self, fit_dtTS tu, fit_dtTS tw]
    simp only [bne_self_eq_false, beq_self_eq_true, Bool.and_self, Bool.not_true]
    rw [wrap_next hi hmax]
    exact loop80 m fuel ha hb hs K r (i + 1) k _ _ _ _ _ _ _ _ _ _ _ _ _ _ _ _ _ _ _ _ _ _ (by omega) (by omega)

theorem eq80 (m : Array Value) {a b : AV} (ha : tyV (.sl 6 dtTS) a) (hb : tyV (.sl 6 dtTS) b) (hs : nrm a = nrm b) (H : AH) : callL (Rep.D m) 80 [a, b] H = some (.bool true, H) := by
  refine callL_D (tabD0_ok m) (fuel := (erase a).listOf.length + 1) (n := 2) (fn := Tryd.f80) (ds := [.sl 6 dtTS, .sl 6 dtTS]) (v := .bool true) (by kernel_rfl) (by kernel_rfl) (by kernel_rfl) ⟨ha, hb, trivial⟩ ?_ rfl
  have ha' := tyV_erase ha
  have hb' := tyV_erase hb
  have hs' : nrm (erase a) = nrm (erase b) := by rw [tyV_nrm ha, tyV_nrm hb]; exact hs
  show runI (Rep.D m) (cD m ((erase a).listOf.length + 1)) ((erase a).listOf.length + 1) Tryd.f80 [erase a, erase b] ⟨[], []⟩ (fun v _ => some v) = _
  generalize erase a = a at ha' hs' ⊢
  generalize erase b = b at hb' hs' ⊢
  have hlen := (nrmL_get (list_same ha' hb' hs')).1
  rw [pre80, (sl_facts ha').1, (sl_facts hb').1, ← hlen]
  simp only [br, bne_self_eq_false]
  exact loop80 m _ ha' hb' hs' _ a.listOf.length 0 _ _ _ _ _ _ _ _ _ _ _ _ _ _ _ _ _ _ _ _ _ _ _ (by omega) (by omega)
-- DEFS
theorem pre27 (m : Array Value) {R : Type} (fuel : Nat) (a b : AV) (K : AV → AH → Option R) :
  runI (Rep.D m) (cD m fuel) fuel Tryd.f27 [a, b] ⟨[], []⟩ K =
  br (AV.listN 9 a)
    (fun _ => br (AV.listN 9 b)
      (fun _ => br ((↑a.listOf.length : Int) != (↑b.listOf.length : Int))
        (fun _ => K (AV.bool false) { objs := [], toks := [] })
        (fun _ => loopF (Rep.D m) (cD m fuel) fuel Tryd.f27 [1, 1, 0, 1, 0] fuel [a, b, AV.top, AV.top, AV.bool false, AV.int IntKind.i64 ((0 : Int)), a, AV.int IntKind.i64 (↑a.listOf.length : Int),
      b, AV.int IntKind.i64 (↑b.listOf.length : Int), AV.bool ((↑a.listOf.length : Int) != (↑b.listOf.length : Int)),
      AV.top, AV.top, AV.top, AV.top, AV.top, AV.top, AV.top, AV.top, AV.top, AV.top, AV.top, AV.top, AV.top, AV.top,
      AV.top] { objs := [], toks := [] } K))
      (fun _ => none))
    (fun _ => none) := by kernel_rfl
theorem step27 (m : Array Value) {R : Type} (fuel k : Nat) (a b : AV) (i : Int) (x2 x3 x6 x7 x8 x9 x10 x11 x12 x13 x14 x15 x16 x17 x18 x19 x20 x21 x22 x23 x24 x25 : AV) (K : AV → AH → Option R) :
  loopF (Rep.D m) (cD m fuel) fuel Tryd.f27 [1, 1, 0, 1, 0] (k + 1) [a, b, x2, x3, .bool false, .int .i64 i, x6, x7, x8, x9, x10, x11, x12, x13, x14, x15, x16, x17, x18, x19, x20, x21, x22, x23, x24, x25] ⟨[], []⟩ K =
  br (AV.listN 9 a)
    (fun _ => br (decide (i < (↑a.listOf.length : Int)))
      (fun _ => br (AV.listN 9 a && (decide ((0 : Int) ≤ i) && decide (i < (↑a.listOf.length : Int))))
        (fun _ => (match a.listOf[i.toNat]? with
          | some u3 => br (u3.isAgg &&
      fitL
        [Sh.int IntKind.i64, Sh.int IntKind.i64, Sh.int IntKind.i64, Sh.int IntKind.i64, Sh.int IntKind.i64, Sh.bool,
          Sh.bool, Sh.bool, Sh.int IntKind.i64]
        u3.aggOf)
            (fun _ => br (AV.listN 9 b && (decide ((0 : Int) ≤ i) && decide (i < (↑b.listOf.length : Int))))
              (fun _ => (match b.listOf[i.toNat]? with
                | some u6 => br (u6.isAgg &&
      fitL
        [Sh.int IntKind.i64, Sh.int IntKind.i64, Sh.int IntKind.i64, Sh.int IntKind.i64, Sh.int IntKind.i64, Sh.bool,
          Sh.bool, Sh.bool, Sh.int IntKind.i64]
        u6.aggOf)
                  (fun _ => br (!((hdV u3.aggOf).numOf == (hdV u6.aggOf).numOf &&
        ((hdV (tlV u3.aggOf)).numOf == (hdV (tlV u6.aggOf)).numOf &&
          ((hdV (tlV (tlV u3.aggOf))).numOf == (hdV (tlV (tlV u6.aggOf))).numOf &&
              ((hdV (tlV (tlV (tlV u3.aggOf)))).numOf == (hdV (tlV (tlV (tlV u6.aggOf)))).numOf &&
                ((hdV (tlV (tlV (tlV (tlV u3.aggOf))))).numOf == (hdV (tlV (tlV (tlV (tlV u6.aggOf))))).numOf && true)) &&
            ((hdV (tlV (tlV (tlV (tlV (tlV u3.aggOf)))))).boolOf == (hdV (tlV (tlV (tlV (tlV (tlV u6.aggOf)))))).boolOf &&
              ((hdV (tlV (tlV (tlV (tlV (tlV (tlV u3.aggOf))))))).boolOf ==
                  (hdV (tlV (tlV (tlV (tlV (tlV (tlV u6.aggOf))))))).boolOf &&
                ((hdV (tlV (tlV (tlV (tlV (tlV (tlV (tlV u3.aggOf)))))))).boolOf ==
                    (hdV (tlV (tlV (tlV (tlV (tlV (tlV (tlV u6.aggOf)))))))).boolOf &&
                  ((hdV (tlV (tlV (tlV (tlV (tlV (tlV (tlV (tlV u3.aggOf))))))))).numOf ==
                      (hdV (tlV (tlV (tlV (tlV (tlV (tlV (tlV (tlV u6.aggOf))))))))).numOf &&
                    true))))))))
                    (fun _ => K (AV.bool false) { objs := [], toks := [] })
                    (fun _ => loopF (Rep.D m) (cD m fuel) fuel Tryd.f27 [1, 1, 0, 1, 0] k [a, b, x2, x3, AV.bool false, AV.int IntKind.i64 (IntKind.i64.wrap (i + (1 : Int))), x6, x7, x8, x9, x10,
      AV.int IntKind.i64 i, a, AV.int IntKind.i64 (↑a.listOf.length : Int), AV.bool (decide (i < (↑a.listOf.length : Int))),
      AV.int IntKind.i64 i, AV.int IntKind.i64 (IntKind.i64.wrap (i + (1 : Int))), a, AV.int IntKind.i64 i,
      (AV.agg
          (shL
            [Sh.int IntKind.i64, Sh.int IntKind.i64, Sh.int IntKind.i64, Sh.int IntKind.i64, Sh.int IntKind.i64, Sh.bool,
              Sh.bool, Sh.bool, Sh.int IntKind.i64]
            u3.aggOf)).rop,
      AV.agg
        (shL
          [Sh.int IntKind.i64, Sh.int IntKind.i64, Sh.int IntKind.i64, Sh.int IntKind.i64, Sh.int IntKind.i64, Sh.bool,
            Sh.bool, Sh.bool, Sh.int IntKind.i64]
          u3.aggOf),
      b, AV.int IntKind.i64 i,
      (AV.agg
          (shL
            [Sh.int IntKind.i64, Sh.int IntKind.i64, Sh.int IntKind.i64, Sh.int IntKind.i64, Sh.int IntKind.i64, Sh.bool,
              Sh.bool, Sh.bool, Sh.int IntKind.i64]
            u6.aggOf)).rop,
      AV.agg
        (shL
          [Sh.int IntKind.i64, Sh.int IntKind.i64, Sh.int IntKind.i64, Sh.int IntKind.i64, Sh.int IntKind.i64, Sh.bool,
            Sh.bool, Sh.bool, Sh.int IntKind.i64]
          u6.aggOf),
      AV.bool
        !((hdV u3.aggOf).numOf == (hdV u6.aggOf).numOf &&
            ((hdV (tlV u3.aggOf)).numOf == (hdV (tlV u6.aggOf)).numOf &&
              ((hdV (tlV (tlV u3.aggOf))).numOf == (hdV (tlV (tlV u6.aggOf))).numOf &&
                  ((hdV (tlV (tlV (tlV u3.aggOf)))).numOf == (hdV (tlV (tlV (tlV u6.aggOf)))).numOf &&
                    ((hdV (tlV (tlV (tlV (tlV u3.aggOf))))).numOf == (hdV (tlV (tlV (tlV (tlV u6.aggOf))))).numOf &&
                      true)) &&
                ((hdV (tlV (tlV (tlV (tlV (tlV u3.aggOf)))))).boolOf ==
                    (hdV (tlV (tlV (tlV (tlV (tlV u6.aggOf)))))).boolOf &&
                  ((hdV (tlV (tlV (tlV (tlV (tlV (tlV u3.aggOf))))))).boolOf ==
                      (hdV (tlV (tlV (tlV (tlV (tlV (tlV u6.aggOf))))))).boolOf &&
                    ((hdV (tlV (tlV (tlV (tlV (tlV (tlV (tlV u3.aggOf)))))))).boolOf ==
                        (hdV (tlV (tlV (tlV (tlV (tlV (tlV (tlV u6.aggOf)))))))).boolOf &&
                      ((hdV (tlV (tlV (tlV (tlV (tlV (tlV (tlV (tlV u3.aggOf))))))))).numOf ==
                          (hdV (tlV (tlV (tlV (tlV (tlV (tlV (tlV (tlV u6.aggOf))))))))).numOf &&
                        true)))))))] { objs := [], toks := [] } K))
                  (fun _ => none)
                | none => none))
              (fun _ => none))
            (fun _ => none)
          | none => none))
        (fun _ => none))
      (fun _ => K (AV.bool true) { objs := [], toks := [] }))
    (fun _ => none) := by kernel_rfl
-- PROOFS
theorem loop27 (m : Array Value) {R : Type} (fuel : Nat) {a b : AV} (ha : tyV (.sl 9 dtProc) a) (hb : tyV (.sl 9 dtProc) b) (hs : nrm a = nrm b) (K : AV → AH → Option R) : ∀ (r i k : Nat) (x2 x3 x6 x7 x8 x9 x10 x11 x12 x13 x14 x15 x16 x17 x18 x19 x20 x21 x22 x23 x24 x25 : AV), i + r = a.listOf.length → r < k →
    loopF (Rep.D m) (cD m fuel) fuel Tryd.f27 [1, 1, 0, 1, 0] k [a, b, x2, x3, .bool false, .int .i64 (i : Int), x6, x7, x8, x9, x10, x11, x12, x13, x14, x15, x16, x17, x18, x19, x20, x21, x22, x23, x24, x25] ⟨[], []⟩ K = K (.bool true) ⟨[], []⟩
  | r, i, 0, _, _, _, _, _, _, _, _, _, _, _, _, _, _, _, _, _, _, _, _, _, _, h, hk => by omega
  | 0, i, k + 1, x2, x3, x6, x7, x8, x9, x10, x11, x12, x13, x14, x15, x16, x17, x18, x19, x20, x21, x22, x23, x24, x25, h, hk => by
    rw [step27, (sl_facts ha).1, lt_false (by omega : ¬ i < a.listOf.length)]
    rfl
  | r + 1, i, k + 1, x2, x3, x6, x7, x8, x9, x10, x11, x12, x13, x14, x15, x16, x17, x18, x19, x20, x21, x22, x23, x24, x25, h, hk => by
    obtain ⟨hA, hmax, hT, -, -⟩ := sl_facts ha
    obtain ⟨hB, -, hU, -, -⟩ := sl_facts hb
    obtain ⟨hlen, hget⟩ := nrmL_get (list_same ha hb hs)
    have hi : i < a.listOf.length := by omega
    have hj : i < b.listOf.length := by omega
    obtain ⟨u, hu⟩ : ∃ u, a.listOf[i]? = some u := ⟨_, List.getElem?_eq_getElem hi⟩
    obtain ⟨w, hw⟩ : ∃ w, b.listOf[i]? = some w := ⟨_, List.getElem?_eq_getElem hj⟩
    have tu := hT u (List.mem_of_getElem? hu)
    have tw := hU w (List.mem_of_getElem? hw)
    have huw := hget i u w hu hw
    rw [flatV rfl tu, flatV rfl tw] at huw
    subst huw
    rw [step27, hA, hB, lt_true hi, lt_true hj, ge_true, Int.toNat_natCast, hu, hw]
    simp only [br, Bool.and_self, fit_dtProc tu, fit_dtProc tw]
    simp only [bne_self_eq_false, beq_self_eq_true, Bool.and_self, Bool.not_true]
    rw [wrap_next hi hmax]
    exact loop27 m fuel ha hb hs K r (i + 1) k _ _ _ _ _ _ _ _ _ _ _ _ _ _ _ _ _ _ _ _ _ _ (by omega) (by omega)

theorem eq27 (m : Array Value) {a b : AV} (ha : tyV (.sl 9 dtProc) a) (hb : tyV (.sl 9 dtProc) b) (hs : nrm a = nrm b) (H : AH) : callL (Rep.D m) 27 [a, b] H = some (.bool true, H) := by
  refine callL_D (tabD0_ok m) (fuel := (erase a).listOf.length + 1) (n := 2) (fn := Tryd.f27) (ds := [.sl 9 dtProc, .sl 9 dtProc]) (v := .bool true) (by kernel_rfl) (by kernel_rfl) (by kernel_rfl) ⟨ha, hb, trivial⟩ ?_ rfl
  have ha' := tyV_erase ha
  have hb' := tyV_erase hb
  have hs' : nrm (erase a) = nrm (erase b) := by rw [tyV_nrm ha, tyV_nrm hb]; exact hs
  show runI (Rep.D m) (cD m ((erase a).listOf.length + 1)) ((erase a).listOf.length + 1) Tryd.f27 [erase a, erase b] ⟨[], []⟩ (fun v _ => some v) = _
  generalize erase a = a at ha' hs' ⊢
  generalize erase b = b at hb' hs' ⊢
  have hlen := (nrmL_get (list_same ha' hb' hs')).1
  rw [pre27, (sl_facts ha').1, (sl_facts hb').1, ← hlen]
  simp only [br, bne_self_eq_false]
  exact loop27 m _ ha' hb' hs' _ a.listOf.length 0 _ _ _ _ _ _ _ _ _ _ _ _ _ _ _ _ _ _ _ _ _ _ _ (by omega) (by omega)
-- DEFS
theorem pre23 (m : Array Value) {R : Type} (fuel : Nat) (a b : AV) (K : AV → AH → Option R) :
  runI (Rep.D m) (cD m fuel) fuel Tryd.f23 [a, b] ⟨[], []⟩ K =
  br (AV.listN 7 a)
    (fun _ => br (AV.listN 7 b)
      (fun _ => br ((↑a.listOf.length : Int) != (↑b.listOf.length : Int))
        (fun _ => K (AV.bool false) { objs := [], toks := [] })
        (fun _ => loopF (Rep.D m) (cD m fuel) fuel Tryd.f23 [1, 1, 0, 1, 0] fuel [a, b, AV.top, AV.top, AV.bool false, AV.int IntKind.i64 ((0 : Int)), a, AV.int IntKind.i64 (↑a.listOf.length : Int),
      b, AV.int IntKind.i64 (↑b.listOf.length : Int), AV.bool ((↑a.listOf.length : Int) != (↑b.listOf.length : Int)),
      AV.top, AV.top, AV.top, AV.top, AV.top, AV.top, AV.top, AV.top, AV.top, AV.top, AV.top, AV.top, AV.top, AV.top,
      AV.top] { objs := [], toks := [] } K))
      (fun _ => none))
    (fun _ => none) := by kernel_rfl
theorem step23 (m : Array Value) {R : Type} (fuel k : Nat) (a b : AV) (i : Int) (x2 x3 x6 x7 x8 x9 x10 x11 x12 x13 x14 x15 x16 x17 x18 x19 x20 x21 x22 x23 x24 x25 : AV) (K : AV → AH → Option R) :
  loopF (Rep.D m) (cD m fuel) fuel Tryd.f23 [1, 1, 0, 1, 0] (k + 1) [a, b, x2, x3, .bool false, .int .i64 i, x6, x7, x8, x9, x10, x11, x12, x13, x14, x15, x16, x17, x18, x19, x20, x21, x22, x23, x24, x25] ⟨[], []⟩ K =
  br (AV.listN 7 a)
    (fun _ => br (decide (i < (↑a.listOf.length : Int)))
      (fun _ => br (AV.listN 7 a && (decide ((0 : Int) ≤ i) && decide (i < (↑a.listOf.length : Int))))
        (fun _ => (match a.listOf[i.toNat]? with
          | some u3 => br (u3.isAgg &&
      fitL
        [Sh.int IntKind.i64, Sh.int IntKind.i64, Sh.int IntKind.u8, Sh.int IntKind.i64, Sh.int IntKind.i64,
          Sh.int IntKind.i64, Sh.bool]
        u3.aggOf)
            (fun _ => br (AV.listN 7 b && (decide ((0 : Int) ≤ i) && decide (i < (↑b.listOf.length : Int))))
              (fun _ => (match b.listOf[i.toNat]? with
                | some u6 => br (u6.isAgg &&
      fitL
        [Sh.int IntKind.i64, Sh.int IntKind.i64, Sh.int IntKind.u8, Sh.int IntKind.i64, Sh.int IntKind.i64,
          Sh.int IntKind.i64, Sh.bool]
        u6.aggOf)
                  (fun _ => br (!((hdV u3.aggOf).numOf == (hdV u6.aggOf).numOf &&
        ((hdV (tlV u3.aggOf)).numOf == (hdV (tlV u6.aggOf)).numOf &&
          ((hdV (tlV (tlV u3.aggOf))).numOf == (hdV (tlV (tlV u6.aggOf))).numOf &&
            ((hdV (tlV (tlV (tlV u3.aggOf)))).numOf == (hdV (tlV (tlV (tlV u6.aggOf)))).numOf &&
              ((hdV (tlV (tlV (tlV (tlV u3.aggOf))))).numOf == (hdV (tlV (tlV (tlV (tlV u6.aggOf))))).numOf &&
                ((hdV (tlV (tlV (tlV (tlV (tlV u3.aggOf)))))).numOf == (hdV (tlV (tlV (tlV (tlV (tlV u6.aggOf)))))).numOf &&
                  ((hdV (tlV (tlV (tlV (tlV (tlV (tlV u3.aggOf))))))).boolOf ==
                      (hdV (tlV (tlV (tlV (tlV (tlV (tlV u6.aggOf))))))).boolOf &&
                    true))))))))
                    (fun _ => K (AV.bool false) { objs := [], toks := [] })
                    (fun _ => loopF (Rep.D m) (cD m fuel) fuel Tryd.f23 [1, 1, 0, 1, 0] k [a, b, x2, x3, AV.bool false, AV.int IntKind.i64 (IntKind.i64.wrap (i + (1 : Int))), x6, x7, x8, x9, x10,
      AV.int IntKind.i64 i, a, AV.int IntKind.i64 (↑a.listOf.length : Int), AV.bool (decide (i < (↑a.listOf.length : Int))),
      AV.int IntKind.i64 i, AV.int IntKind.i64 (IntKind.i64.wrap (i + (1 : Int))), a, AV.int IntKind.i64 i,
      (AV.agg
          (shL
            [Sh.int IntKind.i64, Sh.int IntKind.i64, Sh.int IntKind.u8, Sh.int IntKind.i64, Sh.int IntKind.i64,
              Sh.int IntKind.i64, Sh.bool]
            u3.aggOf)).rop,
      AV.agg
        (shL
          [Sh.int IntKind.i64, Sh.int IntKind.i64, Sh.int IntKind.u8, Sh.int IntKind.i64, Sh.int IntKind.i64,
            Sh.int IntKind.i64, Sh.bool]
          u3.aggOf),
      b, AV.int IntKind.i64 i,
      (AV.agg
          (shL
            [Sh.int IntKind.i64, Sh.int IntKind.i64, Sh.int IntKind.u8, Sh.int IntKind.i64, Sh.int IntKind.i64,
              Sh.int IntKind.i64, Sh.bool]
            u6.aggOf)).rop,
      AV.agg
        (shL
          [Sh.int IntKind.i64, Sh.int IntKind.i64, Sh.int IntKind.u8, Sh.int IntKind.i64, Sh.int IntKind.i64,
            Sh.int IntKind.i64, Sh.bool]
          u6.aggOf),
      AV.bool
        !((hdV u3.aggOf).numOf == (hdV u6.aggOf).numOf &&
            ((hdV (tlV u3.aggOf)).numOf == (hdV (tlV u6.aggOf)).numOf &&
              ((hdV (tlV (tlV u3.aggOf))).numOf == (hdV (tlV (tlV u6.aggOf))).numOf &&
                ((hdV (tlV (tlV (tlV u3.aggOf)))).numOf == (hdV (tlV (tlV (tlV u6.aggOf)))).numOf &&
                  ((hdV (tlV (tlV (tlV (tlV u3.aggOf))))).numOf == (hdV (tlV (tlV (tlV (tlV u6.aggOf))))).numOf &&
                    ((hdV (tlV (tlV (tlV (tlV (tlV u3.aggOf)))))).numOf ==
                        (hdV (tlV (tlV (tlV (tlV (tlV u6.aggOf)))))).numOf &&
                      ((hdV (tlV (tlV (tlV (tlV (tlV (tlV u3.aggOf))))))).boolOf ==
                          (hdV (tlV (tlV (tlV (tlV (tlV (tlV u6.aggOf))))))).boolOf &&
                        true)))))))] { objs := [], toks := [] } K))
                  (fun _ => none)
                | none => none))
              (fun _ => none))
            (fun _ => none)
          | none => none))
        (fun _ => none))
      (fun _ => K (AV.bool true) { objs := [], toks := [] }))
    (fun _ => none) := by kernel_rfl
-- PROOFS
theorem loop23 (m : Array Value) {R : Type} (fuel : Nat) {a b : AV} (ha : tyV (.sl 7 dtSt) a) (hb : tyV (.sl 7 dtSt) b) (hs : nrm a = nrm b) (K : AV → AH → Option R) : ∀ (r i k : Nat) (x2 x3 x6 x7 x8 x9 x10 x11 x12 x13 x14 x15 x16 x17 x18 x19 x20 x21 x22 x23 x24 x25 : AV), i + r = a.listOf.length → r < k →
    loopF (Rep.D m) (cD m fuel) fuel Tryd.f23 [1, 1, 0, 1, 0] k [a, b, x2, x3, .bool false, .int .i64 (i : Int), x6, x7, x8, x9, x10, x11, x12, x13, x14, x15, x16, x17, x18, x19, x20, x21, x22, x23, x24, x25] ⟨[], []⟩ K = K (.bool true) ⟨[], []⟩
  | r, i, 0, _, _, _, _, _, _, _, _, _, _, _, _, _, _, _, _, _, _, _, _, _, _, h, hk => by omega
  | 0, i, k + 1, x2, x3, x6, x7, x8, x9, x10, x11, x12, x13, x14, x15, x16, x17, x18, x19, x20, x21, x22, x23, x24, x25, h, hk => by
    rw [step23, (sl_facts ha).1, lt_false (by omega : ¬ i < a.listOf.length)]
    rfl
  | r + 1, i, k + 1, x2, x3, x6, x7, x8, x9, x10, x11, x12, x13, x14, x15, x16, x17, x18, x19, x20, x21, x22, x23, x24, x25, h, hk => by
    obtain ⟨hA, hmax, hT, -, -⟩ := sl_facts ha
    obtain ⟨hB, -, hU, -, -⟩ := sl_facts hb
    obtain ⟨hlen, hget⟩ := nrmL_get (list_same ha hb hs)
    have hi : i < a.listOf.length := by omega
    have hj : i < b.listOf.length := by omega
    obtain ⟨u, hu⟩ : ∃ u, a.listOf[i]? = some u := ⟨_, List.getElem?_eq_getElem hi⟩
    obtain ⟨w, hw⟩ : ∃ w, b.listOf[i]? = some w := ⟨_, List.getElem?_eq_getElem hj⟩
    have tu := hT u (List.mem_of_getElem? hu)
    have tw := hU w (List.mem_of_getElem? hw)
    have huw := hget i u w hu hw
    rw [flatV rfl tu, flatV rfl tw] at huw
    subst huw
    rw [step23, hA, hB, lt_true hi, lt_true hj, ge_true, Int.toNat_natCast, hu, hw]
    simp only [br, Bool.and_self, fit_dtSt tu, fit_dtSt tw]
    simp only [bne_self_eq_false, beq_self_eq_true, Bool.and_self, Bool.not_true]
    rw [wrap_next hi hmax]
    exact loop23 m fuel ha hb hs K r (i + 1) k _ _ _ _ _ _ _ _ _ _ _ _ _ _ _ _ _ _ _ _ _ _ (by omega) (by omega)

theorem eq23 (m : Array Value) {a b : AV} (ha : tyV (.sl 7 dtSt) a) (hb : tyV (.sl 7 dtSt) b) (hs : nrm a = nrm b) (H : AH) : callL (Rep.D m) 23 [a, b] H = some (.bool true, H) := by
  refine callL_D (tabD0_ok m) (fuel := (erase a).listOf.length + 1) (n := 2) (fn := Tryd.f23) (ds := [.sl 7 dtSt, .sl 7 dtSt]) (v := .bool true) (by kernel_rfl) (by kernel_rfl) (by kernel_rfl) ⟨ha, hb, trivial⟩ ?_ rfl
  have ha' := tyV_erase ha
  have hb' := tyV_erase hb
  have hs' : nrm (erase a) = nrm (erase b) := by rw [tyV_nrm ha, tyV_nrm hb]; exact hs
  show runI (Rep.D m) (cD m ((erase a).listOf.length + 1)) ((erase a).listOf.length + 1) Tryd.f23 [erase a, erase b] ⟨[], []⟩ (fun v _ => some v) = _
  generalize erase a = a at ha' hs' ⊢
  generalize erase b = b at hb' hs' ⊢
  have hlen := (nrmL_get (list_same ha' hb' hs')).1
  rw [pre23, (sl_facts ha').1, (sl_facts hb').1, ← hlen]
  simp only [br, bne_self_eq_false]
  exact loop23 m _ ha' hb' hs' _ a.listOf.length 0 _ _ _ _ _ _ _ _ _ _ _ _ _ _ _ _ _ _ _ _ _ _ _ (by omega) (by omega)
-- DEFS
theorem pre67 (m : Array Value) {R : Type} (fuel : Nat) (a b : AV) (K : AV → AH → Option R) :
  runI (Rep.D m) (cD m fuel) fuel Tryd.f67 [a, b] ⟨[], []⟩ K =
  br (AV.listN 8 a)
    (fun _ => br (AV.listN 8 b)
      (fun _ => br ((↑a.listOf.length : Int) != (↑b.listOf.length : Int))
        (fun _ => K (AV.bool false) { objs := [], toks := [] })
        (fun _ => loopF (Rep.D m) (cD m fuel) fuel Tryd.f67 [1, 1, 0, 1, 0] fuel [a, b, AV.top, AV.top, AV.bool false, AV.int IntKind.i64 ((0 : Int)), a, AV.int IntKind.i64 (↑a.listOf.length : Int),
      b, AV.int IntKind.i64 (↑b.listOf.length : Int), AV.bool ((↑a.listOf.length : Int) != (↑b.listOf.length : Int)),
      AV.top, AV.top, AV.top, AV.top, AV.top, AV.top, AV.top, AV.top, AV.top, AV.top, AV.top, AV.top, AV.top, AV.top,
      AV.top, AV.top] { objs := [], toks := [] } K))
      (fun _ => none))
    (fun _ => none) := by kernel_rfl
theorem step67 (m : Array Value) {R : Type} (fuel k : Nat) (a b : AV) (i : Int) (x2 x3 x6 x7 x8 x9 x10 x11 x12 x13 x14 x15 x16 x17 x18 x19 x20 x21 x22 x23 x24 x25 x26 : AV) (K : AV → AH → Option R) :
  loopF (Rep.D m) (cD m fuel) fuel Tryd.f67 [1, 1, 0, 1, 0] (k + 1) [a, b, x2, x3, .bool false, .int .i64 i, x6, x7, x8, x9, x10, x11, x12, x13, x14, x15, x16, x17, x18, x19, x20, x21, x22, x23, x24, x25, x26] ⟨[], []⟩ K =
  br (AV.listN 8 a)
    (fun _ => br (decide (i < (↑a.listOf.length : Int)))
      (fun _ => br (AV.listN 8 a && (decide ((0 : Int) ≤ i) && decide (i < (↑a.listOf.length : Int))))
        (fun _ => (match a.listOf[i.toNat]? with
          | some u3 => br (u3.isAgg &&
      fitL
        [Sh.int IntKind.u8, Sh.int IntKind.i64, Sh.int IntKind.i64, Sh.int IntKind.i64, Sh.int IntKind.i64,
          Sh.int IntKind.i64, Sh.int IntKind.i64, Sh.any]
        u3.aggOf)
            (fun _ => br (AV.listN 8 b && (decide ((0 : Int) ≤ i) && decide (i < (↑b.listOf.length : Int))))
              (fun _ => (match b.listOf[i.toNat]? with
                | some u6 => br (u6.isAgg &&
      fitL
        [Sh.int IntKind.u8, Sh.int IntKind.i64, Sh.int IntKind.i64, Sh.int IntKind.i64, Sh.int IntKind.i64,
          Sh.int IntKind.i64, Sh.int IntKind.i64, Sh.any]
        u6.aggOf)
                  (fun _ => (match valH (Rep.D m) 81
      [AV.agg
          (shL
            [Sh.int IntKind.u8, Sh.int IntKind.i64, Sh.int IntKind.i64, Sh.int IntKind.i64, Sh.int IntKind.i64,
              Sh.int IntKind.i64, Sh.int IntKind.i64, Sh.any]
            u3.aggOf),
        AV.agg
          (shL
            [Sh.int IntKind.u8, Sh.int IntKind.i64, Sh.int IntKind.i64, Sh.int IntKind.i64, Sh.int IntKind.i64,
              Sh.int IntKind.i64, Sh.int IntKind.i64, Sh.any]
            u6.aggOf)]
      { objs := [], toks := [] } with
                    | some u8 => br (fitS Sh.bool u8)
                      (fun _ => br (!u8.boolOf)
                        (fun _ => K (AV.bool false) { objs := [], toks := [] })
                        (fun _ => loopF (Rep.D m) (cD m fuel) fuel Tryd.f67 [1, 1, 0, 1, 0] k [a, b, x2, x3, AV.bool false, AV.int IntKind.i64 (IntKind.i64.wrap (i + (1 : Int))), x6, x7, x8, x9, x10,
      AV.int IntKind.i64 i, a, AV.int IntKind.i64 (↑a.listOf.length : Int), AV.bool (decide (i < (↑a.listOf.length : Int))),
      AV.int IntKind.i64 i, AV.int IntKind.i64 (IntKind.i64.wrap (i + (1 : Int))), a, AV.int IntKind.i64 i,
      (AV.agg
          (shL
            [Sh.int IntKind.u8, Sh.int IntKind.i64, Sh.int IntKind.i64, Sh.int IntKind.i64, Sh.int IntKind.i64,
              Sh.int IntKind.i64, Sh.int IntKind.i64, Sh.any]
            u3.aggOf)).rop,
      AV.agg
        (shL
          [Sh.int IntKind.u8, Sh.int IntKind.i64, Sh.int IntKind.i64, Sh.int IntKind.i64, Sh.int IntKind.i64,
            Sh.int IntKind.i64, Sh.int IntKind.i64, Sh.any]
          u3.aggOf),
      b, AV.int IntKind.i64 i,
      (AV.agg
          (shL
            [Sh.int IntKind.u8, Sh.int IntKind.i64, Sh.int IntKind.i64, Sh.int IntKind.i64, Sh.int IntKind.i64,
              Sh.int IntKind.i64, Sh.int IntKind.i64, Sh.any]
            u6.aggOf)).rop,
      AV.agg
        (shL
          [Sh.int IntKind.u8, Sh.int IntKind.i64, Sh.int IntKind.i64, Sh.int IntKind.i64, Sh.int IntKind.i64,
            Sh.int IntKind.i64, Sh.int IntKind.i64, Sh.any]
          u6.aggOf),
      AV.bool u8.boolOf, AV.bool !u8.boolOf] { objs := [], toks := [] } K))
                      (fun _ => none)
                    | none => none))
                  (fun _ => none)
                | none => none))
              (fun _ => none))
            (fun _ => none)
          | none => none))
        (fun _ => none))
      (fun _ => K (AV.bool true) { objs := [], toks := [] }))
    (fun _ => none) := by kernel_rfl
-- PROOFS
theorem loop67 (m : Array Value) {R : Type} (fuel : Nat) {a b : AV} (ha : tyV (.sl 8 dtTask) a) (hb : tyV (.sl 8 dtTask) b) (hs : nrm a = nrm b) (hE : ∀ u w, tyV dtTask u → tyV dtTask w → nrm u = nrm w → ∀ H, callL (Rep.D m) 81 [u, w] H = some (.bool true, H)) (K : AV → AH → Option R) : ∀ (r i k : Nat) (x2 x3 x6 x7 x8 x9 x10 x11 x12 x13 x14 x15 x16 x17 x18 x19 x20 x21 x22 x23 x24 x25 x26 : AV), i + r = a.listOf.length → r < k →
    loopF (Rep.D m) (cD m fuel) fuel Tryd.f67 [1, 1, 0, 1, 0] k [a, b, x2, x3, .bool false, .int .i64 (i : Int), x6, x7, x8, x9, x10, x11, x12, x13, x14, x15, x16, x17, x18, x19, x20, x21, x22, x23, x24, x25, x26] ⟨[], []⟩ K = K (.bool true) ⟨[], []⟩
  | r, i, 0, _, _, _, _, _, _, _, _, _, _, _, _, _, _, _, _, _, _, _, _, _, _, _, h, hk => by omega
  | 0, i, k + 1, x2, x3, x6, x7, x8, x9, x10, x11, x12, x13, x14, x15, x16, x17, x18, x19, x20, x21, x22, x23, x24, x25, x26, h, hk => by
    rw [step67, (sl_facts ha).1, lt_false (by omega : ¬ i < a.listOf.length)]
    rfl
  | r + 1, i, k + 1, x2, x3, x6, x7, x8, x9, x10, x11, x12, x13, x14, x15, x16, x17, x18, x19, x20, x21, x22, x23, x24, x25, x26, h, hk => by
    obtain ⟨hA, hmax, hT, -, -⟩ := sl_facts ha
    obtain ⟨hB, -, hU, -, -⟩ := sl_facts hb
    obtain ⟨hlen, hget⟩ := nrmL_get (list_same ha hb hs)
    have hi : i < a.listOf.length := by omega
    have hj : i < b.listOf.length := by omega
    obtain ⟨u, hu⟩ : ∃ u, a.listOf[i]? = some u := ⟨_, List.getElem?_eq_getElem hi⟩
    obtain ⟨w, hw⟩ : ∃ w, b.listOf[i]? = some w := ⟨_, List.getElem?_eq_getElem hj⟩
    have tu := hT u (List.mem_of_getElem? hu)
    have tw := hU w (List.mem_of_getElem? hw)
    have huw := hget i u w hu hw
    rw [step67, hA, hB, lt_true hi, lt_true hj, ge_true, Int.toNat_natCast, hu, hw]
    simp only [br, Bool.and_self, fit_dtTask tu, fit_dtTask tw, eta_dtTask tu, eta_dtTask tw]
    rw [valH_of (hE u w tu tw huw _)]
    simp only [fitS, AV.boolOf, Bool.not_true]
    rw [wrap_next hi hmax]
    exact loop67 m fuel ha hb hs hE K r (i + 1) k _ _ _ _ _ _ _ _ _ _ _ _ _ _ _ _ _ _ _ _ _ _ _ (by omega) (by omega)

theorem eq67 (m : Array Value) (hE : ∀ u w, tyV dtTask u → tyV dtTask w → nrm u = nrm w → ∀ H, callL (Rep.D m) 81 [u, w] H = some (.bool true, H)) {a b : AV} (ha : tyV (.sl 8 dtTask) a) (hb : tyV (.sl 8 dtTask) b) (hs : nrm a = nrm b) (H : AH) : callL (Rep.D m) 67 [a, b] H = some (.bool true, H) := by
  refine callL_D (tabD0_ok m) (fuel := (erase a).listOf.length + 1) (n := 2) (fn := Tryd.f67) (ds := [.sl 8 dtTask, .sl 8 dtTask]) (v := .bool true) (by kernel_rfl) (by kernel_rfl) (by kernel_rfl) ⟨ha, hb, trivial⟩ ?_ rfl
  have ha' := tyV_erase ha
  have hb' := tyV_erase hb
  have hs' : nrm (erase a) = nrm (erase b) := by rw [tyV_nrm ha, tyV_nrm hb]; exact hs
  show runI (Rep.D m) (cD m ((erase a).listOf.length + 1)) ((erase a).listOf.length + 1) Tryd.f67 [erase a, erase b] ⟨[], []⟩ (fun v _ => some v) = _
  generalize erase a = a at ha' hs' ⊢
  generalize erase b = b at hb' hs' ⊢
  have hlen := (nrmL_get (list_same ha' hb' hs')).1
  rw [pre67, (sl_facts ha').1, (sl_facts hb').1, ← hlen]
  simp only [br, bne_self_eq_false]
  exact loop67 m _ ha' hb' hs' hE _ a.listOf.length 0 _ _ _ _ _ _ _ _ _ _ _ _ _ _ _ _ _ _ _ _ _ _ _ _ (by omega) (by omega)
-- DEFS
theorem pre47 (m : Array Value) {R : Type} (fuel : Nat) (a b : AV) (K : AV → AH → Option R) :
  runI (Rep.D m) (cD m fuel) fuel Tryd.f47 [a, b] ⟨[], []⟩ K =
  br (AV.listN 10 a)
    (fun _ => br (AV.listN 10 b)
      (fun _ => br ((↑a.listOf.length : Int) != (↑b.listOf.length : Int))
        (fun _ => K (AV.bool false) { objs := [], toks := [] })
        (fun _ => loopF (Rep.D m) (cD m fuel) fuel Tryd.f47 [1, 1, 0, 1, 0] fuel [a, b, AV.top, AV.top, AV.bool false, AV.int IntKind.i64 ((0 : Int)), a, AV.int IntKind.i64 (↑a.listOf.length : Int),
      b, AV.int IntKind.i64 (↑b.listOf.length : Int), AV.bool ((↑a.listOf.length : Int) != (↑b.listOf.length : Int)),
      AV.top, AV.top, AV.top, AV.top, AV.top, AV.top, AV.top, AV.top, AV.top, AV.top, AV.top, AV.top, AV.top, AV.top,
      AV.top, AV.top] { objs := [], toks := [] } K))
      (fun _ => none))
    (fun _ => none) := by kernel_rfl
theorem step47 (m : Array Value) {R : Type} (fuel k : Nat) (a b : AV) (i : Int) (x2 x3 x6 x7 x8 x9 x10 x11 x12 x13 x14 x15 x16 x17 x18 x19 x20 x21 x22 x23 x24 x25 x26 : AV) (K : AV → AH → Option R) :
  loopF (Rep.D m) (cD m fuel) fuel Tryd.f47 [1, 1, 0, 1, 0] (k + 1) [a, b, x2, x3, .bool false, .int .i64 i, x6, x7, x8, x9, x10, x11, x12, x13, x14, x15, x16, x17, x18, x19, x20, x21, x22, x23, x24, x25, x26] ⟨[], []⟩ K =
  br (AV.listN 10 a)
    (fun _ => br (decide (i < (↑a.listOf.length : Int)))
      (fun _ => br (AV.listN 10 a && (decide ((0 : Int) ≤ i) && decide (i < (↑a.listOf.length : Int))))
        (fun _ => (match a.listOf[i.toNat]? with
          | some u3 => br (u3.isAgg &&
      fitL
        [Sh.int IntKind.i64, Sh.int IntKind.i64, Sh.int IntKind.i64, Sh.int IntKind.i64, Sh.any, Sh.any, Sh.int IntKind.i64,
          Sh.int IntKind.i64, Sh.bool, Sh.any]
        u3.aggOf)
            (fun _ => br (AV.listN 10 b && (decide ((0 : Int) ≤ i) && decide (i < (↑b.listOf.length : Int))))
              (fun _ => (match b.listOf[i.toNat]? with
                | some u6 => br (u6.isAgg &&
      fitL
        [Sh.int IntKind.i64, Sh.int IntKind.i64, Sh.int IntKind.i64, Sh.int IntKind.i64, Sh.any, Sh.any, Sh.int IntKind.i64,
          Sh.int IntKind.i64, Sh.bool, Sh.any]
        u6.aggOf)
                  (fun _ => (match valH (Rep.D m) 59
      [AV.agg
          (shL
            [Sh.int IntKind.i64, Sh.int IntKind.i64, Sh.int IntKind.i64, Sh.int IntKind.i64, Sh.any, Sh.any,
              Sh.int IntKind.i64, Sh.int IntKind.i64, Sh.bool, Sh.any]
            u3.aggOf),
        AV.agg
          (shL
            [Sh.int IntKind.i64, Sh.int IntKind.i64, Sh.int IntKind.i64, Sh.int IntKind.i64, Sh.any, Sh.any,
              Sh.int IntKind.i64, Sh.int IntKind.i64, Sh.bool, Sh.any]
            u6.aggOf)]
      { objs := [], toks := [] } with
                    | some u8 => br (fitS Sh.bool u8)
                      (fun _ => br (!u8.boolOf)
                        (fun _ => K (AV.bool false) { objs := [], toks := [] })
                        (fun _ => loopF (Rep.D m) (cD m fuel) fuel Tryd.f47 [1, 1, 0, 1, 0] k [a, b, x2, x3, AV.bool false, AV.int IntKind.i64 (IntKind.i64.wrap (i + (1 : Int))), x6, x7, x8, x9, x10,
      AV.int IntKind.i64 i, a, AV.int IntKind.i64 (↑a.listOf.length : Int), AV.bool (decide (i < (↑a.listOf.length : Int))),
      AV.int IntKind.i64 i, AV.int IntKind.i64 (IntKind.i64.wrap (i + (1 : Int))), a, AV.int IntKind.i64 i,
      (AV.agg
          (shL
            [Sh.int IntKind.i64, Sh.int IntKind.i64, Sh.int IntKind.i64, Sh.int IntKind.i64, Sh.any, Sh.any,
              Sh.int IntKind.i64, Sh.int IntKind.i64, Sh.bool, Sh.any]
            u3.aggOf)).rop,
      AV.agg
        (shL
          [Sh.int IntKind.i64, Sh.int IntKind.i64, Sh.int IntKind.i64, Sh.int IntKind.i64, Sh.any, Sh.any,
            Sh.int IntKind.i64, Sh.int IntKind.i64, Sh.bool, Sh.any]
          u3.aggOf),
      b, AV.int IntKind.i64 i,
      (AV.agg
          (shL
            [Sh.int IntKind.i64, Sh.int IntKind.i64, Sh.int IntKind.i64, Sh.int IntKind.i64, Sh.any, Sh.any,
              Sh.int IntKind.i64, Sh.int IntKind.i64, Sh.bool, Sh.any]
            u6.aggOf)).rop,
      AV.agg
        (shL
          [Sh.int IntKind.i64, Sh.int IntKind.i64, Sh.int IntKind.i64, Sh.int IntKind.i64, Sh.any, Sh.any,
            Sh.int IntKind.i64, Sh.int IntKind.i64, Sh.bool, Sh.any]
          u6.aggOf),
      AV.bool u8.boolOf, AV.bool !u8.boolOf] { objs := [], toks := [] } K))
                      (fun _ => none)
                    | none => none))
                  (fun _ => none)
                | none => none))
              (fun _ => none))
            (fun _ => none)
          | none => none))
        (fun _ => none))
      (fun _ => K (AV.bool true) { objs := [], toks := [] }))
    (fun _ => none) := by kernel_rfl
-- PROOFS
theorem loop47 (m : Array Value) {R : Type} (fuel : Nat) {a b : AV} (ha : tyV (.sl 10 dtAlloc) a) (hb : tyV (.sl 10 dtAlloc) b) (hs : nrm a = nrm b) (hE : ∀ u w, tyV dtAlloc u → tyV dtAlloc w → nrm u = nrm w → ∀ H, callL (Rep.D m) 59 [u, w] H = some (.bool true, H)) (K : AV → AH → Option R) : ∀ (r i k : Nat) (x2 x3 x6 x7 x8 x9 x10 x11 x12 x13 x14 x15 x16 x17 x18 x19 x20 x21 x22 x23 x24 x25 x26 : AV), i + r = a.listOf.length → r < k →
    loopF (Rep.D m) (cD m fuel) fuel Tryd.f47 [1, 1, 0, 1, 0] k [a, b, x2, x3, .bool false, .int .i64 (i : Int), x6, x7, x8, x9, x10, x11, x12, x13, x14, x15, x16, x17, x18, x19, x20, x21, x22, x23, x24, x25, x26] ⟨[], []⟩ K = K (.bool true) ⟨[], []⟩
  | r, i, 0, _, _, _, _, _, _, _, _, _, _, _, _, _, _, _, _, _, _, _, _, _, _, _, h, hk => by omega
  | 0, i, k + 1, x2, x3, x6, x7, x8, x9, x10, x11, x12, x13, x14, x15, x16, x17, x18, x19, x20, x21, x22, x23, x24, x25, x26, h, hk => by
    rw [step47, (sl_facts ha).1, lt_false (by omega : ¬ i < a.listOf.length)]
    rfl
  | r + 1, i, k + 1, x2, x3, x6, x7, x8, x9, x10, x11, x12, x13, x14, x15, x16, x17, x18, x19, x20, x21, x22, x23, x24, x25, x26, h, hk => by
    obtain ⟨hA, hmax, hT, -, -⟩ := sl_facts ha
    obtain ⟨hB, -, hU, -, -⟩ := sl_facts hb
    obtain ⟨hlen, hget⟩ := nrmL_get (list_same ha hb hs)
    have hi : i < a.listOf.length := by omega
    have hj : i < b.listOf.length := by omega
    obtain ⟨u, hu⟩ : ∃ u, a.listOf[i]? = some u := ⟨_, List.getElem?_eq_getElem hi⟩
    obtain ⟨w, hw⟩ : ∃ w, b.listOf[i]? = some w := ⟨_, List.getElem?_eq_getElem hj⟩
    have tu := hT u (List.mem_of_getElem? hu)
    have tw := hU w (List.mem_of_getElem? hw)
    have huw := hget i u w hu hw
    rw [step47, hA, hB, lt_true hi, lt_true hj, ge_true, Int.toNat_natCast, hu, hw]
    simp only [br, Bool.and_self, fit_dtAlloc tu, fit_dtAlloc tw, eta_dtAlloc tu, eta_dtAlloc tw]
    rw [valH_of (hE u w tu tw huw _)]
    simp only [fitS, AV.boolOf, Bool.not_true]
    rw [wrap_next hi hmax]
    exact loop47 m fuel ha hb hs hE K r (i + 1) k _ _ _ _ _ _ _ _ _ _ _ _ _ _ _ _ _ _ _ _ _ _ _ (by omega) (by omega)

theorem eq47 (m : Array Value) (hE : ∀ u w, tyV dtAlloc u → tyV dtAlloc w → nrm u = nrm w → ∀ H, callL (Rep.D m) 59 [u, w] H = some (.bool true, H)) {a b : AV} (ha : tyV (.sl 10 dtAlloc) a) (hb : tyV (.sl 10 dtAlloc) b) (hs : nrm a = nrm b) (H : AH) : callL (Rep.D m) 47 [a, b] H = some (.bool true, H) := by
  refine callL_D (tabD0_ok m) (fuel := (erase a).listOf.length + 1) (n := 2) (fn := Tryd.f47) (ds := [.sl 10 dtAlloc, .sl 10 dtAlloc]) (v := .bool true) (by kernel_rfl) (by kernel_rfl) (by kernel_rfl) ⟨ha, hb, trivial⟩ ?_ rfl
  have ha' := tyV_erase ha
  have hb' := tyV_erase hb
  have hs' : nrm (erase a) = nrm (erase b) := by rw [tyV_nrm ha, tyV_nrm hb]; exact hs
  show runI (Rep.D m) (cD m ((erase a).listOf.length + 1)) ((erase a).listOf.length + 1) Tryd.f47 [erase a, erase b] ⟨[], []⟩ (fun v _ => some v) = _
  generalize erase a = a at ha' hs' ⊢
  generalize erase b = b at hb' hs' ⊢
  have hlen := (nrmL_get (list_same ha' hb' hs')).1
  rw [pre47, (sl_facts ha').1, (sl_facts hb').1, ← hlen]
  simp only [br, bne_self_eq_false]
  exact loop47 m _ ha' hb' hs' hE _ a.listOf.length 0 _ _ _ _ _ _ _ _ _ _ _ _ _ _ _ _ _ _ _ _ _ _ _ _ (by omega) (by omega)
-- DEFS
theorem form76 (m : Array Value) {R : Type} (fuel : Nat) (a : AV) (K : AV → AH → Option R) :
  runI (Rep.D m) (cD m fuel) fuel Tryd.f76 [a] ⟨[], []⟩ K =
  br (AV.listN 1 a)
    (fun _ => (if a.listOf.length = 0 then K AV.nils { objs := [], toks := [] }
      else (if fitsRoom a.listOf.length 8 = true then K (AV.inl true (Spare.tok 0 0) 1 (detokL a.listOf)) { objs := [], toks := [(0, 1, 3)] }
        else none)))
    (fun _ => none) := by kernel_rfl
-- PROOFS
theorem cp76 (m : Array Value) {a : AV} (ha : tyV (.sl 1 dtI) a) (hb : bnd 100000 a = true) : ∃ v, (∀ H : AH, callL (Rep.D m) 76 [a] H = some (v, H)) ∧ tyV (.sl 1 dtI) v ∧ nrm v = nrm a := by
  have ha' := tyV_erase ha
  have hb' : bnd 100000 (erase a) = true := bnd_same (tyV_nrm ha) hb
  obtain ⟨hA, hmax, hT, hN, -⟩ := sl_facts ha'
  have hlen := (bnd_list ha' hb').1
  by_cases h0 : (erase a).listOf.length = 0
  · refine ⟨.nils, fun H => ?_, .inl rfl, ?_⟩
    · refine callL_D (tabD0_ok m) (fuel := 1) (n := 2) (fn := Tryd.f76) (ds := [.sl 1 dtI]) (v := .nils) (by kernel_rfl) (by kernel_rfl) (by kernel_rfl) ⟨ha, trivial⟩ ?_ rfl
      show runI (Rep.D m) (cD m 1) 1 Tryd.f76 [erase a] ⟨[], []⟩ (fun v _ => some v) = _
      rw [form76, hA, if_pos h0]
      rfl
    · rw [← tyV_nrm ha, hN, List.length_eq_zero_iff.1 h0]
      rfl
  · refine ⟨.inl true .unk 1 (erase a).listOf, fun H => ?_, ty_new rfl hmax hT, ?_⟩
    · have hd : detok (.inl true (.tok 0 0) 1 (detokL (erase a).listOf)) = .inl true .unk 1 (erase a).listOf := by
        simp only [detok, Spare.detok, ty_detokL hT]
      rw [← hd]
      refine callL_D (tabD0_ok m) (fuel := 1) (n := 2) (fn := Tryd.f76) (ds := [.sl 1 dtI]) (v := .inl true (.tok 0 0) 1 (detokL (erase a).listOf)) (by kernel_rfl) (by kernel_rfl) (by kernel_rfl) ⟨ha, trivial⟩ ?_ ?_
      · show runI (Rep.D m) (cD m 1) 1 Tryd.f76 [erase a] ⟨[], []⟩ (fun v _ => some v) = _
        rw [form76, hA, if_neg h0, if_pos (fits_small hlen (by decide))]
        rfl
      · rw [hd]
        simp only [below, ty_ebelowL hT]
        rfl
    · rw [← tyV_nrm ha, hN]
      rfl
-- DEFS
theorem form77 (m : Array Value) {R : Type} (fuel : Nat) (a : AV) (K : AV → AH → Option R) :
  runI (Rep.D m) (cD m fuel) fuel Tryd.f77 [a] ⟨[], []⟩ K =
  br (AV.listN 6 a)
    (fun _ => (if a.listOf.length = 0 then K AV.nils { objs := [], toks := [] }
      else (if fitsRoom a.listOf.length 48 = true then K (AV.inl true (Spare.tok 0 0) 6 (detokL a.listOf)) { objs := [], toks := [(0, 6, 91)] }
        else none)))
    (fun _ => none) := by kernel_rfl
-- PROOFS
theorem cp77 (m : Array Value) {a : AV} (ha : tyV (.sl 6 dtTS) a) (hb : bnd 100000 a = true) : ∃ v, (∀ H : AH, callL (Rep.D m) 77 [a] H = some (v, H)) ∧ tyV (.sl 6 dtTS) v ∧ nrm v = nrm a := by
  have ha' := tyV_erase ha
  have hb' : bnd 100000 (erase a) = true := bnd_same (tyV_nrm ha) hb
  obtain ⟨hA, hmax, hT, hN, -⟩ := sl_facts ha'
  have hlen := (bnd_list ha' hb').1
  by_cases h0 : (erase a).listOf.length = 0
  · refine ⟨.nils, fun H => ?_, .inl rfl, ?_⟩
    · refine callL_D (tabD0_ok m) (fuel := 1) (n := 2) (fn := Tryd.f77) (ds := [.sl 6 dtTS]) (v := .nils) (by kernel_rfl) (by kernel_rfl) (by kernel_rfl) ⟨ha, trivial⟩ ?_ rfl
      show runI (Rep.D m) (cD m 1) 1 Tryd.f77 [erase a] ⟨[], []⟩ (fun v _ => some v) = _
      rw [form77, hA, if_pos h0]
      rfl
    · rw [← tyV_nrm ha, hN, List.length_eq_zero_iff.1 h0]
      rfl
  · refine ⟨.inl true .unk 6 (erase a).listOf, fun H => ?_, ty_new rfl hmax hT, ?_⟩
    · have hd : detok (.inl true (.tok 0 0) 6 (detokL (erase a).listOf)) = .inl true .unk 6 (erase a).listOf := by
        simp only [detok, Spare.detok, ty_detokL hT]
      rw [← hd]
      refine callL_D (tabD0_ok m) (fuel := 1) (n := 2) (fn := Tryd.f77) (ds := [.sl 6 dtTS]) (v := .inl true (.tok 0 0) 6 (detokL (erase a).listOf)) (by kernel_rfl) (by kernel_rfl) (by kernel_rfl) ⟨ha, trivial⟩ ?_ ?_
      · show runI (Rep.D m) (cD m 1) 1 Tryd.f77 [erase a] ⟨[], []⟩ (fun v _ => some v) = _
        rw [form77, hA, if_neg h0, if_pos (fits_small hlen (by decide))]
        rfl
      · rw [hd]
        simp only [below, ty_ebelowL hT]
        rfl
    · rw [← tyV_nrm ha, hN]
      rfl
-- DEFS
theorem form22 (m : Array Value) {R : Type} (fuel : Nat) (a : AV) (K : AV → AH → Option R) :
  runI (Rep.D m) (cD m fuel) fuel Tryd.f22 [a] ⟨[], []⟩ K =
  br (AV.listN 9 a)
    (fun _ => (if a.listOf.length = 0 then K AV.nils { objs := [], toks := [] }
      else (if fitsRoom a.listOf.length 56 = true then K (AV.inl true (Spare.tok 0 0) 9 (detokL a.listOf)) { objs := [], toks := [(0, 9, 49)] }
        else none)))
    (fun _ => none) := by kernel_rfl
-- PROOFS
theorem cp22 (m : Array Value) {a : AV} (ha : tyV (.sl 9 dtProc) a) (hb : bnd 100000 a = true) : ∃ v, (∀ H : AH, callL (Rep.D m) 22 [a] H = some (v, H)) ∧ tyV (.sl 9 dtProc) v ∧ nrm v = nrm a := by
  have ha' := tyV_erase ha
  have hb' : bnd 100000 (erase a) = true := bnd_same (tyV_nrm ha) hb
  obtain ⟨hA, hmax, hT, hN, -⟩ := sl_facts ha'
  have hlen := (bnd_list ha' hb').1
  by_cases h0 : (erase a).listOf.length = 0
  · refine ⟨.nils, fun H => ?_, .inl rfl, ?_⟩
    · refine callL_D (tabD0_ok m) (fuel := 1) (n := 2) (fn := Tryd.f22) (ds := [.sl 9 dtProc]) (v := .nils) (by kernel_rfl) (by kernel_rfl) (by kernel_rfl) ⟨ha, trivial⟩ ?_ rfl
      show runI (Rep.D m) (cD m 1) 1 Tryd.f22 [erase a] ⟨[], []⟩ (fun v _ => some v) = _
      rw [form22, hA, if_pos h0]
      rfl
    · rw [← tyV_nrm ha, hN, List.length_eq_zero_iff.1 h0]
      rfl
  · refine ⟨.inl true .unk 9 (erase a).listOf, fun H => ?_, ty_new rfl hmax hT, ?_⟩
    · have hd : detok (.inl true (.tok 0 0) 9 (detokL (erase a).listOf)) = .inl true .unk 9 (erase a).listOf := by
        simp only [detok, Spare.detok, ty_detokL hT]
      rw [← hd]
      refine callL_D (tabD0_ok m) (fuel := 1) (n := 2) (fn := Tryd.f22) (ds := [.sl 9 dtProc]) (v := .inl true (.tok 0 0) 9 (detokL (erase a).listOf)) (by kernel_rfl) (by kernel_rfl) (by kernel_rfl) ⟨ha, trivial⟩ ?_ ?_
      · show runI (Rep.D m) (cD m 1) 1 Tryd.f22 [erase a] ⟨[], []⟩ (fun v _ => some v) = _
        rw [form22, hA, if_neg h0, if_pos (fits_small hlen (by decide))]
        rfl
      · rw [hd]
        simp only [below, ty_ebelowL hT]
        rfl
    · rw [← tyV_nrm ha, hN]
      rfl
-- DEFS
theorem pre65 (m : Array Value) {R : Type} (fuel : Nat) (a : AV) (K : AV → AH → Option R) :
  runI (Rep.D m) (cD m fuel) fuel Tryd.f65 [a] ⟨[], []⟩ K =
  loopF (Rep.D m) (cD m fuel) fuel Tryd.f65 [1, 1, 0, 1, 0] fuel [a, AV.top, AV.nils, AV.nils, AV.int IntKind.i64 ((0 : Int)), AV.top, AV.top, AV.top, AV.top, AV.top, AV.top, AV.top,
      AV.top, AV.top, AV.top, AV.top, AV.top, AV.top, AV.top, AV.top] { objs := [], toks := [] } K := by kernel_rfl
theorem stepN65 (m : Array Value) {R : Type} (fuel k : Nat) (a : AV) (i : Int) (x1 x5 x6 x7 x8 x9 x10 x11 x12 x13 x14 x15 x16 x17 x18 x19 : AV) (K : AV → AH → Option R) :
  loopF (Rep.D m) (cD m fuel) fuel Tryd.f65 [1, 1, 0, 1, 0] (k + 1) [a, x1, .nils, .nils, .int .i64 i, x5, x6, x7, x8, x9, x10, x11, x12, x13, x14, x15, x16, x17, x18, x19] ⟨[], []⟩ K =
  br (AV.listN 8 a)
    (fun _ => br (decide (i < (↑a.listOf.length : Int)))
      (fun _ => br (AV.listN 8 a && (decide ((0 : Int) ≤ i) && decide (i < (↑a.listOf.length : Int))))
        (fun _ => (match a.listOf[i.toNat]? with
          | some u3 => br (u3.isAgg &&
      fitL
        [Sh.int IntKind.u8, Sh.int IntKind.i64, Sh.int IntKind.i64, Sh.int IntKind.i64, Sh.int IntKind.i64,
          Sh.int IntKind.i64, Sh.int IntKind.i64, Sh.any]
        u3.aggOf)
            (fun _ => (match valH (Rep.D m) 78
      [AV.agg
          (shL
            [Sh.int IntKind.u8, Sh.int IntKind.i64, Sh.int IntKind.i64, Sh.int IntKind.i64, Sh.int IntKind.i64,
              Sh.int IntKind.i64, Sh.int IntKind.i64, Sh.any]
            u3.aggOf)]
      { objs := [], toks := [] } with
              | some u5 => br (u5.isAgg &&
      fitL
        [Sh.int IntKind.u8, Sh.int IntKind.i64, Sh.int IntKind.i64, Sh.int IntKind.i64, Sh.int IntKind.i64,
          Sh.int IntKind.i64, Sh.int IntKind.i64, Sh.any]
        u5.aggOf)
                (fun _ => loopF (Rep.D m) (cD m fuel) fuel Tryd.f65 [1, 1, 0, 1, 0] k [a, x1, AV.nils,
      AV.inl true (Spare.tok 0 0) 8
        (detokL
          (detokL
            [AV.agg
                (shL
                  [Sh.int IntKind.u8, Sh.int IntKind.i64, Sh.int IntKind.i64, Sh.int IntKind.i64, Sh.int IntKind.i64,
                    Sh.int IntKind.i64, Sh.int IntKind.i64, Sh.any]
                  u5.aggOf)])),
      AV.int IntKind.i64 (IntKind.i64.wrap (i + (1 : Int))), AV.int IntKind.i64 i, a,
      AV.int IntKind.i64 (↑a.listOf.length : Int), AV.bool (decide (i < (↑a.listOf.length : Int))), AV.int IntKind.i64 i,
      AV.int IntKind.i64 (IntKind.i64.wrap (i + (1 : Int))), AV.nils, a, AV.int IntKind.i64 i,
      (AV.agg
          (shL
            [Sh.int IntKind.u8, Sh.int IntKind.i64, Sh.int IntKind.i64, Sh.int IntKind.i64, Sh.int IntKind.i64,
              Sh.int IntKind.i64, Sh.int IntKind.i64, Sh.any]
            u3.aggOf)).rop,
      AV.agg
        (shL
          [Sh.int IntKind.u8, Sh.int IntKind.i64, Sh.int IntKind.i64, Sh.int IntKind.i64, Sh.int IntKind.i64,
            Sh.int IntKind.i64, Sh.int IntKind.i64, Sh.any]
          u3.aggOf),
      AV.agg
        (shL
          [Sh.int IntKind.u8, Sh.int IntKind.i64, Sh.int IntKind.i64, Sh.int IntKind.i64, Sh.int IntKind.i64,
            Sh.int IntKind.i64, Sh.int IntKind.i64, Sh.any]
          u5.aggOf),
      AV.inl true Spare.zero 8
        (detokL
          [AV.agg
              (shL
                [Sh.int IntKind.u8, Sh.int IntKind.i64, Sh.int IntKind.i64, Sh.int IntKind.i64, Sh.int IntKind.i64,
                  Sh.int IntKind.i64, Sh.int IntKind.i64, Sh.any]
                u5.aggOf)]),
      AV.inl true (Spare.tok 0 0) 8
        (detokL
          (detokL
            [AV.agg
                (shL
                  [Sh.int IntKind.u8, Sh.int IntKind.i64, Sh.int IntKind.i64, Sh.int IntKind.i64, Sh.int IntKind.i64,
                    Sh.int IntKind.i64, Sh.int IntKind.i64, Sh.any]
                  u5.aggOf)])),
      x19] { objs := [], toks := [(0, 8, 61)] } K)
                (fun _ => none)
              | none => none))
            (fun _ => none)
          | none => none))
        (fun _ => none))
      (fun _ => K AV.nils { objs := [], toks := [] }))
    (fun _ => none) := by kernel_rfl
theorem step65 (m : Array Value) {R : Type} (fuel k : Nat) (a : AV) (i : Int) (g : Nat) (ys : List AV) (x1 x5 x6 x7 x8 x9 x10 x11 x12 x13 x14 x15 x16 x17 x18 x19 : AV) (K : AV → AH → Option R) :
  loopF (Rep.D m) (cD m fuel) fuel Tryd.f65 [1, 1, 0, 1, 0] (k + 1) [a, x1, .nils, (.inl true (.tok 0 g) 8 ys), .int .i64 i, x5, x6, x7, x8, x9, x10, x11, x12, x13, x14, x15, x16, x17, x18, x19] ⟨[], [(g, 8, 61)]⟩ K =
  br (AV.listN 8 a)
    (fun _ => br (decide (i < (↑a.listOf.length : Int)))
      (fun _ => br (AV.listN 8 a && (decide ((0 : Int) ≤ i) && decide (i < (↑a.listOf.length : Int))))
        (fun _ => (match a.listOf[i.toNat]? with
          | some u3 => br (u3.isAgg &&
      fitL
        [Sh.int IntKind.u8, Sh.int IntKind.i64, Sh.int IntKind.i64, Sh.int IntKind.i64, Sh.int IntKind.i64,
          Sh.int IntKind.i64, Sh.int IntKind.i64, Sh.any]
        u3.aggOf)
            (fun _ => (match valH (Rep.D m) 78
      [AV.agg
          (shL
            [Sh.int IntKind.u8, Sh.int IntKind.i64, Sh.int IntKind.i64, Sh.int IntKind.i64, Sh.int IntKind.i64,
              Sh.int IntKind.i64, Sh.int IntKind.i64, Sh.any]
            u3.aggOf)]
      { objs := [], toks := [(g, 8, 61)] } with
              | some u5 => br (u5.isAgg &&
      fitL
        [Sh.int IntKind.u8, Sh.int IntKind.i64, Sh.int IntKind.i64, Sh.int IntKind.i64, Sh.int IntKind.i64,
          Sh.int IntKind.i64, Sh.int IntKind.i64, Sh.any]
        u5.aggOf)
                (fun _ => (if fitsRoom (ys.length + 1) 80 = true ∧ 8 = 8 then (if some (g, 8, 61) = some (g, 8, 61) then loopF (Rep.D m) (cD m fuel) fuel Tryd.f65 [1, 1, 0, 1, 0] k [a, x1, AV.nils,
      AV.inl true (Spare.tok 0 (g + 1)) 8
        (ys ++
          detokL
            (detokL
              [AV.agg
                  (shL
                    [Sh.int IntKind.u8, Sh.int IntKind.i64, Sh.int IntKind.i64, Sh.int IntKind.i64, Sh.int IntKind.i64,
                      Sh.int IntKind.i64, Sh.int IntKind.i64, Sh.any]
                    u5.aggOf)])),
      AV.int IntKind.i64 (IntKind.i64.wrap (i + (1 : Int))), AV.int IntKind.i64 i, a,
      AV.int IntKind.i64 (↑a.listOf.length : Int), AV.bool (decide (i < (↑a.listOf.length : Int))), AV.int IntKind.i64 i,
      AV.int IntKind.i64 (IntKind.i64.wrap (i + (1 : Int))), AV.inl true (Spare.tok 0 g) 8 ys, a, AV.int IntKind.i64 i,
      (AV.agg
          (shL
            [Sh.int IntKind.u8, Sh.int IntKind.i64, Sh.int IntKind.i64, Sh.int IntKind.i64, Sh.int IntKind.i64,
              Sh.int IntKind.i64, Sh.int IntKind.i64, Sh.any]
            u3.aggOf)).rop,
      AV.agg
        (shL
          [Sh.int IntKind.u8, Sh.int IntKind.i64, Sh.int IntKind.i64, Sh.int IntKind.i64, Sh.int IntKind.i64,
            Sh.int IntKind.i64, Sh.int IntKind.i64, Sh.any]
          u3.aggOf),
      AV.agg
        (shL
          [Sh.int IntKind.u8, Sh.int IntKind.i64, Sh.int IntKind.i64, Sh.int IntKind.i64, Sh.int IntKind.i64,
            Sh.int IntKind.i64, Sh.int IntKind.i64, Sh.any]
          u5.aggOf),
      AV.inl true Spare.zero 8
        (detokL
          [AV.agg
              (shL
                [Sh.int IntKind.u8, Sh.int IntKind.i64, Sh.int IntKind.i64, Sh.int IntKind.i64, Sh.int IntKind.i64,
                  Sh.int IntKind.i64, Sh.int IntKind.i64, Sh.any]
                u5.aggOf)]),
      AV.inl true (Spare.tok 0 (g + 1)) 8
        (ys ++
          detokL
            (detokL
              [AV.agg
                  (shL
                    [Sh.int IntKind.u8, Sh.int IntKind.i64, Sh.int IntKind.i64, Sh.int IntKind.i64, Sh.int IntKind.i64,
                      Sh.int IntKind.i64, Sh.int IntKind.i64, Sh.any]
                    u5.aggOf)])),
      x19] { objs := [], toks := [(g + 1, 8, 61)] } K
                    else none)
                  else none))
                (fun _ => none)
              | none => none))
            (fun _ => none)
          | none => none))
        (fun _ => none))
      (fun _ => K (AV.inl true (Spare.tok 0 g) 8 ys) { objs := [], toks := [(g, 8, 61)] }))
    (fun _ => none) := by kernel_rfl
-- PROOFS
theorem loop65 (m : Array Value) {R : Type} (fuel : Nat) {a : AV} (ha : tyV (.sl 8 dtTask) a) (hb : bnd 100000 a = true) (hE : ∀ u, tyV dtTask u → bnd 100000 u = true → ∃ v, (∀ H : AH, callL (Rep.D m) 78 [u] H = some (v, H)) ∧ tyV dtTask v ∧ nrm v = nrm u) (K : AV → AH → Option R) : ∀ (r i k g : Nat) (ys : List AV) (x1 x5 x6 x7 x8 x9 x10 x11 x12 x13 x14 x15 x16 x17 x18 x19 : AV), i + r = a.listOf.length → r < k → ys.length = i → (∀ u ∈ ys, tyV dtTask u) →
    ∃ g' ys', loopF (Rep.D m) (cD m fuel) fuel Tryd.f65 [1, 1, 0, 1, 0] k [a, x1, .nils, (.inl true (.tok 0 g) 8 ys), .int .i64 (i : Int), x5, x6, x7, x8, x9, x10, x11, x12, x13, x14, x15, x16, x17, x18, x19] ⟨[], [(g, 8, 61)]⟩ K = K (.inl true (.tok 0 g') 8 ys') ⟨[], [(g', 8, 61)]⟩ ∧ ys'.length = a.listOf.length ∧ (∀ u ∈ ys', tyV dtTask u) ∧ nrmL ys' = nrmL ys ++ nrmL (a.listOf.drop i)
  | r, i, 0, g, ys, _, _, _, _, _, _, _, _, _, _, _, _, _, _, _, _, h, hk, hl, hy => by omega
  | 0, i, k + 1, g, ys, x1, x5, x6, x7, x8, x9, x10, x11, x12, x13, x14, x15, x16, x17, x18, x19, h, hk, hl, hy => by
    refine ⟨g, ys, ?_, by omega, hy, by rw [List.drop_eq_nil_of_le (by omega)]; simp [nrmL]⟩
    rw [step65, (sl_facts ha).1, lt_false (by omega : ¬ i < a.listOf.length)]
    rfl
  | r + 1, i, k + 1, g, ys, x1, x5, x6, x7, x8, x9, x10, x11, x12, x13, x14, x15, x16, x17, x18, x19, h, hk, hl, hy => by
    obtain ⟨hA, hmax, hT, -, -⟩ := sl_facts ha
    obtain ⟨hblen, hbel⟩ := bnd_list ha hb
    have hi : i < a.listOf.length := by omega
    obtain ⟨u, hu⟩ : ∃ u, a.listOf[i]? = some u := ⟨_, List.getElem?_eq_getElem hi⟩
    have hmem := List.mem_of_getElem? hu
    have tu := hT u hmem
    obtain ⟨v, hv, tv, hvn⟩ := hE u tu (hbel u hmem)
    have hy' : ∀ w ∈ ys ++ [v], tyV dtTask w := by
      intro w hw
      rcases List.mem_append.1 hw with hw | hw
      · exact hy w hw
      · simp only [List.mem_singleton] at hw; subst hw; exact tv
    have ih := fun (x1 x5 x6 x7 x8 x9 x10 x11 x12 x13 x14 x15 x16 x17 x18 x19 : AV) => loop65 m fuel ha hb hE K r (i + 1) k (g + 1) (ys ++ [v]) x1 x5 x6 x7 x8 x9 x10 x11 x12 x13 x14 x15 x16 x17 x18 x19 (by omega) (by omega) (by simp [hl]) hy'
    rw [step65, hA, lt_true hi, ge_true, Int.toNat_natCast, hu]
    simp only [br, Bool.and_self, fit_dtTask tu, eta_dtTask tu]
    rw [valH_of (hv _)]
    simp only [fit_dtTask tv, eta_dtTask tv, detokL, tyV_detok tv]
    rw [if_pos ⟨show fitsRoom (ys.length + 1) 80 = true from fits_small (by omega) (by decide), by first | trivial | rfl⟩, if_pos (by first | trivial | rfl), wrap_next hi hmax]
    have e : nrmL (ys ++ [v]) ++ nrmL (a.listOf.drop (i + 1)) = nrmL ys ++ nrmL (a.listOf.drop i) := by
      rw [nrm_drop hu, nrmL_app]
      simp [nrmL, hvn]
    rw [← e]
    exact ih _ _ _ _ _ _ _ _ _ _ _ _ _ _ _ _

theorem cp65 (m : Array Value) (hE : ∀ u, tyV dtTask u → bnd 100000 u = true → ∃ v, (∀ H : AH, callL (Rep.D m) 78 [u] H = some (v, H)) ∧ tyV dtTask v ∧ nrm v = nrm u) {a : AV} (ha : tyV (.sl 8 dtTask) a) (hb : bnd 100000 a = true) : ∃ v, (∀ H : AH, callL (Rep.D m) 65 [a] H = some (v, H)) ∧ tyV (.sl 8 dtTask) v ∧ nrm v = nrm a := by
  have ha' := tyV_erase ha
  have hb' : bnd 100000 (erase a) = true := bnd_same (tyV_nrm ha) hb
  obtain ⟨hA, hmax, hT, hN, -⟩ := sl_facts ha'
  obtain ⟨hlen, hbel⟩ := bnd_list ha' hb'
  by_cases h0 : (erase a).listOf.length = 0
  · refine ⟨.nils, fun H => ?_, .inl rfl, ?_⟩
    · refine callL_D (tabD0_ok m) (fuel := 1) (n := 2) (fn := Tryd.f65) (ds := [.sl 8 dtTask]) (v := .nils) (by kernel_rfl) (by kernel_rfl) (by kernel_rfl) ⟨ha, trivial⟩ ?_ rfl
      show runI (Rep.D m) (cD m 1) 1 Tryd.f65 [erase a] ⟨[], []⟩ (fun v _ => some v) = _
      rw [pre65, stepN65, hA, show decide ((0 : Int) < ((erase a).listOf.length : Int)) = false by rw [h0]; rfl]
      rfl
    · rw [← tyV_nrm ha, hN, List.length_eq_zero_iff.1 h0]
      rfl
  · have hi : 0 < (erase a).listOf.length := by omega
    obtain ⟨u, hu⟩ : ∃ u, (erase a).listOf[0]? = some u := ⟨_, List.getElem?_eq_getElem hi⟩
    have hmem := List.mem_of_getElem? hu
    have tu := hT u hmem
    obtain ⟨v, hv, tv, hvn⟩ := hE u tu (hbel u hmem)
    have key : ∃ g' ys', runI (Rep.D m) (cD m ((erase a).listOf.length + 1)) ((erase a).listOf.length + 1) Tryd.f65 [erase a] ⟨[], []⟩ (fun v _ => some v) = some (.inl true (.tok 0 g') 8 ys') ∧ ys'.length = (erase a).listOf.length ∧ (∀ u ∈ ys', tyV dtTask u) ∧ nrmL ys' = nrmL (erase a).listOf := by
      have ih := fun (x1 x5 x6 x7 x8 x9 x10 x11 x12 x13 x14 x15 x16 x17 x18 x19 : AV) => loop65 m ((erase a).listOf.length + 1) ha' hb' hE (fun v _ => some v) ((erase a).listOf.length - 1) 1 (erase a).listOf.length 0 [v] x1 x5 x6 x7 x8 x9 x10 x11 x12 x13 x14 x15 x16 x17 x18 x19 (by omega) (by omega) rfl (by simpa using tv)
      rw [pre65, stepN65, hA, show decide ((0 : Int) < ((erase a).listOf.length : Int)) = true by simpa using hi, show ((0 : Int)).toNat = 0 from rfl, hu]
      simp only [br, Bool.and_self, fit_dtTask tu, eta_dtTask tu, show decide ((0 : Int) ≤ 0) = true from rfl]
      rw [valH_of (hv _)]
      simp only [fit_dtTask tv, eta_dtTask tv, detokL, tyV_detok tv]
      rw [show IntKind.i64.wrap (0 + 1) = ((1 : Nat) : Int) from rfl]
      have e : nrmL [v] ++ nrmL ((erase a).listOf.drop 1) = nrmL (erase a).listOf := by
        have := nrm_drop hu
        simp only [List.drop_zero] at this
        rw [this]
        simp [nrmL, hvn]
      rw [← e]
      exact ih _ _ _ _ _ _ _ _ _ _ _ _ _ _ _ _
    obtain ⟨g', ys', h1, h2, h3, h4⟩ := key
    refine ⟨.inl true .unk 8 ys', fun H => ?_, ty_new rfl (by omega) h3, ?_⟩
    · have hd : detok (.inl true (.tok 0 g') 8 ys') = .inl true .unk 8 ys' := by
        simp only [detok, Spare.detok, ty_detokL h3]
      rw [← hd]
      refine callL_D (tabD0_ok m) (fuel := (erase a).listOf.length + 1) (n := 2) (fn := Tryd.f65) (ds := [.sl 8 dtTask]) (v := .inl true (.tok 0 g') 8 ys') (by kernel_rfl) (by kernel_rfl) (by kernel_rfl) ⟨ha, trivial⟩ h1 ?_
      rw [hd]
      simp only [below, ty_ebelowL h3]
      rfl
    · rw [← tyV_nrm ha, hN]
      simp only [nrm, h4]
-- DEFS
theorem pre46 (m : Array Value) {R : Type} (fuel : Nat) (a : AV) (K : AV → AH → Option R) :
  runI (Rep.D m) (cD m fuel) fuel Tryd.f46 [a] ⟨[], []⟩ K =
  loopF (Rep.D m) (cD m fuel) fuel Tryd.f46 [1, 1, 0, 1, 0] fuel [a, AV.top, AV.nils, AV.nils, AV.int IntKind.i64 ((0 : Int)), AV.top, AV.top, AV.top, AV.top, AV.top, AV.top, AV.top,
      AV.top, AV.top, AV.top, AV.top, AV.top, AV.top, AV.top, AV.top] { objs := [], toks := [] } K := by kernel_rfl
theorem stepN46 (m : Array Value) {R : Type} (fuel k : Nat) (a : AV) (i : Int) (x1 x5 x6 x7 x8 x9 x10 x11 x12 x13 x14 x15 x16 x17 x18 x19 : AV) (K : AV → AH → Option R) :
  loopF (Rep.D m) (cD m fuel) fuel Tryd.f46 [1, 1, 0, 1, 0] (k + 1) [a, x1, .nils, .nils, .int .i64 i, x5, x6, x7, x8, x9, x10, x11, x12, x13, x14, x15, x16, x17, x18, x19] ⟨[], []⟩ K =
  br (AV.listN 10 a)
    (fun _ => br (decide (i < (↑a.listOf.length : Int)))
      (fun _ => br (AV.listN 10 a && (decide ((0 : Int) ≤ i) && decide (i < (↑a.listOf.length : Int))))
        (fun _ => (match a.listOf[i.toNat]? with
          | some u3 => br (u3.isAgg &&
      fitL
        [Sh.int IntKind.i64, Sh.int IntKind.i64, Sh.int IntKind.i64, Sh.int IntKind.i64, Sh.any, Sh.any, Sh.int IntKind.i64,
          Sh.int IntKind.i64, Sh.bool, Sh.any]
        u3.aggOf)
            (fun _ => (match valH (Rep.D m) 58
      [AV.agg
          (shL
            [Sh.int IntKind.i64, Sh.int IntKind.i64, Sh.int IntKind.i64, Sh.int IntKind.i64, Sh.any, Sh.any,
              Sh.int IntKind.i64, Sh.int IntKind.i64, Sh.bool, Sh.any]
            u3.aggOf)]
      { objs := [], toks := [] } with
              | some u5 => br (u5.isAgg &&
      fitL
        [Sh.int IntKind.i64, Sh.int IntKind.i64, Sh.int IntKind.i64, Sh.int IntKind.i64, Sh.any, Sh.any, Sh.int IntKind.i64,
          Sh.int IntKind.i64, Sh.bool, Sh.any]
        u5.aggOf)
                (fun _ => loopF (Rep.D m) (cD m fuel) fuel Tryd.f46 [1, 1, 0, 1, 0] k [a, x1, AV.nils,
      AV.inl true (Spare.tok 0 0) 10
        (detokL
          (detokL
            [AV.agg
                (shL
                  [Sh.int IntKind.i64, Sh.int IntKind.i64, Sh.int IntKind.i64, Sh.int IntKind.i64, Sh.any, Sh.any,
                    Sh.int IntKind.i64, Sh.int IntKind.i64, Sh.bool, Sh.any]
                  u5.aggOf)])),
      AV.int IntKind.i64 (IntKind.i64.wrap (i + (1 : Int))), AV.int IntKind.i64 i, a,
      AV.int IntKind.i64 (↑a.listOf.length : Int), AV.bool (decide (i < (↑a.listOf.length : Int))), AV.int IntKind.i64 i,
      AV.int IntKind.i64 (IntKind.i64.wrap (i + (1 : Int))), AV.nils, a, AV.int IntKind.i64 i,
      (AV.agg
          (shL
            [Sh.int IntKind.i64, Sh.int IntKind.i64, Sh.int IntKind.i64, Sh.int IntKind.i64, Sh.any, Sh.any,
              Sh.int IntKind.i64, Sh.int IntKind.i64, Sh.bool, Sh.any]
            u3.aggOf)).rop,
      AV.agg
        (shL
          [Sh.int IntKind.i64, Sh.int IntKind.i64, Sh.int IntKind.i64, Sh.int IntKind.i64, Sh.any, Sh.any,
            Sh.int IntKind.i64, Sh.int IntKind.i64, Sh.bool, Sh.any]
          u3.aggOf),
      AV.agg
        (shL
          [Sh.int IntKind.i64, Sh.int IntKind.i64, Sh.int IntKind.i64, Sh.int IntKind.i64, Sh.any, Sh.any,
            Sh.int IntKind.i64, Sh.int IntKind.i64, Sh.bool, Sh.any]
          u5.aggOf),
      AV.inl true Spare.zero 10
        (detokL
          [AV.agg
              (shL
                [Sh.int IntKind.i64, Sh.int IntKind.i64, Sh.int IntKind.i64, Sh.int IntKind.i64, Sh.any, Sh.any,
                  Sh.int IntKind.i64, Sh.int IntKind.i64, Sh.bool, Sh.any]
                u5.aggOf)]),
      AV.inl true (Spare.tok 0 0) 10
        (detokL
          (detokL
            [AV.agg
                (shL
                  [Sh.int IntKind.i64, Sh.int IntKind.i64, Sh.int IntKind.i64, Sh.int IntKind.i64, Sh.any, Sh.any,
                    Sh.int IntKind.i64, Sh.int IntKind.i64, Sh.bool, Sh.any]
                  u5.aggOf)])),
      x19] { objs := [], toks := [(0, 10, 59)] } K)
                (fun _ => none)
              | none => none))
            (fun _ => none)
          | none => none))
        (fun _ => none))
      (fun _ => K AV.nils { objs := [], toks := [] }))
    (fun _ => none) := by kernel_rfl
theorem step46 (m : Array Value) {R : Type} (fuel k : Nat) (a : AV) (i : Int) (g : Nat) (ys : List AV) (x1 x5 x6 x7 x8 x9 x10 x11 x12 x13 x14 x15 x16 x17 x18 x19 : AV) (K : AV → AH → Option R) :
  loopF (Rep.D m) (cD m fuel) fuel Tryd.f46 [1, 1, 0, 1, 0] (k + 1) [a, x1, .nils, (.inl true (.tok 0 g) 10 ys), .int .i64 i, x5, x6, x7, x8, x9, x10, x11, x12, x13, x14, x15, x16, x17, x18, x19] ⟨[], [(g, 10, 59)]⟩ K =
  br (AV.listN 10 a)
    (fun _ => br (decide (i < (↑a.listOf.length : Int)))
      (fun _ => br (AV.listN 10 a && (decide ((0 : Int) ≤ i) && decide (i < (↑a.listOf.length : Int))))
        (fun _ => (match a.listOf[i.toNat]? with
          | some u3 => br (u3.isAgg &&
      fitL
        [Sh.int IntKind.i64, Sh.int IntKind.i64, Sh.int IntKind.i64, Sh.int IntKind.i64, Sh.any, Sh.any, Sh.int IntKind.i64,
          Sh.int IntKind.i64, Sh.bool, Sh.any]
        u3.aggOf)
            (fun _ => (match valH (Rep.D m) 58
      [AV.agg
          (shL
            [Sh.int IntKind.i64, Sh.int IntKind.i64, Sh.int IntKind.i64, Sh.int IntKind.i64, Sh.any, Sh.any,
              Sh.int IntKind.i64, Sh.int IntKind.i64, Sh.bool, Sh.any]
            u3.aggOf)]
      { objs := [], toks := [(g, 10, 59)] } with
              | some u5 => br (u5.isAgg &&
      fitL
        [Sh.int IntKind.i64, Sh.int IntKind.i64, Sh.int IntKind.i64, Sh.int IntKind.i64, Sh.any, Sh.any, Sh.int IntKind.i64,
          Sh.int IntKind.i64, Sh.bool, Sh.any]
        u5.aggOf)
                (fun _ => (if fitsRoom (ys.length + 1) 128 = true ∧ 10 = 10 then (if some (g, 10, 59) = some (g, 10, 59) then loopF (Rep.D m) (cD m fuel) fuel Tryd.f46 [1, 1, 0, 1, 0] k [a, x1, AV.nils,
      AV.inl true (Spare.tok 0 (g + 1)) 10
        (ys ++
          detokL
            (detokL
              [AV.agg
                  (shL
                    [Sh.int IntKind.i64, Sh.int IntKind.i64, Sh.int IntKind.i64, Sh.int IntKind.i64, Sh.any, Sh.any,
                      Sh.int IntKind.i64, Sh.int IntKind.i64, Sh.bool, Sh.any]
                    u5.aggOf)])),
      AV.int IntKind.i64 (IntKind.i64.wrap (i + (1 : Int))), AV.int IntKind.i64 i, a,
      AV.int IntKind.i64 (↑a.listOf.length : Int), AV.bool (decide (i < (↑a.listOf.length : Int))), AV.int IntKind.i64 i,
      AV.int IntKind.i64 (IntKind.i64.wrap (i + (1 : Int))), AV.inl true (Spare.tok 0 g) 10 ys, a, AV.int IntKind.i64 i,
      (AV.agg
          (shL
            [Sh.int IntKind.i64, Sh.int IntKind.i64, Sh.int IntKind.i64, Sh.int IntKind.i64, Sh.any, Sh.any,
              Sh.int IntKind.i64, Sh.int IntKind.i64, Sh.bool, Sh.any]
            u3.aggOf)).rop,
      AV.agg
        (shL
          [Sh.int IntKind.i64, Sh.int IntKind.i64, Sh.int IntKind.i64, Sh.int IntKind.i64, Sh.any, Sh.any,
            Sh.int IntKind.i64, Sh.int IntKind.i64, Sh.bool, Sh.any]
          u3.aggOf),
      AV.agg
        (shL
          [Sh.int IntKind.i64, Sh.int IntKind.i64, Sh.int IntKind.i64, Sh.int IntKind.i64, Sh.any, Sh.any,
            Sh.int IntKind.i64, Sh.int IntKind.i64, Sh.bool, Sh.any]
          u5.aggOf),
      AV.inl true Spare.zero 10
        (detokL
          [AV.agg
              (shL
                [Sh.int IntKind.i64, Sh.int IntKind.i64, Sh.int IntKind.i64, Sh.int IntKind.i64, Sh.any, Sh.any,
                  Sh.int IntKind.i64, Sh.int IntKind.i64, Sh.bool, Sh.any]
                u5.aggOf)]),
      AV.inl true (Spare.tok 0 (g + 1)) 10
        (ys ++
          detokL
            (detokL
              [AV.agg
                  (shL
                    [Sh.int IntKind.i64, Sh.int IntKind.i64, Sh.int IntKind.i64, Sh.int IntKind.i64, Sh.any, Sh.any,
                      Sh.int IntKind.i64, Sh.int IntKind.i64, Sh.bool, Sh.any]
                    u5.aggOf)])),
      x19] { objs := [], toks := [(g + 1, 10, 59)] } K
                    else none)
                  else none))
                (fun _ => none)
              | none => none))
            (fun _ => none)
          | none => none))
        (fun _ => none))
      (fun _ => K (AV.inl true (Spare.tok 0 g) 10 ys) { objs := [], toks := [(g, 10, 59)] }))
    (fun _ => none) := by kernel_rfl
-- PROOFS
theorem loop46 (m : Array Value) {R : Type} (fuel : Nat) {a : AV} (ha : tyV (.sl 10 dtAlloc) a) (hb : bnd 100000 a = true) (hE : ∀ u, tyV dtAlloc u → bnd 100000 u = true → ∃ v, (∀ H : AH, callL (Rep.D m) 58 [u] H = some (v, H)) ∧ tyV dtAlloc v ∧ nrm v = nrm u) (K : AV → AH → Option R) : ∀ (r i k g : Nat) (ys : List AV) (x1 x5 x6 x7 x8 x9 x10 x11 x12 x13 x14 x15 x16 x17 x18 x19 : AV), i + r = a.listOf.length → r < k → ys.length = i → (∀ u ∈ ys, tyV dtAlloc u) →
    ∃ g' ys', loopF (Rep.D m) (cD m fuel) fuel Tryd.f46 [1, 1, 0, 1, 0] k [a, x1, .nils, (.inl true (.tok 0 g) 10 ys), .int .i64 (i : Int), x5, x6, x7, x8, x9, x10, x11, x12, x13, x14, x15, x16, x17, x18, x19] ⟨[], [(g, 10, 59)]⟩ K = K (.inl true (.tok 0 g') 10 ys') ⟨[], [(g', 10, 59)]⟩ ∧ ys'.length = a.listOf.length ∧ (∀ u ∈ ys', tyV dtAlloc u) ∧ nrmL ys' = nrmL ys ++ nrmL (a.listOf.drop i)
  | r, i, 0, g, ys, _, _, _, _, _, _, _, _, _, _, _, _, _, _, _, _, h, hk, hl, hy => by omega
  | 0, i, k + 1, g, ys, x1, x5, x6, x7, x8, x9, x10, x11, x12, x13, x14, x15, x16, x17, x18, x19, h, hk, hl, hy => by
    refine ⟨g, ys, ?_, by omega, hy, by rw [List.drop_eq_nil_of_le (by omega)]; simp [nrmL]⟩
    rw [step46, (sl_facts ha).1, lt_false (by omega : ¬ i < a.listOf.length)]
    rfl
  | r + 1, i, k + 1, g, ys, x1, x5, x6, x7, x8, x9, x10, x11, x12, x13, x14, x15, x16, x17, x18, x19, h, hk, hl, hy => by
    obtain ⟨hA, hmax, hT, -, -⟩ := sl_facts ha
    obtain ⟨hblen, hbel⟩ := bnd_list ha hb
    have hi : i < a.listOf.length := by omega
    obtain ⟨u, hu⟩ : ∃ u, a.listOf[i]? = some u := ⟨_, List.getElem?_eq_getElem hi⟩
    have hmem := List.mem_of_getElem? hu
    have tu := hT u hmem
    obtain ⟨v, hv, tv, hvn⟩ := hE u tu (hbel u hmem)
    have hy' : ∀ w ∈ ys ++ [v], tyV dtAlloc w := by
      intro w hw
      rcases List.mem_append.1 hw with hw | hw
      · exact hy w hw
      · simp only [List.mem_singleton] at hw; subst hw; exact tv
    have ih := fun (x1 x5 x6 x7 x8 x9 x10 x11 x12 x13 x14 x15 x16 x17 x18 x19 : AV) => loop46 m fuel ha hb hE K r (i + 1) k (g + 1) (ys ++ [v]) x1 x5 x6 x7 x8 x9 x10 x11 x12 x13 x14 x15 x16 x17 x18 x19 (by omega) (by omega) (by simp [hl]) hy'
    rw [step46, hA, lt_true hi, ge_true, Int.toNat_natCast, hu]
    simp only [br, Bool.and_self, fit_dtAlloc tu, eta_dtAlloc tu]
    rw [valH_of (hv _)]
    simp only [fit_dtAlloc tv, eta_dtAlloc tv, detokL, tyV_detok tv]
    rw [if_pos ⟨show fitsRoom (ys.length + 1) 128 = true from fits_small (by omega) (by decide), by first | trivial | rfl⟩, if_pos (by first | trivial | rfl), wrap_next hi hmax]
    have e : nrmL (ys ++ [v]) ++ nrmL (a.listOf.drop (i + 1)) = nrmL ys ++ nrmL (a.listOf.drop i) := by
      rw [nrm_drop hu, nrmL_app]
      simp [nrmL, hvn]
    rw [← e]
    exact ih _ _ _ _ _ _ _ _ _ _ _ _ _ _ _ _

theorem cp46 (m : Array Value) (hE : ∀ u, tyV dtAlloc u → bnd 100000 u = true → ∃ v, (∀ H : AH, callL (Rep.D m) 58 [u] H = some (v, H)) ∧ tyV dtAlloc v ∧ nrm v = nrm u) {a : AV} (ha : tyV (.sl 10 dtAlloc) a) (hb : bnd 100000 a = true) : ∃ v, (∀ H : AH, callL (Rep.D m) 46 [a] H = some (v, H)) ∧ tyV (.sl 10 dtAlloc) v ∧ nrm v = nrm a := by
  have ha' := tyV_erase ha
  have hb' : bnd 100000 (erase a) = true := bnd_same (tyV_nrm ha) hb
  obtain ⟨hA, hmax, hT, hN, -⟩ := sl_facts ha'
  obtain ⟨hlen, hbel⟩ := bnd_list ha' hb'
  by_cases h0 : (erase a).listOf.length = 0
  · refine ⟨.nils, fun H => ?_, .inl rfl, ?_⟩
    · refine callL_D (tabD0_ok m) (fuel := 1) (n := 2) (fn := Tryd.f46) (ds := [.sl 10 dtAlloc]) (v := .nils) (by kernel_rfl) (by kernel_rfl) (by kernel_rfl) ⟨ha, trivial⟩ ?_ rfl
      show runI (Rep.D m) (cD m 1) 1 Tryd.f46 [erase a] ⟨[], []⟩ (fun v _ => some v) = _
      rw [pre46, stepN46, hA, show decide ((0 : Int) < ((erase a).listOf.length : Int)) = false by rw [h0]; rfl]
      rfl
    · rw [← tyV_nrm ha, hN, List.length_eq_zero_iff.1 h0]
      rfl
  · have hi : 0 < (erase a).listOf.length := by omega
    obtain ⟨u, hu⟩ : ∃ u, (erase a).listOf[0]? = some u := ⟨_, List.getElem?_eq_getElem hi⟩
    have hmem := List.mem_of_getElem? hu
    have tu := hT u hmem
    obtain ⟨v, hv, tv, hvn⟩ := hE u tu (hbel u hmem)
    have key : ∃ g' ys', runI (Rep.D m) (cD m ((erase a).listOf.length + 1)) ((erase a).listOf.length + 1) Tryd.f46 [erase a] ⟨[], []⟩ (fun v _ => some v) = some (.inl true (.tok 0 g') 10 ys') ∧ ys'.length = (erase a).listOf.length ∧ (∀ u ∈ ys', tyV dtAlloc u) ∧ nrmL ys' = nrmL (erase a).listOf := by
      have ih := fun (x1 x5 x6 x7 x8 x9 x10 x11 x12 x13 x14 x15 x16 x17 x18 x19 : AV) => loop46 m ((erase a).listOf.length + 1) ha' hb' hE (fun v _ => some v) ((erase a).listOf.length - 1) 1 (erase a).listOf.length 0 [v] x1 x5 x6 x7 x8 x9 x10 x11 x12 x13 x14 x15 x16 x17 x18 x19 (by omega) (by omega) rfl (by simpa using tv)
      rw [pre46, stepN46, hA, show decide ((0 : Int) < ((erase a).listOf.length : Int)) = true by simpa using hi, show ((0 : Int)).toNat = 0 from rfl, hu]
      simp only [br, Bool.and_self, fit_dtAlloc tu, eta_dtAlloc tu, show decide ((0 : Int) ≤ 0) = true from rfl]
      rw [valH_of (hv _)]
      simp only [fit_dtAlloc tv, eta_dtAlloc tv, detokL, tyV_detok tv]
      rw [show IntKind.i64.wrap (0 + 1) = ((1 : Nat) : Int) from rfl]
      have e : nrmL [v] ++ nrmL ((erase a).listOf.drop 1) = nrmL (erase a).listOf := by
        have := nrm_drop hu
        simp only [List.drop_zero] at this
        rw [this]
        simp [nrmL, hvn]
      rw [← e]
      exact ih _ _ _ _ _ _ _ _ _ _ _ _ _ _ _ _
    obtain ⟨g', ys', h1, h2, h3, h4⟩ := key
    refine ⟨.inl true .unk 10 ys', fun H => ?_, ty_new rfl (by omega) h3, ?_⟩
    · have hd : detok (.inl true (.tok 0 g') 10 ys') = .inl true .unk 10 ys' := by
        simp only [detok, Spare.detok, ty_detokL h3]
      rw [← hd]
      refine callL_D (tabD0_ok m) (fuel := (erase a).listOf.length + 1) (n := 2) (fn := Tryd.f46) (ds := [.sl 10 dtAlloc]) (v := .inl true (.tok 0 g') 10 ys') (by kernel_rfl) (by kernel_rfl) (by kernel_rfl) ⟨ha, trivial⟩ h1 ?_
      rw [hd]
      simp only [below, ty_ebelowL h3]
      rfl
    · rw [← tyV_nrm ha, hN]
      simp only [nrm, h4]
-- DEFS
end Go.Proofs.YtoagnbpmoihojaaDoor

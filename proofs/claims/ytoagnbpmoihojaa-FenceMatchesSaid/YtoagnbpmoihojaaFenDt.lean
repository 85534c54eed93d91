/- The shapes of the fence's data. -/
import Derived.Test.YtoagnbpmoihojaaFenDat
set_option maxRecDepth 100000
set_option linter.unusedSimpArgs false
set_option linter.unusedVariables false
namespace Go.Proofs.Ytoagnbpmoihojaa
open Go.Sx

def dtI : DT := .int .i64
def dtCfg : DT := .agg 11 [.agg 3 [dtI, dtI, dtI], dtI, dtI, dtI, dtI, dtI, dtI, dtI, dtI]
def dtTS : DT := .agg 6 [.agg 5 [.bool, dtI, dtI, dtI, dtI], dtI]
def dtProc : DT := .agg 9 [dtI, dtI, .agg 3 [dtI, dtI, dtI], .bool, .bool, .bool, dtI]
def dtSpec : DT := .agg 6 [dtI, .agg 3 [dtI, dtI, dtI], .sl 1 dtI, .sl 6 dtTS]
def dtTask : DT := .agg 8 [.int .u8, dtI, dtI, dtI, dtI, dtI, dtI, .sl 1 dtI]
def dtAlloc : DT := .agg 10 [dtSpec, dtI, dtI, .bool, .sl 8 dtTask]
def dtState : DT := .agg 5 [dtI, dtI, dtI, dtI, .sl 10 dtAlloc]
def dtRec : DT := .agg 15 [.int .u8, dtI, dtSpec, dtI, dtI, dtI, dtI, dtI, dtI, dtI]
def dtMom : DT := .agg 14 [dtI, .bool, .bool, .bool, dtState, .sl 9 dtProc, .sl 1 dtI, dtI, .sl 15 dtRec, .sl 15 dtRec]

theorem fit_dtTS {u : AV} (h : tyV dtTS u) : (u.isAgg && fitL [Sh.bool, Sh.int IntKind.i64, Sh.int IntKind.i64, Sh.int IntKind.i64, Sh.int IntKind.i64, Sh.int IntKind.i64] u.aggOf) = true := ty_fit h rfl rfl
theorem fit_dtProc {u : AV} (h : tyV dtProc u) : (u.isAgg && fitL [Sh.int IntKind.i64, Sh.int IntKind.i64, Sh.int IntKind.i64, Sh.int IntKind.i64, Sh.int IntKind.i64, Sh.bool, Sh.bool, Sh.bool, Sh.int IntKind.i64] u.aggOf) = true := ty_fit h rfl rfl
theorem fit_dtTask {u : AV} (h : tyV dtTask u) : (u.isAgg && fitL [Sh.int IntKind.u8, Sh.int IntKind.i64, Sh.int IntKind.i64, Sh.int IntKind.i64, Sh.int IntKind.i64, Sh.int IntKind.i64, Sh.int IntKind.i64, Sh.any] u.aggOf) = true := ty_fit h rfl rfl
theorem eta_dtTask {u : AV} (h : tyV dtTask u) : AV.agg (shL [Sh.int IntKind.u8, Sh.int IntKind.i64, Sh.int IntKind.i64, Sh.int IntKind.i64, Sh.int IntKind.i64, Sh.int IntKind.i64, Sh.int IntKind.i64, Sh.any] u.aggOf) = u := ty_eta h rfl rfl
theorem fit_dtAlloc {u : AV} (h : tyV dtAlloc u) : (u.isAgg && fitL [Sh.int IntKind.i64, Sh.int IntKind.i64, Sh.int IntKind.i64, Sh.int IntKind.i64, Sh.any, Sh.any, Sh.int IntKind.i64, Sh.int IntKind.i64, Sh.bool, Sh.any] u.aggOf) = true := ty_fit h rfl rfl
theorem eta_dtAlloc {u : AV} (h : tyV dtAlloc u) : AV.agg (shL [Sh.int IntKind.i64, Sh.int IntKind.i64, Sh.int IntKind.i64, Sh.int IntKind.i64, Sh.any, Sh.any, Sh.int IntKind.i64, Sh.int IntKind.i64, Sh.bool, Sh.any] u.aggOf) = u := ty_eta h rfl rfl
theorem fit_dtRec {u : AV} (h : tyV dtRec u) : (u.isAgg && fitL [Sh.int IntKind.u8, Sh.int IntKind.i64, Sh.int IntKind.i64, Sh.int IntKind.i64, Sh.int IntKind.i64, Sh.int IntKind.i64, Sh.any, Sh.any, Sh.int IntKind.i64, Sh.int IntKind.i64, Sh.int IntKind.i64, Sh.int IntKind.i64, Sh.int IntKind.i64, Sh.int IntKind.i64, Sh.int IntKind.i64] u.aggOf) = true := ty_fit h rfl rfl
theorem eta_dtRec {u : AV} (h : tyV dtRec u) : AV.agg (shL [Sh.int IntKind.u8, Sh.int IntKind.i64, Sh.int IntKind.i64, Sh.int IntKind.i64, Sh.int IntKind.i64, Sh.int IntKind.i64, Sh.any, Sh.any, Sh.int IntKind.i64, Sh.int IntKind.i64, Sh.int IntKind.i64, Sh.int IntKind.i64, Sh.int IntKind.i64, Sh.int IntKind.i64, Sh.int IntKind.i64] u.aggOf) = u := ty_eta h rfl rfl
theorem fit_dtMom {u : AV} (h : tyV dtMom u) : (u.isAgg && fitL [Sh.int IntKind.i64, Sh.bool, Sh.bool, Sh.bool, Sh.int IntKind.i64, Sh.int IntKind.i64, Sh.int IntKind.i64, Sh.int IntKind.i64, Sh.any, Sh.any, Sh.any, Sh.int IntKind.i64, Sh.any, Sh.any] u.aggOf) = true := ty_fit h rfl rfl
theorem eta_dtMom {u : AV} (h : tyV dtMom u) : AV.agg (shL [Sh.int IntKind.i64, Sh.bool, Sh.bool, Sh.bool, Sh.int IntKind.i64, Sh.int IntKind.i64, Sh.int IntKind.i64, Sh.int IntKind.i64, Sh.any, Sh.any, Sh.any, Sh.int IntKind.i64, Sh.any, Sh.any] u.aggOf) = u := ty_eta h rfl rfl
theorem fit_dtI {u : AV} (h : tyV dtI u) : fitS (Sh.int IntKind.i64) u = true := ty_fit1 h rfl rfl

theorem un_dtCfg {u : AV} (h : tyV dtCfg u) : ∃ (c0 : Int) (c1 : Int) (c2 : Int) (c3 : Int) (c4 : Int) (c5 : Int) (c6 : Int) (c7 : Int) (c8 : Int) (c9 : Int) (c10 : Int), u = .agg [.int .i64 c0, .int .i64 c1, .int .i64 c2, .int .i64 c3, .int .i64 c4, .int .i64 c5, .int .i64 c6, .int .i64 c7, .int .i64 c8, .int .i64 c9, .int .i64 c10] ∧ (Lit.int .i64 c0).wf = true ∧ (Lit.int .i64 c1).wf = true ∧ (Lit.int .i64 c2).wf = true ∧ (Lit.int .i64 c3).wf = true ∧ (Lit.int .i64 c4).wf = true ∧ (Lit.int .i64 c5).wf = true ∧ (Lit.int .i64 c6).wf = true ∧ (Lit.int .i64 c7).wf = true ∧ (Lit.int .i64 c8).wf = true ∧ (Lit.int .i64 c9).wf = true ∧ (Lit.int .i64 c10).wf = true := by
  obtain ⟨us, rfl, h⟩ := h
  obtain ⟨_, _, rfl, -, ⟨_, _, rfl, -, ⟨c0, rfl, w0⟩, ⟨_, _, rfl, -, ⟨c1, rfl, w1⟩, ⟨_, _, rfl, -, ⟨c2, rfl, w2⟩, z0⟩⟩⟩, ⟨_, _, rfl, -, ⟨c3, rfl, w3⟩, ⟨_, _, rfl, -, ⟨c4, rfl, w4⟩, ⟨_, _, rfl, -, ⟨c5, rfl, w5⟩, ⟨_, _, rfl, -, ⟨c6, rfl, w6⟩, ⟨_, _, rfl, -, ⟨c7, rfl, w7⟩, ⟨_, _, rfl, -, ⟨c8, rfl, w8⟩, ⟨_, _, rfl, -, ⟨c9, rfl, w9⟩, ⟨_, _, rfl, -, ⟨c10, rfl, w10⟩, z1⟩⟩⟩⟩⟩⟩⟩⟩⟩ := h
  obtain rfl : _ = [] := z0
  obtain rfl : _ = [] := z1
  exact ⟨c0, c1, c2, c3, c4, c5, c6, c7, c8, c9, c10, rfl, w0, w1, w2, w3, w4, w5, w6, w7, w8, w9, w10⟩
theorem un_dtProc {u : AV} (h : tyV dtProc u) : ∃ (c0 : Int) (c1 : Int) (c2 : Int) (c3 : Int) (c4 : Int) (c5 : Bool) (c6 : Bool) (c7 : Bool) (c8 : Int), u = .agg [.int .i64 c0, .int .i64 c1, .int .i64 c2, .int .i64 c3, .int .i64 c4, .bool c5, .bool c6, .bool c7, .int .i64 c8] ∧ (Lit.int .i64 c0).wf = true ∧ (Lit.int .i64 c1).wf = true ∧ (Lit.int .i64 c2).wf = true ∧ (Lit.int .i64 c3).wf = true ∧ (Lit.int .i64 c4).wf = true ∧ (Lit.int .i64 c8).wf = true := by
  obtain ⟨us, rfl, h⟩ := h
  obtain ⟨_, _, rfl, -, ⟨c0, rfl, w0⟩, ⟨_, _, rfl, -, ⟨c1, rfl, w1⟩, ⟨_, _, rfl, -, ⟨_, _, rfl, -, ⟨c2, rfl, w2⟩, ⟨_, _, rfl, -, ⟨c3, rfl, w3⟩, ⟨_, _, rfl, -, ⟨c4, rfl, w4⟩, z0⟩⟩⟩, ⟨_, _, rfl, -, ⟨c5, rfl⟩, ⟨_, _, rfl, -, ⟨c6, rfl⟩, ⟨_, _, rfl, -, ⟨c7, rfl⟩, ⟨_, _, rfl, -, ⟨c8, rfl, w8⟩, z1⟩⟩⟩⟩⟩⟩⟩ := h
  obtain rfl : _ = [] := z0
  obtain rfl : _ = [] := z1
  exact ⟨c0, c1, c2, c3, c4, c5, c6, c7, c8, rfl, w0, w1, w2, w3, w4, w8⟩
theorem pw_dtProc_2 {u : AV} (h : tyV dtProc u) : (Lit.int .i64 (hdV (tlV (tlV u.aggOf))).numOf).wf = true := by
  obtain ⟨c0, c1, c2, c3, c4, c5, c6, c7, c8, rfl, w0, w1, w2, w3, w4, w8⟩ := un_dtProc h
  exact w2
theorem pw_dtProc_3 {u : AV} (h : tyV dtProc u) : (Lit.int .i64 (hdV (tlV (tlV (tlV u.aggOf)))).numOf).wf = true := by
  obtain ⟨c0, c1, c2, c3, c4, c5, c6, c7, c8, rfl, w0, w1, w2, w3, w4, w8⟩ := un_dtProc h
  exact w3
theorem pw_dtProc_4 {u : AV} (h : tyV dtProc u) : (Lit.int .i64 (hdV (tlV (tlV (tlV (tlV u.aggOf))))).numOf).wf = true := by
  obtain ⟨c0, c1, c2, c3, c4, c5, c6, c7, c8, rfl, w0, w1, w2, w3, w4, w8⟩ := un_dtProc h
  exact w4
theorem un_dtSpec {u : AV} (h : tyV dtSpec u) : ∃ (c0 : Int) (c1 : Int) (c2 : Int) (c3 : Int) (c4 : AV) (c5 : AV), u = .agg [.int .i64 c0, .int .i64 c1, .int .i64 c2, .int .i64 c3, c4, c5] ∧ (Lit.int .i64 c0).wf = true ∧ (Lit.int .i64 c1).wf = true ∧ (Lit.int .i64 c2).wf = true ∧ (Lit.int .i64 c3).wf = true ∧ tyV (.sl 1 dtI) c4 ∧ tyV (.sl 6 dtTS) c5 := by
  obtain ⟨us, rfl, h⟩ := h
  obtain ⟨_, _, rfl, -, ⟨c0, rfl, w0⟩, ⟨_, _, rfl, -, ⟨_, _, rfl, -, ⟨c1, rfl, w1⟩, ⟨_, _, rfl, -, ⟨c2, rfl, w2⟩, ⟨_, _, rfl, -, ⟨c3, rfl, w3⟩, z0⟩⟩⟩, ⟨_, _, rfl, -, s4, ⟨_, _, rfl, -, s5, z1⟩⟩⟩⟩ := h
  obtain rfl : _ = [] := z0
  obtain ⟨c4, rfl, w4⟩ := sl_un s4
  obtain ⟨c5, rfl, w5⟩ := sl_un s5
  obtain rfl : _ = [] := z1
  exact ⟨c0, c1, c2, c3, c4, c5, rfl, w0, w1, w2, w3, w4, w5⟩
theorem mk_dtSpec {c0 : Int} {c1 : Int} {c2 : Int} {c3 : Int} {c4 : AV} {c5 : AV} (w0 : (Lit.int .i64 c0).wf = true) (w1 : (Lit.int .i64 c1).wf = true) (w2 : (Lit.int .i64 c2).wf = true) (w3 : (Lit.int .i64 c3).wf = true) (w4 : tyV (.sl 1 dtI) c4) (w5 : tyV (.sl 6 dtTS) c5) : tyV dtSpec (.agg [.int .i64 c0, .int .i64 c1, .int .i64 c2, .int .i64 c3, c4, c5]) := by
  exact ⟨_, rfl, ⟨[.int .i64 c0], [.int .i64 c1, .int .i64 c2, .int .i64 c3, c4, c5], rfl, rfl, ⟨c0, rfl, w0⟩, ⟨[.int .i64 c1, .int .i64 c2, .int .i64 c3], [c4, c5], rfl, rfl, ⟨[.int .i64 c1], [.int .i64 c2, .int .i64 c3], rfl, rfl, ⟨c1, rfl, w1⟩, ⟨[.int .i64 c2], [.int .i64 c3], rfl, rfl, ⟨c2, rfl, w2⟩, ⟨[.int .i64 c3], [], rfl, rfl, ⟨c3, rfl, w3⟩, rfl⟩⟩⟩, ⟨[c4], [c5], rfl, rfl, w4, ⟨[c5], [], rfl, rfl, w5, rfl⟩⟩⟩⟩⟩
theorem un_dtTask {u : AV} (h : tyV dtTask u) : ∃ (c0 : Int) (c1 : Int) (c2 : Int) (c3 : Int) (c4 : Int) (c5 : Int) (c6 : Int) (c7 : AV), u = .agg [.int .u8 c0, .int .i64 c1, .int .i64 c2, .int .i64 c3, .int .i64 c4, .int .i64 c5, .int .i64 c6, c7] ∧ (Lit.int .u8 c0).wf = true ∧ (Lit.int .i64 c1).wf = true ∧ (Lit.int .i64 c2).wf = true ∧ (Lit.int .i64 c3).wf = true ∧ (Lit.int .i64 c4).wf = true ∧ (Lit.int .i64 c5).wf = true ∧ (Lit.int .i64 c6).wf = true ∧ tyV (.sl 1 dtI) c7 := by
  obtain ⟨us, rfl, h⟩ := h
  obtain ⟨_, _, rfl, -, ⟨c0, rfl, w0⟩, ⟨_, _, rfl, -, ⟨c1, rfl, w1⟩, ⟨_, _, rfl, -, ⟨c2, rfl, w2⟩, ⟨_, _, rfl, -, ⟨c3, rfl, w3⟩, ⟨_, _, rfl, -, ⟨c4, rfl, w4⟩, ⟨_, _, rfl, -, ⟨c5, rfl, w5⟩, ⟨_, _, rfl, -, ⟨c6, rfl, w6⟩, ⟨_, _, rfl, -, s7, z0⟩⟩⟩⟩⟩⟩⟩⟩ := h
  obtain ⟨c7, rfl, w7⟩ := sl_un s7
  obtain rfl : _ = [] := z0
  exact ⟨c0, c1, c2, c3, c4, c5, c6, c7, rfl, w0, w1, w2, w3, w4, w5, w6, w7⟩
theorem mk_dtTask {c0 : Int} {c1 : Int} {c2 : Int} {c3 : Int} {c4 : Int} {c5 : Int} {c6 : Int} {c7 : AV} (w0 : (Lit.int .u8 c0).wf = true) (w1 : (Lit.int .i64 c1).wf = true) (w2 : (Lit.int .i64 c2).wf = true) (w3 : (Lit.int .i64 c3).wf = true) (w4 : (Lit.int .i64 c4).wf = true) (w5 : (Lit.int .i64 c5).wf = true) (w6 : (Lit.int .i64 c6).wf = true) (w7 : tyV (.sl 1 dtI) c7) : tyV dtTask (.agg [.int .u8 c0, .int .i64 c1, .int .i64 c2, .int .i64 c3, .int .i64 c4, .int .i64 c5, .int .i64 c6, c7]) := by
  exact ⟨_, rfl, ⟨[.int .u8 c0], [.int .i64 c1, .int .i64 c2, .int .i64 c3, .int .i64 c4, .int .i64 c5, .int .i64 c6, c7], rfl, rfl, ⟨c0, rfl, w0⟩, ⟨[.int .i64 c1], [.int .i64 c2, .int .i64 c3, .int .i64 c4, .int .i64 c5, .int .i64 c6, c7], rfl, rfl, ⟨c1, rfl, w1⟩, ⟨[.int .i64 c2], [.int .i64 c3, .int .i64 c4, .int .i64 c5, .int .i64 c6, c7], rfl, rfl, ⟨c2, rfl, w2⟩, ⟨[.int .i64 c3], [.int .i64 c4, .int .i64 c5, .int .i64 c6, c7], rfl, rfl, ⟨c3, rfl, w3⟩, ⟨[.int .i64 c4], [.int .i64 c5, .int .i64 c6, c7], rfl, rfl, ⟨c4, rfl, w4⟩, ⟨[.int .i64 c5], [.int .i64 c6, c7], rfl, rfl, ⟨c5, rfl, w5⟩, ⟨[.int .i64 c6], [c7], rfl, rfl, ⟨c6, rfl, w6⟩, ⟨[c7], [], rfl, rfl, w7, rfl⟩⟩⟩⟩⟩⟩⟩⟩⟩
theorem pj_dtTask_7 {u : AV} (h : tyV dtTask u) : tyV (.sl 1 dtI) (shS Sh.any (hdV (tlV (tlV (tlV (tlV (tlV (tlV (tlV u.aggOf))))))))) := by
  obtain ⟨c0, c1, c2, c3, c4, c5, c6, c7, rfl, w0, w1, w2, w3, w4, w5, w6, w7⟩ := un_dtTask h
  exact w7
theorem bj_dtTask {B : Nat} {u : AV} (h : tyV dtTask u) (h7 : bnd B (shS Sh.any (hdV (tlV (tlV (tlV (tlV (tlV (tlV (tlV u.aggOf))))))))) = true) : bnd B u = true := by
  obtain ⟨c0, c1, c2, c3, c4, c5, c6, c7, rfl, w0, w1, w2, w3, w4, w5, w6, w7⟩ := un_dtTask h
  replace h7 : bnd B c7 = true := h7
  simp only [bnd, bndL, h7]
  rfl
theorem un_dtAlloc {u : AV} (h : tyV dtAlloc u) : ∃ (c0 : Int) (c1 : Int) (c2 : Int) (c3 : Int) (c4 : AV) (c5 : AV) (c6 : Int) (c7 : Int) (c8 : Bool) (c9 : AV), u = .agg [.int .i64 c0, .int .i64 c1, .int .i64 c2, .int .i64 c3, c4, c5, .int .i64 c6, .int .i64 c7, .bool c8, c9] ∧ (Lit.int .i64 c0).wf = true ∧ (Lit.int .i64 c1).wf = true ∧ (Lit.int .i64 c2).wf = true ∧ (Lit.int .i64 c3).wf = true ∧ tyV (.sl 1 dtI) c4 ∧ tyV (.sl 6 dtTS) c5 ∧ (Lit.int .i64 c6).wf = true ∧ (Lit.int .i64 c7).wf = true ∧ tyV (.sl 8 dtTask) c9 := by
  obtain ⟨us, rfl, h⟩ := h
  obtain ⟨_, _, rfl, -, ⟨_, _, rfl, -, ⟨c0, rfl, w0⟩, ⟨_, _, rfl, -, ⟨_, _, rfl, -, ⟨c1, rfl, w1⟩, ⟨_, _, rfl, -, ⟨c2, rfl, w2⟩, ⟨_, _, rfl, -, ⟨c3, rfl, w3⟩, z0⟩⟩⟩, ⟨_, _, rfl, -, s4, ⟨_, _, rfl, -, s5, z1⟩⟩⟩⟩, ⟨_, _, rfl, -, ⟨c6, rfl, w6⟩, ⟨_, _, rfl, -, ⟨c7, rfl, w7⟩, ⟨_, _, rfl, -, ⟨c8, rfl⟩, ⟨_, _, rfl, -, s9, z2⟩⟩⟩⟩⟩ := h
  obtain rfl : _ = [] := z0
  obtain ⟨c4, rfl, w4⟩ := sl_un s4
  obtain ⟨c5, rfl, w5⟩ := sl_un s5
  obtain rfl : _ = [] := z1
  obtain ⟨c9, rfl, w9⟩ := sl_un s9
  obtain rfl : _ = [] := z2
  exact ⟨c0, c1, c2, c3, c4, c5, c6, c7, c8, c9, rfl, w0, w1, w2, w3, w4, w5, w6, w7, w9⟩
theorem mk_dtAlloc {c0 : Int} {c1 : Int} {c2 : Int} {c3 : Int} {c4 : AV} {c5 : AV} {c6 : Int} {c7 : Int} {c8 : Bool} {c9 : AV} (w0 : (Lit.int .i64 c0).wf = true) (w1 : (Lit.int .i64 c1).wf = true) (w2 : (Lit.int .i64 c2).wf = true) (w3 : (Lit.int .i64 c3).wf = true) (w4 : tyV (.sl 1 dtI) c4) (w5 : tyV (.sl 6 dtTS) c5) (w6 : (Lit.int .i64 c6).wf = true) (w7 : (Lit.int .i64 c7).wf = true) (w9 : tyV (.sl 8 dtTask) c9) : tyV dtAlloc (.agg [.int .i64 c0, .int .i64 c1, .int .i64 c2, .int .i64 c3, c4, c5, .int .i64 c6, .int .i64 c7, .bool c8, c9]) := by
  exact ⟨_, rfl, ⟨[.int .i64 c0, .int .i64 c1, .int .i64 c2, .int .i64 c3, c4, c5], [.int .i64 c6, .int .i64 c7, .bool c8, c9], rfl, rfl, ⟨[.int .i64 c0], [.int .i64 c1, .int .i64 c2, .int .i64 c3, c4, c5], rfl, rfl, ⟨c0, rfl, w0⟩, ⟨[.int .i64 c1, .int .i64 c2, .int .i64 c3], [c4, c5], rfl, rfl, ⟨[.int .i64 c1], [.int .i64 c2, .int .i64 c3], rfl, rfl, ⟨c1, rfl, w1⟩, ⟨[.int .i64 c2], [.int .i64 c3], rfl, rfl, ⟨c2, rfl, w2⟩, ⟨[.int .i64 c3], [], rfl, rfl, ⟨c3, rfl, w3⟩, rfl⟩⟩⟩, ⟨[c4], [c5], rfl, rfl, w4, ⟨[c5], [], rfl, rfl, w5, rfl⟩⟩⟩⟩, ⟨[.int .i64 c6], [.int .i64 c7, .bool c8, c9], rfl, rfl, ⟨c6, rfl, w6⟩, ⟨[.int .i64 c7], [.bool c8, c9], rfl, rfl, ⟨c7, rfl, w7⟩, ⟨[.bool c8], [c9], rfl, rfl, ⟨c8, rfl⟩, ⟨[c9], [], rfl, rfl, w9, rfl⟩⟩⟩⟩⟩⟩
theorem pj_dtAlloc_4 {u : AV} (h : tyV dtAlloc u) : tyV (.sl 1 dtI) (shS Sh.any (hdV (tlV (tlV (tlV (tlV u.aggOf)))))) := by
  obtain ⟨c0, c1, c2, c3, c4, c5, c6, c7, c8, c9, rfl, w0, w1, w2, w3, w4, w5, w6, w7, w9⟩ := un_dtAlloc h
  exact w4
theorem pj_dtAlloc_5 {u : AV} (h : tyV dtAlloc u) : tyV (.sl 6 dtTS) (shS Sh.any (hdV (tlV (tlV (tlV (tlV (tlV u.aggOf))))))) := by
  obtain ⟨c0, c1, c2, c3, c4, c5, c6, c7, c8, c9, rfl, w0, w1, w2, w3, w4, w5, w6, w7, w9⟩ := un_dtAlloc h
  exact w5
theorem pj_dtAlloc_9 {u : AV} (h : tyV dtAlloc u) : tyV (.sl 8 dtTask) (shS Sh.any (hdV (tlV (tlV (tlV (tlV (tlV (tlV (tlV (tlV (tlV u.aggOf))))))))))) := by
  obtain ⟨c0, c1, c2, c3, c4, c5, c6, c7, c8, c9, rfl, w0, w1, w2, w3, w4, w5, w6, w7, w9⟩ := un_dtAlloc h
  exact w9
theorem bj_dtAlloc {B : Nat} {u : AV} (h : tyV dtAlloc u) (h4 : bnd B (shS Sh.any (hdV (tlV (tlV (tlV (tlV u.aggOf)))))) = true) (h5 : bnd B (shS Sh.any (hdV (tlV (tlV (tlV (tlV (tlV u.aggOf))))))) = true) (h9 : bnd B (shS Sh.any (hdV (tlV (tlV (tlV (tlV (tlV (tlV (tlV (tlV (tlV u.aggOf))))))))))) = true) : bnd B u = true := by
  obtain ⟨c0, c1, c2, c3, c4, c5, c6, c7, c8, c9, rfl, w0, w1, w2, w3, w4, w5, w6, w7, w9⟩ := un_dtAlloc h
  replace h4 : bnd B c4 = true := h4
  replace h5 : bnd B c5 = true := h5
  replace h9 : bnd B c9 = true := h9
  simp only [bnd, bndL, h4, h5, h9]
  rfl
theorem un_dtState {u : AV} (h : tyV dtState u) : ∃ (c0 : Int) (c1 : Int) (c2 : Int) (c3 : Int) (c4 : AV), u = .agg [.int .i64 c0, .int .i64 c1, .int .i64 c2, .int .i64 c3, c4] ∧ (Lit.int .i64 c0).wf = true ∧ (Lit.int .i64 c1).wf = true ∧ (Lit.int .i64 c2).wf = true ∧ (Lit.int .i64 c3).wf = true ∧ tyV (.sl 10 dtAlloc) c4 := by
  obtain ⟨us, rfl, h⟩ := h
  obtain ⟨_, _, rfl, -, ⟨c0, rfl, w0⟩, ⟨_, _, rfl, -, ⟨c1, rfl, w1⟩, ⟨_, _, rfl, -, ⟨c2, rfl, w2⟩, ⟨_, _, rfl, -, ⟨c3, rfl, w3⟩, ⟨_, _, rfl, -, s4, z0⟩⟩⟩⟩⟩ := h
  obtain ⟨c4, rfl, w4⟩ := sl_un s4
  obtain rfl : _ = [] := z0
  exact ⟨c0, c1, c2, c3, c4, rfl, w0, w1, w2, w3, w4⟩
theorem mk_dtState {c0 : Int} {c1 : Int} {c2 : Int} {c3 : Int} {c4 : AV} (w0 : (Lit.int .i64 c0).wf = true) (w1 : (Lit.int .i64 c1).wf = true) (w2 : (Lit.int .i64 c2).wf = true) (w3 : (Lit.int .i64 c3).wf = true) (w4 : tyV (.sl 10 dtAlloc) c4) : tyV dtState (.agg [.int .i64 c0, .int .i64 c1, .int .i64 c2, .int .i64 c3, c4]) := by
  exact ⟨_, rfl, ⟨[.int .i64 c0], [.int .i64 c1, .int .i64 c2, .int .i64 c3, c4], rfl, rfl, ⟨c0, rfl, w0⟩, ⟨[.int .i64 c1], [.int .i64 c2, .int .i64 c3, c4], rfl, rfl, ⟨c1, rfl, w1⟩, ⟨[.int .i64 c2], [.int .i64 c3, c4], rfl, rfl, ⟨c2, rfl, w2⟩, ⟨[.int .i64 c3], [c4], rfl, rfl, ⟨c3, rfl, w3⟩, ⟨[c4], [], rfl, rfl, w4, rfl⟩⟩⟩⟩⟩⟩
theorem un_dtRec {u : AV} (h : tyV dtRec u) : ∃ (c0 : Int) (c1 : Int) (c2 : Int) (c3 : Int) (c4 : Int) (c5 : Int) (c6 : AV) (c7 : AV) (c8 : Int) (c9 : Int) (c10 : Int) (c11 : Int) (c12 : Int) (c13 : Int) (c14 : Int), u = .agg [.int .u8 c0, .int .i64 c1, .int .i64 c2, .int .i64 c3, .int .i64 c4, .int .i64 c5, c6, c7, .int .i64 c8, .int .i64 c9, .int .i64 c10, .int .i64 c11, .int .i64 c12, .int .i64 c13, .int .i64 c14] ∧ (Lit.int .u8 c0).wf = true ∧ (Lit.int .i64 c1).wf = true ∧ (Lit.int .i64 c2).wf = true ∧ (Lit.int .i64 c3).wf = true ∧ (Lit.int .i64 c4).wf = true ∧ (Lit.int .i64 c5).wf = true ∧ tyV (.sl 1 dtI) c6 ∧ tyV (.sl 6 dtTS) c7 ∧ (Lit.int .i64 c8).wf = true ∧ (Lit.int .i64 c9).wf = true ∧ (Lit.int .i64 c10).wf = true ∧ (Lit.int .i64 c11).wf = true ∧ (Lit.int .i64 c12).wf = true ∧ (Lit.int .i64 c13).wf = true ∧ (Lit.int .i64 c14).wf = true := by
  obtain ⟨us, rfl, h⟩ := h
  obtain ⟨_, _, rfl, -, ⟨c0, rfl, w0⟩, ⟨_, _, rfl, -, ⟨c1, rfl, w1⟩, ⟨_, _, rfl, -, ⟨_, _, rfl, -, ⟨c2, rfl, w2⟩, ⟨_, _, rfl, -, ⟨_, _, rfl, -, ⟨c3, rfl, w3⟩, ⟨_, _, rfl, -, ⟨c4, rfl, w4⟩, ⟨_, _, rfl, -, ⟨c5, rfl, w5⟩, z0⟩⟩⟩, ⟨_, _, rfl, -, s6, ⟨_, _, rfl, -, s7, z1⟩⟩⟩⟩, ⟨_, _, rfl, -, ⟨c8, rfl, w8⟩, ⟨_, _, rfl, -, ⟨c9, rfl, w9⟩, ⟨_, _, rfl, -, ⟨c10, rfl, w10⟩, ⟨_, _, rfl, -, ⟨c11, rfl, w11⟩, ⟨_, _, rfl, -, ⟨c12, rfl, w12⟩, ⟨_, _, rfl, -, ⟨c13, rfl, w13⟩, ⟨_, _, rfl, -, ⟨c14, rfl, w14⟩, z2⟩⟩⟩⟩⟩⟩⟩⟩⟩⟩ := h
  obtain rfl : _ = [] := z0
  obtain ⟨c6, rfl, w6⟩ := sl_un s6
  obtain ⟨c7, rfl, w7⟩ := sl_un s7
  obtain rfl : _ = [] := z1
  obtain rfl : _ = [] := z2
  exact ⟨c0, c1, c2, c3, c4, c5, c6, c7, c8, c9, c10, c11, c12, c13, c14, rfl, w0, w1, w2, w3, w4, w5, w6, w7, w8, w9, w10, w11, w12, w13, w14⟩
theorem mk_dtRec {c0 : Int} {c1 : Int} {c2 : Int} {c3 : Int} {c4 : Int} {c5 : Int} {c6 : AV} {c7 : AV} {c8 : Int} {c9 : Int} {c10 : Int} {c11 : Int} {c12 : Int} {c13 : Int} {c14 : Int} (w0 : (Lit.int .u8 c0).wf = true) (w1 : (Lit.int .i64 c1).wf = true) (w2 : (Lit.int .i64 c2).wf = true) (w3 : (Lit.int .i64 c3).wf = true) (w4 : (Lit.int .i64 c4).wf = true) (w5 : (Lit.int .i64 c5).wf = true) (w6 : tyV (.sl 1 dtI) c6) (w7 : tyV (.sl 6 dtTS) c7) (w8 : (Lit.int .i64 c8).wf = true) (w9 : (Lit.int .i64 c9).wf = true) (w10 : (Lit.int .i64 c10).wf = true) (w11 : (Lit.int .i64 c11).wf = true) (w12 : (Lit.int .i64 c12).wf = true) (w13 : (Lit.int .i64 c13).wf = true) (w14 : (Lit.int .i64 c14).wf = true) : tyV dtRec (.agg [.int .u8 c0, .int .i64 c1, .int .i64 c2, .int .i64 c3, .int .i64 c4, .int .i64 c5, c6, c7, .int .i64 c8, .int .i64 c9, .int .i64 c10, .int .i64 c11, .int .i64 c12, .int .i64 c13, .int .i64 c14]) := by
  exact ⟨_, rfl, ⟨[.int .u8 c0], [.int .i64 c1, .int .i64 c2, .int .i64 c3, .int .i64 c4, .int .i64 c5, c6, c7, .int .i64 c8, .int .i64 c9, .int .i64 c10, .int .i64 c11, .int .i64 c12, .int .i64 c13, .int .i64 c14], rfl, rfl, ⟨c0, rfl, w0⟩, ⟨[.int .i64 c1], [.int .i64 c2, .int .i64 c3, .int .i64 c4, .int .i64 c5, c6, c7, .int .i64 c8, .int .i64 c9, .int .i64 c10, .int .i64 c11, .int .i64 c12, .int .i64 c13, .int .i64 c14], rfl, rfl, ⟨c1, rfl, w1⟩, ⟨[.int .i64 c2, .int .i64 c3, .int .i64 c4, .int .i64 c5, c6, c7], [.int .i64 c8, .int .i64 c9, .int .i64 c10, .int .i64 c11, .int .i64 c12, .int .i64 c13, .int .i64 c14], rfl, rfl, ⟨[.int .i64 c2], [.int .i64 c3, .int .i64 c4, .int .i64 c5, c6, c7], rfl, rfl, ⟨c2, rfl, w2⟩, ⟨[.int .i64 c3, .int .i64 c4, .int .i64 c5], [c6, c7], rfl, rfl, ⟨[.int .i64 c3], [.int .i64 c4, .int .i64 c5], rfl, rfl, ⟨c3, rfl, w3⟩, ⟨[.int .i64 c4], [.int .i64 c5], rfl, rfl, ⟨c4, rfl, w4⟩, ⟨[.int .i64 c5], [], rfl, rfl, ⟨c5, rfl, w5⟩, rfl⟩⟩⟩, ⟨[c6], [c7], rfl, rfl, w6, ⟨[c7], [], rfl, rfl, w7, rfl⟩⟩⟩⟩, ⟨[.int .i64 c8], [.int .i64 c9, .int .i64 c10, .int .i64 c11, .int .i64 c12, .int .i64 c13, .int .i64 c14], rfl, rfl, ⟨c8, rfl, w8⟩, ⟨[.int .i64 c9], [.int .i64 c10, .int .i64 c11, .int .i64 c12, .int .i64 c13, .int .i64 c14], rfl, rfl, ⟨c9, rfl, w9⟩, ⟨[.int .i64 c10], [.int .i64 c11, .int .i64 c12, .int .i64 c13, .int .i64 c14], rfl, rfl, ⟨c10, rfl, w10⟩, ⟨[.int .i64 c11], [.int .i64 c12, .int .i64 c13, .int .i64 c14], rfl, rfl, ⟨c11, rfl, w11⟩, ⟨[.int .i64 c12], [.int .i64 c13, .int .i64 c14], rfl, rfl, ⟨c12, rfl, w12⟩, ⟨[.int .i64 c13], [.int .i64 c14], rfl, rfl, ⟨c13, rfl, w13⟩, ⟨[.int .i64 c14], [], rfl, rfl, ⟨c14, rfl, w14⟩, rfl⟩⟩⟩⟩⟩⟩⟩⟩⟩⟩⟩
theorem un_dtMom {u : AV} (h : tyV dtMom u) : ∃ (c0 : Int) (c1 : Bool) (c2 : Bool) (c3 : Bool) (c4 : Int) (c5 : Int) (c6 : Int) (c7 : Int) (c8 : AV) (c9 : AV) (c10 : AV) (c11 : Int) (c12 : AV) (c13 : AV), u = .agg [.int .i64 c0, .bool c1, .bool c2, .bool c3, .int .i64 c4, .int .i64 c5, .int .i64 c6, .int .i64 c7, c8, c9, c10, .int .i64 c11, c12, c13] ∧ (Lit.int .i64 c0).wf = true ∧ (Lit.int .i64 c4).wf = true ∧ (Lit.int .i64 c5).wf = true ∧ (Lit.int .i64 c6).wf = true ∧ (Lit.int .i64 c7).wf = true ∧ tyV (.sl 10 dtAlloc) c8 ∧ tyV (.sl 9 dtProc) c9 ∧ tyV (.sl 1 dtI) c10 ∧ (Lit.int .i64 c11).wf = true ∧ tyV (.sl 15 dtRec) c12 ∧ tyV (.sl 15 dtRec) c13 := by
  obtain ⟨us, rfl, h⟩ := h
  obtain ⟨_, _, rfl, -, ⟨c0, rfl, w0⟩, ⟨_, _, rfl, -, ⟨c1, rfl⟩, ⟨_, _, rfl, -, ⟨c2, rfl⟩, ⟨_, _, rfl, -, ⟨c3, rfl⟩, ⟨_, _, rfl, -, ⟨_, _, rfl, -, ⟨c4, rfl, w4⟩, ⟨_, _, rfl, -, ⟨c5, rfl, w5⟩, ⟨_, _, rfl, -, ⟨c6, rfl, w6⟩, ⟨_, _, rfl, -, ⟨c7, rfl, w7⟩, ⟨_, _, rfl, -, s8, z0⟩⟩⟩⟩⟩, ⟨_, _, rfl, -, s9, ⟨_, _, rfl, -, s10, ⟨_, _, rfl, -, ⟨c11, rfl, w11⟩, ⟨_, _, rfl, -, s12, ⟨_, _, rfl, -, s13, z1⟩⟩⟩⟩⟩⟩⟩⟩⟩⟩ := h
  obtain ⟨c8, rfl, w8⟩ := sl_un s8
  obtain rfl : _ = [] := z0
  obtain ⟨c9, rfl, w9⟩ := sl_un s9
  obtain ⟨c10, rfl, w10⟩ := sl_un s10
  obtain ⟨c12, rfl, w12⟩ := sl_un s12
  obtain ⟨c13, rfl, w13⟩ := sl_un s13
  obtain rfl : _ = [] := z1
  exact ⟨c0, c1, c2, c3, c4, c5, c6, c7, c8, c9, c10, c11, c12, c13, rfl, w0, w4, w5, w6, w7, w8, w9, w10, w11, w12, w13⟩
theorem mk_dtMom {c0 : Int} {c1 : Bool} {c2 : Bool} {c3 : Bool} {c4 : Int} {c5 : Int} {c6 : Int} {c7 : Int} {c8 : AV} {c9 : AV} {c10 : AV} {c11 : Int} {c12 : AV} {c13 : AV} (w0 : (Lit.int .i64 c0).wf = true) (w4 : (Lit.int .i64 c4).wf = true) (w5 : (Lit.int .i64 c5).wf = true) (w6 : (Lit.int .i64 c6).wf = true) (w7 : (Lit.int .i64 c7).wf = true) (w8 : tyV (.sl 10 dtAlloc) c8) (w9 : tyV (.sl 9 dtProc) c9) (w10 : tyV (.sl 1 dtI) c10) (w11 : (Lit.int .i64 c11).wf = true) (w12 : tyV (.sl 15 dtRec) c12) (w13 : tyV (.sl 15 dtRec) c13) : tyV dtMom (.agg [.int .i64 c0, .bool c1, .bool c2, .bool c3, .int .i64 c4, .int .i64 c5, .int .i64 c6, .int .i64 c7, c8, c9, c10, .int .i64 c11, c12, c13]) := by
  exact ⟨_, rfl, ⟨[.int .i64 c0], [.bool c1, .bool c2, .bool c3, .int .i64 c4, .int .i64 c5, .int .i64 c6, .int .i64 c7, c8, c9, c10, .int .i64 c11, c12, c13], rfl, rfl, ⟨c0, rfl, w0⟩, ⟨[.bool c1], [.bool c2, .bool c3, .int .i64 c4, .int .i64 c5, .int .i64 c6, .int .i64 c7, c8, c9, c10, .int .i64 c11, c12, c13], rfl, rfl, ⟨c1, rfl⟩, ⟨[.bool c2], [.bool c3, .int .i64 c4, .int .i64 c5, .int .i64 c6, .int .i64 c7, c8, c9, c10, .int .i64 c11, c12, c13], rfl, rfl, ⟨c2, rfl⟩, ⟨[.bool c3], [.int .i64 c4, .int .i64 c5, .int .i64 c6, .int .i64 c7, c8, c9, c10, .int .i64 c11, c12, c13], rfl, rfl, ⟨c3, rfl⟩, ⟨[.int .i64 c4, .int .i64 c5, .int .i64 c6, .int .i64 c7, c8], [c9, c10, .int .i64 c11, c12, c13], rfl, rfl, ⟨[.int .i64 c4], [.int .i64 c5, .int .i64 c6, .int .i64 c7, c8], rfl, rfl, ⟨c4, rfl, w4⟩, ⟨[.int .i64 c5], [.int .i64 c6, .int .i64 c7, c8], rfl, rfl, ⟨c5, rfl, w5⟩, ⟨[.int .i64 c6], [.int .i64 c7, c8], rfl, rfl, ⟨c6, rfl, w6⟩, ⟨[.int .i64 c7], [c8], rfl, rfl, ⟨c7, rfl, w7⟩, ⟨[c8], [], rfl, rfl, w8, rfl⟩⟩⟩⟩⟩, ⟨[c9], [c10, .int .i64 c11, c12, c13], rfl, rfl, w9, ⟨[c10], [.int .i64 c11, c12, c13], rfl, rfl, w10, ⟨[.int .i64 c11], [c12, c13], rfl, rfl, ⟨c11, rfl, w11⟩, ⟨[c12], [c13], rfl, rfl, w12, ⟨[c13], [], rfl, rfl, w13, rfl⟩⟩⟩⟩⟩⟩⟩⟩⟩⟩⟩
theorem pw_dtMom_4 {u : AV} (h : tyV dtMom u) : (Lit.int .i64 (hdV (tlV (tlV (tlV (tlV u.aggOf))))).numOf).wf = true := by
  obtain ⟨c0, c1, c2, c3, c4, c5, c6, c7, c8, c9, c10, c11, c12, c13, rfl, w0, w4, w5, w6, w7, w8, w9, w10, w11, w12, w13⟩ := un_dtMom h
  exact w4
theorem pw_dtMom_5 {u : AV} (h : tyV dtMom u) : (Lit.int .i64 (hdV (tlV (tlV (tlV (tlV (tlV u.aggOf)))))).numOf).wf = true := by
  obtain ⟨c0, c1, c2, c3, c4, c5, c6, c7, c8, c9, c10, c11, c12, c13, rfl, w0, w4, w5, w6, w7, w8, w9, w10, w11, w12, w13⟩ := un_dtMom h
  exact w5
theorem pw_dtMom_6 {u : AV} (h : tyV dtMom u) : (Lit.int .i64 (hdV (tlV (tlV (tlV (tlV (tlV (tlV u.aggOf))))))).numOf).wf = true := by
  obtain ⟨c0, c1, c2, c3, c4, c5, c6, c7, c8, c9, c10, c11, c12, c13, rfl, w0, w4, w5, w6, w7, w8, w9, w10, w11, w12, w13⟩ := un_dtMom h
  exact w6
theorem pw_dtMom_7 {u : AV} (h : tyV dtMom u) : (Lit.int .i64 (hdV (tlV (tlV (tlV (tlV (tlV (tlV (tlV u.aggOf)))))))).numOf).wf = true := by
  obtain ⟨c0, c1, c2, c3, c4, c5, c6, c7, c8, c9, c10, c11, c12, c13, rfl, w0, w4, w5, w6, w7, w8, w9, w10, w11, w12, w13⟩ := un_dtMom h
  exact w7
theorem pj_dtMom_8 {u : AV} (h : tyV dtMom u) : tyV (.sl 10 dtAlloc) (shS Sh.any (hdV (tlV (tlV (tlV (tlV (tlV (tlV (tlV (tlV u.aggOf)))))))))) := by
  obtain ⟨c0, c1, c2, c3, c4, c5, c6, c7, c8, c9, c10, c11, c12, c13, rfl, w0, w4, w5, w6, w7, w8, w9, w10, w11, w12, w13⟩ := un_dtMom h
  exact w8
theorem pj_dtMom_9 {u : AV} (h : tyV dtMom u) : tyV (.sl 9 dtProc) (shS Sh.any (hdV (tlV (tlV (tlV (tlV (tlV (tlV (tlV (tlV (tlV u.aggOf))))))))))) := by
  obtain ⟨c0, c1, c2, c3, c4, c5, c6, c7, c8, c9, c10, c11, c12, c13, rfl, w0, w4, w5, w6, w7, w8, w9, w10, w11, w12, w13⟩ := un_dtMom h
  exact w9
theorem pj_dtMom_10 {u : AV} (h : tyV dtMom u) : tyV (.sl 1 dtI) (shS Sh.any (hdV (tlV (tlV (tlV (tlV (tlV (tlV (tlV (tlV (tlV (tlV u.aggOf)))))))))))) := by
  obtain ⟨c0, c1, c2, c3, c4, c5, c6, c7, c8, c9, c10, c11, c12, c13, rfl, w0, w4, w5, w6, w7, w8, w9, w10, w11, w12, w13⟩ := un_dtMom h
  exact w10
theorem pw_dtMom_11 {u : AV} (h : tyV dtMom u) : (Lit.int .i64 (hdV (tlV (tlV (tlV (tlV (tlV (tlV (tlV (tlV (tlV (tlV (tlV u.aggOf)))))))))))).numOf).wf = true := by
  obtain ⟨c0, c1, c2, c3, c4, c5, c6, c7, c8, c9, c10, c11, c12, c13, rfl, w0, w4, w5, w6, w7, w8, w9, w10, w11, w12, w13⟩ := un_dtMom h
  exact w11
theorem pj_dtMom_12 {u : AV} (h : tyV dtMom u) : tyV (.sl 15 dtRec) (shS Sh.any (hdV (tlV (tlV (tlV (tlV (tlV (tlV (tlV (tlV (tlV (tlV (tlV (tlV u.aggOf)))))))))))))) := by
  obtain ⟨c0, c1, c2, c3, c4, c5, c6, c7, c8, c9, c10, c11, c12, c13, rfl, w0, w4, w5, w6, w7, w8, w9, w10, w11, w12, w13⟩ := un_dtMom h
  exact w12
theorem pj_dtMom_13 {u : AV} (h : tyV dtMom u) : tyV (.sl 15 dtRec) (shS Sh.any (hdV (tlV (tlV (tlV (tlV (tlV (tlV (tlV (tlV (tlV (tlV (tlV (tlV (tlV u.aggOf))))))))))))))) := by
  obtain ⟨c0, c1, c2, c3, c4, c5, c6, c7, c8, c9, c10, c11, c12, c13, rfl, w0, w4, w5, w6, w7, w8, w9, w10, w11, w12, w13⟩ := un_dtMom h
  exact w13
end Go.Proofs.Ytoagnbpmoihojaa

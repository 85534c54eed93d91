/- The shapes of the fence's data. -/
import Derived.Test.YtoagnbpmoihojaaFenDat
set_option maxRecDepth 100000
set_option linter.unusedSimpArgs false
set_option linter.unusedVariables false
namespace Go.Proofs.Ytoagnbpmoihojaa
open Go.Sx

def dtI : DT := .int .i64
def dtCfg : DT := .agg 11 [.agg 3 [dtI, dtI, dtI], dtI, dtI, dtI, dtI, dtI, dtI, dtI, dtI]
def dtTS : DT := .agg 6 [.agg 5 [.bool, dtI, dtI, dtI, dtI], dtI]
def dtProc : DT := .agg 9 [dtI, dtI, .agg 3 [dtI, dtI, dtI], .bool, .bool, .bool, dtI]
def dtSpec : DT := .agg 6 [dtI, .agg 3 [dtI, dtI, dtI], .sl 1 dtI, .sl 6 dtTS]
def dtTask : DT := .agg 8 [.int .u8, dtI, dtI, dtI, dtI, dtI, dtI, .sl 1 dtI]
def dtAlloc : DT := .agg 10 [dtSpec, dtI, dtI, .bool, .sl 8 dtTask]
def dtState : DT := .agg 5 [dtI, dtI, dtI, dtI, .sl 10 dtAlloc]
def dtRec : DT := .agg 15 [.int .u8, dtI, dtSpec, dtI, dtI, dtI, dtI, dtI, dtI, dtI]
def dtMom : DT := .agg 14 [dtI, .bool, .bool, .bool, dtState, .sl 9 dtProc, .sl 1 dtI, dtI, .sl 15 dtRec, .sl 15 dtRec]

theorem fit_dtTS {u : AV} (h : tyV dtTS u) : (u.isAgg && fitL [Sh.bool, Sh.int IntKind.i64, Sh.int IntKind.i64, Sh.int IntKind.i64, Sh.int IntKind.i64, Sh.int IntKind.i64] u.aggOf) = true := ty_fit h rfl rfl
theorem eta_dtTS {u : AV} (h : tyV dtTS u) : AV.agg (shL [Sh.bool, Sh.int IntKind.i64, Sh.int IntKind.i64, Sh.int IntKind.i64, Sh.int IntKind.i64, Sh.int IntKind.i64] u.aggOf) = u := ty_eta h rfl rfl
theorem fit_dtProc {u : AV} (h : tyV dtProc u) : (u.isAgg && fitL [Sh.int IntKind.i64, Sh.int IntKind.i64, Sh.int IntKind.i64, Sh.int IntKind.i64, Sh.int IntKind.i64, Sh.bool, Sh.bool, Sh.bool, Sh.int IntKind.i64] u.aggOf) = true := ty_fit h rfl rfl
theorem eta_dtProc {u : AV} (h : tyV dtProc u) : AV.agg (shL [Sh.int IntKind.i64, Sh.int IntKind.i64, Sh.int IntKind.i64, Sh.int IntKind.i64, Sh.int IntKind.i64, Sh.bool, Sh.bool, Sh.bool, Sh.int IntKind.i64] u.aggOf) = u := ty_eta h rfl rfl
theorem fit_dtSpec {u : AV} (h : tyV dtSpec u) : (u.isAgg && fitL [Sh.int IntKind.i64, Sh.int IntKind.i64, Sh.int IntKind.i64, Sh.int IntKind.i64, Sh.any, Sh.any] u.aggOf) = true := ty_fit h rfl rfl
theorem eta_dtSpec {u : AV} (h : tyV dtSpec u) : AV.agg (shL [Sh.int IntKind.i64, Sh.int IntKind.i64, Sh.int IntKind.i64, Sh.int IntKind.i64, Sh.any, Sh.any] u.aggOf) = u := ty_eta h rfl rfl
theorem fit_dtTask {u : AV} (h : tyV dtTask u) : (u.isAgg && fitL [Sh.int IntKind.u8, Sh.int IntKind.i64, Sh.int IntKind.i64, Sh.int IntKind.i64, Sh.int IntKind.i64, Sh.int IntKind.i64, Sh.int IntKind.i64, Sh.any] u.aggOf) = true := ty_fit h rfl rfl
theorem eta_dtTask {u : AV} (h : tyV dtTask u) : AV.agg (shL [Sh.int IntKind.u8, Sh.int IntKind.i64, Sh.int IntKind.i64, Sh.int IntKind.i64, Sh.int IntKind.i64, Sh.int IntKind.i64, Sh.int IntKind.i64, Sh.any] u.aggOf) = u := ty_eta h rfl rfl
theorem fit_dtAlloc {u : AV} (h : tyV dtAlloc u) : (u.isAgg && fitL [Sh.int IntKind.i64, Sh.int IntKind.i64, Sh.int IntKind.i64, Sh.int IntKind.i64, Sh.any, Sh.any, Sh.int IntKind.i64, Sh.int IntKind.i64, Sh.bool, Sh.any] u.aggOf) = true := ty_fit h rfl rfl
theorem eta_dtAlloc {u : AV} (h : tyV dtAlloc u) : AV.agg (shL [Sh.int IntKind.i64, Sh.int IntKind.i64, Sh.int IntKind.i64, Sh.int IntKind.i64, Sh.any, Sh.any, Sh.int IntKind.i64, Sh.int IntKind.i64, Sh.bool, Sh.any] u.aggOf) = u := ty_eta h rfl rfl
theorem fit_dtState {u : AV} (h : tyV dtState u) : (u.isAgg && fitL [Sh.int IntKind.i64, Sh.int IntKind.i64, Sh.int IntKind.i64, Sh.int IntKind.i64, Sh.any] u.aggOf) = true := ty_fit h rfl rfl
theorem eta_dtState {u : AV} (h : tyV dtState u) : AV.agg (shL [Sh.int IntKind.i64, Sh.int IntKind.i64, Sh.int IntKind.i64, Sh.int IntKind.i64, Sh.any] u.aggOf) = u := ty_eta h rfl rfl
theorem fit_dtRec {u : AV} (h : tyV dtRec u) : (u.isAgg && fitL [Sh.int IntKind.u8, Sh.int IntKind.i64, Sh.int IntKind.i64, Sh.int IntKind.i64, Sh.int IntKind.i64, Sh.int IntKind.i64, Sh.any, Sh.any, Sh.int IntKind.i64, Sh.int IntKind.i64, Sh.int IntKind.i64, Sh.int IntKind.i64, Sh.int IntKind.i64, Sh.int IntKind.i64, Sh.int IntKind.i64] u.aggOf) = true := ty_fit h rfl rfl
theorem eta_dtRec {u : AV} (h : tyV dtRec u) : AV.agg (shL [Sh.int IntKind.u8, Sh.int IntKind.i64, Sh.int IntKind.i64, Sh.int IntKind.i64, Sh.int IntKind.i64, Sh.int IntKind.i64, Sh.any, Sh.any, Sh.int IntKind.i64, Sh.int IntKind.i64, Sh.int IntKind.i64, Sh.int IntKind.i64, Sh.int IntKind.i64, Sh.int IntKind.i64, Sh.int IntKind.i64] u.aggOf) = u := ty_eta h rfl rfl
theorem fit_dtMom {u : AV} (h : tyV dtMom u) : (u.isAgg && fitL [Sh.int IntKind.i64, Sh.bool, Sh.bool, Sh.bool, Sh.int IntKind.i64, Sh.int IntKind.i64, Sh.int IntKind.i64, Sh.int IntKind.i64, Sh.any, Sh.any, Sh.any, Sh.int IntKind.i64, Sh.any, Sh.any] u.aggOf) = true := ty_fit h rfl rfl
theorem eta_dtMom {u : AV} (h : tyV dtMom u) : AV.agg (shL [Sh.int IntKind.i64, Sh.bool, Sh.bool, Sh.bool, Sh.int IntKind.i64, Sh.int IntKind.i64, Sh.int IntKind.i64, Sh.int IntKind.i64, Sh.any, Sh.any, Sh.any, Sh.int IntKind.i64, Sh.any, Sh.any] u.aggOf) = u := ty_eta h rfl rfl
theorem fit_dtCfg {u : AV} (h : tyV dtCfg u) : (u.isAgg && fitL [Sh.int IntKind.i64, Sh.int IntKind.i64, Sh.int IntKind.i64, Sh.int IntKind.i64, Sh.int IntKind.i64, Sh.int IntKind.i64, Sh.int IntKind.i64, Sh.int IntKind.i64, Sh.int IntKind.i64, Sh.int IntKind.i64, Sh.int IntKind.i64] u.aggOf) = true := ty_fit h rfl rfl
theorem eta_dtCfg {u : AV} (h : tyV dtCfg u) : AV.agg (shL [Sh.int IntKind.i64, Sh.int IntKind.i64, Sh.int IntKind.i64, Sh.int IntKind.i64, Sh.int IntKind.i64, Sh.int IntKind.i64, Sh.int IntKind.i64, Sh.int IntKind.i64, Sh.int IntKind.i64, Sh.int IntKind.i64, Sh.int IntKind.i64] u.aggOf) = u := ty_eta h rfl rfl
theorem fit_dtI {u : AV} (h : tyV dtI u) : fitS (Sh.int IntKind.i64) u = true := ty_fit1 h rfl rfl

theorem un_dtCfg {u : AV} (h : tyV dtCfg u) : ∃ (c0 : Int) (c1 : Int) (c2 : Int) (c3 : Int) (c4 : Int) (c5 : Int) (c6 : Int) (c7 : Int) (c8 : Int) (c9 : Int) (c10 : Int), u = .agg [.int .i64 c0, .int .i64 c1, .int .i64 c2, .int .i64 c3, .int .i64 c4, .int .i64 c5, .int .i64 c6, .int .i64 c7, .int .i64 c8, .int .i64 c9, .int .i64 c10] ∧ (Lit.int .i64 c0).wf = true ∧ (Lit.int .i64 c1).wf = true ∧ (Lit.int .i64 c2).wf = true ∧ (Lit.int .i64 c3).wf = true ∧ (Lit.int .i64 c4).wf = true ∧ (Lit.int .i64 c5).wf = true ∧ (Lit.int .i64 c6).wf = true ∧ (Lit.int .i64 c7).wf = true ∧ (Lit.int .i64 c8).wf = true ∧ (Lit.int .i64 c9).wf = true ∧ (Lit.int .i64 c10).wf = true := by
  obtain ⟨us, rfl, h⟩ := h
  obtain ⟨_, _, rfl, -, ⟨_, _, rfl, -, ⟨c0, rfl, w0⟩, ⟨_, _, rfl, -, ⟨c1, rfl, w1⟩, ⟨_, _, rfl, -, ⟨c2, rfl, w2⟩, z0⟩⟩⟩, ⟨_, _, rfl, -, ⟨c3, rfl, w3⟩, ⟨_, _, rfl, -, ⟨c4, rfl, w4⟩, ⟨_, _, rfl, -, ⟨c5, rfl, w5⟩, ⟨_, _, rfl, -, ⟨c6, rfl, w6⟩, ⟨_, _, rfl, -, ⟨c7, rfl, w7⟩, ⟨_, _, rfl, -, ⟨c8, rfl, w8⟩, ⟨_, _, rfl, -, ⟨c9, rfl, w9⟩, ⟨_, _, rfl, -, ⟨c10, rfl, w10⟩, z1⟩⟩⟩⟩⟩⟩⟩⟩⟩ := h
  obtain rfl : _ = [] := z0
  obtain rfl : _ = [] := z1
  exact ⟨c0, c1, c2, c3, c4, c5, c6, c7, c8, c9, c10, rfl, w0, w1, w2, w3, w4, w5, w6, w7, w8, w9, w10⟩
theorem mk_dtCfg {c0 : Int} {c1 : Int} {c2 : Int} {c3 : Int} {c4 : Int} {c5 : Int} {c6 : Int} {c7 : Int} {c8 : Int} {c9 : Int} {c10 : Int} (w0 : (Lit.int .i64 c0).wf = true) (w1 : (Lit.int .i64 c1).wf = true) (w2 : (Lit.int .i64 c2).wf = true) (w3 : (Lit.int .i64 c3).wf = true) (w4 : (Lit.int .i64 c4).wf = true) (w5 : (Lit.int .i64 c5).wf = true) (w6 : (Lit.int .i64 c6).wf = true) (w7 : (Lit.int .i64 c7).wf = true) (w8 : (Lit.int .i64 c8).wf = true) (w9 : (Lit.int .i64 c9).wf = true) (w10 : (Lit.int .i64 c10).wf = true) : tyV dtCfg (.agg [.int .i64 c0, .int .i64 c1, .int .i64 c2, .int .i64 c3, .int .i64 c4, .int .i64 c5, .int .i64 c6, .int .i64 c7, .int .i64 c8, .int .i64 c9, .int .i64 c10]) := by
  exact ⟨_, rfl, ⟨[.int .i64 c0, .int .i64 c1, .int .i64 c2], [.int .i64 c3, .int .i64 c4, .int .i64 c5, .int .i64 c6, .int .i64 c7, .int .i64 c8, .int .i64 c9, .int .i64 c10], rfl, rfl, ⟨[.int .i64 c0], [.int .i64 c1, .int .i64 c2], rfl, rfl, ⟨c0, rfl, w0⟩, ⟨[.int .i64 c1], [.int .i64 c2], rfl, rfl, ⟨c1, rfl, w1⟩, ⟨[.int .i64 c2], [], rfl, rfl, ⟨c2, rfl, w2⟩, rfl⟩⟩⟩, ⟨[.int .i64 c3], [.int .i64 c4, .int .i64 c5, .int .i64 c6, .int .i64 c7, .int .i64 c8, .int .i64 c9, .int .i64 c10], rfl, rfl, ⟨c3, rfl, w3⟩, ⟨[.int .i64 c4], [.int .i64 c5, .int .i64 c6, .int .i64 c7, .int .i64 c8, .int .i64 c9, .int .i64 c10], rfl, rfl, ⟨c4, rfl, w4⟩, ⟨[.int .i64 c5], [.int .i64 c6, .int .i64 c7, .int .i64 c8, .int .i64 c9, .int .i64 c10], rfl, rfl, ⟨c5, rfl, w5⟩, ⟨[.int .i64 c6], [.int .i64 c7, .int .i64 c8, .int .i64 c9, .int .i64 c10], rfl, rfl, ⟨c6, rfl, w6⟩, ⟨[.int .i64 c7], [.int .i64 c8, .int .i64 c9, .int .i64 c10], rfl, rfl, ⟨c7, rfl, w7⟩, ⟨[.int .i64 c8], [.int .i64 c9, .int .i64 c10], rfl, rfl, ⟨c8, rfl, w8⟩, ⟨[.int .i64 c9], [.int .i64 c10], rfl, rfl, ⟨c9, rfl, w9⟩, ⟨[.int .i64 c10], [], rfl, rfl, ⟨c10, rfl, w10⟩, rfl⟩⟩⟩⟩⟩⟩⟩⟩⟩⟩
theorem pw_dtCfg_0 {u : AV} (h : tyV dtCfg u) : (Lit.int .i64 (hdV u.aggOf).numOf).wf = true := by
  obtain ⟨c0, c1, c2, c3, c4, c5, c6, c7, c8, c9, c10, rfl, w0, w1, w2, w3, w4, w5, w6, w7, w8, w9, w10⟩ := un_dtCfg h
  exact w0
theorem pw_dtCfg_1 {u : AV} (h : tyV dtCfg u) : (Lit.int .i64 (hdV (tlV u.aggOf)).numOf).wf = true := by
  obtain ⟨c0, c1, c2, c3, c4, c5, c6, c7, c8, c9, c10, rfl, w0, w1, w2, w3, w4, w5, w6, w7, w8, w9, w10⟩ := un_dtCfg h
  exact w1
theorem pw_dtCfg_2 {u : AV} (h : tyV dtCfg u) : (Lit.int .i64 (hdV (tlV (tlV u.aggOf))).numOf).wf = true := by
  obtain ⟨c0, c1, c2, c3, c4, c5, c6, c7, c8, c9, c10, rfl, w0, w1, w2, w3, w4, w5, w6, w7, w8, w9, w10⟩ := un_dtCfg h
  exact w2
theorem pw_dtCfg_3 {u : AV} (h : tyV dtCfg u) : (Lit.int .i64 (hdV (tlV (tlV (tlV u.aggOf)))).numOf).wf = true := by
  obtain ⟨c0, c1, c2, c3, c4, c5, c6, c7, c8, c9, c10, rfl, w0, w1, w2, w3, w4, w5, w6, w7, w8, w9, w10⟩ := un_dtCfg h
  exact w3
theorem pw_dtCfg_4 {u : AV} (h : tyV dtCfg u) : (Lit.int .i64 (hdV (tlV (tlV (tlV (tlV u.aggOf))))).numOf).wf = true := by
  obtain ⟨c0, c1, c2, c3, c4, c5, c6, c7, c8, c9, c10, rfl, w0, w1, w2, w3, w4, w5, w6, w7, w8, w9, w10⟩ := un_dtCfg h
  exact w4
theorem pw_dtCfg_5 {u : AV} (h : tyV dtCfg u) : (Lit.int .i64 (hdV (tlV (tlV (tlV (tlV (tlV u.aggOf)))))).numOf).wf = true := by
  obtain ⟨c0, c1, c2, c3, c4, c5, c6, c7, c8, c9, c10, rfl, w0, w1, w2, w3, w4, w5, w6, w7, w8, w9, w10⟩ := un_dtCfg h
  exact w5
theorem pw_dtCfg_6 {u : AV} (h : tyV dtCfg u) : (Lit.int .i64 (hdV (tlV (tlV (tlV (tlV (tlV (tlV u.aggOf))))))).numOf).wf = true := by
  obtain ⟨c0, c1, c2, c3, c4, c5, c6, c7, c8, c9, c10, rfl, w0, w1, w2, w3, w4, w5, w6, w7, w8, w9, w10⟩ := un_dtCfg h
  exact w6
theorem pw_dtCfg_7 {u : AV} (h : tyV dtCfg u) : (Lit.int .i64 (hdV (tlV (tlV (tlV (tlV (tlV (tlV (tlV u.aggOf)))))))).numOf).wf = true := by
  obtain ⟨c0, c1, c2, c3, c4, c5, c6, c7, c8, c9, c10, rfl, w0, w1, w2, w3, w4, w5, w6, w7, w8, w9, w10⟩ := un_dtCfg h
  exact w7
theorem pw_dtCfg_8 {u : AV} (h : tyV dtCfg u) : (Lit.int .i64 (hdV (tlV (tlV (tlV (tlV (tlV (tlV (tlV (tlV u.aggOf))))))))).numOf).wf = true := by
  obtain ⟨c0, c1, c2, c3, c4, c5, c6, c7, c8, c9, c10, rfl, w0, w1, w2, w3, w4, w5, w6, w7, w8, w9, w10⟩ := un_dtCfg h
  exact w8
theorem pw_dtCfg_9 {u : AV} (h : tyV dtCfg u) : (Lit.int .i64 (hdV (tlV (tlV (tlV (tlV (tlV (tlV (tlV (tlV (tlV u.aggOf)))))))))).numOf).wf = true := by
  obtain ⟨c0, c1, c2, c3, c4, c5, c6, c7, c8, c9, c10, rfl, w0, w1, w2, w3, w4, w5, w6, w7, w8, w9, w10⟩ := un_dtCfg h
  exact w9
theorem pw_dtCfg_10 {u : AV} (h : tyV dtCfg u) : (Lit.int .i64 (hdV (tlV (tlV (tlV (tlV (tlV (tlV (tlV (tlV (tlV (tlV u.aggOf))))))))))).numOf).wf = true := by
  obtain ⟨c0, c1, c2, c3, c4, c5, c6, c7, c8, c9, c10, rfl, w0, w1, w2, w3, w4, w5, w6, w7, w8, w9, w10⟩ := un_dtCfg h
  exact w10
theorem un_dtTS {u : AV} (h : tyV dtTS u) : ∃ (c0 : Bool) (c1 : Int) (c2 : Int) (c3 : Int) (c4 : Int) (c5 : Int), u = .agg [.bool c0, .int .i64 c1, .int .i64 c2, .int .i64 c3, .int .i64 c4, .int .i64 c5] ∧ (Lit.int .i64 c1).wf = true ∧ (Lit.int .i64 c2).wf = true ∧ (Lit.int .i64 c3).wf = true ∧ (Lit.int .i64 c4).wf = true ∧ (Lit.int .i64 c5).wf = true := by
  obtain ⟨us, rfl, h⟩ := h
  obtain ⟨_, _, rfl, -, ⟨_, _, rfl, -, ⟨c0, rfl⟩, ⟨_, _, rfl, -, ⟨c1, rfl, w1⟩, ⟨_, _, rfl, -, ⟨c2, rfl, w2⟩, ⟨_, _, rfl, -, ⟨c3, rfl, w3⟩, ⟨_, _, rfl, -, ⟨c4, rfl, w4⟩, z0⟩⟩⟩⟩⟩, ⟨_, _, rfl, -, ⟨c5, rfl, w5⟩, z1⟩⟩ := h
  obtain rfl : _ = [] := z0
  obtain rfl : _ = [] := z1
  exact ⟨c0, c1, c2, c3, c4, c5, rfl, w1, w2, w3, w4, w5⟩
theorem mk_dtTS {c0 : Bool} {c1 : Int} {c2 : Int} {c3 : Int} {c4 : Int} {c5 : Int} (w1 : (Lit.int .i64 c1).wf = true) (w2 : (Lit.int .i64 c2).wf = true) (w3 : (Lit.int .i64 c3).wf = true) (w4 : (Lit.int .i64 c4).wf = true) (w5 : (Lit.int .i64 c5).wf = true) : tyV dtTS (.agg [.bool c0, .int .i64 c1, .int .i64 c2, .int .i64 c3, .int .i64 c4, .int .i64 c5]) := by
  exact ⟨_, rfl, ⟨[.bool c0, .int .i64 c1, .int .i64 c2, .int .i64 c3, .int .i64 c4], [.int .i64 c5], rfl, rfl, ⟨[.bool c0], [.int .i64 c1, .int .i64 c2, .int .i64 c3, .int .i64 c4], rfl, rfl, ⟨c0, rfl⟩, ⟨[.int .i64 c1], [.int .i64 c2, .int .i64 c3, .int .i64 c4], rfl, rfl, ⟨c1, rfl, w1⟩, ⟨[.int .i64 c2], [.int .i64 c3, .int .i64 c4], rfl, rfl, ⟨c2, rfl, w2⟩, ⟨[.int .i64 c3], [.int .i64 c4], rfl, rfl, ⟨c3, rfl, w3⟩, ⟨[.int .i64 c4], [], rfl, rfl, ⟨c4, rfl, w4⟩, rfl⟩⟩⟩⟩⟩, ⟨[.int .i64 c5], [], rfl, rfl, ⟨c5, rfl, w5⟩, rfl⟩⟩⟩
theorem pw_dtTS_1 {u : AV} (h : tyV dtTS u) : (Lit.int .i64 (hdV (tlV u.aggOf)).numOf).wf = true := by
  obtain ⟨c0, c1, c2, c3, c4, c5, rfl, w1, w2, w3, w4, w5⟩ := un_dtTS h
  exact w1
theorem pw_dtTS_2 {u : AV} (h : tyV dtTS u) : (Lit.int .i64 (hdV (tlV (tlV u.aggOf))).numOf).wf = true := by
  obtain ⟨c0, c1, c2, c3, c4, c5, rfl, w1, w2, w3, w4, w5⟩ := un_dtTS h
  exact w2
theorem pw_dtTS_3 {u : AV} (h : tyV dtTS u) : (Lit.int .i64 (hdV (tlV (tlV (tlV u.aggOf)))).numOf).wf = true := by
  obtain ⟨c0, c1, c2, c3, c4, c5, rfl, w1, w2, w3, w4, w5⟩ := un_dtTS h
  exact w3
theorem pw_dtTS_4 {u : AV} (h : tyV dtTS u) : (Lit.int .i64 (hdV (tlV (tlV (tlV (tlV u.aggOf))))).numOf).wf = true := by
  obtain ⟨c0, c1, c2, c3, c4, c5, rfl, w1, w2, w3, w4, w5⟩ := un_dtTS h
  exact w4
theorem pw_dtTS_5 {u : AV} (h : tyV dtTS u) : (Lit.int .i64 (hdV (tlV (tlV (tlV (tlV (tlV u.aggOf)))))).numOf).wf = true := by
  obtain ⟨c0, c1, c2, c3, c4, c5, rfl, w1, w2, w3, w4, w5⟩ := un_dtTS h
  exact w5
theorem un_dtProc {u : AV} (h : tyV dtProc u) : ∃ (c0 : Int) (c1 : Int) (c2 : Int) (c3 : Int) (c4 : Int) (c5 : Bool) (c6 : Bool) (c7 : Bool) (c8 : Int), u = .agg [.int .i64 c0, .int .i64 c1, .int .i64 c2, .int .i64 c3, .int .i64 c4, .bool c5, .bool c6, .bool c7, .int .i64 c8] ∧ (Lit.int .i64 c0).wf = true ∧ (Lit.int .i64 c1).wf = true ∧ (Lit.int .i64 c2).wf = true ∧ (Lit.int .i64 c3).wf = true ∧ (Lit.int .i64 c4).wf = true ∧ (Lit.int .i64 c8).wf = true := by
  obtain ⟨us, rfl, h⟩ := h
  obtain ⟨_, _, rfl, -, ⟨c0, rfl, w0⟩, ⟨_, _, rfl, -, ⟨c1, rfl, w1⟩, ⟨_, _, rfl, -, ⟨_, _, rfl, -, ⟨c2, rfl, w2⟩, ⟨_, _, rfl, -, ⟨c3, rfl, w3⟩, ⟨_, _, rfl, -, ⟨c4, rfl, w4⟩, z0⟩⟩⟩, ⟨_, _, rfl, -, ⟨c5, rfl⟩, ⟨_, _, rfl, -, ⟨c6, rfl⟩, ⟨_, _, rfl, -, ⟨c7, rfl⟩, ⟨_, _, rfl, -, ⟨c8, rfl, w8⟩, z1⟩⟩⟩⟩⟩⟩⟩ := h
  obtain rfl : _ = [] := z0
  obtain rfl : _ = [] := z1
  exact ⟨c0, c1, c2, c3, c4, c5, c6, c7, c8, rfl, w0, w1, w2, w3, w4, w8⟩
theorem mk_dtProc {c0 : Int} {c1 : Int} {c2 : Int} {c3 : Int} {c4 : Int} {c5 : Bool} {c6 : Bool} {c7 : Bool} {c8 : Int} (w0 : (Lit.int .i64 c0).wf = true) (w1 : (Lit.int .i64 c1).wf = true) (w2 : (Lit.int .i64 c2).wf = true) (w3 : (Lit.int .i64 c3).wf = true) (w4 : (Lit.int .i64 c4).wf = true) (w8 : (Lit.int .i64 c8).wf = true) : tyV dtProc (.agg [.int .i64 c0, .int .i64 c1, .int .i64 c2, .int .i64 c3, .int .i64 c4, .bool c5, .bool c6, .bool c7, .int .i64 c8]) := by
  exact ⟨_, rfl, ⟨[.int .i64 c0], [.int .i64 c1, .int .i64 c2, .int .i64 c3, .int .i64 c4, .bool c5, .bool c6, .bool c7, .int .i64 c8], rfl, rfl, ⟨c0, rfl, w0⟩, ⟨[.int .i64 c1], [.int .i64 c2, .int .i64 c3, .int .i64 c4, .bool c5, .bool c6, .bool c7, .int .i64 c8], rfl, rfl, ⟨c1, rfl, w1⟩, ⟨[.int .i64 c2, .int .i64 c3, .int .i64 c4], [.bool c5, .bool c6, .bool c7, .int .i64 c8], rfl, rfl, ⟨[.int .i64 c2], [.int .i64 c3, .int .i64 c4], rfl, rfl, ⟨c2, rfl, w2⟩, ⟨[.int .i64 c3], [.int .i64 c4], rfl, rfl, ⟨c3, rfl, w3⟩, ⟨[.int .i64 c4], [], rfl, rfl, ⟨c4, rfl, w4⟩, rfl⟩⟩⟩, ⟨[.bool c5], [.bool c6, .bool c7, .int .i64 c8], rfl, rfl, ⟨c5, rfl⟩, ⟨[.bool c6], [.bool c7, .int .i64 c8], rfl, rfl, ⟨c6, rfl⟩, ⟨[.bool c7], [.int .i64 c8], rfl, rfl, ⟨c7, rfl⟩, ⟨[.int .i64 c8], [], rfl, rfl, ⟨c8, rfl, w8⟩, rfl⟩⟩⟩⟩⟩⟩⟩⟩
theorem pw_dtProc_0 {u : AV} (h : tyV dtProc u) : (Lit.int .i64 (hdV u.aggOf).numOf).wf = true := by
  obtain ⟨c0, c1, c2, c3, c4, c5, c6, c7, c8, rfl, w0, w1, w2, w3, w4, w8⟩ := un_dtProc h
  exact w0
theorem pw_dtProc_1 {u : AV} (h : tyV dtProc u) : (Lit.int .i64 (hdV (tlV u.aggOf)).numOf).wf = true := by
  obtain ⟨c0, c1, c2, c3, c4, c5, c6, c7, c8, rfl, w0, w1, w2, w3, w4, w8⟩ := un_dtProc h
  exact w1
theorem pw_dtProc_2 {u : AV} (h : tyV dtProc u) : (Lit.int .i64 (hdV (tlV (tlV u.aggOf))).numOf).wf = true := by
  obtain ⟨c0, c1, c2, c3, c4, c5, c6, c7, c8, rfl, w0, w1, w2, w3, w4, w8⟩ := un_dtProc h
  exact w2
theorem pw_dtProc_3 {u : AV} (h : tyV dtProc u) : (Lit.int .i64 (hdV (tlV (tlV (tlV u.aggOf)))).numOf).wf = true := by
  obtain ⟨c0, c1, c2, c3, c4, c5, c6, c7, c8, rfl, w0, w1, w2, w3, w4, w8⟩ := un_dtProc h
  exact w3
theorem pw_dtProc_4 {u : AV} (h : tyV dtProc u) : (Lit.int .i64 (hdV (tlV (tlV (tlV (tlV u.aggOf))))).numOf).wf = true := by
  obtain ⟨c0, c1, c2, c3, c4, c5, c6, c7, c8, rfl, w0, w1, w2, w3, w4, w8⟩ := un_dtProc h
  exact w4
theorem pw_dtProc_8 {u : AV} (h : tyV dtProc u) : (Lit.int .i64 (hdV (tlV (tlV (tlV (tlV (tlV (tlV (tlV (tlV u.aggOf))))))))).numOf).wf = true := by
  obtain ⟨c0, c1, c2, c3, c4, c5, c6, c7, c8, rfl, w0, w1, w2, w3, w4, w8⟩ := un_dtProc h
  exact w8
theorem un_dtSpec {u : AV} (h : tyV dtSpec u) : ∃ (c0 : Int) (c1 : Int) (c2 : Int) (c3 : Int) (c4 : AV) (c5 : AV), u = .agg [.int .i64 c0, .int .i64 c1, .int .i64 c2, .int .i64 c3, c4, c5] ∧ (Lit.int .i64 c0).wf = true ∧ (Lit.int .i64 c1).wf = true ∧ (Lit.int .i64 c2).wf = true ∧ (Lit.int .i64 c3).wf = true ∧ tyV (.sl 1 dtI) c4 ∧ tyV (.sl 6 dtTS) c5 := by
  obtain ⟨us, rfl, h⟩ := h
  obtain ⟨_, _, rfl, -, ⟨c0, rfl, w0⟩, ⟨_, _, rfl, -, ⟨_, _, rfl, -, ⟨c1, rfl, w1⟩, ⟨_, _, rfl, -, ⟨c2, rfl, w2⟩, ⟨_, _, rfl, -, ⟨c3, rfl, w3⟩, z0⟩⟩⟩, ⟨_, _, rfl, -, s4, ⟨_, _, rfl, -, s5, z1⟩⟩⟩⟩ := h
  obtain rfl : _ = [] := z0
  obtain ⟨c4, rfl, w4⟩ := sl_un s4
  obtain ⟨c5, rfl, w5⟩ := sl_un s5
  obtain rfl : _ = [] := z1
  exact ⟨c0, c1, c2, c3, c4, c5, rfl, w0, w1, w2, w3, w4, w5⟩
theorem mk_dtSpec {c0 : Int} {c1 : Int} {c2 : Int} {c3 : Int} {c4 : AV} {c5 : AV} (w0 : (Lit.int .i64 c0).wf = true) (w1 : (Lit.int .i64 c1).wf = true) (w2 : (Lit.int .i64 c2).wf = true) (w3 : (Lit.int .i64 c3).wf = true) (w4 : tyV (.sl 1 dtI) c4) (w5 : tyV (.sl 6 dtTS) c5) : tyV dtSpec (.agg [.int .i64 c0, .int .i64 c1, .int .i64 c2, .int .i64 c3, c4, c5]) := by
  exact ⟨_, rfl, ⟨[.int .i64 c0], [.int .i64 c1, .int .i64 c2, .int .i64 c3, c4, c5], rfl, rfl, ⟨c0, rfl, w0⟩, ⟨[.int .i64 c1, .int .i64 c2, .int .i64 c3], [c4, c5], rfl, rfl, ⟨[.int .i64 c1], [.int .i64 c2, .int .i64 c3], rfl, rfl, ⟨c1, rfl, w1⟩, ⟨[.int .i64 c2], [.int .i64 c3], rfl, rfl, ⟨c2, rfl, w2⟩, ⟨[.int .i64 c3], [], rfl, rfl, ⟨c3, rfl, w3⟩, rfl⟩⟩⟩, ⟨[c4], [c5], rfl, rfl, w4, ⟨[c5], [], rfl, rfl, w5, rfl⟩⟩⟩⟩⟩
theorem pw_dtSpec_0 {u : AV} (h : tyV dtSpec u) : (Lit.int .i64 (hdV u.aggOf).numOf).wf = true := by
  obtain ⟨c0, c1, c2, c3, c4, c5, rfl, w0, w1, w2, w3, w4, w5⟩ := un_dtSpec h
  exact w0
theorem pw_dtSpec_1 {u : AV} (h : tyV dtSpec u) : (Lit.int .i64 (hdV (tlV u.aggOf)).numOf).wf = true := by
  obtain ⟨c0, c1, c2, c3, c4, c5, rfl, w0, w1, w2, w3, w4, w5⟩ := un_dtSpec h
  exact w1
theorem pw_dtSpec_2 {u : AV} (h : tyV dtSpec u) : (Lit.int .i64 (hdV (tlV (tlV u.aggOf))).numOf).wf = true := by
  obtain ⟨c0, c1, c2, c3, c4, c5, rfl, w0, w1, w2, w3, w4, w5⟩ := un_dtSpec h
  exact w2
theorem pw_dtSpec_3 {u : AV} (h : tyV dtSpec u) : (Lit.int .i64 (hdV (tlV (tlV (tlV u.aggOf)))).numOf).wf = true := by
  obtain ⟨c0, c1, c2, c3, c4, c5, rfl, w0, w1, w2, w3, w4, w5⟩ := un_dtSpec h
  exact w3
theorem pj_dtSpec_4 {u : AV} (h : tyV dtSpec u) : tyV (.sl 1 dtI) (shS Sh.any (hdV (tlV (tlV (tlV (tlV u.aggOf)))))) := by
  obtain ⟨c0, c1, c2, c3, c4, c5, rfl, w0, w1, w2, w3, w4, w5⟩ := un_dtSpec h
  exact w4
theorem pj_dtSpec_5 {u : AV} (h : tyV dtSpec u) : tyV (.sl 6 dtTS) (shS Sh.any (hdV (tlV (tlV (tlV (tlV (tlV u.aggOf))))))) := by
  obtain ⟨c0, c1, c2, c3, c4, c5, rfl, w0, w1, w2, w3, w4, w5⟩ := un_dtSpec h
  exact w5
theorem bj_dtSpec {B : Nat} {u : AV} (h : tyV dtSpec u) (h4 : bnd B (shS Sh.any (hdV (tlV (tlV (tlV (tlV u.aggOf)))))) = true) (h5 : bnd B (shS Sh.any (hdV (tlV (tlV (tlV (tlV (tlV u.aggOf))))))) = true) : bnd B u = true := by
  obtain ⟨c0, c1, c2, c3, c4, c5, rfl, w0, w1, w2, w3, w4, w5⟩ := un_dtSpec h
  replace h4 : bnd B c4 = true := h4
  replace h5 : bnd B c5 = true := h5
  simp only [bnd, bndL, h4, h5]
  rfl
theorem bi_dtSpec_4 {B : Nat} {u : AV} (h : tyV dtSpec u) (hb : bnd B u = true) : bnd B (shS Sh.any (hdV (tlV (tlV (tlV (tlV u.aggOf)))))) = true := by
  obtain ⟨c0, c1, c2, c3, c4, c5, rfl, w0, w1, w2, w3, w4, w5⟩ := un_dtSpec h
  simp only [bnd, bndL, Bool.and_eq_true, Bool.true_and, Bool.and_true, true_and, and_true] at hb
  show bnd B c4 = true
  simp [hb]
theorem bi_dtSpec_5 {B : Nat} {u : AV} (h : tyV dtSpec u) (hb : bnd B u = true) : bnd B (shS Sh.any (hdV (tlV (tlV (tlV (tlV (tlV u.aggOf))))))) = true := by
  obtain ⟨c0, c1, c2, c3, c4, c5, rfl, w0, w1, w2, w3, w4, w5⟩ := un_dtSpec h
  simp only [bnd, bndL, Bool.and_eq_true, Bool.true_and, Bool.and_true, true_and, and_true] at hb
  show bnd B c5 = true
  simp [hb]
theorem un_dtTask {u : AV} (h : tyV dtTask u) : ∃ (c0 : Int) (c1 : Int) (c2 : Int) (c3 : Int) (c4 : Int) (c5 : Int) (c6 : Int) (c7 : AV), u = .agg [.int .u8 c0, .int .i64 c1, .int .i64 c2, .int .i64 c3, .int .i64 c4, .int .i64 c5, .int .i64 c6, c7] ∧ (Lit.int .u8 c0).wf = true ∧ (Lit.int .i64 c1).wf = true ∧ (Lit.int .i64 c2).wf = true ∧ (Lit.int .i64 c3).wf = true ∧ (Lit.int .i64 c4).wf = true ∧ (Lit.int .i64 c5).wf = true ∧ (Lit.int .i64 c6).wf = true ∧ tyV (.sl 1 dtI) c7 := by
  obtain ⟨us, rfl, h⟩ := h
  obtain ⟨_, _, rfl, -, ⟨c0, rfl, w0⟩, ⟨_, _, rfl, -, ⟨c1, rfl, w1⟩, ⟨_, _, rfl, -, ⟨c2, rfl, w2⟩, ⟨_, _, rfl, -, ⟨c3, rfl, w3⟩, ⟨_, _, rfl, -, ⟨c4, rfl, w4⟩, ⟨_, _, rfl, -, ⟨c5, rfl, w5⟩, ⟨_, _, rfl, -, ⟨c6, rfl, w6⟩, ⟨_, _, rfl, -, s7, z0⟩⟩⟩⟩⟩⟩⟩⟩ := h
  obtain ⟨c7, rfl, w7⟩ := sl_un s7
  obtain rfl : _ = [] := z0
  exact ⟨c0, c1, c2, c3, c4, c5, c6, c7, rfl, w0, w1, w2, w3, w4, w5, w6, w7⟩
theorem mk_dtTask {c0 : Int} {c1 : Int} {c2 : Int} {c3 : Int} {c4 : Int} {c5 : Int} {c6 : Int} {c7 : AV} (w0 : (Lit.int .u8 c0).wf = true) (w1 : (Lit.int .i64 c1).wf = true) (w2 : (Lit.int .i64 c2).wf = true) (w3 : (Lit.int .i64 c3).wf = true) (w4 : (Lit.int .i64 c4).wf = true) (w5 : (Lit.int .i64 c5).wf = true) (w6 : (Lit.int .i64 c6).wf = true) (w7 : tyV (.sl 1 dtI) c7) : tyV dtTask (.agg [.int .u8 c0, .int .i64 c1, .int .i64 c2, .int .i64 c3, .int .i64 c4, .int .i64 c5, .int .i64 c6, c7]) := by
  exact ⟨_, rfl, ⟨[.int .u8 c0], [.int .i64 c1, .int .i64 c2, .int .i64 c3, .int .i64 c4, .int .i64 c5, .int .i64 c6, c7], rfl, rfl, ⟨c0, rfl, w0⟩, ⟨[.int .i64 c1], [.int .i64 c2, .int .i64 c3, .int .i64 c4, .int .i64 c5, .int .i64 c6, c7], rfl, rfl, ⟨c1, rfl, w1⟩, ⟨[.int .i64 c2], [.int .i64 c3, .int .i64 c4, .int .i64 c5, .int .i64 c6, c7], rfl, rfl, ⟨c2, rfl, w2⟩, ⟨[.int .i64 c3], [.int .i64 c4, .int .i64 c5, .int .i64 c6, c7], rfl, rfl, ⟨c3, rfl, w3⟩, ⟨[.int .i64 c4], [.int .i64 c5, .int .i64 c6, c7], rfl, rfl, ⟨c4, rfl, w4⟩, ⟨[.int .i64 c5], [.int .i64 c6, c7], rfl, rfl, ⟨c5, rfl, w5⟩, ⟨[.int .i64 c6], [c7], rfl, rfl, ⟨c6, rfl, w6⟩, ⟨[c7], [], rfl, rfl, w7, rfl⟩⟩⟩⟩⟩⟩⟩⟩⟩
theorem pw_dtTask_0 {u : AV} (h : tyV dtTask u) : (Lit.int .u8 (hdV u.aggOf).numOf).wf = true := by
  obtain ⟨c0, c1, c2, c3, c4, c5, c6, c7, rfl, w0, w1, w2, w3, w4, w5, w6, w7⟩ := un_dtTask h
  exact w0
theorem pw_dtTask_1 {u : AV} (h : tyV dtTask u) : (Lit.int .i64 (hdV (tlV u.aggOf)).numOf).wf = true := by
  obtain ⟨c0, c1, c2, c3, c4, c5, c6, c7, rfl, w0, w1, w2, w3, w4, w5, w6, w7⟩ := un_dtTask h
  exact w1
theorem pw_dtTask_2 {u : AV} (h : tyV dtTask u) : (Lit.int .i64 (hdV (tlV (tlV u.aggOf))).numOf).wf = true := by
  obtain ⟨c0, c1, c2, c3, c4, c5, c6, c7, rfl, w0, w1, w2, w3, w4, w5, w6, w7⟩ := un_dtTask h
  exact w2
theorem pw_dtTask_3 {u : AV} (h : tyV dtTask u) : (Lit.int .i64 (hdV (tlV (tlV (tlV u.aggOf)))).numOf).wf = true := by
  obtain ⟨c0, c1, c2, c3, c4, c5, c6, c7, rfl, w0, w1, w2, w3, w4, w5, w6, w7⟩ := un_dtTask h
  exact w3
theorem pw_dtTask_4 {u : AV} (h : tyV dtTask u) : (Lit.int .i64 (hdV (tlV (tlV (tlV (tlV u.aggOf))))).numOf).wf = true := by
  obtain ⟨c0, c1, c2, c3, c4, c5, c6, c7, rfl, w0, w1, w2, w3, w4, w5, w6, w7⟩ := un_dtTask h
  exact w4
theorem pw_dtTask_5 {u : AV} (h : tyV dtTask u) : (Lit.int .i64 (hdV (tlV (tlV (tlV (tlV (tlV u.aggOf)))))).numOf).wf = true := by
  obtain ⟨c0, c1, c2, c3, c4, c5, c6, c7, rfl, w0, w1, w2, w3, w4, w5, w6, w7⟩ := un_dtTask h
  exact w5
theorem pw_dtTask_6 {u : AV} (h : tyV dtTask u) : (Lit.int .i64 (hdV (tlV (tlV (tlV (tlV (tlV (tlV u.aggOf))))))).numOf).wf = true := by
  obtain ⟨c0, c1, c2, c3, c4, c5, c6, c7, rfl, w0, w1, w2, w3, w4, w5, w6, w7⟩ := un_dtTask h
  exact w6
theorem pj_dtTask_7 {u : AV} (h : tyV dtTask u) : tyV (.sl 1 dtI) (shS Sh.any (hdV (tlV (tlV (tlV (tlV (tlV (tlV (tlV u.aggOf))))))))) := by
  obtain ⟨c0, c1, c2, c3, c4, c5, c6, c7, rfl, w0, w1, w2, w3, w4, w5, w6, w7⟩ := un_dtTask h
  exact w7
theorem bj_dtTask {B : Nat} {u : AV} (h : tyV dtTask u) (h7 : bnd B (shS Sh.any (hdV (tlV (tlV (tlV (tlV (tlV (tlV (tlV u.aggOf))))))))) = true) : bnd B u = true := by
  obtain ⟨c0, c1, c2, c3, c4, c5, c6, c7, rfl, w0, w1, w2, w3, w4, w5, w6, w7⟩ := un_dtTask h
  replace h7 : bnd B c7 = true := h7
  simp only [bnd, bndL, h7]
  rfl
theorem bi_dtTask_7 {B : Nat} {u : AV} (h : tyV dtTask u) (hb : bnd B u = true) : bnd B (shS Sh.any (hdV (tlV (tlV (tlV (tlV (tlV (tlV (tlV u.aggOf))))))))) = true := by
  obtain ⟨c0, c1, c2, c3, c4, c5, c6, c7, rfl, w0, w1, w2, w3, w4, w5, w6, w7⟩ := un_dtTask h
  simp only [bnd, bndL, Bool.and_eq_true, Bool.true_and, Bool.and_true, true_and, and_true] at hb
  show bnd B c7 = true
  simp [hb]
theorem un_dtAlloc {u : AV} (h : tyV dtAlloc u) : ∃ (c0 : Int) (c1 : Int) (c2 : Int) (c3 : Int) (c4 : AV) (c5 : AV) (c6 : Int) (c7 : Int) (c8 : Bool) (c9 : AV), u = .agg [.int .i64 c0, .int .i64 c1, .int .i64 c2, .int .i64 c3, c4, c5, .int .i64 c6, .int .i64 c7, .bool c8, c9] ∧ (Lit.int .i64 c0).wf = true ∧ (Lit.int .i64 c1).wf = true ∧ (Lit.int .i64 c2).wf = true ∧ (Lit.int .i64 c3).wf = true ∧ tyV (.sl 1 dtI) c4 ∧ tyV (.sl 6 dtTS) c5 ∧ (Lit.int .i64 c6).wf = true ∧ (Lit.int .i64 c7).wf = true ∧ tyV (.sl 8 dtTask) c9 := by
  obtain ⟨us, rfl, h⟩ := h
  obtain ⟨_, _, rfl, -, ⟨_, _, rfl, -, ⟨c0, rfl, w0⟩, ⟨_, _, rfl, -, ⟨_, _, rfl, -, ⟨c1, rfl, w1⟩, ⟨_, _, rfl, -, ⟨c2, rfl, w2⟩, ⟨_, _, rfl, -, ⟨c3, rfl, w3⟩, z0⟩⟩⟩, ⟨_, _, rfl, -, s4, ⟨_, _, rfl, -, s5, z1⟩⟩⟩⟩, ⟨_, _, rfl, -, ⟨c6, rfl, w6⟩, ⟨_, _, rfl, -, ⟨c7, rfl, w7⟩, ⟨_, _, rfl, -, ⟨c8, rfl⟩, ⟨_, _, rfl, -, s9, z2⟩⟩⟩⟩⟩ := h
  obtain rfl : _ = [] := z0
  obtain ⟨c4, rfl, w4⟩ := sl_un s4
  obtain ⟨c5, rfl, w5⟩ := sl_un s5
  obtain rfl : _ = [] := z1
  obtain ⟨c9, rfl, w9⟩ := sl_un s9
  obtain rfl : _ = [] := z2
  exact ⟨c0, c1, c2, c3, c4, c5, c6, c7, c8, c9, rfl, w0, w1, w2, w3, w4, w5, w6, w7, w9⟩
theorem mk_dtAlloc {c0 : Int} {c1 : Int} {c2 : Int} {c3 : Int} {c4 : AV} {c5 : AV} {c6 : Int} {c7 : Int} {c8 : Bool} {c9 : AV} (w0 : (Lit.int .i64 c0).wf = true) (w1 : (Lit.int .i64 c1).wf = true) (w2 : (Lit.int .i64 c2).wf = true) (w3 : (Lit.int .i64 c3).wf = true) (w4 : tyV (.sl 1 dtI) c4) (w5 : tyV (.sl 6 dtTS) c5) (w6 : (Lit.int .i64 c6).wf = true) (w7 : (Lit.int .i64 c7).wf = true) (w9 : tyV (.sl 8 dtTask) c9) : tyV dtAlloc (.agg [.int .i64 c0, .int .i64 c1, .int .i64 c2, .int .i64 c3, c4, c5, .int .i64 c6, .int .i64 c7, .bool c8, c9]) := by
  exact ⟨_, rfl, ⟨[.int .i64 c0, .int .i64 c1, .int .i64 c2, .int .i64 c3, c4, c5], [.int .i64 c6, .int .i64 c7, .bool c8, c9], rfl, rfl, ⟨[.int .i64 c0], [.int .i64 c1, .int .i64 c2, .int .i64 c3, c4, c5], rfl, rfl, ⟨c0, rfl, w0⟩, ⟨[.int .i64 c1, .int .i64 c2, .int .i64 c3], [c4, c5], rfl, rfl, ⟨[.int .i64 c1], [.int .i64 c2, .int .i64 c3], rfl, rfl, ⟨c1, rfl, w1⟩, ⟨[.int .i64 c2], [.int .i64 c3], rfl, rfl, ⟨c2, rfl, w2⟩, ⟨[.int .i64 c3], [], rfl, rfl, ⟨c3, rfl, w3⟩, rfl⟩⟩⟩, ⟨[c4], [c5], rfl, rfl, w4, ⟨[c5], [], rfl, rfl, w5, rfl⟩⟩⟩⟩, ⟨[.int .i64 c6], [.int .i64 c7, .bool c8, c9], rfl, rfl, ⟨c6, rfl, w6⟩, ⟨[.int .i64 c7], [.bool c8, c9], rfl, rfl, ⟨c7, rfl, w7⟩, ⟨[.bool c8], [c9], rfl, rfl, ⟨c8, rfl⟩, ⟨[c9], [], rfl, rfl, w9, rfl⟩⟩⟩⟩⟩⟩
theorem pw_dtAlloc_0 {u : AV} (h : tyV dtAlloc u) : (Lit.int .i64 (hdV u.aggOf).numOf).wf = true := by
  obtain ⟨c0, c1, c2, c3, c4, c5, c6, c7, c8, c9, rfl, w0, w1, w2, w3, w4, w5, w6, w7, w9⟩ := un_dtAlloc h
  exact w0
theorem pw_dtAlloc_1 {u : AV} (h : tyV dtAlloc u) : (Lit.int .i64 (hdV (tlV u.aggOf)).numOf).wf = true := by
  obtain ⟨c0, c1, c2, c3, c4, c5, c6, c7, c8, c9, rfl, w0, w1, w2, w3, w4, w5, w6, w7, w9⟩ := un_dtAlloc h
  exact w1
theorem pw_dtAlloc_2 {u : AV} (h : tyV dtAlloc u) : (Lit.int .i64 (hdV (tlV (tlV u.aggOf))).numOf).wf = true := by
  obtain ⟨c0, c1, c2, c3, c4, c5, c6, c7, c8, c9, rfl, w0, w1, w2, w3, w4, w5, w6, w7, w9⟩ := un_dtAlloc h
  exact w2
theorem pw_dtAlloc_3 {u : AV} (h : tyV dtAlloc u) : (Lit.int .i64 (hdV (tlV (tlV (tlV u.aggOf)))).numOf).wf = true := by
  obtain ⟨c0, c1, c2, c3, c4, c5, c6, c7, c8, c9, rfl, w0, w1, w2, w3, w4, w5, w6, w7, w9⟩ := un_dtAlloc h
  exact w3
theorem pj_dtAlloc_4 {u : AV} (h : tyV dtAlloc u) : tyV (.sl 1 dtI) (shS Sh.any (hdV (tlV (tlV (tlV (tlV u.aggOf)))))) := by
  obtain ⟨c0, c1, c2, c3, c4, c5, c6, c7, c8, c9, rfl, w0, w1, w2, w3, w4, w5, w6, w7, w9⟩ := un_dtAlloc h
  exact w4
theorem pj_dtAlloc_5 {u : AV} (h : tyV dtAlloc u) : tyV (.sl 6 dtTS) (shS Sh.any (hdV (tlV (tlV (tlV (tlV (tlV u.aggOf))))))) := by
  obtain ⟨c0, c1, c2, c3, c4, c5, c6, c7, c8, c9, rfl, w0, w1, w2, w3, w4, w5, w6, w7, w9⟩ := un_dtAlloc h
  exact w5
theorem pw_dtAlloc_6 {u : AV} (h : tyV dtAlloc u) : (Lit.int .i64 (hdV (tlV (tlV (tlV (tlV (tlV (tlV u.aggOf))))))).numOf).wf = true := by
  obtain ⟨c0, c1, c2, c3, c4, c5, c6, c7, c8, c9, rfl, w0, w1, w2, w3, w4, w5, w6, w7, w9⟩ := un_dtAlloc h
  exact w6
theorem pw_dtAlloc_7 {u : AV} (h : tyV dtAlloc u) : (Lit.int .i64 (hdV (tlV (tlV (tlV (tlV (tlV (tlV (tlV u.aggOf)))))))).numOf).wf = true := by
  obtain ⟨c0, c1, c2, c3, c4, c5, c6, c7, c8, c9, rfl, w0, w1, w2, w3, w4, w5, w6, w7, w9⟩ := un_dtAlloc h
  exact w7
theorem pj_dtAlloc_9 {u : AV} (h : tyV dtAlloc u) : tyV (.sl 8 dtTask) (shS Sh.any (hdV (tlV (tlV (tlV (tlV (tlV (tlV (tlV (tlV (tlV u.aggOf))))))))))) := by
  obtain ⟨c0, c1, c2, c3, c4, c5, c6, c7, c8, c9, rfl, w0, w1, w2, w3, w4, w5, w6, w7, w9⟩ := un_dtAlloc h
  exact w9
theorem bj_dtAlloc {B : Nat} {u : AV} (h : tyV dtAlloc u) (h4 : bnd B (shS Sh.any (hdV (tlV (tlV (tlV (tlV u.aggOf)))))) = true) (h5 : bnd B (shS Sh.any (hdV (tlV (tlV (tlV (tlV (tlV u.aggOf))))))) = true) (h9 : bnd B (shS Sh.any (hdV (tlV (tlV (tlV (tlV (tlV (tlV (tlV (tlV (tlV u.aggOf))))))))))) = true) : bnd B u = true := by
  obtain ⟨c0, c1, c2, c3, c4, c5, c6, c7, c8, c9, rfl, w0, w1, w2, w3, w4, w5, w6, w7, w9⟩ := un_dtAlloc h
  replace h4 : bnd B c4 = true := h4
  replace h5 : bnd B c5 = true := h5
  replace h9 : bnd B c9 = true := h9
  simp only [bnd, bndL, h4, h5, h9]
  rfl
theorem bi_dtAlloc_4 {B : Nat} {u : AV} (h : tyV dtAlloc u) (hb : bnd B u = true) : bnd B (shS Sh.any (hdV (tlV (tlV (tlV (tlV u.aggOf)))))) = true := by
  obtain ⟨c0, c1, c2, c3, c4, c5, c6, c7, c8, c9, rfl, w0, w1, w2, w3, w4, w5, w6, w7, w9⟩ := un_dtAlloc h
  simp only [bnd, bndL, Bool.and_eq_true, Bool.true_and, Bool.and_true, true_and, and_true] at hb
  show bnd B c4 = true
  simp [hb]
theorem bi_dtAlloc_5 {B : Nat} {u : AV} (h : tyV dtAlloc u) (hb : bnd B u = true) : bnd B (shS Sh.any (hdV (tlV (tlV (tlV (tlV (tlV u.aggOf))))))) = true := by
  obtain ⟨c0, c1, c2, c3, c4, c5, c6, c7, c8, c9, rfl, w0, w1, w2, w3, w4, w5, w6, w7, w9⟩ := un_dtAlloc h
  simp only [bnd, bndL, Bool.and_eq_true, Bool.true_and, Bool.and_true, true_and, and_true] at hb
  show bnd B c5 = true
  simp [hb]
theorem bi_dtAlloc_9 {B : Nat} {u : AV} (h : tyV dtAlloc u) (hb : bnd B u = true) : bnd B (shS Sh.any (hdV (tlV (tlV (tlV (tlV (tlV (tlV (tlV (tlV (tlV u.aggOf))))))))))) = true := by
  obtain ⟨c0, c1, c2, c3, c4, c5, c6, c7, c8, c9, rfl, w0, w1, w2, w3, w4, w5, w6, w7, w9⟩ := un_dtAlloc h
  simp only [bnd, bndL, Bool.and_eq_true, Bool.true_and, Bool.and_true, true_and, and_true] at hb
  show bnd B c9 = true
  simp [hb]
theorem un_dtState {u : AV} (h : tyV dtState u) : ∃ (c0 : Int) (c1 : Int) (c2 : Int) (c3 : Int) (c4 : AV), u = .agg [.int .i64 c0, .int .i64 c1, .int .i64 c2, .int .i64 c3, c4] ∧ (Lit.int .i64 c0).wf = true ∧ (Lit.int .i64 c1).wf = true ∧ (Lit.int .i64 c2).wf = true ∧ (Lit.int .i64 c3).wf = true ∧ tyV (.sl 10 dtAlloc) c4 := by
  obtain ⟨us, rfl, h⟩ := h
  obtain ⟨_, _, rfl, -, ⟨c0, rfl, w0⟩, ⟨_, _, rfl, -, ⟨c1, rfl, w1⟩, ⟨_, _, rfl, -, ⟨c2, rfl, w2⟩, ⟨_, _, rfl, -, ⟨c3, rfl, w3⟩, ⟨_, _, rfl, -, s4, z0⟩⟩⟩⟩⟩ := h
  obtain ⟨c4, rfl, w4⟩ := sl_un s4
  obtain rfl : _ = [] := z0
  exact ⟨c0, c1, c2, c3, c4, rfl, w0, w1, w2, w3, w4⟩
theorem mk_dtState {c0 : Int} {c1 : Int} {c2 : Int} {c3 : Int} {c4 : AV} (w0 : (Lit.int .i64 c0).wf = true) (w1 : (Lit.int .i64 c1).wf = true) (w2 : (Lit.int .i64 c2).wf = true) (w3 : (Lit.int .i64 c3).wf = true) (w4 : tyV (.sl 10 dtAlloc) c4) : tyV dtState (.agg [.int .i64 c0, .int .i64 c1, .int .i64 c2, .int .i64 c3, c4]) := by
  exact ⟨_, rfl, ⟨[.int .i64 c0], [.int .i64 c1, .int .i64 c2, .int .i64 c3, c4], rfl, rfl, ⟨c0, rfl, w0⟩, ⟨[.int .i64 c1], [.int .i64 c2, .int .i64 c3, c4], rfl, rfl, ⟨c1, rfl, w1⟩, ⟨[.int .i64 c2], [.int .i64 c3, c4], rfl, rfl, ⟨c2, rfl, w2⟩, ⟨[.int .i64 c3], [c4], rfl, rfl, ⟨c3, rfl, w3⟩, ⟨[c4], [], rfl, rfl, w4, rfl⟩⟩⟩⟩⟩⟩
theorem pw_dtState_0 {u : AV} (h : tyV dtState u) : (Lit.int .i64 (hdV u.aggOf).numOf).wf = true := by
  obtain ⟨c0, c1, c2, c3, c4, rfl, w0, w1, w2, w3, w4⟩ := un_dtState h
  exact w0
theorem pw_dtState_1 {u : AV} (h : tyV dtState u) : (Lit.int .i64 (hdV (tlV u.aggOf)).numOf).wf = true := by
  obtain ⟨c0, c1, c2, c3, c4, rfl, w0, w1, w2, w3, w4⟩ := un_dtState h
  exact w1
theorem pw_dtState_2 {u : AV} (h : tyV dtState u) : (Lit.int .i64 (hdV (tlV (tlV u.aggOf))).numOf).wf = true := by
  obtain ⟨c0, c1, c2, c3, c4, rfl, w0, w1, w2, w3, w4⟩ := un_dtState h
  exact w2
theorem pw_dtState_3 {u : AV} (h : tyV dtState u) : (Lit.int .i64 (hdV (tlV (tlV (tlV u.aggOf)))).numOf).wf = true := by
  obtain ⟨c0, c1, c2, c3, c4, rfl, w0, w1, w2, w3, w4⟩ := un_dtState h
  exact w3
theorem pj_dtState_4 {u : AV} (h : tyV dtState u) : tyV (.sl 10 dtAlloc) (shS Sh.any (hdV (tlV (tlV (tlV (tlV u.aggOf)))))) := by
  obtain ⟨c0, c1, c2, c3, c4, rfl, w0, w1, w2, w3, w4⟩ := un_dtState h
  exact w4
theorem bj_dtState {B : Nat} {u : AV} (h : tyV dtState u) (h4 : bnd B (shS Sh.any (hdV (tlV (tlV (tlV (tlV u.aggOf)))))) = true) : bnd B u = true := by
  obtain ⟨c0, c1, c2, c3, c4, rfl, w0, w1, w2, w3, w4⟩ := un_dtState h
  replace h4 : bnd B c4 = true := h4
  simp only [bnd, bndL, h4]
  rfl
theorem bi_dtState_4 {B : Nat} {u : AV} (h : tyV dtState u) (hb : bnd B u = true) : bnd B (shS Sh.any (hdV (tlV (tlV (tlV (tlV u.aggOf)))))) = true := by
  obtain ⟨c0, c1, c2, c3, c4, rfl, w0, w1, w2, w3, w4⟩ := un_dtState h
  simp only [bnd, bndL, Bool.and_eq_true, Bool.true_and, Bool.and_true, true_and, and_true] at hb
  show bnd B c4 = true
  simp [hb]
theorem un_dtRec {u : AV} (h : tyV dtRec u) : ∃ (c0 : Int) (c1 : Int) (c2 : Int) (c3 : Int) (c4 : Int) (c5 : Int) (c6 : AV) (c7 : AV) (c8 : Int) (c9 : Int) (c10 : Int) (c11 : Int) (c12 : Int) (c13 : Int) (c14 : Int), u = .agg [.int .u8 c0, .int .i64 c1, .int .i64 c2, .int .i64 c3, .int .i64 c4, .int .i64 c5, c6, c7, .int .i64 c8, .int .i64 c9, .int .i64 c10, .int .i64 c11, .int .i64 c12, .int .i64 c13, .int .i64 c14] ∧ (Lit.int .u8 c0).wf = true ∧ (Lit.int .i64 c1).wf = true ∧ (Lit.int .i64 c2).wf = true ∧ (Lit.int .i64 c3).wf = true ∧ (Lit.int .i64 c4).wf = true ∧ (Lit.int .i64 c5).wf = true ∧ tyV (.sl 1 dtI) c6 ∧ tyV (.sl 6 dtTS) c7 ∧ (Lit.int .i64 c8).wf = true ∧ (Lit.int .i64 c9).wf = true ∧ (Lit.int .i64 c10).wf = true ∧ (Lit.int .i64 c11).wf = true ∧ (Lit.int .i64 c12).wf = true ∧ (Lit.int .i64 c13).wf = true ∧ (Lit.int .i64 c14).wf = true := by
  obtain ⟨us, rfl, h⟩ := h
  obtain ⟨_, _, rfl, -, ⟨c0, rfl, w0⟩, ⟨_, _, rfl, -, ⟨c1, rfl, w1⟩, ⟨_, _, rfl, -, ⟨_, _, rfl, -, ⟨c2, rfl, w2⟩, ⟨_, _, rfl, -, ⟨_, _, rfl, -, ⟨c3, rfl, w3⟩, ⟨_, _, rfl, -, ⟨c4, rfl, w4⟩, ⟨_, _, rfl, -, ⟨c5, rfl, w5⟩, z0⟩⟩⟩, ⟨_, _, rfl, -, s6, ⟨_, _, rfl, -, s7, z1⟩⟩⟩⟩, ⟨_, _, rfl, -, ⟨c8, rfl, w8⟩, ⟨_, _, rfl, -, ⟨c9, rfl, w9⟩, ⟨_, _, rfl, -, ⟨c10, rfl, w10⟩, ⟨_, _, rfl, -, ⟨c11, rfl, w11⟩, ⟨_, _, rfl, -, ⟨c12, rfl, w12⟩, ⟨_, _, rfl, -, ⟨c13, rfl, w13⟩, ⟨_, _, rfl, -, ⟨c14, rfl, w14⟩, z2⟩⟩⟩⟩⟩⟩⟩⟩⟩⟩ := h
  obtain rfl : _ = [] := z0
  obtain ⟨c6, rfl, w6⟩ := sl_un s6
  obtain ⟨c7, rfl, w7⟩ := sl_un s7
  obtain rfl : _ = [] := z1
  obtain rfl : _ = [] := z2
  exact ⟨c0, c1, c2, c3, c4, c5, c6, c7, c8, c9, c10, c11, c12, c13, c14, rfl, w0, w1, w2, w3, w4, w5, w6, w7, w8, w9, w10, w11, w12, w13, w14⟩
theorem mk_dtRec {c0 : Int} {c1 : Int} {c2 : Int} {c3 : Int} {c4 : Int} {c5 : Int} {c6 : AV} {c7 : AV} {c8 : Int} {c9 : Int} {c10 : Int} {c11 : Int} {c12 : Int} {c13 : Int} {c14 : Int} (w0 : (Lit.int .u8 c0).wf = true) (w1 : (Lit.int .i64 c1).wf = true) (w2 : (Lit.int .i64 c2).wf = true) (w3 : (Lit.int .i64 c3).wf = true) (w4 : (Lit.int .i64 c4).wf = true) (w5 : (Lit.int .i64 c5).wf = true) (w6 : tyV (.sl 1 dtI) c6) (w7 : tyV (.sl 6 dtTS) c7) (w8 : (Lit.int .i64 c8).wf = true) (w9 : (Lit.int .i64 c9).wf = true) (w10 : (Lit.int .i64 c10).wf = true) (w11 : (Lit.int .i64 c11).wf = true) (w12 : (Lit.int .i64 c12).wf = true) (w13 : (Lit.int .i64 c13).wf = true) (w14 : (Lit.int .i64 c14).wf = true) : tyV dtRec (.agg [.int .u8 c0, .int .i64 c1, .int .i64 c2, .int .i64 c3, .int .i64 c4, .int .i64 c5, c6, c7, .int .i64 c8, .int .i64 c9, .int .i64 c10, .int .i64 c11, .int .i64 c12, .int .i64 c13, .int .i64 c14]) := by
  exact ⟨_, rfl, ⟨[.int .u8 c0], [.int .i64 c1, .int .i64 c2, .int .i64 c3, .int .i64 c4, .int .i64 c5, c6, c7, .int .i64 c8, .int .i64 c9, .int .i64 c10, .int .i64 c11, .int .i64 c12, .int .i64 c13, .int .i64 c14], rfl, rfl, ⟨c0, rfl, w0⟩, ⟨[.int .i64 c1], [.int .i64 c2, .int .i64 c3, .int .i64 c4, .int .i64 c5, c6, c7, .int .i64 c8, .int .i64 c9, .int .i64 c10, .int .i64 c11, .int .i64 c12, .int .i64 c13, .int .i64 c14], rfl, rfl, ⟨c1, rfl, w1⟩, ⟨[.int .i64 c2, .int .i64 c3, .int .i64 c4, .int .i64 c5, c6, c7], [.int .i64 c8, .int .i64 c9, .int .i64 c10, .int .i64 c11, .int .i64 c12, .int .i64 c13, .int .i64 c14], rfl, rfl, ⟨[.int .i64 c2], [.int .i64 c3, .int .i64 c4, .int .i64 c5, c6, c7], rfl, rfl, ⟨c2, rfl, w2⟩, ⟨[.int .i64 c3, .int .i64 c4, .int .i64 c5], [c6, c7], rfl, rfl, ⟨[.int .i64 c3], [.int .i64 c4, .int .i64 c5], rfl, rfl, ⟨c3, rfl, w3⟩, ⟨[.int .i64 c4], [.int .i64 c5], rfl, rfl, ⟨c4, rfl, w4⟩, ⟨[.int .i64 c5], [], rfl, rfl, ⟨c5, rfl, w5⟩, rfl⟩⟩⟩, ⟨[c6], [c7], rfl, rfl, w6, ⟨[c7], [], rfl, rfl, w7, rfl⟩⟩⟩⟩, ⟨[.int .i64 c8], [.int .i64 c9, .int .i64 c10, .int .i64 c11, .int .i64 c12, .int .i64 c13, .int .i64 c14], rfl, rfl, ⟨c8, rfl, w8⟩, ⟨[.int .i64 c9], [.int .i64 c10, .int .i64 c11, .int .i64 c12, .int .i64 c13, .int .i64 c14], rfl, rfl, ⟨c9, rfl, w9⟩, ⟨[.int .i64 c10], [.int .i64 c11, .int .i64 c12, .int .i64 c13, .int .i64 c14], rfl, rfl, ⟨c10, rfl, w10⟩, ⟨[.int .i64 c11], [.int .i64 c12, .int .i64 c13, .int .i64 c14], rfl, rfl, ⟨c11, rfl, w11⟩, ⟨[.int .i64 c12], [.int .i64 c13, .int .i64 c14], rfl, rfl, ⟨c12, rfl, w12⟩, ⟨[.int .i64 c13], [.int .i64 c14], rfl, rfl, ⟨c13, rfl, w13⟩, ⟨[.int .i64 c14], [], rfl, rfl, ⟨c14, rfl, w14⟩, rfl⟩⟩⟩⟩⟩⟩⟩⟩⟩⟩⟩
theorem pw_dtRec_0 {u : AV} (h : tyV dtRec u) : (Lit.int .u8 (hdV u.aggOf).numOf).wf = true := by
  obtain ⟨c0, c1, c2, c3, c4, c5, c6, c7, c8, c9, c10, c11, c12, c13, c14, rfl, w0, w1, w2, w3, w4, w5, w6, w7, w8, w9, w10, w11, w12, w13, w14⟩ := un_dtRec h
  exact w0
theorem pw_dtRec_1 {u : AV} (h : tyV dtRec u) : (Lit.int .i64 (hdV (tlV u.aggOf)).numOf).wf = true := by
  obtain ⟨c0, c1, c2, c3, c4, c5, c6, c7, c8, c9, c10, c11, c12, c13, c14, rfl, w0, w1, w2, w3, w4, w5, w6, w7, w8, w9, w10, w11, w12, w13, w14⟩ := un_dtRec h
  exact w1
theorem pw_dtRec_2 {u : AV} (h : tyV dtRec u) : (Lit.int .i64 (hdV (tlV (tlV u.aggOf))).numOf).wf = true := by
  obtain ⟨c0, c1, c2, c3, c4, c5, c6, c7, c8, c9, c10, c11, c12, c13, c14, rfl, w0, w1, w2, w3, w4, w5, w6, w7, w8, w9, w10, w11, w12, w13, w14⟩ := un_dtRec h
  exact w2
theorem pw_dtRec_3 {u : AV} (h : tyV dtRec u) : (Lit.int .i64 (hdV (tlV (tlV (tlV u.aggOf)))).numOf).wf = true := by
  obtain ⟨c0, c1, c2, c3, c4, c5, c6, c7, c8, c9, c10, c11, c12, c13, c14, rfl, w0, w1, w2, w3, w4, w5, w6, w7, w8, w9, w10, w11, w12, w13, w14⟩ := un_dtRec h
  exact w3
theorem pw_dtRec_4 {u : AV} (h : tyV dtRec u) : (Lit.int .i64 (hdV (tlV (tlV (tlV (tlV u.aggOf))))).numOf).wf = true := by
  obtain ⟨c0, c1, c2, c3, c4, c5, c6, c7, c8, c9, c10, c11, c12, c13, c14, rfl, w0, w1, w2, w3, w4, w5, w6, w7, w8, w9, w10, w11, w12, w13, w14⟩ := un_dtRec h
  exact w4
theorem pw_dtRec_5 {u : AV} (h : tyV dtRec u) : (Lit.int .i64 (hdV (tlV (tlV (tlV (tlV (tlV u.aggOf)))))).numOf).wf = true := by
  obtain ⟨c0, c1, c2, c3, c4, c5, c6, c7, c8, c9, c10, c11, c12, c13, c14, rfl, w0, w1, w2, w3, w4, w5, w6, w7, w8, w9, w10, w11, w12, w13, w14⟩ := un_dtRec h
  exact w5
theorem pj_dtRec_6 {u : AV} (h : tyV dtRec u) : tyV (.sl 1 dtI) (shS Sh.any (hdV (tlV (tlV (tlV (tlV (tlV (tlV u.aggOf)))))))) := by
  obtain ⟨c0, c1, c2, c3, c4, c5, c6, c7, c8, c9, c10, c11, c12, c13, c14, rfl, w0, w1, w2, w3, w4, w5, w6, w7, w8, w9, w10, w11, w12, w13, w14⟩ := un_dtRec h
  exact w6
theorem pj_dtRec_7 {u : AV} (h : tyV dtRec u) : tyV (.sl 6 dtTS) (shS Sh.any (hdV (tlV (tlV (tlV (tlV (tlV (tlV (tlV u.aggOf))))))))) := by
  obtain ⟨c0, c1, c2, c3, c4, c5, c6, c7, c8, c9, c10, c11, c12, c13, c14, rfl, w0, w1, w2, w3, w4, w5, w6, w7, w8, w9, w10, w11, w12, w13, w14⟩ := un_dtRec h
  exact w7
theorem pw_dtRec_8 {u : AV} (h : tyV dtRec u) : (Lit.int .i64 (hdV (tlV (tlV (tlV (tlV (tlV (tlV (tlV (tlV u.aggOf))))))))).numOf).wf = true := by
  obtain ⟨c0, c1, c2, c3, c4, c5, c6, c7, c8, c9, c10, c11, c12, c13, c14, rfl, w0, w1, w2, w3, w4, w5, w6, w7, w8, w9, w10, w11, w12, w13, w14⟩ := un_dtRec h
  exact w8
theorem pw_dtRec_9 {u : AV} (h : tyV dtRec u) : (Lit.int .i64 (hdV (tlV (tlV (tlV (tlV (tlV (tlV (tlV (tlV (tlV u.aggOf)))))))))).numOf).wf = true := by
  obtain ⟨c0, c1, c2, c3, c4, c5, c6, c7, c8, c9, c10, c11, c12, c13, c14, rfl, w0, w1, w2, w3, w4, w5, w6, w7, w8, w9, w10, w11, w12, w13, w14⟩ := un_dtRec h
  exact w9
theorem pw_dtRec_10 {u : AV} (h : tyV dtRec u) : (Lit.int .i64 (hdV (tlV (tlV (tlV (tlV (tlV (tlV (tlV (tlV (tlV (tlV u.aggOf))))))))))).numOf).wf = true := by
  obtain ⟨c0, c1, c2, c3, c4, c5, c6, c7, c8, c9, c10, c11, c12, c13, c14, rfl, w0, w1, w2, w3, w4, w5, w6, w7, w8, w9, w10, w11, w12, w13, w14⟩ := un_dtRec h
  exact w10
theorem pw_dtRec_11 {u : AV} (h : tyV dtRec u) : (Lit.int .i64 (hdV (tlV (tlV (tlV (tlV (tlV (tlV (tlV (tlV (tlV (tlV (tlV u.aggOf)))))))))))).numOf).wf = true := by
  obtain ⟨c0, c1, c2, c3, c4, c5, c6, c7, c8, c9, c10, c11, c12, c13, c14, rfl, w0, w1, w2, w3, w4, w5, w6, w7, w8, w9, w10, w11, w12, w13, w14⟩ := un_dtRec h
  exact w11
theorem pw_dtRec_12 {u : AV} (h : tyV dtRec u) : (Lit.int .i64 (hdV (tlV (tlV (tlV (tlV (tlV (tlV (tlV (tlV (tlV (tlV (tlV (tlV u.aggOf))))))))))))).numOf).wf = true := by
  obtain ⟨c0, c1, c2, c3, c4, c5, c6, c7, c8, c9, c10, c11, c12, c13, c14, rfl, w0, w1, w2, w3, w4, w5, w6, w7, w8, w9, w10, w11, w12, w13, w14⟩ := un_dtRec h
  exact w12
theorem pw_dtRec_13 {u : AV} (h : tyV dtRec u) : (Lit.int .i64 (hdV (tlV (tlV (tlV (tlV (tlV (tlV (tlV (tlV (tlV (tlV (tlV (tlV (tlV u.aggOf)))))))))))))).numOf).wf = true := by
  obtain ⟨c0, c1, c2, c3, c4, c5, c6, c7, c8, c9, c10, c11, c12, c13, c14, rfl, w0, w1, w2, w3, w4, w5, w6, w7, w8, w9, w10, w11, w12, w13, w14⟩ := un_dtRec h
  exact w13
theorem pw_dtRec_14 {u : AV} (h : tyV dtRec u) : (Lit.int .i64 (hdV (tlV (tlV (tlV (tlV (tlV (tlV (tlV (tlV (tlV (tlV (tlV (tlV (tlV (tlV u.aggOf))))))))))))))).numOf).wf = true := by
  obtain ⟨c0, c1, c2, c3, c4, c5, c6, c7, c8, c9, c10, c11, c12, c13, c14, rfl, w0, w1, w2, w3, w4, w5, w6, w7, w8, w9, w10, w11, w12, w13, w14⟩ := un_dtRec h
  exact w14
theorem bj_dtRec {B : Nat} {u : AV} (h : tyV dtRec u) (h6 : bnd B (shS Sh.any (hdV (tlV (tlV (tlV (tlV (tlV (tlV u.aggOf)))))))) = true) (h7 : bnd B (shS Sh.any (hdV (tlV (tlV (tlV (tlV (tlV (tlV (tlV u.aggOf))))))))) = true) : bnd B u = true := by
  obtain ⟨c0, c1, c2, c3, c4, c5, c6, c7, c8, c9, c10, c11, c12, c13, c14, rfl, w0, w1, w2, w3, w4, w5, w6, w7, w8, w9, w10, w11, w12, w13, w14⟩ := un_dtRec h
  replace h6 : bnd B c6 = true := h6
  replace h7 : bnd B c7 = true := h7
  simp only [bnd, bndL, h6, h7]
  rfl
theorem bi_dtRec_6 {B : Nat} {u : AV} (h : tyV dtRec u) (hb : bnd B u = true) : bnd B (shS Sh.any (hdV (tlV (tlV (tlV (tlV (tlV (tlV u.aggOf)))))))) = true := by
  obtain ⟨c0, c1, c2, c3, c4, c5, c6, c7, c8, c9, c10, c11, c12, c13, c14, rfl, w0, w1, w2, w3, w4, w5, w6, w7, w8, w9, w10, w11, w12, w13, w14⟩ := un_dtRec h
  simp only [bnd, bndL, Bool.and_eq_true, Bool.true_and, Bool.and_true, true_and, and_true] at hb
  show bnd B c6 = true
  simp [hb]
theorem bi_dtRec_7 {B : Nat} {u : AV} (h : tyV dtRec u) (hb : bnd B u = true) : bnd B (shS Sh.any (hdV (tlV (tlV (tlV (tlV (tlV (tlV (tlV u.aggOf))))))))) = true := by
  obtain ⟨c0, c1, c2, c3, c4, c5, c6, c7, c8, c9, c10, c11, c12, c13, c14, rfl, w0, w1, w2, w3, w4, w5, w6, w7, w8, w9, w10, w11, w12, w13, w14⟩ := un_dtRec h
  simp only [bnd, bndL, Bool.and_eq_true, Bool.true_and, Bool.and_true, true_and, and_true] at hb
  show bnd B c7 = true
  simp [hb]
theorem un_dtMom {u : AV} (h : tyV dtMom u) : ∃ (c0 : Int) (c1 : Bool) (c2 : Bool) (c3 : Bool) (c4 : Int) (c5 : Int) (c6 : Int) (c7 : Int) (c8 : AV) (c9 : AV) (c10 : AV) (c11 : Int) (c12 : AV) (c13 : AV), u = .agg [.int .i64 c0, .bool c1, .bool c2, .bool c3, .int .i64 c4, .int .i64 c5, .int .i64 c6, .int .i64 c7, c8, c9, c10, .int .i64 c11, c12, c13] ∧ (Lit.int .i64 c0).wf = true ∧ (Lit.int .i64 c4).wf = true ∧ (Lit.int .i64 c5).wf = true ∧ (Lit.int .i64 c6).wf = true ∧ (Lit.int .i64 c7).wf = true ∧ tyV (.sl 10 dtAlloc) c8 ∧ tyV (.sl 9 dtProc) c9 ∧ tyV (.sl 1 dtI) c10 ∧ (Lit.int .i64 c11).wf = true ∧ tyV (.sl 15 dtRec) c12 ∧ tyV (.sl 15 dtRec) c13 := by
  obtain ⟨us, rfl, h⟩ := h
  obtain ⟨_, _, rfl, -, ⟨c0, rfl, w0⟩, ⟨_, _, rfl, -, ⟨c1, rfl⟩, ⟨_, _, rfl, -, ⟨c2, rfl⟩, ⟨_, _, rfl, -, ⟨c3, rfl⟩, ⟨_, _, rfl, -, ⟨_, _, rfl, -, ⟨c4, rfl, w4⟩, ⟨_, _, rfl, -, ⟨c5, rfl, w5⟩, ⟨_, _, rfl, -, ⟨c6, rfl, w6⟩, ⟨_, _, rfl, -, ⟨c7, rfl, w7⟩, ⟨_, _, rfl, -, s8, z0⟩⟩⟩⟩⟩, ⟨_, _, rfl, -, s9, ⟨_, _, rfl, -, s10, ⟨_, _, rfl, -, ⟨c11, rfl, w11⟩, ⟨_, _, rfl, -, s12, ⟨_, _, rfl, -, s13, z1⟩⟩⟩⟩⟩⟩⟩⟩⟩⟩ := h
  obtain ⟨c8, rfl, w8⟩ := sl_un s8
  obtain rfl : _ = [] := z0
  obtain ⟨c9, rfl, w9⟩ := sl_un s9
  obtain ⟨c10, rfl, w10⟩ := sl_un s10
  obtain ⟨c12, rfl, w12⟩ := sl_un s12
  obtain ⟨c13, rfl, w13⟩ := sl_un s13
  obtain rfl : _ = [] := z1
  exact ⟨c0, c1, c2, c3, c4, c5, c6, c7, c8, c9, c10, c11, c12, c13, rfl, w0, w4, w5, w6, w7, w8, w9, w10, w11, w12, w13⟩
theorem mk_dtMom {c0 : Int} {c1 : Bool} {c2 : Bool} {c3 : Bool} {c4 : Int} {c5 : Int} {c6 : Int} {c7 : Int} {c8 : AV} {c9 : AV} {c10 : AV} {c11 : Int} {c12 : AV} {c13 : AV} (w0 : (Lit.int .i64 c0).wf = true) (w4 : (Lit.int .i64 c4).wf = true) (w5 : (Lit.int .i64 c5).wf = true) (w6 : (Lit.int .i64 c6).wf = true) (w7 : (Lit.int .i64 c7).wf = true) (w8 : tyV (.sl 10 dtAlloc) c8) (w9 : tyV (.sl 9 dtProc) c9) (w10 : tyV (.sl 1 dtI) c10) (w11 : (Lit.int .i64 c11).wf = true) (w12 : tyV (.sl 15 dtRec) c12) (w13 : tyV (.sl 15 dtRec) c13) : tyV dtMom (.agg [.int .i64 c0, .bool c1, .bool c2, .bool c3, .int .i64 c4, .int .i64 c5, .int .i64 c6, .int .i64 c7, c8, c9, c10, .int .i64 c11, c12, c13]) := by
  exact ⟨_, rfl, ⟨[.int .i64 c0], [.bool c1, .bool c2, .bool c3, .int .i64 c4, .int .i64 c5, .int .i64 c6, .int .i64 c7, c8, c9, c10, .int .i64 c11, c12, c13], rfl, rfl, ⟨c0, rfl, w0⟩, ⟨[.bool c1], [.bool c2, .bool c3, .int .i64 c4, .int .i64 c5, .int .i64 c6, .int .i64 c7, c8, c9, c10, .int .i64 c11, c12, c13], rfl, rfl, ⟨c1, rfl⟩, ⟨[.bool c2], [.bool c3, .int .i64 c4, .int .i64 c5, .int .i64 c6, .int .i64 c7, c8, c9, c10, .int .i64 c11, c12, c13], rfl, rfl, ⟨c2, rfl⟩, ⟨[.bool c3], [.int .i64 c4, .int .i64 c5, .int .i64 c6, .int .i64 c7, c8, c9, c10, .int .i64 c11, c12, c13], rfl, rfl, ⟨c3, rfl⟩, ⟨[.int .i64 c4, .int .i64 c5, .int .i64 c6, .int .i64 c7, c8], [c9, c10, .int .i64 c11, c12, c13], rfl, rfl, ⟨[.int .i64 c4], [.int .i64 c5, .int .i64 c6, .int .i64 c7, c8], rfl, rfl, ⟨c4, rfl, w4⟩, ⟨[.int .i64 c5], [.int .i64 c6, .int .i64 c7, c8], rfl, rfl, ⟨c5, rfl, w5⟩, ⟨[.int .i64 c6], [.int .i64 c7, c8], rfl, rfl, ⟨c6, rfl, w6⟩, ⟨[.int .i64 c7], [c8], rfl, rfl, ⟨c7, rfl, w7⟩, ⟨[c8], [], rfl, rfl, w8, rfl⟩⟩⟩⟩⟩, ⟨[c9], [c10, .int .i64 c11, c12, c13], rfl, rfl, w9, ⟨[c10], [.int .i64 c11, c12, c13], rfl, rfl, w10, ⟨[.int .i64 c11], [c12, c13], rfl, rfl, ⟨c11, rfl, w11⟩, ⟨[c12], [c13], rfl, rfl, w12, ⟨[c13], [], rfl, rfl, w13, rfl⟩⟩⟩⟩⟩⟩⟩⟩⟩⟩⟩
theorem pw_dtMom_0 {u : AV} (h : tyV dtMom u) : (Lit.int .i64 (hdV u.aggOf).numOf).wf = true := by
  obtain ⟨c0, c1, c2, c3, c4, c5, c6, c7, c8, c9, c10, c11, c12, c13, rfl, w0, w4, w5, w6, w7, w8, w9, w10, w11, w12, w13⟩ := un_dtMom h
  exact w0
theorem pw_dtMom_4 {u : AV} (h : tyV dtMom u) : (Lit.int .i64 (hdV (tlV (tlV (tlV (tlV u.aggOf))))).numOf).wf = true := by
  obtain ⟨c0, c1, c2, c3, c4, c5, c6, c7, c8, c9, c10, c11, c12, c13, rfl, w0, w4, w5, w6, w7, w8, w9, w10, w11, w12, w13⟩ := un_dtMom h
  exact w4
theorem pw_dtMom_5 {u : AV} (h : tyV dtMom u) : (Lit.int .i64 (hdV (tlV (tlV (tlV (tlV (tlV u.aggOf)))))).numOf).wf = true := by
  obtain ⟨c0, c1, c2, c3, c4, c5, c6, c7, c8, c9, c10, c11, c12, c13, rfl, w0, w4, w5, w6, w7, w8, w9, w10, w11, w12, w13⟩ := un_dtMom h
  exact w5
theorem pw_dtMom_6 {u : AV} (h : tyV dtMom u) : (Lit.int .i64 (hdV (tlV (tlV (tlV (tlV (tlV (tlV u.aggOf))))))).numOf).wf = true := by
  obtain ⟨c0, c1, c2, c3, c4, c5, c6, c7, c8, c9, c10, c11, c12, c13, rfl, w0, w4, w5, w6, w7, w8, w9, w10, w11, w12, w13⟩ := un_dtMom h
  exact w6
theorem pw_dtMom_7 {u : AV} (h : tyV dtMom u) : (Lit.int .i64 (hdV (tlV (tlV (tlV (tlV (tlV (tlV (tlV u.aggOf)))))))).numOf).wf = true := by
  obtain ⟨c0, c1, c2, c3, c4, c5, c6, c7, c8, c9, c10, c11, c12, c13, rfl, w0, w4, w5, w6, w7, w8, w9, w10, w11, w12, w13⟩ := un_dtMom h
  exact w7
theorem pj_dtMom_8 {u : AV} (h : tyV dtMom u) : tyV (.sl 10 dtAlloc) (shS Sh.any (hdV (tlV (tlV (tlV (tlV (tlV (tlV (tlV (tlV u.aggOf)))))))))) := by
  obtain ⟨c0, c1, c2, c3, c4, c5, c6, c7, c8, c9, c10, c11, c12, c13, rfl, w0, w4, w5, w6, w7, w8, w9, w10, w11, w12, w13⟩ := un_dtMom h
  exact w8
theorem pj_dtMom_9 {u : AV} (h : tyV dtMom u) : tyV (.sl 9 dtProc) (shS Sh.any (hdV (tlV (tlV (tlV (tlV (tlV (tlV (tlV (tlV (tlV u.aggOf))))))))))) := by
  obtain ⟨c0, c1, c2, c3, c4, c5, c6, c7, c8, c9, c10, c11, c12, c13, rfl, w0, w4, w5, w6, w7, w8, w9, w10, w11, w12, w13⟩ := un_dtMom h
  exact w9
theorem pj_dtMom_10 {u : AV} (h : tyV dtMom u) : tyV (.sl 1 dtI) (shS Sh.any (hdV (tlV (tlV (tlV (tlV (tlV (tlV (tlV (tlV (tlV (tlV u.aggOf)))))))))))) := by
  obtain ⟨c0, c1, c2, c3, c4, c5, c6, c7, c8, c9, c10, c11, c12, c13, rfl, w0, w4, w5, w6, w7, w8, w9, w10, w11, w12, w13⟩ := un_dtMom h
  exact w10
theorem pw_dtMom_11 {u : AV} (h : tyV dtMom u) : (Lit.int .i64 (hdV (tlV (tlV (tlV (tlV (tlV (tlV (tlV (tlV (tlV (tlV (tlV u.aggOf)))))))))))).numOf).wf = true := by
  obtain ⟨c0, c1, c2, c3, c4, c5, c6, c7, c8, c9, c10, c11, c12, c13, rfl, w0, w4, w5, w6, w7, w8, w9, w10, w11, w12, w13⟩ := un_dtMom h
  exact w11
theorem pj_dtMom_12 {u : AV} (h : tyV dtMom u) : tyV (.sl 15 dtRec) (shS Sh.any (hdV (tlV (tlV (tlV (tlV (tlV (tlV (tlV (tlV (tlV (tlV (tlV (tlV u.aggOf)))))))))))))) := by
  obtain ⟨c0, c1, c2, c3, c4, c5, c6, c7, c8, c9, c10, c11, c12, c13, rfl, w0, w4, w5, w6, w7, w8, w9, w10, w11, w12, w13⟩ := un_dtMom h
  exact w12
theorem pj_dtMom_13 {u : AV} (h : tyV dtMom u) : tyV (.sl 15 dtRec) (shS Sh.any (hdV (tlV (tlV (tlV (tlV (tlV (tlV (tlV (tlV (tlV (tlV (tlV (tlV (tlV u.aggOf))))))))))))))) := by
  obtain ⟨c0, c1, c2, c3, c4, c5, c6, c7, c8, c9, c10, c11, c12, c13, rfl, w0, w4, w5, w6, w7, w8, w9, w10, w11, w12, w13⟩ := un_dtMom h
  exact w13
theorem bj_dtMom {B : Nat} {u : AV} (h : tyV dtMom u) (h8 : bnd B (shS Sh.any (hdV (tlV (tlV (tlV (tlV (tlV (tlV (tlV (tlV u.aggOf)))))))))) = true) (h9 : bnd B (shS Sh.any (hdV (tlV (tlV (tlV (tlV (tlV (tlV (tlV (tlV (tlV u.aggOf))))))))))) = true) (h10 : bnd B (shS Sh.any (hdV (tlV (tlV (tlV (tlV (tlV (tlV (tlV (tlV (tlV (tlV u.aggOf)))))))))))) = true) (h12 : bnd B (shS Sh.any (hdV (tlV (tlV (tlV (tlV (tlV (tlV (tlV (tlV (tlV (tlV (tlV (tlV u.aggOf)))))))))))))) = true) (h13 : bnd B (shS Sh.any (hdV (tlV (tlV (tlV (tlV (tlV (tlV (tlV (tlV (tlV (tlV (tlV (tlV (tlV u.aggOf))))))))))))))) = true) : bnd B u = true := by
  obtain ⟨c0, c1, c2, c3, c4, c5, c6, c7, c8, c9, c10, c11, c12, c13, rfl, w0, w4, w5, w6, w7, w8, w9, w10, w11, w12, w13⟩ := un_dtMom h
  replace h8 : bnd B c8 = true := h8
  replace h9 : bnd B c9 = true := h9
  replace h10 : bnd B c10 = true := h10
  replace h12 : bnd B c12 = true := h12
  replace h13 : bnd B c13 = true := h13
  simp only [bnd, bndL, h8, h9, h10, h12, h13]
  rfl
theorem bi_dtMom_8 {B : Nat} {u : AV} (h : tyV dtMom u) (hb : bnd B u = true) : bnd B (shS Sh.any (hdV (tlV (tlV (tlV (tlV (tlV (tlV (tlV (tlV u.aggOf)))))))))) = true := by
  obtain ⟨c0, c1, c2, c3, c4, c5, c6, c7, c8, c9, c10, c11, c12, c13, rfl, w0, w4, w5, w6, w7, w8, w9, w10, w11, w12, w13⟩ := un_dtMom h
  simp only [bnd, bndL, Bool.and_eq_true, Bool.true_and, Bool.and_true, true_and, and_true] at hb
  show bnd B c8 = true
  simp [hb]
theorem bi_dtMom_9 {B : Nat} {u : AV} (h : tyV dtMom u) (hb : bnd B u = true) : bnd B (shS Sh.any (hdV (tlV (tlV (tlV (tlV (tlV (tlV (tlV (tlV (tlV u.aggOf))))))))))) = true := by
  obtain ⟨c0, c1, c2, c3, c4, c5, c6, c7, c8, c9, c10, c11, c12, c13, rfl, w0, w4, w5, w6, w7, w8, w9, w10, w11, w12, w13⟩ := un_dtMom h
  simp only [bnd, bndL, Bool.and_eq_true, Bool.true_and, Bool.and_true, true_and, and_true] at hb
  show bnd B c9 = true
  simp [hb]
theorem bi_dtMom_10 {B : Nat} {u : AV} (h : tyV dtMom u) (hb : bnd B u = true) : bnd B (shS Sh.any (hdV (tlV (tlV (tlV (tlV (tlV (tlV (tlV (tlV (tlV (tlV u.aggOf)))))))))))) = true := by
  obtain ⟨c0, c1, c2, c3, c4, c5, c6, c7, c8, c9, c10, c11, c12, c13, rfl, w0, w4, w5, w6, w7, w8, w9, w10, w11, w12, w13⟩ := un_dtMom h
  simp only [bnd, bndL, Bool.and_eq_true, Bool.true_and, Bool.and_true, true_and, and_true] at hb
  show bnd B c10 = true
  simp [hb]
theorem bi_dtMom_12 {B : Nat} {u : AV} (h : tyV dtMom u) (hb : bnd B u = true) : bnd B (shS Sh.any (hdV (tlV (tlV (tlV (tlV (tlV (tlV (tlV (tlV (tlV (tlV (tlV (tlV u.aggOf)))))))))))))) = true := by
  obtain ⟨c0, c1, c2, c3, c4, c5, c6, c7, c8, c9, c10, c11, c12, c13, rfl, w0, w4, w5, w6, w7, w8, w9, w10, w11, w12, w13⟩ := un_dtMom h
  simp only [bnd, bndL, Bool.and_eq_true, Bool.true_and, Bool.and_true, true_and, and_true] at hb
  show bnd B c12 = true
  simp [hb]
theorem bi_dtMom_13 {B : Nat} {u : AV} (h : tyV dtMom u) (hb : bnd B u = true) : bnd B (shS Sh.any (hdV (tlV (tlV (tlV (tlV (tlV (tlV (tlV (tlV (tlV (tlV (tlV (tlV (tlV u.aggOf))))))))))))))) = true := by
  obtain ⟨c0, c1, c2, c3, c4, c5, c6, c7, c8, c9, c10, c11, c12, c13, rfl, w0, w4, w5, w6, w7, w8, w9, w10, w11, w12, w13⟩ := un_dtMom h
  simp only [bnd, bndL, Bool.and_eq_true, Bool.true_and, Bool.and_true, true_and, and_true] at hb
  show bnd B c13 = true
  simp [hb]
end Go.Proofs.Ytoagnbpmoihojaa

/- Copies and equality of the structs that a state consists of. -/
import Derived.Test.YtoagnbpmoihojaaDoorRepKit
set_option maxRecDepth 100000
set_option linter.unusedSimpArgs false
set_option linter.unusedVariables false
namespace Go.Proofs.YtoagnbpmoihojaaDoor
open Go.Sx

theorem un_dtSt {u : AV} (h : tyV dtSt u) : ∃ (c0 : Int) (c1 : Int) (c2 : Int) (c3 : Int) (c4 : Int) (c5 : Int) (c6 : Bool), u = .agg [.int .i64 c0, .int .i64 c1, .int .u8 c2, .int .i64 c3, .int .i64 c4, .int .i64 c5, .bool c6] ∧ (Lit.int .i64 c0).wf = true ∧ (Lit.int .i64 c1).wf = true ∧ (Lit.int .u8 c2).wf = true ∧ (Lit.int .i64 c3).wf = true ∧ (Lit.int .i64 c4).wf = true ∧ (Lit.int .i64 c5).wf = true := by
  obtain ⟨us, rfl, h⟩ := h
  obtain ⟨_, _, rfl, -, ⟨c0, rfl, w0⟩, ⟨_, _, rfl, -, ⟨c1, rfl, w1⟩, ⟨_, _, rfl, -, ⟨c2, rfl, w2⟩, ⟨_, _, rfl, -, ⟨c3, rfl, w3⟩, ⟨_, _, rfl, -, ⟨c4, rfl, w4⟩, ⟨_, _, rfl, -, ⟨c5, rfl, w5⟩, ⟨_, _, rfl, -, ⟨c6, rfl⟩, z0⟩⟩⟩⟩⟩⟩⟩ := h
  obtain rfl : _ = [] := z0
  exact ⟨c0, c1, c2, c3, c4, c5, c6, rfl, w0, w1, w2, w3, w4, w5⟩
theorem mk_dtSt {c0 : Int} {c1 : Int} {c2 : Int} {c3 : Int} {c4 : Int} {c5 : Int} {c6 : Bool} (w0 : (Lit.int .i64 c0).wf = true) (w1 : (Lit.int .i64 c1).wf = true) (w2 : (Lit.int .u8 c2).wf = true) (w3 : (Lit.int .i64 c3).wf = true) (w4 : (Lit.int .i64 c4).wf = true) (w5 : (Lit.int .i64 c5).wf = true) : tyV dtSt (.agg [.int .i64 c0, .int .i64 c1, .int .u8 c2, .int .i64 c3, .int .i64 c4, .int .i64 c5, .bool c6]) := by
  exact ⟨_, rfl, ⟨[.int .i64 c0], [.int .i64 c1, .int .u8 c2, .int .i64 c3, .int .i64 c4, .int .i64 c5, .bool c6], rfl, rfl, ⟨c0, rfl, w0⟩, ⟨[.int .i64 c1], [.int .u8 c2, .int .i64 c3, .int .i64 c4, .int .i64 c5, .bool c6], rfl, rfl, ⟨c1, rfl, w1⟩, ⟨[.int .u8 c2], [.int .i64 c3, .int .i64 c4, .int .i64 c5, .bool c6], rfl, rfl, ⟨c2, rfl, w2⟩, ⟨[.int .i64 c3], [.int .i64 c4, .int .i64 c5, .bool c6], rfl, rfl, ⟨c3, rfl, w3⟩, ⟨[.int .i64 c4], [.int .i64 c5, .bool c6], rfl, rfl, ⟨c4, rfl, w4⟩, ⟨[.int .i64 c5], [.bool c6], rfl, rfl, ⟨c5, rfl, w5⟩, ⟨[.bool c6], [], rfl, rfl, ⟨c6, rfl⟩, rfl⟩⟩⟩⟩⟩⟩⟩⟩
theorem pw_dtSt_0 {u : AV} (h : tyV dtSt u) : (Lit.int .i64 (hdV u.aggOf).numOf).wf = true := by
  obtain ⟨c0, c1, c2, c3, c4, c5, c6, rfl, w0, w1, w2, w3, w4, w5⟩ := un_dtSt h
  exact w0
theorem pw_dtSt_1 {u : AV} (h : tyV dtSt u) : (Lit.int .i64 (hdV (tlV u.aggOf)).numOf).wf = true := by
  obtain ⟨c0, c1, c2, c3, c4, c5, c6, rfl, w0, w1, w2, w3, w4, w5⟩ := un_dtSt h
  exact w1
theorem pw_dtSt_2 {u : AV} (h : tyV dtSt u) : (Lit.int .u8 (hdV (tlV (tlV u.aggOf))).numOf).wf = true := by
  obtain ⟨c0, c1, c2, c3, c4, c5, c6, rfl, w0, w1, w2, w3, w4, w5⟩ := un_dtSt h
  exact w2
theorem pw_dtSt_3 {u : AV} (h : tyV dtSt u) : (Lit.int .i64 (hdV (tlV (tlV (tlV u.aggOf)))).numOf).wf = true := by
  obtain ⟨c0, c1, c2, c3, c4, c5, c6, rfl, w0, w1, w2, w3, w4, w5⟩ := un_dtSt h
  exact w3
theorem pw_dtSt_4 {u : AV} (h : tyV dtSt u) : (Lit.int .i64 (hdV (tlV (tlV (tlV (tlV u.aggOf))))).numOf).wf = true := by
  obtain ⟨c0, c1, c2, c3, c4, c5, c6, rfl, w0, w1, w2, w3, w4, w5⟩ := un_dtSt h
  exact w4
theorem pw_dtSt_5 {u : AV} (h : tyV dtSt u) : (Lit.int .i64 (hdV (tlV (tlV (tlV (tlV (tlV u.aggOf)))))).numOf).wf = true := by
  obtain ⟨c0, c1, c2, c3, c4, c5, c6, rfl, w0, w1, w2, w3, w4, w5⟩ := un_dtSt h
  exact w5
theorem un_dtTS {u : AV} (h : tyV dtTS u) : ∃ (c0 : Bool) (c1 : Int) (c2 : Int) (c3 : Int) (c4 : Int) (c5 : Int), u = .agg [.bool c0, .int .i64 c1, .int .i64 c2, .int .i64 c3, .int .i64 c4, .int .i64 c5] ∧ (Lit.int .i64 c1).wf = true ∧ (Lit.int .i64 c2).wf = true ∧ (Lit.int .i64 c3).wf = true ∧ (Lit.int .i64 c4).wf = true ∧ (Lit.int .i64 c5).wf = true := by
  obtain ⟨us, rfl, h⟩ := h
  obtain ⟨_, _, rfl, -, ⟨_, _, rfl, -, ⟨c0, rfl⟩, ⟨_, _, rfl, -, ⟨c1, rfl, w1⟩, ⟨_, _, rfl, -, ⟨c2, rfl, w2⟩, ⟨_, _, rfl, -, ⟨c3, rfl, w3⟩, ⟨_, _, rfl, -, ⟨c4, rfl, w4⟩, z0⟩⟩⟩⟩⟩, ⟨_, _, rfl, -, ⟨c5, rfl, w5⟩, z1⟩⟩ := h
  obtain rfl : _ = [] := z0
  obtain rfl : _ = [] := z1
  exact ⟨c0, c1, c2, c3, c4, c5, rfl, w1, w2, w3, w4, w5⟩
theorem mk_dtTS {c0 : Bool} {c1 : Int} {c2 : Int} {c3 : Int} {c4 : Int} {c5 : Int} (w1 : (Lit.int .i64 c1).wf = true) (w2 : (Lit.int .i64 c2).wf = true) (w3 : (Lit.int .i64 c3).wf = true) (w4 : (Lit.int .i64 c4).wf = true) (w5 : (Lit.int .i64 c5).wf = true) : tyV dtTS (.agg [.bool c0, .int .i64 c1, .int .i64 c2, .int .i64 c3, .int .i64 c4, .int .i64 c5]) := by
  exact ⟨_, rfl, ⟨[.bool c0, .int .i64 c1, .int .i64 c2, .int .i64 c3, .int .i64 c4], [.int .i64 c5], rfl, rfl, ⟨[.bool c0], [.int .i64 c1, .int .i64 c2, .int .i64 c3, .int .i64 c4], rfl, rfl, ⟨c0, rfl⟩, ⟨[.int .i64 c1], [.int .i64 c2, .int .i64 c3, .int .i64 c4], rfl, rfl, ⟨c1, rfl, w1⟩, ⟨[.int .i64 c2], [.int .i64 c3, .int .i64 c4], rfl, rfl, ⟨c2, rfl, w2⟩, ⟨[.int .i64 c3], [.int .i64 c4], rfl, rfl, ⟨c3, rfl, w3⟩, ⟨[.int .i64 c4], [], rfl, rfl, ⟨c4, rfl, w4⟩, rfl⟩⟩⟩⟩⟩, ⟨[.int .i64 c5], [], rfl, rfl, ⟨c5, rfl, w5⟩, rfl⟩⟩⟩
theorem pw_dtTS_1 {u : AV} (h : tyV dtTS u) : (Lit.int .i64 (hdV (tlV u.aggOf)).numOf).wf = true := by
  obtain ⟨c0, c1, c2, c3, c4, c5, rfl, w1, w2, w3, w4, w5⟩ := un_dtTS h
  exact w1
theorem pw_dtTS_2 {u : AV} (h : tyV dtTS u) : (Lit.int .i64 (hdV (tlV (tlV u.aggOf))).numOf).wf = true := by
  obtain ⟨c0, c1, c2, c3, c4, c5, rfl, w1, w2, w3, w4, w5⟩ := un_dtTS h
  exact w2
theorem pw_dtTS_3 {u : AV} (h : tyV dtTS u) : (Lit.int .i64 (hdV (tlV (tlV (tlV u.aggOf)))).numOf).wf = true := by
  obtain ⟨c0, c1, c2, c3, c4, c5, rfl, w1, w2, w3, w4, w5⟩ := un_dtTS h
  exact w3
theorem pw_dtTS_4 {u : AV} (h : tyV dtTS u) : (Lit.int .i64 (hdV (tlV (tlV (tlV (tlV u.aggOf))))).numOf).wf = true := by
  obtain ⟨c0, c1, c2, c3, c4, c5, rfl, w1, w2, w3, w4, w5⟩ := un_dtTS h
  exact w4
theorem pw_dtTS_5 {u : AV} (h : tyV dtTS u) : (Lit.int .i64 (hdV (tlV (tlV (tlV (tlV (tlV u.aggOf)))))).numOf).wf = true := by
  obtain ⟨c0, c1, c2, c3, c4, c5, rfl, w1, w2, w3, w4, w5⟩ := un_dtTS h
  exact w5
theorem un_dtProc {u : AV} (h : tyV dtProc u) : ∃ (c0 : Int) (c1 : Int) (c2 : Int) (c3 : Int) (c4 : Int) (c5 : Bool) (c6 : Bool) (c7 : Bool) (c8 : Int), u = .agg [.int .i64 c0, .int .i64 c1, .int .i64 c2, .int .i64 c3, .int .i64 c4, .bool c5, .bool c6, .bool c7, .int .i64 c8] ∧ (Lit.int .i64 c0).wf = true ∧ (Lit.int .i64 c1).wf = true ∧ (Lit.int .i64 c2).wf = true ∧ (Lit.int .i64 c3).wf = true ∧ (Lit.int .i64 c4).wf = true ∧ (Lit.int .i64 c8).wf = true := by
  obtain ⟨us, rfl, h⟩ := h
  obtain ⟨_, _, rfl, -, ⟨c0, rfl, w0⟩, ⟨_, _, rfl, -, ⟨c1, rfl, w1⟩, ⟨_, _, rfl, -, ⟨_, _, rfl, -, ⟨c2, rfl, w2⟩, ⟨_, _, rfl, -, ⟨c3, rfl, w3⟩, ⟨_, _, rfl, -, ⟨c4, rfl, w4⟩, z0⟩⟩⟩, ⟨_, _, rfl, -, ⟨c5, rfl⟩, ⟨_, _, rfl, -, ⟨c6, rfl⟩, ⟨_, _, rfl, -, ⟨c7, rfl⟩, ⟨_, _, rfl, -, ⟨c8, rfl, w8⟩, z1⟩⟩⟩⟩⟩⟩⟩ := h
  obtain rfl : _ = [] := z0
  obtain rfl : _ = [] := z1
  exact ⟨c0, c1, c2, c3, c4, c5, c6, c7, c8, rfl, w0, w1, w2, w3, w4, w8⟩
theorem mk_dtProc {c0 : Int} {c1 : Int} {c2 : Int} {c3 : Int} {c4 : Int} {c5 : Bool} {c6 : Bool} {c7 : Bool} {c8 : Int} (w0 : (Lit.int .i64 c0).wf = true) (w1 : (Lit.int .i64 c1).wf = true) (w2 : (Lit.int .i64 c2).wf = true) (w3 : (Lit.int .i64 c3).wf = true) (w4 : (Lit.int .i64 c4).wf = true) (w8 : (Lit.int .i64 c8).wf = true) : tyV dtProc (.agg [.int .i64 c0, .int .i64 c1, .int .i64 c2, .int .i64 c3, .int .i64 c4, .bool c5, .bool c6, .bool c7, .int .i64 c8]) := by
  exact ⟨_, rfl, ⟨[.int .i64 c0], [.int .i64 c1, .int .i64 c2, .int .i64 c3, .int .i64 c4, .bool c5, .bool c6, .bool c7, .int .i64 c8], rfl, rfl, ⟨c0, rfl, w0⟩, ⟨[.int .i64 c1], [.int .i64 c2, .int .i64 c3, .int .i64 c4, .bool c5, .bool c6, .bool c7, .int .i64 c8], rfl, rfl, ⟨c1, rfl, w1⟩, ⟨[.int .i64 c2, .int .i64 c3, .int .i64 c4], [.bool c5, .bool c6, .bool c7, .int .i64 c8], rfl, rfl, ⟨[.int .i64 c2], [.int .i64 c3, .int .i64 c4], rfl, rfl, ⟨c2, rfl, w2⟩, ⟨[.int .i64 c3], [.int .i64 c4], rfl, rfl, ⟨c3, rfl, w3⟩, ⟨[.int .i64 c4], [], rfl, rfl, ⟨c4, rfl, w4⟩, rfl⟩⟩⟩, ⟨[.bool c5], [.bool c6, .bool c7, .int .i64 c8], rfl, rfl, ⟨c5, rfl⟩, ⟨[.bool c6], [.bool c7, .int .i64 c8], rfl, rfl, ⟨c6, rfl⟩, ⟨[.bool c7], [.int .i64 c8], rfl, rfl, ⟨c7, rfl⟩, ⟨[.int .i64 c8], [], rfl, rfl, ⟨c8, rfl, w8⟩, rfl⟩⟩⟩⟩⟩⟩⟩⟩
theorem pw_dtProc_0 {u : AV} (h : tyV dtProc u) : (Lit.int .i64 (hdV u.aggOf).numOf).wf = true := by
  obtain ⟨c0, c1, c2, c3, c4, c5, c6, c7, c8, rfl, w0, w1, w2, w3, w4, w8⟩ := un_dtProc h
  exact w0
theorem pw_dtProc_1 {u : AV} (h : tyV dtProc u) : (Lit.int .i64 (hdV (tlV u.aggOf)).numOf).wf = true := by
  obtain ⟨c0, c1, c2, c3, c4, c5, c6, c7, c8, rfl, w0, w1, w2, w3, w4, w8⟩ := un_dtProc h
  exact w1
theorem pw_dtProc_2 {u : AV} (h : tyV dtProc u) : (Lit.int .i64 (hdV (tlV (tlV u.aggOf))).numOf).wf = true := by
  obtain ⟨c0, c1, c2, c3, c4, c5, c6, c7, c8, rfl, w0, w1, w2, w3, w4, w8⟩ := un_dtProc h
  exact w2
theorem pw_dtProc_3 {u : AV} (h : tyV dtProc u) : (Lit.int .i64 (hdV (tlV (tlV (tlV u.aggOf)))).numOf).wf = true := by
  obtain ⟨c0, c1, c2, c3, c4, c5, c6, c7, c8, rfl, w0, w1, w2, w3, w4, w8⟩ := un_dtProc h
  exact w3
theorem pw_dtProc_4 {u : AV} (h : tyV dtProc u) : (Lit.int .i64 (hdV (tlV (tlV (tlV (tlV u.aggOf))))).numOf).wf = true := by
  obtain ⟨c0, c1, c2, c3, c4, c5, c6, c7, c8, rfl, w0, w1, w2, w3, w4, w8⟩ := un_dtProc h
  exact w4
theorem pw_dtProc_8 {u : AV} (h : tyV dtProc u) : (Lit.int .i64 (hdV (tlV (tlV (tlV (tlV (tlV (tlV (tlV (tlV u.aggOf))))))))).numOf).wf = true := by
  obtain ⟨c0, c1, c2, c3, c4, c5, c6, c7, c8, rfl, w0, w1, w2, w3, w4, w8⟩ := un_dtProc h
  exact w8
theorem un_dtSpec {u : AV} (h : tyV dtSpec u) : ∃ (c0 : Int) (c1 : Int) (c2 : Int) (c3 : Int) (c4 : AV) (c5 : AV), u = .agg [.int .i64 c0, .int .i64 c1, .int .i64 c2, .int .i64 c3, c4, c5] ∧ (Lit.int .i64 c0).wf = true ∧ (Lit.int .i64 c1).wf = true ∧ (Lit.int .i64 c2).wf = true ∧ (Lit.int .i64 c3).wf = true ∧ tyV (.sl 1 dtI) c4 ∧ tyV (.sl 6 dtTS) c5 := by
  obtain ⟨us, rfl, h⟩ := h
  obtain ⟨_, _, rfl, -, ⟨c0, rfl, w0⟩, ⟨_, _, rfl, -, ⟨_, _, rfl, -, ⟨c1, rfl, w1⟩, ⟨_, _, rfl, -, ⟨c2, rfl, w2⟩, ⟨_, _, rfl, -, ⟨c3, rfl, w3⟩, z0⟩⟩⟩, ⟨_, _, rfl, -, s4, ⟨_, _, rfl, -, s5, z1⟩⟩⟩⟩ := h
  obtain rfl : _ = [] := z0
  obtain ⟨c4, rfl, w4⟩ := sl_un s4
  obtain ⟨c5, rfl, w5⟩ := sl_un s5
  obtain rfl : _ = [] := z1
  exact ⟨c0, c1, c2, c3, c4, c5, rfl, w0, w1, w2, w3, w4, w5⟩
theorem mk_dtSpec {c0 : Int} {c1 : Int} {c2 : Int} {c3 : Int} {c4 : AV} {c5 : AV} (w0 : (Lit.int .i64 c0).wf = true) (w1 : (Lit.int .i64 c1).wf = true) (w2 : (Lit.int .i64 c2).wf = true) (w3 : (Lit.int .i64 c3).wf = true) (w4 : tyV (.sl 1 dtI) c4) (w5 : tyV (.sl 6 dtTS) c5) : tyV dtSpec (.agg [.int .i64 c0, .int .i64 c1, .int .i64 c2, .int .i64 c3, c4, c5]) := by
  exact ⟨_, rfl, ⟨[.int .i64 c0], [.int .i64 c1, .int .i64 c2, .int .i64 c3, c4, c5], rfl, rfl, ⟨c0, rfl, w0⟩, ⟨[.int .i64 c1, .int .i64 c2, .int .i64 c3], [c4, c5], rfl, rfl, ⟨[.int .i64 c1], [.int .i64 c2, .int .i64 c3], rfl, rfl, ⟨c1, rfl, w1⟩, ⟨[.int .i64 c2], [.int .i64 c3], rfl, rfl, ⟨c2, rfl, w2⟩, ⟨[.int .i64 c3], [], rfl, rfl, ⟨c3, rfl, w3⟩, rfl⟩⟩⟩, ⟨[c4], [c5], rfl, rfl, w4, ⟨[c5], [], rfl, rfl, w5, rfl⟩⟩⟩⟩⟩
theorem pw_dtSpec_0 {u : AV} (h : tyV dtSpec u) : (Lit.int .i64 (hdV u.aggOf).numOf).wf = true := by
  obtain ⟨c0, c1, c2, c3, c4, c5, rfl, w0, w1, w2, w3, w4, w5⟩ := un_dtSpec h
  exact w0
theorem pw_dtSpec_1 {u : AV} (h : tyV dtSpec u) : (Lit.int .i64 (hdV (tlV u.aggOf)).numOf).wf = true := by
  obtain ⟨c0, c1, c2, c3, c4, c5, rfl, w0, w1, w2, w3, w4, w5⟩ := un_dtSpec h
  exact w1
theorem pw_dtSpec_2 {u : AV} (h : tyV dtSpec u) : (Lit.int .i64 (hdV (tlV (tlV u.aggOf))).numOf).wf = true := by
  obtain ⟨c0, c1, c2, c3, c4, c5, rfl, w0, w1, w2, w3, w4, w5⟩ := un_dtSpec h
  exact w2
theorem pw_dtSpec_3 {u : AV} (h : tyV dtSpec u) : (Lit.int .i64 (hdV (tlV (tlV (tlV u.aggOf)))).numOf).wf = true := by
  obtain ⟨c0, c1, c2, c3, c4, c5, rfl, w0, w1, w2, w3, w4, w5⟩ := un_dtSpec h
  exact w3
theorem pj_dtSpec_4 {u : AV} (h : tyV dtSpec u) : tyV (.sl 1 dtI) (shS Sh.any (hdV (tlV (tlV (tlV (tlV u.aggOf)))))) := by
  obtain ⟨c0, c1, c2, c3, c4, c5, rfl, w0, w1, w2, w3, w4, w5⟩ := un_dtSpec h
  exact w4
theorem pj_dtSpec_5 {u : AV} (h : tyV dtSpec u) : tyV (.sl 6 dtTS) (shS Sh.any (hdV (tlV (tlV (tlV (tlV (tlV u.aggOf))))))) := by
  obtain ⟨c0, c1, c2, c3, c4, c5, rfl, w0, w1, w2, w3, w4, w5⟩ := un_dtSpec h
  exact w5
theorem bj_dtSpec {B : Nat} {u : AV} (h : tyV dtSpec u) (h4 : bnd B (shS Sh.any (hdV (tlV (tlV (tlV (tlV u.aggOf)))))) = true) (h5 : bnd B (shS Sh.any (hdV (tlV (tlV (tlV (tlV (tlV u.aggOf))))))) = true) : bnd B u = true := by
  obtain ⟨c0, c1, c2, c3, c4, c5, rfl, w0, w1, w2, w3, w4, w5⟩ := un_dtSpec h
  replace h4 : bnd B c4 = true := h4
  replace h5 : bnd B c5 = true := h5
  simp only [bnd, bndL, h4, h5]
  rfl
theorem bi_dtSpec_4 {B : Nat} {u : AV} (h : tyV dtSpec u) (hb : bnd B u = true) : bnd B (shS Sh.any (hdV (tlV (tlV (tlV (tlV u.aggOf)))))) = true := by
  obtain ⟨c0, c1, c2, c3, c4, c5, rfl, w0, w1, w2, w3, w4, w5⟩ := un_dtSpec h
  simp only [bnd, bndL, Bool.and_eq_true, Bool.true_and, Bool.and_true, true_and, and_true] at hb
  show bnd B c4 = true
  simp [hb]
theorem bi_dtSpec_5 {B : Nat} {u : AV} (h : tyV dtSpec u) (hb : bnd B u = true) : bnd B (shS Sh.any (hdV (tlV (tlV (tlV (tlV (tlV u.aggOf))))))) = true := by
  obtain ⟨c0, c1, c2, c3, c4, c5, rfl, w0, w1, w2, w3, w4, w5⟩ := un_dtSpec h
  simp only [bnd, bndL, Bool.and_eq_true, Bool.true_and, Bool.and_true, true_and, and_true] at hb
  show bnd B c5 = true
  simp [hb]
theorem un_dtTask {u : AV} (h : tyV dtTask u) : ∃ (c0 : Int) (c1 : Int) (c2 : Int) (c3 : Int) (c4 : Int) (c5 : Int) (c6 : Int) (c7 : AV), u = .agg [.int .u8 c0, .int .i64 c1, .int .i64 c2, .int .i64 c3, .int .i64 c4, .int .i64 c5, .int .i64 c6, c7] ∧ (Lit.int .u8 c0).wf = true ∧ (Lit.int .i64 c1).wf = true ∧ (Lit.int .i64 c2).wf = true ∧ (Lit.int .i64 c3).wf = true ∧ (Lit.int .i64 c4).wf = true ∧ (Lit.int .i64 c5).wf = true ∧ (Lit.int .i64 c6).wf = true ∧ tyV (.sl 1 dtI) c7 := by
  obtain ⟨us, rfl, h⟩ := h
  obtain ⟨_, _, rfl, -, ⟨c0, rfl, w0⟩, ⟨_, _, rfl, -, ⟨c1, rfl, w1⟩, ⟨_, _, rfl, -, ⟨c2, rfl, w2⟩, ⟨_, _, rfl, -, ⟨c3, rfl, w3⟩, ⟨_, _, rfl, -, ⟨c4, rfl, w4⟩, ⟨_, _, rfl, -, ⟨c5, rfl, w5⟩, ⟨_, _, rfl, -, ⟨c6, rfl, w6⟩, ⟨_, _, rfl, -, s7, z0⟩⟩⟩⟩⟩⟩⟩⟩ := h
  obtain ⟨c7, rfl, w7⟩ := sl_un s7
  obtain rfl : _ = [] := z0
  exact ⟨c0, c1, c2, c3, c4, c5, c6, c7, rfl, w0, w1, w2, w3, w4, w5, w6, w7⟩
theorem mk_dtTask {c0 : Int} {c1 : Int} {c2 : Int} {c3 : Int} {c4 : Int} {c5 : Int} {c6 : Int} {c7 : AV} (w0 : (Lit.int .u8 c0).wf = true) (w1 : (Lit.int .i64 c1).wf = true) (w2 : (Lit.int .i64 c2).wf = true) (w3 : (Lit.int .i64 c3).wf = true) (w4 : (Lit.int .i64 c4).wf = true) (w5 : (Lit.int .i64 c5).wf = true) (w6 : (Lit.int .i64 c6).wf = true) (w7 : tyV (.sl 1 dtI) c7) : tyV dtTask (.agg [.int .u8 c0, .int .i64 c1, .int .i64 c2, .int .i64 c3, .int .i64 c4, .int .i64 c5, .int .i64 c6, c7]) := by
  exact ⟨_, rfl, ⟨[.int .u8 c0], [.int .i64 c1, .int .i64 c2, .int .i64 c3, .int .i64 c4, .int .i64 c5, .int .i64 c6, c7], rfl, rfl, ⟨c0, rfl, w0⟩, ⟨[.int .i64 c1], [.int .i64 c2, .int .i64 c3, .int .i64 c4, .int .i64 c5, .int .i64 c6, c7], rfl, rfl, ⟨c1, rfl, w1⟩, ⟨[.int .i64 c2], [.int .i64 c3, .int .i64 c4, .int .i64 c5, .int .i64 c6, c7], rfl, rfl, ⟨c2, rfl, w2⟩, ⟨[.int .i64 c3], [.int .i64 c4, .int .i64 c5, .int .i64 c6, c7], rfl, rfl, ⟨c3, rfl, w3⟩, ⟨[.int .i64 c4], [.int .i64 c5, .int .i64 c6, c7], rfl, rfl, ⟨c4, rfl, w4⟩, ⟨[.int .i64 c5], [.int .i64 c6, c7], rfl, rfl, ⟨c5, rfl, w5⟩, ⟨[.int .i64 c6], [c7], rfl, rfl, ⟨c6, rfl, w6⟩, ⟨[c7], [], rfl, rfl, w7, rfl⟩⟩⟩⟩⟩⟩⟩⟩⟩
theorem pw_dtTask_0 {u : AV} (h : tyV dtTask u) : (Lit.int .u8 (hdV u.aggOf).numOf).wf = true := by
  obtain ⟨c0, c1, c2, c3, c4, c5, c6, c7, rfl, w0, w1, w2, w3, w4, w5, w6, w7⟩ := un_dtTask h
  exact w0
theorem pw_dtTask_1 {u : AV} (h : tyV dtTask u) : (Lit.int .i64 (hdV (tlV u.aggOf)).numOf).wf = true := by
  obtain ⟨c0, c1, c2, c3, c4, c5, c6, c7, rfl, w0, w1, w2, w3, w4, w5, w6, w7⟩ := un_dtTask h
  exact w1
theorem pw_dtTask_2 {u : AV} (h : tyV dtTask u) : (Lit.int .i64 (hdV (tlV (tlV u.aggOf))).numOf).wf = true := by
  obtain ⟨c0, c1, c2, c3, c4, c5, c6, c7, rfl, w0, w1, w2, w3, w4, w5, w6, w7⟩ := un_dtTask h
  exact w2
theorem pw_dtTask_3 {u : AV} (h : tyV dtTask u) : (Lit.int .i64 (hdV (tlV (tlV (tlV u.aggOf)))).numOf).wf = true := by
  obtain ⟨c0, c1, c2, c3, c4, c5, c6, c7, rfl, w0, w1, w2, w3, w4, w5, w6, w7⟩ := un_dtTask h
  exact w3
theorem pw_dtTask_4 {u : AV} (h : tyV dtTask u) : (Lit.int .i64 (hdV (tlV (tlV (tlV (tlV u.aggOf))))).numOf).wf = true := by
  obtain ⟨c0, c1, c2, c3, c4, c5, c6, c7, rfl, w0, w1, w2, w3, w4, w5, w6, w7⟩ := un_dtTask h
  exact w4
theorem pw_dtTask_5 {u : AV} (h : tyV dtTask u) : (Lit.int .i64 (hdV (tlV (tlV (tlV (tlV (tlV u.aggOf)))))).numOf).wf = true := by
  obtain ⟨c0, c1, c2, c3, c4, c5, c6, c7, rfl, w0, w1, w2, w3, w4, w5, w6, w7⟩ := un_dtTask h
  exact w5
theorem pw_dtTask_6 {u : AV} (h : tyV dtTask u) : (Lit.int .i64 (hdV (tlV (tlV (tlV (tlV (tlV (tlV u.aggOf))))))).numOf).wf = true := by
  obtain ⟨c0, c1, c2, c3, c4, c5, c6, c7, rfl, w0, w1, w2, w3, w4, w5, w6, w7⟩ := un_dtTask h
  exact w6
theorem pj_dtTask_7 {u : AV} (h : tyV dtTask u) : tyV (.sl 1 dtI) (shS Sh.any (hdV (tlV (tlV (tlV (tlV (tlV (tlV (tlV u.aggOf))))))))) := by
  obtain ⟨c0, c1, c2, c3, c4, c5, c6, c7, rfl, w0, w1, w2, w3, w4, w5, w6, w7⟩ := un_dtTask h
  exact w7
theorem bj_dtTask {B : Nat} {u : AV} (h : tyV dtTask u) (h7 : bnd B (shS Sh.any (hdV (tlV (tlV (tlV (tlV (tlV (tlV (tlV u.aggOf))))))))) = true) : bnd B u = true := by
  obtain ⟨c0, c1, c2, c3, c4, c5, c6, c7, rfl, w0, w1, w2, w3, w4, w5, w6, w7⟩ := un_dtTask h
  replace h7 : bnd B c7 = true := h7
  simp only [bnd, bndL, h7]
  rfl
theorem bi_dtTask_7 {B : Nat} {u : AV} (h : tyV dtTask u) (hb : bnd B u = true) : bnd B (shS Sh.any (hdV (tlV (tlV (tlV (tlV (tlV (tlV (tlV u.aggOf))))))))) = true := by
  obtain ⟨c0, c1, c2, c3, c4, c5, c6, c7, rfl, w0, w1, w2, w3, w4, w5, w6, w7⟩ := un_dtTask h
  simp only [bnd, bndL, Bool.and_eq_true, Bool.true_and, Bool.and_true, true_and, and_true] at hb
  show bnd B c7 = true
  simp [hb]
theorem un_dtAlloc {u : AV} (h : tyV dtAlloc u) : ∃ (c0 : Int) (c1 : Int) (c2 : Int) (c3 : Int) (c4 : AV) (c5 : AV) (c6 : Int) (c7 : Int) (c8 : Bool) (c9 : AV), u = .agg [.int .i64 c0, .int .i64 c1, .int .i64 c2, .int .i64 c3, c4, c5, .int .i64 c6, .int .i64 c7, .bool c8, c9] ∧ (Lit.int .i64 c0).wf = true ∧ (Lit.int .i64 c1).wf = true ∧ (Lit.int .i64 c2).wf = true ∧ (Lit.int .i64 c3).wf = true ∧ tyV (.sl 1 dtI) c4 ∧ tyV (.sl 6 dtTS) c5 ∧ (Lit.int .i64 c6).wf = true ∧ (Lit.int .i64 c7).wf = true ∧ tyV (.sl 8 dtTask) c9 := by
  obtain ⟨us, rfl, h⟩ := h
  obtain ⟨_, _, rfl, -, ⟨_, _, rfl, -, ⟨c0, rfl, w0⟩, ⟨_, _, rfl, -, ⟨_, _, rfl, -, ⟨c1, rfl, w1⟩, ⟨_, _, rfl, -, ⟨c2, rfl, w2⟩, ⟨_, _, rfl, -, ⟨c3, rfl, w3⟩, z0⟩⟩⟩, ⟨_, _, rfl, -, s4, ⟨_, _, rfl, -, s5, z1⟩⟩⟩⟩, ⟨_, _, rfl, -, ⟨c6, rfl, w6⟩, ⟨_, _, rfl, -, ⟨c7, rfl, w7⟩, ⟨_, _, rfl, -, ⟨c8, rfl⟩, ⟨_, _, rfl, -, s9, z2⟩⟩⟩⟩⟩ := h
  obtain rfl : _ = [] := z0
  obtain ⟨c4, rfl, w4⟩ := sl_un s4
  obtain ⟨c5, rfl, w5⟩ := sl_un s5
  obtain rfl : _ = [] := z1
  obtain ⟨c9, rfl, w9⟩ := sl_un s9
  obtain rfl : _ = [] := z2
  exact ⟨c0, c1, c2, c3, c4, c5, c6, c7, c8, c9, rfl, w0, w1, w2, w3, w4, w5, w6, w7, w9⟩
theorem mk_dtAlloc {c0 : Int} {c1 : Int} {c2 : Int} {c3 : Int} {c4 : AV} {c5 : AV} {c6 : Int} {c7 : Int} {c8 : Bool} {c9 : AV} (w0 : (Lit.int .i64 c0).wf = true) (w1 : (Lit.int .i64 c1).wf = true) (w2 : (Lit.int .i64 c2).wf = true) (w3 : (Lit.int .i64 c3).wf = true) (w4 : tyV (.sl 1 dtI) c4) (w5 : tyV (.sl 6 dtTS) c5) (w6 : (Lit.int .i64 c6).wf = true) (w7 : (Lit.int .i64 c7).wf = true) (w9 : tyV (.sl 8 dtTask) c9) : tyV dtAlloc (.agg [.int .i64 c0, .int .i64 c1, .int .i64 c2, .int .i64 c3, c4, c5, .int .i64 c6, .int .i64 c7, .bool c8, c9]) := by
  exact ⟨_, rfl, ⟨[.int .i64 c0, .int .i64 c1, .int .i64 c2, .int .i64 c3, c4, c5], [.int .i64 c6, .int .i64 c7, .bool c8, c9], rfl, rfl, ⟨[.int .i64 c0], [.int .i64 c1, .int .i64 c2, .int .i64 c3, c4, c5], rfl, rfl, ⟨c0, rfl, w0⟩, ⟨[.int .i64 c1, .int .i64 c2, .int .i64 c3], [c4, c5], rfl, rfl, ⟨[.int .i64 c1], [.int .i64 c2, .int .i64 c3], rfl, rfl, ⟨c1, rfl, w1⟩, ⟨[.int .i64 c2], [.int .i64 c3], rfl, rfl, ⟨c2, rfl, w2⟩, ⟨[.int .i64 c3], [], rfl, rfl, ⟨c3, rfl, w3⟩, rfl⟩⟩⟩, ⟨[c4], [c5], rfl, rfl, w4, ⟨[c5], [], rfl, rfl, w5, rfl⟩⟩⟩⟩, ⟨[.int .i64 c6], [.int .i64 c7, .bool c8, c9], rfl, rfl, ⟨c6, rfl, w6⟩, ⟨[.int .i64 c7], [.bool c8, c9], rfl, rfl, ⟨c7, rfl, w7⟩, ⟨[.bool c8], [c9], rfl, rfl, ⟨c8, rfl⟩, ⟨[c9], [], rfl, rfl, w9, rfl⟩⟩⟩⟩⟩⟩
theorem pw_dtAlloc_0 {u : AV} (h : tyV dtAlloc u) : (Lit.int .i64 (hdV u.aggOf).numOf).wf = true := by
  obtain ⟨c0, c1, c2, c3, c4, c5, c6, c7, c8, c9, rfl, w0, w1, w2, w3, w4, w5, w6, w7, w9⟩ := un_dtAlloc h
  exact w0
theorem pw_dtAlloc_1 {u : AV} (h : tyV dtAlloc u) : (Lit.int .i64 (hdV (tlV u.aggOf)).numOf).wf = true := by
  obtain ⟨c0, c1, c2, c3, c4, c5, c6, c7, c8, c9, rfl, w0, w1, w2, w3, w4, w5, w6, w7, w9⟩ := un_dtAlloc h
  exact w1
theorem pw_dtAlloc_2 {u : AV} (h : tyV dtAlloc u) : (Lit.int .i64 (hdV (tlV (tlV u.aggOf))).numOf).wf = true := by
  obtain ⟨c0, c1, c2, c3, c4, c5, c6, c7, c8, c9, rfl, w0, w1, w2, w3, w4, w5, w6, w7, w9⟩ := un_dtAlloc h
  exact w2
theorem pw_dtAlloc_3 {u : AV} (h : tyV dtAlloc u) : (Lit.int .i64 (hdV (tlV (tlV (tlV u.aggOf)))).numOf).wf = true := by
  obtain ⟨c0, c1, c2, c3, c4, c5, c6, c7, c8, c9, rfl, w0, w1, w2, w3, w4, w5, w6, w7, w9⟩ := un_dtAlloc h
  exact w3
theorem pj_dtAlloc_4 {u : AV} (h : tyV dtAlloc u) : tyV (.sl 1 dtI) (shS Sh.any (hdV (tlV (tlV (tlV (tlV u.aggOf)))))) := by
  obtain ⟨c0, c1, c2, c3, c4, c5, c6, c7, c8, c9, rfl, w0, w1, w2, w3, w4, w5, w6, w7, w9⟩ := un_dtAlloc h
  exact w4
theorem pj_dtAlloc_5 {u : AV} (h : tyV dtAlloc u) : tyV (.sl 6 dtTS) (shS Sh.any (hdV (tlV (tlV (tlV (tlV (tlV u.aggOf))))))) := by
  obtain ⟨c0, c1, c2, c3, c4, c5, c6, c7, c8, c9, rfl, w0, w1, w2, w3, w4, w5, w6, w7, w9⟩ := un_dtAlloc h
  exact w5
theorem pw_dtAlloc_6 {u : AV} (h : tyV dtAlloc u) : (Lit.int .i64 (hdV (tlV (tlV (tlV (tlV (tlV (tlV u.aggOf))))))).numOf).wf = true := by
  obtain ⟨c0, c1, c2, c3, c4, c5, c6, c7, c8, c9, rfl, w0, w1, w2, w3, w4, w5, w6, w7, w9⟩ := un_dtAlloc h
  exact w6
theorem pw_dtAlloc_7 {u : AV} (h : tyV dtAlloc u) : (Lit.int .i64 (hdV (tlV (tlV (tlV (tlV (tlV (tlV (tlV u.aggOf)))))))).numOf).wf = true := by
  obtain ⟨c0, c1, c2, c3, c4, c5, c6, c7, c8, c9, rfl, w0, w1, w2, w3, w4, w5, w6, w7, w9⟩ := un_dtAlloc h
  exact w7
theorem pj_dtAlloc_9 {u : AV} (h : tyV dtAlloc u) : tyV (.sl 8 dtTask) (shS Sh.any (hdV (tlV (tlV (tlV (tlV (tlV (tlV (tlV (tlV (tlV u.aggOf))))))))))) := by
  obtain ⟨c0, c1, c2, c3, c4, c5, c6, c7, c8, c9, rfl, w0, w1, w2, w3, w4, w5, w6, w7, w9⟩ := un_dtAlloc h
  exact w9
theorem bj_dtAlloc {B : Nat} {u : AV} (h : tyV dtAlloc u) (h4 : bnd B (shS Sh.any (hdV (tlV (tlV (tlV (tlV u.aggOf)))))) = true) (h5 : bnd B (shS Sh.any (hdV (tlV (tlV (tlV (tlV (tlV u.aggOf))))))) = true) (h9 : bnd B (shS Sh.any (hdV (tlV (tlV (tlV (tlV (tlV (tlV (tlV (tlV (tlV u.aggOf))))))))))) = true) : bnd B u = true := by
  obtain ⟨c0, c1, c2, c3, c4, c5, c6, c7, c8, c9, rfl, w0, w1, w2, w3, w4, w5, w6, w7, w9⟩ := un_dtAlloc h
  replace h4 : bnd B c4 = true := h4
  replace h5 : bnd B c5 = true := h5
  replace h9 : bnd B c9 = true := h9
  simp only [bnd, bndL, h4, h5, h9]
  rfl
theorem bi_dtAlloc_4 {B : Nat} {u : AV} (h : tyV dtAlloc u) (hb : bnd B u = true) : bnd B (shS Sh.any (hdV (tlV (tlV (tlV (tlV u.aggOf)))))) = true := by
  obtain ⟨c0, c1, c2, c3, c4, c5, c6, c7, c8, c9, rfl, w0, w1, w2, w3, w4, w5, w6, w7, w9⟩ := un_dtAlloc h
  simp only [bnd, bndL, Bool.and_eq_true, Bool.true_and, Bool.and_true, true_and, and_true] at hb
  show bnd B c4 = true
  simp [hb]
theorem bi_dtAlloc_5 {B : Nat} {u : AV} (h : tyV dtAlloc u) (hb : bnd B u = true) : bnd B (shS Sh.any (hdV (tlV (tlV (tlV (tlV (tlV u.aggOf))))))) = true := by
  obtain ⟨c0, c1, c2, c3, c4, c5, c6, c7, c8, c9, rfl, w0, w1, w2, w3, w4, w5, w6, w7, w9⟩ := un_dtAlloc h
  simp only [bnd, bndL, Bool.and_eq_true, Bool.true_and, Bool.and_true, true_and, and_true] at hb
  show bnd B c5 = true
  simp [hb]
theorem bi_dtAlloc_9 {B : Nat} {u : AV} (h : tyV dtAlloc u) (hb : bnd B u = true) : bnd B (shS Sh.any (hdV (tlV (tlV (tlV (tlV (tlV (tlV (tlV (tlV (tlV u.aggOf))))))))))) = true := by
  obtain ⟨c0, c1, c2, c3, c4, c5, c6, c7, c8, c9, rfl, w0, w1, w2, w3, w4, w5, w6, w7, w9⟩ := un_dtAlloc h
  simp only [bnd, bndL, Bool.and_eq_true, Bool.true_and, Bool.and_true, true_and, and_true] at hb
  show bnd B c9 = true
  simp [hb]
theorem un_dtState {u : AV} (h : tyV dtState u) : ∃ (c0 : Int) (c1 : Int) (c2 : Int) (c3 : Int) (c4 : AV), u = .agg [.int .i64 c0, .int .i64 c1, .int .i64 c2, .int .i64 c3, c4] ∧ (Lit.int .i64 c0).wf = true ∧ (Lit.int .i64 c1).wf = true ∧ (Lit.int .i64 c2).wf = true ∧ (Lit.int .i64 c3).wf = true ∧ tyV (.sl 10 dtAlloc) c4 := by
  obtain ⟨us, rfl, h⟩ := h
  obtain ⟨_, _, rfl, -, ⟨c0, rfl, w0⟩, ⟨_, _, rfl, -, ⟨c1, rfl, w1⟩, ⟨_, _, rfl, -, ⟨c2, rfl, w2⟩, ⟨_, _, rfl, -, ⟨c3, rfl, w3⟩, ⟨_, _, rfl, -, s4, z0⟩⟩⟩⟩⟩ := h
  obtain ⟨c4, rfl, w4⟩ := sl_un s4
  obtain rfl : _ = [] := z0
  exact ⟨c0, c1, c2, c3, c4, rfl, w0, w1, w2, w3, w4⟩
theorem mk_dtState {c0 : Int} {c1 : Int} {c2 : Int} {c3 : Int} {c4 : AV} (w0 : (Lit.int .i64 c0).wf = true) (w1 : (Lit.int .i64 c1).wf = true) (w2 : (Lit.int .i64 c2).wf = true) (w3 : (Lit.int .i64 c3).wf = true) (w4 : tyV (.sl 10 dtAlloc) c4) : tyV dtState (.agg [.int .i64 c0, .int .i64 c1, .int .i64 c2, .int .i64 c3, c4]) := by
  exact ⟨_, rfl, ⟨[.int .i64 c0], [.int .i64 c1, .int .i64 c2, .int .i64 c3, c4], rfl, rfl, ⟨c0, rfl, w0⟩, ⟨[.int .i64 c1], [.int .i64 c2, .int .i64 c3, c4], rfl, rfl, ⟨c1, rfl, w1⟩, ⟨[.int .i64 c2], [.int .i64 c3, c4], rfl, rfl, ⟨c2, rfl, w2⟩, ⟨[.int .i64 c3], [c4], rfl, rfl, ⟨c3, rfl, w3⟩, ⟨[c4], [], rfl, rfl, w4, rfl⟩⟩⟩⟩⟩⟩
theorem pw_dtState_0 {u : AV} (h : tyV dtState u) : (Lit.int .i64 (hdV u.aggOf).numOf).wf = true := by
  obtain ⟨c0, c1, c2, c3, c4, rfl, w0, w1, w2, w3, w4⟩ := un_dtState h
  exact w0
theorem pw_dtState_1 {u : AV} (h : tyV dtState u) : (Lit.int .i64 (hdV (tlV u.aggOf)).numOf).wf = true := by
  obtain ⟨c0, c1, c2, c3, c4, rfl, w0, w1, w2, w3, w4⟩ := un_dtState h
  exact w1
theorem pw_dtState_2 {u : AV} (h : tyV dtState u) : (Lit.int .i64 (hdV (tlV (tlV u.aggOf))).numOf).wf = true := by
  obtain ⟨c0, c1, c2, c3, c4, rfl, w0, w1, w2, w3, w4⟩ := un_dtState h
  exact w2
theorem pw_dtState_3 {u : AV} (h : tyV dtState u) : (Lit.int .i64 (hdV (tlV (tlV (tlV u.aggOf)))).numOf).wf = true := by
  obtain ⟨c0, c1, c2, c3, c4, rfl, w0, w1, w2, w3, w4⟩ := un_dtState h
  exact w3
theorem pj_dtState_4 {u : AV} (h : tyV dtState u) : tyV (.sl 10 dtAlloc) (shS Sh.any (hdV (tlV (tlV (tlV (tlV u.aggOf)))))) := by
  obtain ⟨c0, c1, c2, c3, c4, rfl, w0, w1, w2, w3, w4⟩ := un_dtState h
  exact w4
theorem bj_dtState {B : Nat} {u : AV} (h : tyV dtState u) (h4 : bnd B (shS Sh.any (hdV (tlV (tlV (tlV (tlV u.aggOf)))))) = true) : bnd B u = true := by
  obtain ⟨c0, c1, c2, c3, c4, rfl, w0, w1, w2, w3, w4⟩ := un_dtState h
  replace h4 : bnd B c4 = true := h4
  simp only [bnd, bndL, h4]
  rfl
theorem bi_dtState_4 {B : Nat} {u : AV} (h : tyV dtState u) (hb : bnd B u = true) : bnd B (shS Sh.any (hdV (tlV (tlV (tlV (tlV u.aggOf)))))) = true := by
  obtain ⟨c0, c1, c2, c3, c4, rfl, w0, w1, w2, w3, w4⟩ := un_dtState h
  simp only [bnd, bndL, Bool.and_eq_true, Bool.true_and, Bool.and_true, true_and, and_true] at hb
  show bnd B c4 = true
  simp [hb]
theorem form81 (m : Array Value) {R : Type} (fuel : Nat) (a0 : Int) (a1 : Int) (a2 : Int) (a3 : Int) (a4 : Int) (a5 : Int) (a6 : Int) (a7 : AV) (b0 : Int) (b1 : Int) (b2 : Int) (b3 : Int) (b4 : Int) (b5 : Int) (b6 : Int) (b7 : AV) (K : AV → AH → Option R) :
  runI (Rep.D m) (cD m fuel) fuel Tryd.f81 [.agg [.int .u8 a0, .int .i64 a1, .int .i64 a2, .int .i64 a3, .int .i64 a4, .int .i64 a5, .int .i64 a6, a7], .agg [.int .u8 b0, .int .i64 b1, .int .i64 b2, .int .i64 b3, .int .i64 b4, .int .i64 b5, .int .i64 b6, b7]] ⟨[], []⟩ K =
  br (a0 == b0)
    (fun _ => br (a1 == b1)
      (fun _ => br (a2 == b2)
        (fun _ => br (a3 == b3)
          (fun _ => br (a4 == b4)
            (fun _ => br (a5 == b5)
              (fun _ => br (a6 == b6)
                (fun _ => (match valH (Rep.D m) 79 [a7, b7]
      {
        objs :=
          [AObj.cells
              [AV.int IntKind.u8 a0, AV.int IntKind.i64 a1, AV.int IntKind.i64 a2, AV.int IntKind.i64 a3,
                AV.int IntKind.i64 a4, AV.int IntKind.i64 a5, AV.int IntKind.i64 a6, a7],
            AObj.cells
              [AV.int IntKind.u8 b0, AV.int IntKind.i64 b1, AV.int IntKind.i64 b2, AV.int IntKind.i64 b3,
                AV.int IntKind.i64 b4, AV.int IntKind.i64 b5, AV.int IntKind.i64 b6, b7]],
        toks := [] } with
                  | some u7 => br (fitS Sh.bool u7)
                    (fun _ => K (AV.bool u7.boolOf)
      {
        objs :=
          [AObj.cells
              [AV.int IntKind.u8 a0, AV.int IntKind.i64 a1, AV.int IntKind.i64 a2, AV.int IntKind.i64 a3,
                AV.int IntKind.i64 a4, AV.int IntKind.i64 a5, AV.int IntKind.i64 a6, a7],
            AObj.cells
              [AV.int IntKind.u8 b0, AV.int IntKind.i64 b1, AV.int IntKind.i64 b2, AV.int IntKind.i64 b3,
                AV.int IntKind.i64 b4, AV.int IntKind.i64 b5, AV.int IntKind.i64 b6, b7]],
        toks := [] })
                    (fun _ => none)
                  | none => none))
                (fun _ => K (AV.bool false)
      {
        objs :=
          [AObj.cells
              [AV.int IntKind.u8 a0, AV.int IntKind.i64 a1, AV.int IntKind.i64 a2, AV.int IntKind.i64 a3,
                AV.int IntKind.i64 a4, AV.int IntKind.i64 a5, AV.int IntKind.i64 a6, a7],
            AObj.cells
              [AV.int IntKind.u8 b0, AV.int IntKind.i64 b1, AV.int IntKind.i64 b2, AV.int IntKind.i64 b3,
                AV.int IntKind.i64 b4, AV.int IntKind.i64 b5, AV.int IntKind.i64 b6, b7]],
        toks := [] }))
              (fun _ => K (AV.bool false)
      {
        objs :=
          [AObj.cells
              [AV.int IntKind.u8 a0, AV.int IntKind.i64 a1, AV.int IntKind.i64 a2, AV.int IntKind.i64 a3,
                AV.int IntKind.i64 a4, AV.int IntKind.i64 a5, AV.int IntKind.i64 a6, a7],
            AObj.cells
              [AV.int IntKind.u8 b0, AV.int IntKind.i64 b1, AV.int IntKind.i64 b2, AV.int IntKind.i64 b3,
                AV.int IntKind.i64 b4, AV.int IntKind.i64 b5, AV.int IntKind.i64 b6, b7]],
        toks := [] }))
            (fun _ => K (AV.bool false)
      {
        objs :=
          [AObj.cells
              [AV.int IntKind.u8 a0, AV.int IntKind.i64 a1, AV.int IntKind.i64 a2, AV.int IntKind.i64 a3,
                AV.int IntKind.i64 a4, AV.int IntKind.i64 a5, AV.int IntKind.i64 a6, a7],
            AObj.cells
              [AV.int IntKind.u8 b0, AV.int IntKind.i64 b1, AV.int IntKind.i64 b2, AV.int IntKind.i64 b3,
                AV.int IntKind.i64 b4, AV.int IntKind.i64 b5, AV.int IntKind.i64 b6, b7]],
        toks := [] }))
          (fun _ => K (AV.bool false)
      {
        objs :=
          [AObj.cells
              [AV.int IntKind.u8 a0, AV.int IntKind.i64 a1, AV.int IntKind.i64 a2, AV.int IntKind.i64 a3,
                AV.int IntKind.i64 a4, AV.int IntKind.i64 a5, AV.int IntKind.i64 a6, a7],
            AObj.cells
              [AV.int IntKind.u8 b0, AV.int IntKind.i64 b1, AV.int IntKind.i64 b2, AV.int IntKind.i64 b3,
                AV.int IntKind.i64 b4, AV.int IntKind.i64 b5, AV.int IntKind.i64 b6, b7]],
        toks := [] }))
        (fun _ => K (AV.bool false)
      {
        objs :=
          [AObj.cells
              [AV.int IntKind.u8 a0, AV.int IntKind.i64 a1, AV.int IntKind.i64 a2, AV.int IntKind.i64 a3,
                AV.int IntKind.i64 a4, AV.int IntKind.i64 a5, AV.int IntKind.i64 a6, a7],
            AObj.cells
              [AV.int IntKind.u8 b0, AV.int IntKind.i64 b1, AV.int IntKind.i64 b2, AV.int IntKind.i64 b3,
                AV.int IntKind.i64 b4, AV.int IntKind.i64 b5, AV.int IntKind.i64 b6, b7]],
        toks := [] }))
      (fun _ => K (AV.bool false)
      {
        objs :=
          [AObj.cells
              [AV.int IntKind.u8 a0, AV.int IntKind.i64 a1, AV.int IntKind.i64 a2, AV.int IntKind.i64 a3,
                AV.int IntKind.i64 a4, AV.int IntKind.i64 a5, AV.int IntKind.i64 a6, a7],
            AObj.cells
              [AV.int IntKind.u8 b0, AV.int IntKind.i64 b1, AV.int IntKind.i64 b2, AV.int IntKind.i64 b3,
                AV.int IntKind.i64 b4, AV.int IntKind.i64 b5, AV.int IntKind.i64 b6, b7]],
        toks := [] }))
    (fun _ => K (AV.bool false)
      {
        objs :=
          [AObj.cells
              [AV.int IntKind.u8 a0, AV.int IntKind.i64 a1, AV.int IntKind.i64 a2, AV.int IntKind.i64 a3,
                AV.int IntKind.i64 a4, AV.int IntKind.i64 a5, AV.int IntKind.i64 a6, a7],
            AObj.cells
              [AV.int IntKind.u8 b0, AV.int IntKind.i64 b1, AV.int IntKind.i64 b2, AV.int IntKind.i64 b3,
                AV.int IntKind.i64 b4, AV.int IntKind.i64 b5, AV.int IntKind.i64 b6, b7]],
        toks := [] }) := by kernel_rfl
-- PROOFS
theorem eq81 (m : Array Value) (e79 : ∀ {u w : AV}, tyV (.sl 1 dtI) u → tyV (.sl 1 dtI) w → nrm u = nrm w → ∀ H, callL (Rep.D m) 79 [u, w] H = some (.bool true, H)) {a b : AV} (ha : tyV dtTask a) (hb : tyV dtTask b) (hs : nrm a = nrm b) (H : AH) : callL (Rep.D m) 81 [a, b] H = some (.bool true, H) := by
  refine callL_D (tabD0_ok m) (fuel := 1) (n := 2) (fn := Tryd.f81) (ds := [dtTask, dtTask]) (v := .bool true) (by kernel_rfl) (by kernel_rfl) (by kernel_rfl) ⟨ha, hb, trivial⟩ ?_ rfl
  have ha' := tyV_erase ha
  have hb' := tyV_erase hb
  have hs' : nrm (erase a) = nrm (erase b) := by rw [tyV_nrm ha, tyV_nrm hb]; exact hs
  show runI (Rep.D m) (cD m 1) 1 Tryd.f81 [erase a, erase b] ⟨[], []⟩ (fun v _ => some v) = _
  generalize erase a = a at ha' hs' ⊢
  generalize erase b = b at hb' hs' ⊢
  clear hs
  have hs := hs'
  clear hs'
  obtain ⟨a0, a1, a2, a3, a4, a5, a6, a7, rfl, aw0, aw1, aw2, aw3, aw4, aw5, aw6, aw7⟩ := un_dtTask ha'
  obtain ⟨b0, b1, b2, b3, b4, b5, b6, b7, rfl, bw0, bw1, bw2, bw3, bw4, bw5, bw6, bw7⟩ := un_dtTask hb'
  simp only [nrm, nrmL, AV.agg.injEq, List.cons.injEq, AV.int.injEq, AV.bool.injEq, AV.str.injEq, true_and, and_true] at hs
  obtain ⟨rfl, rfl, rfl, rfl, rfl, rfl, rfl, k7⟩ := hs
  rw [form81]
  simp only [beq_self_eq_true, Bool.and_self, br]
  rw [valH_of (e79 aw7 bw7 k7 _)] <;> simp only [fitS, AV.boolOf]
-- DEFS
theorem form66 (m : Array Value) {R : Type} (fuel : Nat) (a0 : Int) (a1 : Int) (a2 : Int) (a3 : Int) (a4 : AV) (a5 : AV) (b0 : Int) (b1 : Int) (b2 : Int) (b3 : Int) (b4 : AV) (b5 : AV) (K : AV → AH → Option R) :
  runI (Rep.D m) (cD m fuel) fuel Tryd.f66 [.agg [.int .i64 a0, .int .i64 a1, .int .i64 a2, .int .i64 a3, a4, a5], .agg [.int .i64 b0, .int .i64 b1, .int .i64 b2, .int .i64 b3, b4, b5]] ⟨[], []⟩ K =
  br (a0 == b0)
    (fun _ => br (a1 == b1 && (a2 == b2 && (a3 == b3 && true)))
      (fun _ => (match valH (Rep.D m) 79 [a4, b4]
      {
        objs :=
          [AObj.cells [AV.int IntKind.i64 a0, AV.int IntKind.i64 a1, AV.int IntKind.i64 a2, AV.int IntKind.i64 a3, a4, a5],
            AObj.cells
              [AV.int IntKind.i64 b0, AV.int IntKind.i64 b1, AV.int IntKind.i64 b2, AV.int IntKind.i64 b3, b4, b5]],
        toks := [] } with
        | some u2 => br (fitS Sh.bool u2)
          (fun _ => br (u2.boolOf)
            (fun _ => (match valH (Rep.D m) 80 [a5, b5]
      {
        objs :=
          [AObj.cells [AV.int IntKind.i64 a0, AV.int IntKind.i64 a1, AV.int IntKind.i64 a2, AV.int IntKind.i64 a3, a4, a5],
            AObj.cells
              [AV.int IntKind.i64 b0, AV.int IntKind.i64 b1, AV.int IntKind.i64 b2, AV.int IntKind.i64 b3, b4, b5]],
        toks := [] } with
              | some u5 => br (fitS Sh.bool u5)
                (fun _ => K (AV.bool u5.boolOf)
      {
        objs :=
          [AObj.cells [AV.int IntKind.i64 a0, AV.int IntKind.i64 a1, AV.int IntKind.i64 a2, AV.int IntKind.i64 a3, a4, a5],
            AObj.cells
              [AV.int IntKind.i64 b0, AV.int IntKind.i64 b1, AV.int IntKind.i64 b2, AV.int IntKind.i64 b3, b4, b5]],
        toks := [] })
                (fun _ => none)
              | none => none))
            (fun _ => K (AV.bool false)
      {
        objs :=
          [AObj.cells [AV.int IntKind.i64 a0, AV.int IntKind.i64 a1, AV.int IntKind.i64 a2, AV.int IntKind.i64 a3, a4, a5],
            AObj.cells
              [AV.int IntKind.i64 b0, AV.int IntKind.i64 b1, AV.int IntKind.i64 b2, AV.int IntKind.i64 b3, b4, b5]],
        toks := [] }))
          (fun _ => none)
        | none => none))
      (fun _ => K (AV.bool false)
      {
        objs :=
          [AObj.cells [AV.int IntKind.i64 a0, AV.int IntKind.i64 a1, AV.int IntKind.i64 a2, AV.int IntKind.i64 a3, a4, a5],
            AObj.cells
              [AV.int IntKind.i64 b0, AV.int IntKind.i64 b1, AV.int IntKind.i64 b2, AV.int IntKind.i64 b3, b4, b5]],
        toks := [] }))
    (fun _ => K (AV.bool false)
      {
        objs :=
          [AObj.cells [AV.int IntKind.i64 a0, AV.int IntKind.i64 a1, AV.int IntKind.i64 a2, AV.int IntKind.i64 a3, a4, a5],
            AObj.cells
              [AV.int IntKind.i64 b0, AV.int IntKind.i64 b1, AV.int IntKind.i64 b2, AV.int IntKind.i64 b3, b4, b5]],
        toks := [] }) := by kernel_rfl
-- PROOFS
theorem eq66 (m : Array Value) (e79 : ∀ {u w : AV}, tyV (.sl 1 dtI) u → tyV (.sl 1 dtI) w → nrm u = nrm w → ∀ H, callL (Rep.D m) 79 [u, w] H = some (.bool true, H)) (e80 : ∀ {u w : AV}, tyV (.sl 6 dtTS) u → tyV (.sl 6 dtTS) w → nrm u = nrm w → ∀ H, callL (Rep.D m) 80 [u, w] H = some (.bool true, H)) {a b : AV} (ha : tyV dtSpec a) (hb : tyV dtSpec b) (hs : nrm a = nrm b) (H : AH) : callL (Rep.D m) 66 [a, b] H = some (.bool true, H) := by
  refine callL_D (tabD0_ok m) (fuel := 1) (n := 2) (fn := Tryd.f66) (ds := [dtSpec, dtSpec]) (v := .bool true) (by kernel_rfl) (by kernel_rfl) (by kernel_rfl) ⟨ha, hb, trivial⟩ ?_ rfl
  have ha' := tyV_erase ha
  have hb' := tyV_erase hb
  have hs' : nrm (erase a) = nrm (erase b) := by rw [tyV_nrm ha, tyV_nrm hb]; exact hs
  show runI (Rep.D m) (cD m 1) 1 Tryd.f66 [erase a, erase b] ⟨[], []⟩ (fun v _ => some v) = _
  generalize erase a = a at ha' hs' ⊢
  generalize erase b = b at hb' hs' ⊢
  clear hs
  have hs := hs'
  clear hs'
  obtain ⟨a0, a1, a2, a3, a4, a5, rfl, aw0, aw1, aw2, aw3, aw4, aw5⟩ := un_dtSpec ha'
  obtain ⟨b0, b1, b2, b3, b4, b5, rfl, bw0, bw1, bw2, bw3, bw4, bw5⟩ := un_dtSpec hb'
  simp only [nrm, nrmL, AV.agg.injEq, List.cons.injEq, AV.int.injEq, AV.bool.injEq, AV.str.injEq, true_and, and_true] at hs
  obtain ⟨rfl, rfl, rfl, rfl, k4, k5⟩ := hs
  rw [form66]
  simp only [beq_self_eq_true, Bool.and_self, br]
  rw [valH_of (e79 aw4 bw4 k4 _)] <;> simp only [fitS, AV.boolOf]
  rw [valH_of (e80 aw5 bw5 k5 _)] <;> simp only [fitS, AV.boolOf]
-- DEFS
theorem form59 (m : Array Value) {R : Type} (fuel : Nat) (a0 : Int) (a1 : Int) (a2 : Int) (a3 : Int) (a4 : AV) (a5 : AV) (a6 : Int) (a7 : Int) (a8 : Bool) (a9 : AV) (b0 : Int) (b1 : Int) (b2 : Int) (b3 : Int) (b4 : AV) (b5 : AV) (b6 : Int) (b7 : Int) (b8 : Bool) (b9 : AV) (K : AV → AH → Option R) :
  runI (Rep.D m) (cD m fuel) fuel Tryd.f59 [.agg [.int .i64 a0, .int .i64 a1, .int .i64 a2, .int .i64 a3, a4, a5, .int .i64 a6, .int .i64 a7, .bool a8, a9], .agg [.int .i64 b0, .int .i64 b1, .int .i64 b2, .int .i64 b3, b4, b5, .int .i64 b6, .int .i64 b7, .bool b8, b9]] ⟨[], []⟩ K =
  br (a6 == b6)
    (fun _ => br (a7 == b7)
      (fun _ => br (a8 == b8)
        (fun _ => (match valH (Rep.D m) 66
      [AV.agg [AV.int IntKind.i64 a0, AV.int IntKind.i64 a1, AV.int IntKind.i64 a2, AV.int IntKind.i64 a3, a4, a5],
        AV.agg [AV.int IntKind.i64 b0, AV.int IntKind.i64 b1, AV.int IntKind.i64 b2, AV.int IntKind.i64 b3, b4, b5]]
      {
        objs :=
          [AObj.cells
              [AV.int IntKind.i64 a0, AV.int IntKind.i64 a1, AV.int IntKind.i64 a2, AV.int IntKind.i64 a3, a4, a5,
                AV.int IntKind.i64 a6, AV.int IntKind.i64 a7, AV.bool a8, a9],
            AObj.cells
              [AV.int IntKind.i64 b0, AV.int IntKind.i64 b1, AV.int IntKind.i64 b2, AV.int IntKind.i64 b3, b4, b5,
                AV.int IntKind.i64 b6, AV.int IntKind.i64 b7, AV.bool b8, b9]],
        toks := [] } with
          | some u3 => br (fitS Sh.bool u3)
            (fun _ => br (u3.boolOf)
              (fun _ => (match valH (Rep.D m) 67 [a9, b9]
      {
        objs :=
          [AObj.cells
              [AV.int IntKind.i64 a0, AV.int IntKind.i64 a1, AV.int IntKind.i64 a2, AV.int IntKind.i64 a3, a4, a5,
                AV.int IntKind.i64 a6, AV.int IntKind.i64 a7, AV.bool a8, a9],
            AObj.cells
              [AV.int IntKind.i64 b0, AV.int IntKind.i64 b1, AV.int IntKind.i64 b2, AV.int IntKind.i64 b3, b4, b5,
                AV.int IntKind.i64 b6, AV.int IntKind.i64 b7, AV.bool b8, b9]],
        toks := [] } with
                | some u6 => br (fitS Sh.bool u6)
                  (fun _ => K (AV.bool u6.boolOf)
      {
        objs :=
          [AObj.cells
              [AV.int IntKind.i64 a0, AV.int IntKind.i64 a1, AV.int IntKind.i64 a2, AV.int IntKind.i64 a3, a4, a5,
                AV.int IntKind.i64 a6, AV.int IntKind.i64 a7, AV.bool a8, a9],
            AObj.cells
              [AV.int IntKind.i64 b0, AV.int IntKind.i64 b1, AV.int IntKind.i64 b2, AV.int IntKind.i64 b3, b4, b5,
                AV.int IntKind.i64 b6, AV.int IntKind.i64 b7, AV.bool b8, b9]],
        toks := [] })
                  (fun _ => none)
                | none => none))
              (fun _ => K (AV.bool false)
      {
        objs :=
          [AObj.cells
              [AV.int IntKind.i64 a0, AV.int IntKind.i64 a1, AV.int IntKind.i64 a2, AV.int IntKind.i64 a3, a4, a5,
                AV.int IntKind.i64 a6, AV.int IntKind.i64 a7, AV.bool a8, a9],
            AObj.cells
              [AV.int IntKind.i64 b0, AV.int IntKind.i64 b1, AV.int IntKind.i64 b2, AV.int IntKind.i64 b3, b4, b5,
                AV.int IntKind.i64 b6, AV.int IntKind.i64 b7, AV.bool b8, b9]],
        toks := [] }))
            (fun _ => none)
          | none => none))
        (fun _ => K (AV.bool false)
      {
        objs :=
          [AObj.cells
              [AV.int IntKind.i64 a0, AV.int IntKind.i64 a1, AV.int IntKind.i64 a2, AV.int IntKind.i64 a3, a4, a5,
                AV.int IntKind.i64 a6, AV.int IntKind.i64 a7, AV.bool a8, a9],
            AObj.cells
              [AV.int IntKind.i64 b0, AV.int IntKind.i64 b1, AV.int IntKind.i64 b2, AV.int IntKind.i64 b3, b4, b5,
                AV.int IntKind.i64 b6, AV.int IntKind.i64 b7, AV.bool b8, b9]],
        toks := [] }))
      (fun _ => K (AV.bool false)
      {
        objs :=
          [AObj.cells
              [AV.int IntKind.i64 a0, AV.int IntKind.i64 a1, AV.int IntKind.i64 a2, AV.int IntKind.i64 a3, a4, a5,
                AV.int IntKind.i64 a6, AV.int IntKind.i64 a7, AV.bool a8, a9],
            AObj.cells
              [AV.int IntKind.i64 b0, AV.int IntKind.i64 b1, AV.int IntKind.i64 b2, AV.int IntKind.i64 b3, b4, b5,
                AV.int IntKind.i64 b6, AV.int IntKind.i64 b7, AV.bool b8, b9]],
        toks := [] }))
    (fun _ => K (AV.bool false)
      {
        objs :=
          [AObj.cells
              [AV.int IntKind.i64 a0, AV.int IntKind.i64 a1, AV.int IntKind.i64 a2, AV.int IntKind.i64 a3, a4, a5,
                AV.int IntKind.i64 a6, AV.int IntKind.i64 a7, AV.bool a8, a9],
            AObj.cells
              [AV.int IntKind.i64 b0, AV.int IntKind.i64 b1, AV.int IntKind.i64 b2, AV.int IntKind.i64 b3, b4, b5,
                AV.int IntKind.i64 b6, AV.int IntKind.i64 b7, AV.bool b8, b9]],
        toks := [] }) := by kernel_rfl
-- PROOFS
theorem eq59 (m : Array Value) (e66 : ∀ {u w : AV}, tyV dtSpec u → tyV dtSpec w → nrm u = nrm w → ∀ H, callL (Rep.D m) 66 [u, w] H = some (.bool true, H)) (e67 : ∀ {u w : AV}, tyV (.sl 8 dtTask) u → tyV (.sl 8 dtTask) w → nrm u = nrm w → ∀ H, callL (Rep.D m) 67 [u, w] H = some (.bool true, H)) {a b : AV} (ha : tyV dtAlloc a) (hb : tyV dtAlloc b) (hs : nrm a = nrm b) (H : AH) : callL (Rep.D m) 59 [a, b] H = some (.bool true, H) := by
  refine callL_D (tabD0_ok m) (fuel := 1) (n := 2) (fn := Tryd.f59) (ds := [dtAlloc, dtAlloc]) (v := .bool true) (by kernel_rfl) (by kernel_rfl) (by kernel_rfl) ⟨ha, hb, trivial⟩ ?_ rfl
  have ha' := tyV_erase ha
  have hb' := tyV_erase hb
  have hs' : nrm (erase a) = nrm (erase b) := by rw [tyV_nrm ha, tyV_nrm hb]; exact hs
  show runI (Rep.D m) (cD m 1) 1 Tryd.f59 [erase a, erase b] ⟨[], []⟩ (fun v _ => some v) = _
  generalize erase a = a at ha' hs' ⊢
  generalize erase b = b at hb' hs' ⊢
  clear hs
  have hs := hs'
  clear hs'
  obtain ⟨a0, a1, a2, a3, a4, a5, a6, a7, a8, a9, rfl, aw0, aw1, aw2, aw3, aw4, aw5, aw6, aw7, aw9⟩ := un_dtAlloc ha'
  obtain ⟨b0, b1, b2, b3, b4, b5, b6, b7, b8, b9, rfl, bw0, bw1, bw2, bw3, bw4, bw5, bw6, bw7, bw9⟩ := un_dtAlloc hb'
  simp only [nrm, nrmL, AV.agg.injEq, List.cons.injEq, AV.int.injEq, AV.bool.injEq, AV.str.injEq, true_and, and_true] at hs
  obtain ⟨rfl, rfl, rfl, rfl, k4, k5, rfl, rfl, rfl, k9⟩ := hs
  rw [form59]
  simp only [beq_self_eq_true, Bool.and_self, br]
  rw [valH_of (e66 (mk_dtSpec aw0 aw1 aw2 aw3 aw4 aw5) (mk_dtSpec bw0 bw1 bw2 bw3 bw4 bw5) (by simp only [nrm, nrmL, k4, k5]) _)] <;> simp only [fitS, AV.boolOf]
  rw [valH_of (e67 aw9 bw9 k9 _)] <;> simp only [fitS, AV.boolOf]
-- DEFS
theorem form26 (m : Array Value) {R : Type} (fuel : Nat) (a0 : Int) (a1 : Int) (a2 : Int) (a3 : Int) (a4 : AV) (b0 : Int) (b1 : Int) (b2 : Int) (b3 : Int) (b4 : AV) (K : AV → AH → Option R) :
  runI (Rep.D m) (cD m fuel) fuel Tryd.f26 [.agg [.int .i64 a0, .int .i64 a1, .int .i64 a2, .int .i64 a3, a4], .agg [.int .i64 b0, .int .i64 b1, .int .i64 b2, .int .i64 b3, b4]] ⟨[], []⟩ K =
  br (a0 == b0)
    (fun _ => br (a1 == b1)
      (fun _ => br (a2 == b2)
        (fun _ => br (a3 == b3)
          (fun _ => (match valH (Rep.D m) 47 [a4, b4]
      {
        objs :=
          [AObj.cells [AV.int IntKind.i64 a0, AV.int IntKind.i64 a1, AV.int IntKind.i64 a2, AV.int IntKind.i64 a3, a4],
            AObj.cells [AV.int IntKind.i64 b0, AV.int IntKind.i64 b1, AV.int IntKind.i64 b2, AV.int IntKind.i64 b3, b4]],
        toks := [] } with
            | some u4 => br (fitS Sh.bool u4)
              (fun _ => K (AV.bool u4.boolOf)
      {
        objs :=
          [AObj.cells [AV.int IntKind.i64 a0, AV.int IntKind.i64 a1, AV.int IntKind.i64 a2, AV.int IntKind.i64 a3, a4],
            AObj.cells [AV.int IntKind.i64 b0, AV.int IntKind.i64 b1, AV.int IntKind.i64 b2, AV.int IntKind.i64 b3, b4]],
        toks := [] })
              (fun _ => none)
            | none => none))
          (fun _ => K (AV.bool false)
      {
        objs :=
          [AObj.cells [AV.int IntKind.i64 a0, AV.int IntKind.i64 a1, AV.int IntKind.i64 a2, AV.int IntKind.i64 a3, a4],
            AObj.cells [AV.int IntKind.i64 b0, AV.int IntKind.i64 b1, AV.int IntKind.i64 b2, AV.int IntKind.i64 b3, b4]],
        toks := [] }))
        (fun _ => K (AV.bool false)
      {
        objs :=
          [AObj.cells [AV.int IntKind.i64 a0, AV.int IntKind.i64 a1, AV.int IntKind.i64 a2, AV.int IntKind.i64 a3, a4],
            AObj.cells [AV.int IntKind.i64 b0, AV.int IntKind.i64 b1, AV.int IntKind.i64 b2, AV.int IntKind.i64 b3, b4]],
        toks := [] }))
      (fun _ => K (AV.bool false)
      {
        objs :=
          [AObj.cells [AV.int IntKind.i64 a0, AV.int IntKind.i64 a1, AV.int IntKind.i64 a2, AV.int IntKind.i64 a3, a4],
            AObj.cells [AV.int IntKind.i64 b0, AV.int IntKind.i64 b1, AV.int IntKind.i64 b2, AV.int IntKind.i64 b3, b4]],
        toks := [] }))
    (fun _ => K (AV.bool false)
      {
        objs :=
          [AObj.cells [AV.int IntKind.i64 a0, AV.int IntKind.i64 a1, AV.int IntKind.i64 a2, AV.int IntKind.i64 a3, a4],
            AObj.cells [AV.int IntKind.i64 b0, AV.int IntKind.i64 b1, AV.int IntKind.i64 b2, AV.int IntKind.i64 b3, b4]],
        toks := [] }) := by kernel_rfl
-- PROOFS
theorem eq26 (m : Array Value) (e47 : ∀ {u w : AV}, tyV (.sl 10 dtAlloc) u → tyV (.sl 10 dtAlloc) w → nrm u = nrm w → ∀ H, callL (Rep.D m) 47 [u, w] H = some (.bool true, H)) {a b : AV} (ha : tyV dtState a) (hb : tyV dtState b) (hs : nrm a = nrm b) (H : AH) : callL (Rep.D m) 26 [a, b] H = some (.bool true, H) := by
  refine callL_D (tabD0_ok m) (fuel := 1) (n := 2) (fn := Tryd.f26) (ds := [dtState, dtState]) (v := .bool true) (by kernel_rfl) (by kernel_rfl) (by kernel_rfl) ⟨ha, hb, trivial⟩ ?_ rfl
  have ha' := tyV_erase ha
  have hb' := tyV_erase hb
  have hs' : nrm (erase a) = nrm (erase b) := by rw [tyV_nrm ha, tyV_nrm hb]; exact hs
  show runI (Rep.D m) (cD m 1) 1 Tryd.f26 [erase a, erase b] ⟨[], []⟩ (fun v _ => some v) = _
  generalize erase a = a at ha' hs' ⊢
  generalize erase b = b at hb' hs' ⊢
  clear hs
  have hs := hs'
  clear hs'
  obtain ⟨a0, a1, a2, a3, a4, rfl, aw0, aw1, aw2, aw3, aw4⟩ := un_dtState ha'
  obtain ⟨b0, b1, b2, b3, b4, rfl, bw0, bw1, bw2, bw3, bw4⟩ := un_dtState hb'
  simp only [nrm, nrmL, AV.agg.injEq, List.cons.injEq, AV.int.injEq, AV.bool.injEq, AV.str.injEq, true_and, and_true] at hs
  obtain ⟨rfl, rfl, rfl, rfl, k4⟩ := hs
  rw [form26]
  simp only [beq_self_eq_true, Bool.and_self, br]
  rw [valH_of (e47 aw4 bw4 k4 _)] <;> simp only [fitS, AV.boolOf]
-- DEFS
theorem form78 (m : Array Value) {R : Type} (fuel : Nat) (a0 : Int) (a1 : Int) (a2 : Int) (a3 : Int) (a4 : Int) (a5 : Int) (a6 : Int) (a7 : AV) (K : AV → AH → Option R) :
  runI (Rep.D m) (cD m fuel) fuel Tryd.f78 [.agg [.int .u8 a0, .int .i64 a1, .int .i64 a2, .int .i64 a3, .int .i64 a4, .int .i64 a5, .int .i64 a6, a7]] ⟨[], []⟩ K =
  (match valH (Rep.D m) 76 [a7]
      {
        objs :=
          [AObj.cells
              [AV.int IntKind.u8 a0, AV.int IntKind.i64 a1, AV.int IntKind.i64 a2, AV.int IntKind.i64 a3,
                AV.int IntKind.i64 a4, AV.int IntKind.i64 a5, AV.int IntKind.i64 a6, a7],
            AObj.cells
              [AV.int IntKind.u8 ((0 : Int)), AV.int IntKind.i64 ((0 : Int)), AV.int IntKind.i64 ((0 : Int)),
                AV.int IntKind.i64 ((0 : Int)), AV.int IntKind.i64 ((0 : Int)), AV.int IntKind.i64 ((0 : Int)),
                AV.int IntKind.i64 ((0 : Int)), AV.nils]],
        toks := [] } with
    | some u0 => br (u0.isOne)
      (fun _ => K
      (AV.agg
        [AV.int IntKind.u8 a0, AV.int IntKind.i64 a1, AV.int IntKind.i64 a2, AV.int IntKind.i64 a3, AV.int IntKind.i64 a4,
          AV.int IntKind.i64 a5, AV.int IntKind.i64 a6, u0])
      {
        objs :=
          [AObj.cells
              [AV.int IntKind.u8 a0, AV.int IntKind.i64 a1, AV.int IntKind.i64 a2, AV.int IntKind.i64 a3,
                AV.int IntKind.i64 a4, AV.int IntKind.i64 a5, AV.int IntKind.i64 a6, u0],
            AObj.cells
              [AV.int IntKind.u8 a0, AV.int IntKind.i64 a1, AV.int IntKind.i64 a2, AV.int IntKind.i64 a3,
                AV.int IntKind.i64 a4, AV.int IntKind.i64 a5, AV.int IntKind.i64 a6, u0]],
        toks := [] })
      (fun _ => none)
    | none => none) := by kernel_rfl
-- PROOFS
theorem cp78 (m : Array Value) (p76 : ∀ {u : AV}, tyV (.sl 1 dtI) u → bnd 100000 u = true → ∃ v, (∀ H : AH, callL (Rep.D m) 76 [u] H = some (v, H)) ∧ tyV (.sl 1 dtI) v ∧ nrm v = nrm u) {a : AV} (ha : tyV dtTask a) (hb : bnd 100000 a = true) : ∃ v, (∀ H : AH, callL (Rep.D m) 78 [a] H = some (v, H)) ∧ tyV dtTask v ∧ nrm v = nrm a := by
  have ha' := tyV_erase ha
  have hb' : bnd 100000 (erase a) = true := bnd_same (tyV_nrm ha) hb
  have key : ∃ v, runI (Rep.D m) (cD m 1) 1 Tryd.f78 [erase a] ⟨[], []⟩ (fun v _ => some v) = some v ∧ tyV dtTask v ∧ nrm v = nrm (erase a) := by
    generalize erase a = a at ha' hb' ⊢
    obtain ⟨a0, a1, a2, a3, a4, a5, a6, a7, rfl, aw0, aw1, aw2, aw3, aw4, aw5, aw6, aw7⟩ := un_dtTask ha'
    simp only [bnd, bndL, Bool.and_eq_true, Bool.true_and, Bool.and_true, true_and, and_true] at hb'
    have q7 := hb'
    rw [form78]
    obtain ⟨v0, hv0, tv0, nv0⟩ := p76 aw7 q7
    rw [valH_of (hv0 _)]
    simp only [(sl_facts tv0).2.2.2.2, br, AV.isAgg, AV.aggOf, fitL, fitS, hdV, tlV, AV.numOf, AV.boolOf, shS, decide_true, Bool.and_self, Bool.and_true, Bool.true_and]
    refine ⟨_, rfl, mk_dtTask aw0 aw1 aw2 aw3 aw4 aw5 aw6 tv0, ?_⟩
    simp only [nrm, nrmL, nv0]
  obtain ⟨v, h1, h2, h3⟩ := key
  refine ⟨v, fun H => ?_, h2, by rw [h3, tyV_nrm ha]⟩
  have hd := tyV_detok h2
  rw [← hd]
  exact callL_D (tabD0_ok m) (fuel := 1) (n := 2) (fn := Tryd.f78) (ds := [dtTask]) (v := v) (by kernel_rfl) (by kernel_rfl) (by kernel_rfl) ⟨ha, trivial⟩ h1 (by rw [hd]; exact tyV_below h2 0 0)
-- DEFS
theorem form64 (m : Array Value) {R : Type} (fuel : Nat) (a0 : Int) (a1 : Int) (a2 : Int) (a3 : Int) (a4 : AV) (a5 : AV) (K : AV → AH → Option R) :
  runI (Rep.D m) (cD m fuel) fuel Tryd.f64 [.agg [.int .i64 a0, .int .i64 a1, .int .i64 a2, .int .i64 a3, a4, a5]] ⟨[], []⟩ K =
  (match valH (Rep.D m) 76 [a4]
      {
        objs :=
          [AObj.cells [AV.int IntKind.i64 a0, AV.int IntKind.i64 a1, AV.int IntKind.i64 a2, AV.int IntKind.i64 a3, a4, a5],
            AObj.cells
              [AV.int IntKind.i64 ((0 : Int)), AV.int IntKind.i64 ((0 : Int)), AV.int IntKind.i64 ((0 : Int)),
                AV.int IntKind.i64 ((0 : Int)), AV.nils, AV.nils]],
        toks := [] } with
    | some u0 => (match valH (Rep.D m) 77 [a5]
      {
        objs :=
          [AObj.cells [AV.int IntKind.i64 a0, AV.int IntKind.i64 a1, AV.int IntKind.i64 a2, AV.int IntKind.i64 a3, a4, a5],
            AObj.cells
              [AV.int IntKind.i64 ((0 : Int)), AV.int IntKind.i64 ((0 : Int)), AV.int IntKind.i64 ((0 : Int)),
                AV.int IntKind.i64 ((0 : Int)), AV.nils, AV.nils]],
        toks := [] } with
      | some u1 => br (u0.isOne)
        (fun _ => br (u1.isOne)
          (fun _ => K (AV.agg [AV.int IntKind.i64 a0, AV.int IntKind.i64 a1, AV.int IntKind.i64 a2, AV.int IntKind.i64 a3, u0, u1])
      {
        objs :=
          [AObj.cells [AV.int IntKind.i64 a0, AV.int IntKind.i64 a1, AV.int IntKind.i64 a2, AV.int IntKind.i64 a3, u0, u1],
            AObj.cells
              [AV.int IntKind.i64 a0, AV.int IntKind.i64 a1, AV.int IntKind.i64 a2, AV.int IntKind.i64 a3, u0, u1]],
        toks := [] })
          (fun _ => none))
        (fun _ => none)
      | none => none)
    | none => none) := by kernel_rfl
-- PROOFS
theorem cp64 (m : Array Value) (p76 : ∀ {u : AV}, tyV (.sl 1 dtI) u → bnd 100000 u = true → ∃ v, (∀ H : AH, callL (Rep.D m) 76 [u] H = some (v, H)) ∧ tyV (.sl 1 dtI) v ∧ nrm v = nrm u) (p77 : ∀ {u : AV}, tyV (.sl 6 dtTS) u → bnd 100000 u = true → ∃ v, (∀ H : AH, callL (Rep.D m) 77 [u] H = some (v, H)) ∧ tyV (.sl 6 dtTS) v ∧ nrm v = nrm u) {a : AV} (ha : tyV dtSpec a) (hb : bnd 100000 a = true) : ∃ v, (∀ H : AH, callL (Rep.D m) 64 [a] H = some (v, H)) ∧ tyV dtSpec v ∧ nrm v = nrm a := by
  have ha' := tyV_erase ha
  have hb' : bnd 100000 (erase a) = true := bnd_same (tyV_nrm ha) hb
  have key : ∃ v, runI (Rep.D m) (cD m 1) 1 Tryd.f64 [erase a] ⟨[], []⟩ (fun v _ => some v) = some v ∧ tyV dtSpec v ∧ nrm v = nrm (erase a) := by
    generalize erase a = a at ha' hb' ⊢
    obtain ⟨a0, a1, a2, a3, a4, a5, rfl, aw0, aw1, aw2, aw3, aw4, aw5⟩ := un_dtSpec ha'
    simp only [bnd, bndL, Bool.and_eq_true, Bool.true_and, Bool.and_true, true_and, and_true] at hb'
    obtain ⟨q4, q5⟩ := hb'
    rw [form64]
    obtain ⟨v0, hv0, tv0, nv0⟩ := p76 aw4 q4
    obtain ⟨v1, hv1, tv1, nv1⟩ := p77 aw5 q5
    rw [valH_of (hv0 _)]
    simp only [(sl_facts tv0).2.2.2.2, br, AV.isAgg, AV.aggOf, fitL, fitS, hdV, tlV, AV.numOf, AV.boolOf, shS, decide_true, Bool.and_self, Bool.and_true, Bool.true_and]
    rw [valH_of (hv1 _)]
    simp only [(sl_facts tv1).2.2.2.2, br, AV.isAgg, AV.aggOf, fitL, fitS, hdV, tlV, AV.numOf, AV.boolOf, shS, decide_true, Bool.and_self, Bool.and_true, Bool.true_and]
    refine ⟨_, rfl, mk_dtSpec aw0 aw1 aw2 aw3 tv0 tv1, ?_⟩
    simp only [nrm, nrmL, nv0, nv1]
  obtain ⟨v, h1, h2, h3⟩ := key
  refine ⟨v, fun H => ?_, h2, by rw [h3, tyV_nrm ha]⟩
  have hd := tyV_detok h2
  rw [← hd]
  exact callL_D (tabD0_ok m) (fuel := 1) (n := 2) (fn := Tryd.f64) (ds := [dtSpec]) (v := v) (by kernel_rfl) (by kernel_rfl) (by kernel_rfl) ⟨ha, trivial⟩ h1 (by rw [hd]; exact tyV_below h2 0 0)
-- DEFS
theorem form58 (m : Array Value) {R : Type} (fuel : Nat) (a0 : Int) (a1 : Int) (a2 : Int) (a3 : Int) (a4 : AV) (a5 : AV) (a6 : Int) (a7 : Int) (a8 : Bool) (a9 : AV) (K : AV → AH → Option R) :
  runI (Rep.D m) (cD m fuel) fuel Tryd.f58 [.agg [.int .i64 a0, .int .i64 a1, .int .i64 a2, .int .i64 a3, a4, a5, .int .i64 a6, .int .i64 a7, .bool a8, a9]] ⟨[], []⟩ K =
  (match valH (Rep.D m) 64
      [AV.agg [AV.int IntKind.i64 a0, AV.int IntKind.i64 a1, AV.int IntKind.i64 a2, AV.int IntKind.i64 a3, a4, a5]]
      {
        objs :=
          [AObj.cells
              [AV.int IntKind.i64 a0, AV.int IntKind.i64 a1, AV.int IntKind.i64 a2, AV.int IntKind.i64 a3, a4, a5,
                AV.int IntKind.i64 a6, AV.int IntKind.i64 a7, AV.bool a8, a9],
            AObj.cells
              [AV.int IntKind.i64 ((0 : Int)), AV.int IntKind.i64 ((0 : Int)), AV.int IntKind.i64 ((0 : Int)),
                AV.int IntKind.i64 ((0 : Int)), AV.nils, AV.nils, AV.int IntKind.i64 ((0 : Int)),
                AV.int IntKind.i64 ((0 : Int)), AV.bool false, AV.nils]],
        toks := [] } with
    | some u0 => br (u0.isAgg &&
      fitL [Sh.int IntKind.i64, Sh.int IntKind.i64, Sh.int IntKind.i64, Sh.int IntKind.i64, Sh.any, Sh.any] u0.aggOf)
      (fun _ => (match valH (Rep.D m) 65 [a9]
      {
        objs :=
          [AObj.cells
              [AV.int IntKind.i64 a0, AV.int IntKind.i64 a1, AV.int IntKind.i64 a2, AV.int IntKind.i64 a3, a4, a5,
                AV.int IntKind.i64 a6, AV.int IntKind.i64 a7, AV.bool a8, a9],
            AObj.cells
              [AV.int IntKind.i64 ((0 : Int)), AV.int IntKind.i64 ((0 : Int)), AV.int IntKind.i64 ((0 : Int)),
                AV.int IntKind.i64 ((0 : Int)), AV.nils, AV.nils, AV.int IntKind.i64 ((0 : Int)),
                AV.int IntKind.i64 ((0 : Int)), AV.bool false, AV.nils]],
        toks := [] } with
        | some u2 => br (u2.isOne)
          (fun _ => K
      (AV.agg
        [AV.int IntKind.i64 (hdV u0.aggOf).numOf, AV.int IntKind.i64 (hdV (tlV u0.aggOf)).numOf,
          AV.int IntKind.i64 (hdV (tlV (tlV u0.aggOf))).numOf, AV.int IntKind.i64 (hdV (tlV (tlV (tlV u0.aggOf)))).numOf,
          shS Sh.any (hdV (tlV (tlV (tlV (tlV u0.aggOf))))), shS Sh.any (hdV (tlV (tlV (tlV (tlV (tlV u0.aggOf)))))),
          AV.int IntKind.i64 a6, AV.int IntKind.i64 a7, AV.bool a8, u2])
      {
        objs :=
          [AObj.cells
              [AV.int IntKind.i64 (hdV u0.aggOf).numOf, AV.int IntKind.i64 (hdV (tlV u0.aggOf)).numOf,
                AV.int IntKind.i64 (hdV (tlV (tlV u0.aggOf))).numOf,
                AV.int IntKind.i64 (hdV (tlV (tlV (tlV u0.aggOf)))).numOf,
                shS Sh.any (hdV (tlV (tlV (tlV (tlV u0.aggOf))))), shS Sh.any (hdV (tlV (tlV (tlV (tlV (tlV u0.aggOf)))))),
                AV.int IntKind.i64 a6, AV.int IntKind.i64 a7, AV.bool a8, u2],
            AObj.cells
              [AV.int IntKind.i64 (hdV u0.aggOf).numOf, AV.int IntKind.i64 (hdV (tlV u0.aggOf)).numOf,
                AV.int IntKind.i64 (hdV (tlV (tlV u0.aggOf))).numOf,
                AV.int IntKind.i64 (hdV (tlV (tlV (tlV u0.aggOf)))).numOf,
                shS Sh.any (hdV (tlV (tlV (tlV (tlV u0.aggOf))))), shS Sh.any (hdV (tlV (tlV (tlV (tlV (tlV u0.aggOf)))))),
                AV.int IntKind.i64 a6, AV.int IntKind.i64 a7, AV.bool a8, u2]],
        toks := [] })
          (fun _ => none)
        | none => none))
      (fun _ => none)
    | none => none) := by kernel_rfl
-- PROOFS
theorem cp58 (m : Array Value) (p64 : ∀ {u : AV}, tyV dtSpec u → bnd 100000 u = true → ∃ v, (∀ H : AH, callL (Rep.D m) 64 [u] H = some (v, H)) ∧ tyV dtSpec v ∧ nrm v = nrm u) (p65 : ∀ {u : AV}, tyV (.sl 8 dtTask) u → bnd 100000 u = true → ∃ v, (∀ H : AH, callL (Rep.D m) 65 [u] H = some (v, H)) ∧ tyV (.sl 8 dtTask) v ∧ nrm v = nrm u) {a : AV} (ha : tyV dtAlloc a) (hb : bnd 100000 a = true) : ∃ v, (∀ H : AH, callL (Rep.D m) 58 [a] H = some (v, H)) ∧ tyV dtAlloc v ∧ nrm v = nrm a := by
  have ha' := tyV_erase ha
  have hb' : bnd 100000 (erase a) = true := bnd_same (tyV_nrm ha) hb
  have key : ∃ v, runI (Rep.D m) (cD m 1) 1 Tryd.f58 [erase a] ⟨[], []⟩ (fun v _ => some v) = some v ∧ tyV dtAlloc v ∧ nrm v = nrm (erase a) := by
    generalize erase a = a at ha' hb' ⊢
    obtain ⟨a0, a1, a2, a3, a4, a5, a6, a7, a8, a9, rfl, aw0, aw1, aw2, aw3, aw4, aw5, aw6, aw7, aw9⟩ := un_dtAlloc ha'
    simp only [bnd, bndL, Bool.and_eq_true, Bool.true_and, Bool.and_true, true_and, and_true] at hb'
    obtain ⟨q4, q5, q9⟩ := hb'
    rw [form58]
    obtain ⟨v0, hv0, tv0, nv0⟩ := p64 (mk_dtSpec aw0 aw1 aw2 aw3 aw4 aw5) (by simp only [bnd, bndL, Bool.and_self, Bool.true_and, q4, q5])
    obtain ⟨v1, hv1, tv1, nv1⟩ := p65 aw9 q9
    obtain ⟨d0, d1, d2, d3, d4, d5, rfl, dw0, dw1, dw2, dw3, dw4, dw5⟩ := un_dtSpec tv0
    simp only [nrm, nrmL, AV.agg.injEq, List.cons.injEq, AV.int.injEq, AV.bool.injEq, AV.str.injEq, true_and, and_true] at nv0
    obtain ⟨rfl, rfl, rfl, rfl, k4, k5⟩ := nv0
    rw [valH_of (hv0 _)]
    simp only [br, AV.isAgg, AV.aggOf, fitL, fitS, hdV, tlV, AV.numOf, AV.boolOf, shS, decide_true, Bool.and_self, Bool.and_true, Bool.true_and]
    try simp only [(sl_facts dw4).2.2.2.2]
    try simp only [(sl_facts dw5).2.2.2.2]
    rw [valH_of (hv1 _)]
    simp only [(sl_facts tv1).2.2.2.2, br, AV.isAgg, AV.aggOf, fitL, fitS, hdV, tlV, AV.numOf, AV.boolOf, shS, decide_true, Bool.and_self, Bool.and_true, Bool.true_and]
    refine ⟨_, rfl, mk_dtAlloc aw0 aw1 aw2 aw3 dw4 dw5 aw6 aw7 tv1, ?_⟩
    simp only [nrm, nrmL, k4, k5, nv1]
  obtain ⟨v, h1, h2, h3⟩ := key
  refine ⟨v, fun H => ?_, h2, by rw [h3, tyV_nrm ha]⟩
  have hd := tyV_detok h2
  rw [← hd]
  exact callL_D (tabD0_ok m) (fuel := 1) (n := 2) (fn := Tryd.f58) (ds := [dtAlloc]) (v := v) (by kernel_rfl) (by kernel_rfl) (by kernel_rfl) ⟨ha, trivial⟩ h1 (by rw [hd]; exact tyV_below h2 0 0)
-- DEFS
theorem form21 (m : Array Value) {R : Type} (fuel : Nat) (a0 : Int) (a1 : Int) (a2 : Int) (a3 : Int) (a4 : AV) (K : AV → AH → Option R) :
  runI (Rep.D m) (cD m fuel) fuel Tryd.f21 [.agg [.int .i64 a0, .int .i64 a1, .int .i64 a2, .int .i64 a3, a4]] ⟨[], []⟩ K =
  (match valH (Rep.D m) 46 [a4]
      {
        objs :=
          [AObj.cells [AV.int IntKind.i64 a0, AV.int IntKind.i64 a1, AV.int IntKind.i64 a2, AV.int IntKind.i64 a3, a4],
            AObj.cells
              [AV.int IntKind.i64 ((0 : Int)), AV.int IntKind.i64 ((0 : Int)), AV.int IntKind.i64 ((0 : Int)),
                AV.int IntKind.i64 ((0 : Int)), AV.nils]],
        toks := [] } with
    | some u0 => br (u0.isOne)
      (fun _ => K (AV.agg [AV.int IntKind.i64 a0, AV.int IntKind.i64 a1, AV.int IntKind.i64 a2, AV.int IntKind.i64 a3, u0])
      {
        objs :=
          [AObj.cells [AV.int IntKind.i64 a0, AV.int IntKind.i64 a1, AV.int IntKind.i64 a2, AV.int IntKind.i64 a3, u0],
            AObj.cells [AV.int IntKind.i64 a0, AV.int IntKind.i64 a1, AV.int IntKind.i64 a2, AV.int IntKind.i64 a3, u0]],
        toks := [] })
      (fun _ => none)
    | none => none) := by kernel_rfl
-- PROOFS
theorem cp21 (m : Array Value) (p46 : ∀ {u : AV}, tyV (.sl 10 dtAlloc) u → bnd 100000 u = true → ∃ v, (∀ H : AH, callL (Rep.D m) 46 [u] H = some (v, H)) ∧ tyV (.sl 10 dtAlloc) v ∧ nrm v = nrm u) {a : AV} (ha : tyV dtState a) (hb : bnd 100000 a = true) : ∃ v, (∀ H : AH, callL (Rep.D m) 21 [a] H = some (v, H)) ∧ tyV dtState v ∧ nrm v = nrm a := by
  have ha' := tyV_erase ha
  have hb' : bnd 100000 (erase a) = true := bnd_same (tyV_nrm ha) hb
  have key : ∃ v, runI (Rep.D m) (cD m 1) 1 Tryd.f21 [erase a] ⟨[], []⟩ (fun v _ => some v) = some v ∧ tyV dtState v ∧ nrm v = nrm (erase a) := by
    generalize erase a = a at ha' hb' ⊢
    obtain ⟨a0, a1, a2, a3, a4, rfl, aw0, aw1, aw2, aw3, aw4⟩ := un_dtState ha'
    simp only [bnd, bndL, Bool.and_eq_true, Bool.true_and, Bool.and_true, true_and, and_true] at hb'
    have q4 := hb'
    rw [form21]
    obtain ⟨v0, hv0, tv0, nv0⟩ := p46 aw4 q4
    rw [valH_of (hv0 _)]
    simp only [(sl_facts tv0).2.2.2.2, br, AV.isAgg, AV.aggOf, fitL, fitS, hdV, tlV, AV.numOf, AV.boolOf, shS, decide_true, Bool.and_self, Bool.and_true, Bool.true_and]
    refine ⟨_, rfl, mk_dtState aw0 aw1 aw2 aw3 tv0, ?_⟩
    simp only [nrm, nrmL, nv0]
  obtain ⟨v, h1, h2, h3⟩ := key
  refine ⟨v, fun H => ?_, h2, by rw [h3, tyV_nrm ha]⟩
  have hd := tyV_detok h2
  rw [← hd]
  exact callL_D (tabD0_ok m) (fuel := 1) (n := 2) (fn := Tryd.f21) (ds := [dtState]) (v := v) (by kernel_rfl) (by kernel_rfl) (by kernel_rfl) ⟨ha, trivial⟩ h1 (by rw [hd]; exact tyV_below h2 0 0)
-- DEFS
end Go.Proofs.YtoagnbpmoihojaaDoor

/- The reference's Of. -/
import Derived.Test.YtoagnbpmoihojaaDoorRepOf
set_option maxRecDepth 100000
set_option linter.unusedSimpArgs false
set_option linter.unusedVariables false
namespace Go.Proofs.YtoagnbpmoihojaaDoor
open Go.Sx

noncomputable def rfO : Code := subC (bodyOf Tryd.f25) [1, 1, 0, 1, 0, 0]
def rfOR : List Nat := [1, 0, 0, 1, 1, 0]
noncomputable def rfM : Code := subC rfO [1, 0, 0, 1, 1, 0, 0]
def rfMR : List Nat := [1, 0, 0, 1, 1, 0, 1, 0]
noncomputable def rfI : Code := subC rfM [1, 0, 0, 1, 1, 0, 1, 0, 0]
def alC (b0 : Int) (b1 b2 b3 b4 b5 b6 b7 b8 b9 : AV) : List AV := [.int .i64 b0, b1, b2, b3, b4, b5, b6, b7, b8, b9]
def tkC (c0 c1 : Int) (c2 c3 c4 c5 c6 c7 : AV) : List AV := [.int .u8 c0, .int .i64 c1, c2, c3, c4, c5, c6, c7]
theorem rf_pre (m : Array Value) {R : Type} (fuel : Nat) (a0 a1 a2 a3 : Int) (a4 l : AV) (K : AV → AH → Option R) :
  runI (Rep.D m) (cD m fuel) fuel Tryd.f25 [.agg (stC a0 a1 a2 a3 a4), l] ⟨[], []⟩ K =
  loopC (Rep.D m) (cD m fuel) fuel rfO fuel [AV.agg [AV.int IntKind.i64 a0, AV.int IntKind.i64 a1, AV.int IntKind.i64 a2, AV.int IntKind.i64 a3, a4], l, AV.ptr 0 0, AV.top, AV.nils, AV.nils, AV.int IntKind.i64 ((0 : Int)), AV.top, AV.top, AV.top, AV.top, AV.top, AV.top, AV.top, AV.top, AV.top, AV.top, AV.top, AV.top, AV.top, AV.top, AV.top, AV.top, AV.top, AV.top, AV.top, AV.top, AV.top, AV.top, AV.top, AV.top, AV.top, AV.top, AV.top, AV.top, AV.top, AV.top, AV.top, AV.top, AV.top, AV.top, AV.top, AV.top, AV.top, AV.top, AV.top, AV.top, AV.top, AV.top, AV.top, AV.top, AV.top, AV.top, AV.top, AV.top, AV.top, AV.top, AV.top, AV.top, AV.top, AV.top, AV.top, AV.top, AV.top, AV.top, AV.top, AV.top, AV.top, AV.top, AV.top, AV.top, AV.top, AV.top, AV.top, AV.top, AV.top, AV.top, AV.top, AV.top, AV.top, AV.top, AV.top] { objs := [AObj.cells [AV.int IntKind.i64 a0, AV.int IntKind.i64 a1, AV.int IntKind.i64 a2, AV.int IntKind.i64 a3, a4]], toks := [] } (kontI (Rep.D m) (cD m fuel) fuel (bodyOf Tryd.f25) [1, 1, 0, 1, 0] (endI (Rep.D m) Tryd.f25 K)) := by kernel_rfl
theorem rf_end (m : Array Value) {R : Type} (fuel : Nat) (H : AH) (o : AV) (x0 x1 x2 x3 x4 x6 x7 x8 x9 x10 x11 x12 x13 x14 x15 x16 x17 x18 x19 x20 x21 x22 x23 x24 x25 x26 x27 x28 x29 x30 x31 x32 x33 x34 x35 x36 x37 x38 x39 x40 x41 x42 x43 x44 x45 x46 x47 x48 x49 x50 x51 x52 x53 x54 x55 x56 x57 x58 x59 x60 x61 x62 x63 x64 x65 x66 x67 x68 x69 x70 x71 x72 x73 x74 x75 x76 x77 x78 x79 x80 x81 : AV) (K : AV → AH → Option R) :
  kontI (Rep.D m) (cD m fuel) fuel (bodyOf Tryd.f25) [1, 1, 0, 1, 0] (endI (Rep.D m) Tryd.f25 K) (.exit 0) [x0, x1, x2, x3, x4, o, x6, x7, x8, x9, x10, x11, x12, x13, x14, x15, x16, x17, x18, x19, x20, x21, x22, x23, x24, x25, x26, x27, x28, x29, x30, x31, x32, x33, x34, x35, x36, x37, x38, x39, x40, x41, x42, x43, x44, x45, x46, x47, x48, x49, x50, x51, x52, x53, x54, x55, x56, x57, x58, x59, x60, x61, x62, x63, x64, x65, x66, x67, x68, x69, x70, x71, x72, x73, x74, x75, x76, x77, x78, x79, x80, x81] H =
  K o H := by kernel_rfl
theorem rfO_step (m : Array Value) {R : Type} (fuel k : Nat) (a0 a1 a2 a3 : Int) (a4 : AV) (ts : List (Nat × Nat × TypeId)) (o l : AV) (i : Int) (x0 x3 x7 x8 x9 x10 x11 x12 x13 x14 x15 x16 x17 x18 x19 x20 x21 x22 x23 x24 x25 x26 x27 x28 x29 x30 x31 x32 x33 x34 x35 x36 x37 x38 x39 x40 x41 x42 x43 x44 x45 x46 x47 x48 x49 x50 x51 x52 x53 x54 x55 x56 x57 x58 x59 x60 x61 x62 x63 x64 x65 x66 x67 x68 x69 x70 x71 x72 x73 x74 x75 x76 x77 x78 x79 x80 x81 : AV) (K : Ex → List AV → AH → Option R) :
  loopC (Rep.D m) (cD m fuel) fuel rfO (k + 1) [x0, l, .ptr 0 0, x3, .nils, o, .int .i64 i, x7, x8, x9, x10, x11, x12, x13, x14, x15, x16, x17, x18, x19, x20, x21, x22, x23, x24, x25, x26, x27, x28, x29, x30, x31, x32, x33, x34, x35, x36, x37, x38, x39, x40, x41, x42, x43, x44, x45, x46, x47, x48, x49, x50, x51, x52, x53, x54, x55, x56, x57, x58, x59, x60, x61, x62, x63, x64, x65, x66, x67, x68, x69, x70, x71, x72, x73, x74, x75, x76, x77, x78, x79, x80, x81] ⟨[.cells (stC a0 a1 a2 a3 a4)], ts⟩ K =
  br (AV.listN 10 a4)
    (fun _ => br (decide (i < (↑a4.listOf.length : Int)))
     (fun _ => br (AV.listN 10 a4 && (decide ((0 : Int) ≤ i) && decide (i < (↑a4.listOf.length : Int))))
      (fun _ => (match a4.listOf[i.toNat]? with
       | some u3 => br (u3.isAgg &&
     fitL
      [Sh.int IntKind.i64, Sh.int IntKind.i64, Sh.int IntKind.i64, Sh.int IntKind.i64, Sh.any, Sh.any, Sh.int IntKind.i64,
       Sh.int IntKind.i64, Sh.bool, Sh.any]
      u3.aggOf)
        (fun _ => loopC (Rep.D m) (cD m fuel) fuel rfM fuel [x0, l, AV.ptr 0 0, x3, AV.nils, o, AV.int IntKind.i64 i, AV.ptr 1 0, AV.int IntKind.i64 ((0 : Int)), x9, x10, x11, AV.int IntKind.i64 i, AV.ptr 0 4, a4, AV.int IntKind.i64 (↑a4.listOf.length : Int), AV.bool (decide (i < (↑a4.listOf.length : Int))), x17, x18, AV.ptr 0 4, a4, AV.int IntKind.i64 i, (AV.agg (shL [Sh.int IntKind.i64, Sh.int IntKind.i64, Sh.int IntKind.i64, Sh.int IntKind.i64, Sh.any, Sh.any, Sh.int IntKind.i64, Sh.int IntKind.i64, Sh.bool, Sh.any] u3.aggOf)).rop, AV.agg (shL [Sh.int IntKind.i64, Sh.int IntKind.i64, Sh.int IntKind.i64, Sh.int IntKind.i64, Sh.any, Sh.any, Sh.int IntKind.i64, Sh.int IntKind.i64, Sh.bool, Sh.any] u3.aggOf), x24, x25, x26, x27, x28, x29, x30, x31, x32, x33, x34, x35, x36, x37, x38, x39, x40, x41, x42, x43, x44, x45, x46, x47, x48, x49, x50, x51, x52, x53, x54, x55, x56, x57, x58, x59, x60, x61, x62, x63, x64, x65, x66, x67, x68, x69, x70, x71, x72, x73, x74, x75, x76, x77, x78, x79, x80, x81] { objs := [AObj.cells [AV.int IntKind.i64 a0, AV.int IntKind.i64 a1, AV.int IntKind.i64 a2, AV.int IntKind.i64 a3, a4], AObj.cells [AV.int IntKind.i64 (hdV u3.aggOf).numOf, AV.int IntKind.i64 (hdV (tlV u3.aggOf)).numOf, AV.int IntKind.i64 (hdV (tlV (tlV u3.aggOf))).numOf, AV.int IntKind.i64 (hdV (tlV (tlV (tlV u3.aggOf)))).numOf, shS Sh.any (hdV (tlV (tlV (tlV (tlV u3.aggOf))))), shS Sh.any (hdV (tlV (tlV (tlV (tlV (tlV u3.aggOf)))))), AV.int IntKind.i64 (hdV (tlV (tlV (tlV (tlV (tlV (tlV u3.aggOf))))))).numOf, AV.int IntKind.i64 (hdV (tlV (tlV (tlV (tlV (tlV (tlV (tlV u3.aggOf)))))))).numOf, AV.bool (hdV (tlV (tlV (tlV (tlV (tlV (tlV (tlV (tlV u3.aggOf))))))))).boolOf, shS Sh.any (hdV (tlV (tlV (tlV (tlV (tlV (tlV (tlV (tlV (tlV u3.aggOf))))))))))]], toks := ts } (kontI (Rep.D m) (cD m fuel) fuel rfO rfOR (stepK (Rep.D m) (cD m fuel) fuel rfO k [x0, l, .ptr 0 0, x3, .nils, o, .int .i64 i, x7, x8, x9, x10, x11, x12, x13, x14, x15, x16, x17, x18, x19, x20, x21, x22, x23, x24, x25, x26, x27, x28, x29, x30, x31, x32, x33, x34, x35, x36, x37, x38, x39, x40, x41, x42, x43, x44, x45, x46, x47, x48, x49, x50, x51, x52, x53, x54, x55, x56, x57, x58, x59, x60, x61, x62, x63, x64, x65, x66, x67, x68, x69, x70, x71, x72, x73, x74, x75, x76, x77, x78, x79, x80, x81] ⟨[.cells (stC a0 a1 a2 a3 a4)], ts⟩ K)))
        (fun _ => none)
       | none => none))
      (fun _ => none))
     (fun _ => K (Ex.exit 0)
     [x0, l, AV.ptr 0 0, x3, AV.nils, o, AV.int IntKind.i64 i, x7, x8, x9, x10, x11, AV.int IntKind.i64 i, AV.ptr 0 4, a4,
      AV.int IntKind.i64 (↑a4.listOf.length : Int), AV.bool (decide (i < (↑a4.listOf.length : Int))), x17, x18, x19, x20,
      x21, x22, x23, x24, x25, x26, x27, x28, x29, x30, x31, x32, x33, x34, x35, x36, x37, x38, x39, x40, x41, x42, x43,
      x44, x45, x46, x47, x48, x49, x50, x51, x52, x53, x54, x55, x56, x57, x58, x59, x60, x61, x62, x63, x64, x65, x66,
      x67, x68, x69, x70, x71, x72, x73, x74, x75, x76, x77, x78, x79, x80, x81]
     {
      objs :=
       [AObj.cells [AV.int IntKind.i64 a0, AV.int IntKind.i64 a1, AV.int IntKind.i64 a2, AV.int IntKind.i64 a3, a4]],
      toks := ts }))
    (fun _ => none) := by kernel_rfl
theorem rfO_post (m : Array Value) {R : Type} (fuel k : Nat) (cs cs' : List AV) (ts ts' : List (Nat × Nat × TypeId)) (o l : AV) (i j : Int) (s0 : List AV) (x0 x3 x9 x10 x11 x12 x13 x14 x15 x16 x17 x18 x19 x20 x21 x22 x23 x24 x25 x26 x27 x28 x29 x30 x31 x32 x33 x34 x35 x36 x37 x38 x39 x40 x41 x42 x43 x44 x45 x46 x47 x48 x49 x50 x51 x52 x53 x54 x55 x56 x57 x58 x59 x60 x61 x62 x63 x64 x65 x66 x67 x68 x69 x70 x71 x72 x73 x74 x75 x76 x77 x78 x79 x80 x81 : AV) (K : Ex → List AV → AH → Option R) :
  kontI (Rep.D m) (cD m fuel) fuel rfO rfOR (stepK (Rep.D m) (cD m fuel) fuel rfO k s0 ⟨[.cells cs], ts'⟩ K) (.exit 2) [x0, l, .ptr 0 0, x3, .nils, o, .int .i64 i, .ptr 1 0, .int .i64 j, x9, x10, x11, x12, x13, x14, x15, x16, x17, x18, x19, x20, x21, x22, x23, x24, x25, x26, x27, x28, x29, x30, x31, x32, x33, x34, x35, x36, x37, x38, x39, x40, x41, x42, x43, x44, x45, x46, x47, x48, x49, x50, x51, x52, x53, x54, x55, x56, x57, x58, x59, x60, x61, x62, x63, x64, x65, x66, x67, x68, x69, x70, x71, x72, x73, x74, x75, x76, x77, x78, x79, x80, x81] ⟨[.cells cs, .cells cs'], ts⟩ =
  br (belowO 1 ts.length [AObj.cells cs])
    (fun _ => loopC (Rep.D m) (cD m fuel) fuel rfO k [cutV 1 ts.length x0, cutV 1 ts.length l, AV.ptr 0 0, cutV 1 ts.length x3, AV.nils, cutV 1 ts.length o, AV.int IntKind.i64 (IntKind.i64.wrap (i + (1 : Int))), AV.top, AV.int IntKind.i64 j, cutV 1 ts.length x9, cutV 1 ts.length x10, cutV 1 ts.length x11, cutV 1 ts.length x12, cutV 1 ts.length x13, cutV 1 ts.length x14, cutV 1 ts.length x15, cutV 1 ts.length x16, AV.int IntKind.i64 i, AV.int IntKind.i64 (IntKind.i64.wrap (i + (1 : Int))), cutV 1 ts.length x19, cutV 1 ts.length x20, cutV 1 ts.length x21, cutV 1 ts.length x22, cutV 1 ts.length x23, cutV 1 ts.length x24, cutV 1 ts.length x25, cutV 1 ts.length x26, cutV 1 ts.length x27, cutV 1 ts.length x28, cutV 1 ts.length x29, cutV 1 ts.length x30, cutV 1 ts.length x31, cutV 1 ts.length x32, cutV 1 ts.length x33, cutV 1 ts.length x34, cutV 1 ts.length x35, cutV 1 ts.length x36, cutV 1 ts.length x37, cutV 1 ts.length x38, cutV 1 ts.length x39, cutV 1 ts.length x40, cutV 1 ts.length x41, cutV 1 ts.length x42, cutV 1 ts.length x43, cutV 1 ts.length x44, cutV 1 ts.length x45, cutV 1 ts.length x46, cutV 1 ts.length x47, cutV 1 ts.length x48, cutV 1 ts.length x49, cutV 1 ts.length x50, cutV 1 ts.length x51, cutV 1 ts.length x52, cutV 1 ts.length x53, cutV 1 ts.length x54, cutV 1 ts.length x55, cutV 1 ts.length x56, cutV 1 ts.length x57, cutV 1 ts.length x58, cutV 1 ts.length x59, cutV 1 ts.length x60, cutV 1 ts.length x61, cutV 1 ts.length x62, cutV 1 ts.length x63, cutV 1 ts.length x64, cutV 1 ts.length x65, cutV 1 ts.length x66, cutV 1 ts.length x67, cutV 1 ts.length x68, cutV 1 ts.length x69, cutV 1 ts.length x70, cutV 1 ts.length x71, cutV 1 ts.length x72, cutV 1 ts.length x73, cutV 1 ts.length x74, cutV 1 ts.length x75, cutV 1 ts.length x76, cutV 1 ts.length x77, cutV 1 ts.length x78, cutV 1 ts.length x79, cutV 1 ts.length x80, cutV 1 ts.length x81] { objs := [AObj.cells cs], toks := ts } K)
    (fun _ => none) := by kernel_rfl
theorem rfM_step (m : Array Value) {R : Type} (fuel k : Nat) (cs : List AV) (b0 : Int) (b1 b2 b3 b4 b5 b6 b7 b8 b9 : AV) (ts : List (Nat × Nat × TypeId)) (o l : AV) (i j : Int) (x0 x3 x9 x10 x11 x12 x13 x14 x15 x16 x17 x18 x19 x20 x21 x22 x23 x24 x25 x26 x27 x28 x29 x30 x31 x32 x33 x34 x35 x36 x37 x38 x39 x40 x41 x42 x43 x44 x45 x46 x47 x48 x49 x50 x51 x52 x53 x54 x55 x56 x57 x58 x59 x60 x61 x62 x63 x64 x65 x66 x67 x68 x69 x70 x71 x72 x73 x74 x75 x76 x77 x78 x79 x80 x81 : AV) (K : Ex → List AV → AH → Option R) :
  loopC (Rep.D m) (cD m fuel) fuel rfM (k + 1) [x0, l, .ptr 0 0, x3, .nils, o, .int .i64 i, .ptr 1 0, .int .i64 j, x9, x10, x11, x12, x13, x14, x15, x16, x17, x18, x19, x20, x21, x22, x23, x24, x25, x26, x27, x28, x29, x30, x31, x32, x33, x34, x35, x36, x37, x38, x39, x40, x41, x42, x43, x44, x45, x46, x47, x48, x49, x50, x51, x52, x53, x54, x55, x56, x57, x58, x59, x60, x61, x62, x63, x64, x65, x66, x67, x68, x69, x70, x71, x72, x73, x74, x75, x76, x77, x78, x79, x80, x81] ⟨[.cells cs, .cells (alC b0 b1 b2 b3 b4 b5 b6 b7 b8 b9)], ts⟩ K =
  br (AV.listN 8 b9)
    (fun _ => br (decide (j < (↑b9.listOf.length : Int)))
     (fun _ => br (AV.listN 8 b9 && (decide ((0 : Int) ≤ j) && decide (j < (↑b9.listOf.length : Int))))
      (fun _ => (match b9.listOf[j.toNat]? with
       | some u3 => br (u3.isAgg &&
     fitL
      [Sh.int IntKind.u8, Sh.int IntKind.i64, Sh.int IntKind.i64, Sh.int IntKind.i64, Sh.int IntKind.i64,
       Sh.int IntKind.i64, Sh.int IntKind.i64, Sh.any]
      u3.aggOf)
        (fun _ => br (AV.listN 1 (shS Sh.any (hdV (tlV (tlV (tlV (tlV (tlV (tlV (tlV u3.aggOf))))))))))
         (fun _ => loopC (Rep.D m) (cD m fuel) fuel rfI fuel [x0, l, AV.ptr 0 0, x3, AV.nils, o, AV.int IntKind.i64 i, AV.ptr 1 0, AV.int IntKind.i64 j, AV.ptr 2 0, AV.ptr 3 0, AV.int IntKind.i64 ((0 : Int)), x12, x13, x14, x15, x16, x17, x18, x19, x20, x21, x22, x23, AV.int IntKind.i64 j, AV.ptr 1 9, b9, AV.int IntKind.i64 (↑b9.listOf.length : Int), AV.bool (decide (j < (↑b9.listOf.length : Int))), x29, x30, AV.ptr 1 9, b9, AV.int IntKind.i64 j, (AV.agg (shL [Sh.int IntKind.u8, Sh.int IntKind.i64, Sh.int IntKind.i64, Sh.int IntKind.i64, Sh.int IntKind.i64, Sh.int IntKind.i64, Sh.int IntKind.i64, Sh.any] u3.aggOf)).rop, AV.agg (shL [Sh.int IntKind.u8, Sh.int IntKind.i64, Sh.int IntKind.i64, Sh.int IntKind.i64, Sh.int IntKind.i64, Sh.int IntKind.i64, Sh.int IntKind.i64, Sh.any] u3.aggOf), AV.ptr 1 0, AV.ptr 1 0, AV.int IntKind.i64 b0, AV.int IntKind.i64 j, AV.ptr 2 0, AV.int IntKind.u8 (hdV u3.aggOf).numOf, AV.ptr 2 1, AV.int IntKind.i64 (hdV (tlV u3.aggOf)).numOf, AV.ptr 2 7, shS Sh.any (hdV (tlV (tlV (tlV (tlV (tlV (tlV (tlV u3.aggOf)))))))), AV.int IntKind.i64 (↑(shS Sh.any (hdV (tlV (tlV (tlV (tlV (tlV (tlV (tlV u3.aggOf))))))))).listOf.length : Int), AV.ptr 2 6, AV.int IntKind.i64 (hdV (tlV (tlV (tlV (tlV (tlV (tlV u3.aggOf))))))).numOf, AV.agg [AV.int IntKind.i64 b0, AV.int IntKind.i64 j, AV.int IntKind.u8 (hdV u3.aggOf).numOf, AV.int IntKind.i64 (hdV (tlV u3.aggOf)).numOf, AV.int IntKind.i64 (↑(shS Sh.any (hdV (tlV (tlV (tlV (tlV (tlV (tlV (tlV u3.aggOf))))))))).listOf.length : Int), AV.int IntKind.i64 (hdV (tlV (tlV (tlV (tlV (tlV (tlV u3.aggOf))))))).numOf, AV.bool false], x50, x51, x52, x53, x54, x55, x56, x57, x58, x59, x60, x61, x62, x63, x64, x65, x66, x67, x68, x69, x70, x71, x72, x73, x74, x75, x76, x77, x78, x79, x80, x81] { objs := [AObj.cells cs, AObj.cells [AV.int IntKind.i64 b0, b1, b2, b3, b4, b5, b6, b7, b8, b9], AObj.cells [AV.int IntKind.u8 (hdV u3.aggOf).numOf, AV.int IntKind.i64 (hdV (tlV u3.aggOf)).numOf, AV.int IntKind.i64 (hdV (tlV (tlV u3.aggOf))).numOf, AV.int IntKind.i64 (hdV (tlV (tlV (tlV u3.aggOf)))).numOf, AV.int IntKind.i64 (hdV (tlV (tlV (tlV (tlV u3.aggOf))))).numOf, AV.int IntKind.i64 (hdV (tlV (tlV (tlV (tlV (tlV u3.aggOf)))))).numOf, AV.int IntKind.i64 (hdV (tlV (tlV (tlV (tlV (tlV (tlV u3.aggOf))))))).numOf, shS Sh.any (hdV (tlV (tlV (tlV (tlV (tlV (tlV (tlV u3.aggOf))))))))], AObj.cells [AV.int IntKind.i64 b0, AV.int IntKind.i64 j, AV.int IntKind.u8 (hdV u3.aggOf).numOf, AV.int IntKind.i64 (hdV (tlV u3.aggOf)).numOf, AV.int IntKind.i64 (↑(shS Sh.any (hdV (tlV (tlV (tlV (tlV (tlV (tlV (tlV u3.aggOf))))))))).listOf.length : Int), AV.int IntKind.i64 (hdV (tlV (tlV (tlV (tlV (tlV (tlV u3.aggOf))))))).numOf, AV.bool false]], toks := ts } (kontI (Rep.D m) (cD m fuel) fuel rfM rfMR (stepK (Rep.D m) (cD m fuel) fuel rfM k [x0, l, .ptr 0 0, x3, .nils, o, .int .i64 i, .ptr 1 0, .int .i64 j, x9, x10, x11, x12, x13, x14, x15, x16, x17, x18, x19, x20, x21, x22, x23, x24, x25, x26, x27, x28, x29, x30, x31, x32, x33, x34, x35, x36, x37, x38, x39, x40, x41, x42, x43, x44, x45, x46, x47, x48, x49, x50, x51, x52, x53, x54, x55, x56, x57, x58, x59, x60, x61, x62, x63, x64, x65, x66, x67, x68, x69, x70, x71, x72, x73, x74, x75, x76, x77, x78, x79, x80, x81] ⟨[.cells cs, .cells (alC b0 b1 b2 b3 b4 b5 b6 b7 b8 b9)], ts⟩ K)))
         (fun _ => none))
        (fun _ => none)
       | none => none))
      (fun _ => none))
     (fun _ => K (Ex.exit 2)
     [x0, l, AV.ptr 0 0, x3, AV.nils, o, AV.int IntKind.i64 i, AV.ptr 1 0, AV.int IntKind.i64 j, x9, x10, x11, x12, x13,
      x14, x15, x16, x17, x18, x19, x20, x21, x22, x23, AV.int IntKind.i64 j, AV.ptr 1 9, b9,
      AV.int IntKind.i64 (↑b9.listOf.length : Int), AV.bool (decide (j < (↑b9.listOf.length : Int))), x29, x30, x31, x32,
      x33, x34, x35, x36, x37, x38, x39, x40, x41, x42, x43, x44, x45, x46, x47, x48, x49, x50, x51, x52, x53, x54, x55,
      x56, x57, x58, x59, x60, x61, x62, x63, x64, x65, x66, x67, x68, x69, x70, x71, x72, x73, x74, x75, x76, x77, x78,
      x79, x80, x81]
     { objs := [AObj.cells cs, AObj.cells [AV.int IntKind.i64 b0, b1, b2, b3, b4, b5, b6, b7, b8, b9]], toks := ts }))
    (fun _ => none) := by kernel_rfl
theorem rfM_postN (m : Array Value) {R : Type} (fuel k : Nat) (cs cs1 cs2 : List AV) (e0 e1 e2 e3 e4 e5 : Int) (e6 : Bool) (l : AV) (i j q : Int) (s0 : List AV) (x0 x3 x12 x13 x14 x15 x16 x17 x18 x19 x20 x21 x22 x23 x24 x25 x26 x27 x28 x29 x30 x31 x32 x33 x34 x35 x36 x37 x38 x39 x40 x41 x42 x43 x44 x45 x46 x47 x48 x49 x50 x51 x52 x53 x54 x55 x56 x57 x58 x59 x60 x61 x62 x63 x64 x65 x66 x67 x68 x69 x70 x71 x72 x73 x74 x75 x76 x77 x78 x79 x80 x81 : AV) (K : Ex → List AV → AH → Option R) :
  kontI (Rep.D m) (cD m fuel) fuel rfM rfMR (stepK (Rep.D m) (cD m fuel) fuel rfM k s0 ⟨[.cells cs, .cells cs1], []⟩ K) (.exit 4) [x0, l, .ptr 0 0, x3, .nils, .nils, .int .i64 i, .ptr 1 0, .int .i64 j, .ptr 2 0, .ptr 3 0, .int .i64 q, x12, x13, x14, x15, x16, x17, x18, x19, x20, x21, x22, x23, x24, x25, x26, x27, x28, x29, x30, x31, x32, x33, x34, x35, x36, x37, x38, x39, x40, x41, x42, x43, x44, x45, x46, x47, x48, x49, x50, x51, x52, x53, x54, x55, x56, x57, x58, x59, x60, x61, x62, x63, x64, x65, x66, x67, x68, x69, x70, x71, x72, x73, x74, x75, x76, x77, x78, x79, x80, x81] ⟨[.cells cs, .cells cs1, .cells cs2, .cells [.int .i64 e0, .int .i64 e1, .int .u8 e2, .int .i64 e3, .int .i64 e4, .int .i64 e5, .bool e6]], []⟩ =
  br (belowO 2 1 [AObj.cells cs, AObj.cells cs1])
    (fun _ => loopC (Rep.D m) (cD m fuel) fuel rfM k [cutV 2 1 x0, cutV 2 1 l, AV.ptr 0 0, cutV 2 1 x3, AV.nils, AV.inl true (Spare.tok 0 0) 7 (detokL (detokL [AV.agg [AV.int IntKind.i64 e0, AV.int IntKind.i64 e1, AV.int IntKind.u8 e2, AV.int IntKind.i64 e3, AV.int IntKind.i64 e4, AV.int IntKind.i64 e5, AV.bool e6]])), AV.int IntKind.i64 i, AV.ptr 1 0, AV.int IntKind.i64 (IntKind.i64.wrap (j + (1 : Int))), AV.top, AV.top, AV.int IntKind.i64 q, cutV 2 1 x12, cutV 2 1 x13, cutV 2 1 x14, cutV 2 1 x15, cutV 2 1 x16, cutV 2 1 x17, cutV 2 1 x18, cutV 2 1 x19, cutV 2 1 x20, cutV 2 1 x21, cutV 2 1 x22, cutV 2 1 x23, cutV 2 1 x24, cutV 2 1 x25, cutV 2 1 x26, cutV 2 1 x27, cutV 2 1 x28, AV.int IntKind.i64 j, AV.int IntKind.i64 (IntKind.i64.wrap (j + (1 : Int))), cutV 2 1 x31, cutV 2 1 x32, cutV 2 1 x33, cutV 2 1 x34, cutV 2 1 x35, cutV 2 1 x36, cutV 2 1 x37, cutV 2 1 x38, cutV 2 1 x39, cutV 2 1 x40, cutV 2 1 x41, cutV 2 1 x42, cutV 2 1 x43, cutV 2 1 x44, cutV 2 1 x45, cutV 2 1 x46, cutV 2 1 x47, cutV 2 1 x48, cutV 2 1 x49, cutV 2 1 x50, cutV 2 1 x51, cutV 2 1 x52, cutV 2 1 x53, cutV 2 1 x54, cutV 2 1 x55, cutV 2 1 x56, cutV 2 1 x57, cutV 2 1 x58, cutV 2 1 x59, cutV 2 1 x60, cutV 2 1 x61, cutV 2 1 x62, cutV 2 1 x63, cutV 2 1 x64, cutV 2 1 x65, cutV 2 1 x66, cutV 2 1 x67, cutV 2 1 x68, cutV 2 1 x69, cutV 2 1 x70, cutV 2 1 x71, cutV 2 1 x72, cutV 2 1 x73, cutV 2 1 x74, cutV 2 1 x75, cutV 2 1 x76, AV.nils, AV.agg [AV.int IntKind.i64 e0, AV.int IntKind.i64 e1, AV.int IntKind.u8 e2, AV.int IntKind.i64 e3, AV.int IntKind.i64 e4, AV.int IntKind.i64 e5, AV.bool e6], AV.inl true Spare.zero 7 (detokL [AV.agg [AV.int IntKind.i64 e0, AV.int IntKind.i64 e1, AV.int IntKind.u8 e2, AV.int IntKind.i64 e3, AV.int IntKind.i64 e4, AV.int IntKind.i64 e5, AV.bool e6]]), AV.inl true (Spare.tok 0 0) 7 (detokL (detokL [AV.agg [AV.int IntKind.i64 e0, AV.int IntKind.i64 e1, AV.int IntKind.u8 e2, AV.int IntKind.i64 e3, AV.int IntKind.i64 e4, AV.int IntKind.i64 e5, AV.bool e6]])), cutV 2 1 x81] { objs := [AObj.cells cs, AObj.cells cs1], toks := [(0, 7, 23)] } K)
    (fun _ => none) := by kernel_rfl
theorem rfM_post (m : Array Value) {R : Type} (fuel k : Nat) (cs cs1 cs2 : List AV) (e0 e1 e2 e3 e4 e5 : Int) (e6 : Bool) (g : Nat) (ys : List AV) (l : AV) (i j q : Int) (s0 : List AV) (x0 x3 x12 x13 x14 x15 x16 x17 x18 x19 x20 x21 x22 x23 x24 x25 x26 x27 x28 x29 x30 x31 x32 x33 x34 x35 x36 x37 x38 x39 x40 x41 x42 x43 x44 x45 x46 x47 x48 x49 x50 x51 x52 x53 x54 x55 x56 x57 x58 x59 x60 x61 x62 x63 x64 x65 x66 x67 x68 x69 x70 x71 x72 x73 x74 x75 x76 x77 x78 x79 x80 x81 : AV) (K : Ex → List AV → AH → Option R) :
  kontI (Rep.D m) (cD m fuel) fuel rfM rfMR (stepK (Rep.D m) (cD m fuel) fuel rfM k s0 ⟨[.cells cs, .cells cs1], [(g, 7, 23)]⟩ K) (.exit 4) [x0, l, .ptr 0 0, x3, .nils, .inl true (.tok 0 g) 7 ys, .int .i64 i, .ptr 1 0, .int .i64 j, .ptr 2 0, .ptr 3 0, .int .i64 q, x12, x13, x14, x15, x16, x17, x18, x19, x20, x21, x22, x23, x24, x25, x26, x27, x28, x29, x30, x31, x32, x33, x34, x35, x36, x37, x38, x39, x40, x41, x42, x43, x44, x45, x46, x47, x48, x49, x50, x51, x52, x53, x54, x55, x56, x57, x58, x59, x60, x61, x62, x63, x64, x65, x66, x67, x68, x69, x70, x71, x72, x73, x74, x75, x76, x77, x78, x79, x80, x81] ⟨[.cells cs, .cells cs1, .cells cs2, .cells [.int .i64 e0, .int .i64 e1, .int .u8 e2, .int .i64 e3, .int .i64 e4, .int .i64 e5, .bool e6]], [(g, 7, 23)]⟩ =
  (if fitsRoom (ys.length + 1) 56 = true ∧ 7 = 7 then (if some (g, 7, 23) = some (g, 7, 23) then br (belowO 2 1 [AObj.cells cs, AObj.cells cs1])
      (fun _ => loopC (Rep.D m) (cD m fuel) fuel rfM k [cutV 2 1 x0, cutV 2 1 l, AV.ptr 0 0, cutV 2 1 x3, AV.nils, cutV 2 1 (AV.inl true (Spare.tok 0 (g + 1)) 7 (ys ++ detokL (detokL [AV.agg [AV.int IntKind.i64 e0, AV.int IntKind.i64 e1, AV.int IntKind.u8 e2, AV.int IntKind.i64 e3, AV.int IntKind.i64 e4, AV.int IntKind.i64 e5, AV.bool e6]]))), AV.int IntKind.i64 i, AV.ptr 1 0, AV.int IntKind.i64 (IntKind.i64.wrap (j + (1 : Int))), AV.top, AV.top, AV.int IntKind.i64 q, cutV 2 1 x12, cutV 2 1 x13, cutV 2 1 x14, cutV 2 1 x15, cutV 2 1 x16, cutV 2 1 x17, cutV 2 1 x18, cutV 2 1 x19, cutV 2 1 x20, cutV 2 1 x21, cutV 2 1 x22, cutV 2 1 x23, cutV 2 1 x24, cutV 2 1 x25, cutV 2 1 x26, cutV 2 1 x27, cutV 2 1 x28, AV.int IntKind.i64 j, AV.int IntKind.i64 (IntKind.i64.wrap (j + (1 : Int))), cutV 2 1 x31, cutV 2 1 x32, cutV 2 1 x33, cutV 2 1 x34, cutV 2 1 x35, cutV 2 1 x36, cutV 2 1 x37, cutV 2 1 x38, cutV 2 1 x39, cutV 2 1 x40, cutV 2 1 x41, cutV 2 1 x42, cutV 2 1 x43, cutV 2 1 x44, cutV 2 1 x45, cutV 2 1 x46, cutV 2 1 x47, cutV 2 1 x48, cutV 2 1 x49, cutV 2 1 x50, cutV 2 1 x51, cutV 2 1 x52, cutV 2 1 x53, cutV 2 1 x54, cutV 2 1 x55, cutV 2 1 x56, cutV 2 1 x57, cutV 2 1 x58, cutV 2 1 x59, cutV 2 1 x60, cutV 2 1 x61, cutV 2 1 x62, cutV 2 1 x63, cutV 2 1 x64, cutV 2 1 x65, cutV 2 1 x66, cutV 2 1 x67, cutV 2 1 x68, cutV 2 1 x69, cutV 2 1 x70, cutV 2 1 x71, cutV 2 1 x72, cutV 2 1 x73, cutV 2 1 x74, cutV 2 1 x75, cutV 2 1 x76, cutV 2 1 (AV.inl true (Spare.tok 0 g) 7 ys), AV.agg [AV.int IntKind.i64 e0, AV.int IntKind.i64 e1, AV.int IntKind.u8 e2, AV.int IntKind.i64 e3, AV.int IntKind.i64 e4, AV.int IntKind.i64 e5, AV.bool e6], AV.inl true Spare.zero 7 (detokL [AV.agg [AV.int IntKind.i64 e0, AV.int IntKind.i64 e1, AV.int IntKind.u8 e2, AV.int IntKind.i64 e3, AV.int IntKind.i64 e4, AV.int IntKind.i64 e5, AV.bool e6]]), cutV 2 1 (AV.inl true (Spare.tok 0 (g + 1)) 7 (ys ++ detokL (detokL [AV.agg [AV.int IntKind.i64 e0, AV.int IntKind.i64 e1, AV.int IntKind.u8 e2, AV.int IntKind.i64 e3, AV.int IntKind.i64 e4, AV.int IntKind.i64 e5, AV.bool e6]]))), cutV 2 1 x81] { objs := [AObj.cells cs, AObj.cells cs1], toks := [(g + 1, 7, 23)] } K)
      (fun _ => none)
     else none)
    else none) := by kernel_rfl
theorem rfI_step (m : Array Value) {R : Type} (fuel k : Nat) (cs : List AV) (b0 : Int) (b1 b2 b3 b4 b5 b6 b7 b8 b9 : AV) (c0 c1 : Int) (c2 c3 c4 c5 c6 c7 : AV) (e0 e1 e2 e3 e4 e5 : Int) (e6 : Bool) (ts : List (Nat × Nat × TypeId)) (o l : AV) (i j q : Int) (x0 x3 x12 x13 x14 x15 x16 x17 x18 x19 x20 x21 x22 x23 x24 x25 x26 x27 x28 x29 x30 x31 x32 x33 x34 x35 x36 x37 x38 x39 x40 x41 x42 x43 x44 x45 x46 x47 x48 x49 x50 x51 x52 x53 x54 x55 x56 x57 x58 x59 x60 x61 x62 x63 x64 x65 x66 x67 x68 x69 x70 x71 x72 x73 x74 x75 x76 x77 x78 x79 x80 x81 : AV) (K : Ex → List AV → AH → Option R) :
  loopC (Rep.D m) (cD m fuel) fuel rfI (k + 1) [x0, l, .ptr 0 0, x3, .nils, o, .int .i64 i, .ptr 1 0, .int .i64 j, .ptr 2 0, .ptr 3 0, .int .i64 q, x12, x13, x14, x15, x16, x17, x18, x19, x20, x21, x22, x23, x24, x25, x26, x27, x28, x29, x30, x31, x32, x33, x34, x35, x36, x37, x38, x39, x40, x41, x42, x43, x44, x45, x46, x47, x48, x49, x50, x51, x52, x53, x54, x55, x56, x57, x58, x59, x60, x61, x62, x63, x64, x65, x66, x67, x68, x69, x70, x71, x72, x73, x74, x75, x76, x77, x78, x79, x80, x81] ⟨[.cells cs, .cells (alC b0 b1 b2 b3 b4 b5 b6 b7 b8 b9), .cells (tkC c0 c1 c2 c3 c4 c5 c6 c7), .cells [.int .i64 e0, .int .i64 e1, .int .u8 e2, .int .i64 e3, .int .i64 e4, .int .i64 e5, .bool e6]], ts⟩ K =
  br (AV.listN 9 l)
    (fun _ => br (decide (q < (↑l.listOf.length : Int)))
     (fun _ => br (AV.listN 9 l && (decide ((0 : Int) ≤ q) && decide (q < (↑l.listOf.length : Int))))
      (fun _ => (match l.listOf[q.toNat]? with
       | some u3 => br (u3.isAgg &&
     fitL
      [Sh.int IntKind.i64, Sh.int IntKind.i64, Sh.int IntKind.i64, Sh.int IntKind.i64, Sh.int IntKind.i64, Sh.bool,
       Sh.bool, Sh.bool, Sh.int IntKind.i64]
      u3.aggOf)
        (fun _ => br ((hdV (tlV (tlV (tlV (tlV (tlV u3.aggOf)))))).boolOf)
         (fun _ => br (AV.listN 9 l && (decide ((0 : Int) ≤ q) && decide (q < (↑l.listOf.length : Int))))
          (fun _ => (match l.listOf[q.toNat]? with
           | some u7 => br (u7.isAgg &&
     fitL
      [Sh.int IntKind.i64, Sh.int IntKind.i64, Sh.int IntKind.i64, Sh.int IntKind.i64, Sh.int IntKind.i64, Sh.bool,
       Sh.bool, Sh.bool, Sh.int IntKind.i64]
      u7.aggOf)
            (fun _ => br ((hdV (tlV (tlV u7.aggOf))).numOf == b0 &&
     ((hdV (tlV (tlV (tlV u7.aggOf)))).numOf == j && ((hdV (tlV (tlV (tlV (tlV u7.aggOf))))).numOf == c1 && true)))
             (fun _ => loopC (Rep.D m) (cD m fuel) fuel rfI k [x0, l, AV.ptr 0 0, x3, AV.nils, o, AV.int IntKind.i64 i, AV.ptr 1 0, AV.int IntKind.i64 j, AV.ptr 2 0, AV.ptr 3 0, AV.int IntKind.i64 (IntKind.i64.wrap (q + (1 : Int))), x12, x13, x14, x15, x16, x17, x18, x19, x20, x21, x22, x23, x24, x25, x26, x27, x28, x29, x30, x31, x32, x33, x34, x35, x36, x37, x38, x39, x40, x41, x42, x43, x44, x45, x46, x47, x48, x49, AV.int IntKind.i64 q, l, AV.int IntKind.i64 (↑l.listOf.length : Int), AV.bool (decide (q < (↑l.listOf.length : Int))), AV.int IntKind.i64 q, AV.int IntKind.i64 (IntKind.i64.wrap (q + (1 : Int))), l, AV.int IntKind.i64 q, (AV.agg (shL [Sh.int IntKind.i64, Sh.int IntKind.i64, Sh.int IntKind.i64, Sh.int IntKind.i64, Sh.int IntKind.i64, Sh.bool, Sh.bool, Sh.bool, Sh.int IntKind.i64] u3.aggOf)).rop, (AV.bool (hdV (tlV (tlV (tlV (tlV (tlV u3.aggOf)))))).boolOf).rop, AV.bool (hdV (tlV (tlV (tlV (tlV (tlV u3.aggOf)))))).boolOf, AV.bool true, l, AV.int IntKind.i64 q, (AV.agg (shL [Sh.int IntKind.i64, Sh.int IntKind.i64, Sh.int IntKind.i64, Sh.int IntKind.i64, Sh.int IntKind.i64, Sh.bool, Sh.bool, Sh.bool, Sh.int IntKind.i64] u7.aggOf)).rop, (AV.agg [AV.int IntKind.i64 (hdV (tlV (tlV u7.aggOf))).numOf, AV.int IntKind.i64 (hdV (tlV (tlV (tlV u7.aggOf)))).numOf, AV.int IntKind.i64 (hdV (tlV (tlV (tlV (tlV u7.aggOf))))).numOf]).rop, AV.agg [AV.int IntKind.i64 (hdV (tlV (tlV u7.aggOf))).numOf, AV.int IntKind.i64 (hdV (tlV (tlV (tlV u7.aggOf)))).numOf, AV.int IntKind.i64 (hdV (tlV (tlV (tlV (tlV u7.aggOf))))).numOf], AV.ptr 1 0, AV.ptr 1 0, AV.int IntKind.i64 b0, AV.int IntKind.i64 j, AV.ptr 2 1, AV.int IntKind.i64 c1, AV.agg [AV.int IntKind.i64 b0, AV.int IntKind.i64 j, AV.int IntKind.i64 c1], AV.bool ((hdV (tlV (tlV u7.aggOf))).numOf == b0 && ((hdV (tlV (tlV (tlV u7.aggOf)))).numOf == j && ((hdV (tlV (tlV (tlV (tlV u7.aggOf))))).numOf == c1 && true))), AV.bool ((hdV (tlV (tlV u7.aggOf))).numOf == b0 && ((hdV (tlV (tlV (tlV u7.aggOf)))).numOf == j && ((hdV (tlV (tlV (tlV (tlV u7.aggOf))))).numOf == c1 && true))), AV.ptr 3 6, x77, x78, x79, x80, x81] { objs := [AObj.cells cs, AObj.cells [AV.int IntKind.i64 b0, b1, b2, b3, b4, b5, b6, b7, b8, b9], AObj.cells [AV.int IntKind.u8 c0, AV.int IntKind.i64 c1, c2, c3, c4, c5, c6, c7], AObj.cells [AV.int IntKind.i64 e0, AV.int IntKind.i64 e1, AV.int IntKind.u8 e2, AV.int IntKind.i64 e3, AV.int IntKind.i64 e4, AV.int IntKind.i64 e5, AV.bool true]], toks := ts } K)
             (fun _ => loopC (Rep.D m) (cD m fuel) fuel rfI k [x0, l, AV.ptr 0 0, x3, AV.nils, o, AV.int IntKind.i64 i, AV.ptr 1 0, AV.int IntKind.i64 j, AV.ptr 2 0, AV.ptr 3 0, AV.int IntKind.i64 (IntKind.i64.wrap (q + (1 : Int))), x12, x13, x14, x15, x16, x17, x18, x19, x20, x21, x22, x23, x24, x25, x26, x27, x28, x29, x30, x31, x32, x33, x34, x35, x36, x37, x38, x39, x40, x41, x42, x43, x44, x45, x46, x47, x48, x49, AV.int IntKind.i64 q, l, AV.int IntKind.i64 (↑l.listOf.length : Int), AV.bool (decide (q < (↑l.listOf.length : Int))), AV.int IntKind.i64 q, AV.int IntKind.i64 (IntKind.i64.wrap (q + (1 : Int))), l, AV.int IntKind.i64 q, (AV.agg (shL [Sh.int IntKind.i64, Sh.int IntKind.i64, Sh.int IntKind.i64, Sh.int IntKind.i64, Sh.int IntKind.i64, Sh.bool, Sh.bool, Sh.bool, Sh.int IntKind.i64] u3.aggOf)).rop, (AV.bool (hdV (tlV (tlV (tlV (tlV (tlV u3.aggOf)))))).boolOf).rop, AV.bool (hdV (tlV (tlV (tlV (tlV (tlV u3.aggOf)))))).boolOf, AV.bool true, l, AV.int IntKind.i64 q, (AV.agg (shL [Sh.int IntKind.i64, Sh.int IntKind.i64, Sh.int IntKind.i64, Sh.int IntKind.i64, Sh.int IntKind.i64, Sh.bool, Sh.bool, Sh.bool, Sh.int IntKind.i64] u7.aggOf)).rop, (AV.agg [AV.int IntKind.i64 (hdV (tlV (tlV u7.aggOf))).numOf, AV.int IntKind.i64 (hdV (tlV (tlV (tlV u7.aggOf)))).numOf, AV.int IntKind.i64 (hdV (tlV (tlV (tlV (tlV u7.aggOf))))).numOf]).rop, AV.agg [AV.int IntKind.i64 (hdV (tlV (tlV u7.aggOf))).numOf, AV.int IntKind.i64 (hdV (tlV (tlV (tlV u7.aggOf)))).numOf, AV.int IntKind.i64 (hdV (tlV (tlV (tlV (tlV u7.aggOf))))).numOf], AV.ptr 1 0, AV.ptr 1 0, AV.int IntKind.i64 b0, AV.int IntKind.i64 j, AV.ptr 2 1, AV.int IntKind.i64 c1, AV.agg [AV.int IntKind.i64 b0, AV.int IntKind.i64 j, AV.int IntKind.i64 c1], AV.bool ((hdV (tlV (tlV u7.aggOf))).numOf == b0 && ((hdV (tlV (tlV (tlV u7.aggOf)))).numOf == j && ((hdV (tlV (tlV (tlV (tlV u7.aggOf))))).numOf == c1 && true))), AV.bool ((hdV (tlV (tlV u7.aggOf))).numOf == b0 && ((hdV (tlV (tlV (tlV u7.aggOf)))).numOf == j && ((hdV (tlV (tlV (tlV (tlV u7.aggOf))))).numOf == c1 && true))), x76, x77, x78, x79, x80, x81] { objs := [AObj.cells cs, AObj.cells [AV.int IntKind.i64 b0, b1, b2, b3, b4, b5, b6, b7, b8, b9], AObj.cells [AV.int IntKind.u8 c0, AV.int IntKind.i64 c1, c2, c3, c4, c5, c6, c7], AObj.cells [AV.int IntKind.i64 e0, AV.int IntKind.i64 e1, AV.int IntKind.u8 e2, AV.int IntKind.i64 e3, AV.int IntKind.i64 e4, AV.int IntKind.i64 e5, AV.bool e6]], toks := ts } K))
            (fun _ => none)
           | none => none))
          (fun _ => none))
         (fun _ => loopC (Rep.D m) (cD m fuel) fuel rfI k [x0, l, AV.ptr 0 0, x3, AV.nils, o, AV.int IntKind.i64 i, AV.ptr 1 0, AV.int IntKind.i64 j, AV.ptr 2 0, AV.ptr 3 0, AV.int IntKind.i64 (IntKind.i64.wrap (q + (1 : Int))), x12, x13, x14, x15, x16, x17, x18, x19, x20, x21, x22, x23, x24, x25, x26, x27, x28, x29, x30, x31, x32, x33, x34, x35, x36, x37, x38, x39, x40, x41, x42, x43, x44, x45, x46, x47, x48, x49, AV.int IntKind.i64 q, l, AV.int IntKind.i64 (↑l.listOf.length : Int), AV.bool (decide (q < (↑l.listOf.length : Int))), AV.int IntKind.i64 q, AV.int IntKind.i64 (IntKind.i64.wrap (q + (1 : Int))), l, AV.int IntKind.i64 q, (AV.agg (shL [Sh.int IntKind.i64, Sh.int IntKind.i64, Sh.int IntKind.i64, Sh.int IntKind.i64, Sh.int IntKind.i64, Sh.bool, Sh.bool, Sh.bool, Sh.int IntKind.i64] u3.aggOf)).rop, (AV.bool (hdV (tlV (tlV (tlV (tlV (tlV u3.aggOf)))))).boolOf).rop, AV.bool (hdV (tlV (tlV (tlV (tlV (tlV u3.aggOf)))))).boolOf, AV.bool false, AV.tuple [], AV.tuple [], AV.tuple [], AV.tuple [], AV.tuple [], AV.tuple [], AV.tuple [], AV.tuple [], AV.tuple [], AV.tuple [], AV.tuple [], AV.tuple [], AV.tuple [], AV.bool false, x76, x77, x78, x79, x80, x81] { objs := [AObj.cells cs, AObj.cells [AV.int IntKind.i64 b0, b1, b2, b3, b4, b5, b6, b7, b8, b9], AObj.cells [AV.int IntKind.u8 c0, AV.int IntKind.i64 c1, c2, c3, c4, c5, c6, c7], AObj.cells [AV.int IntKind.i64 e0, AV.int IntKind.i64 e1, AV.int IntKind.u8 e2, AV.int IntKind.i64 e3, AV.int IntKind.i64 e4, AV.int IntKind.i64 e5, AV.bool e6]], toks := ts } K))
        (fun _ => none)
       | none => none))
      (fun _ => none))
     (fun _ => K (Ex.exit 4)
     [x0, l, AV.ptr 0 0, x3, AV.nils, o, AV.int IntKind.i64 i, AV.ptr 1 0, AV.int IntKind.i64 j, AV.ptr 2 0, AV.ptr 3 0,
      AV.int IntKind.i64 q, x12, x13, x14, x15, x16, x17, x18, x19, x20, x21, x22, x23, x24, x25, x26, x27, x28, x29, x30,
      x31, x32, x33, x34, x35, x36, x37, x38, x39, x40, x41, x42, x43, x44, x45, x46, x47, x48, x49, AV.int IntKind.i64 q,
      l, AV.int IntKind.i64 (↑l.listOf.length : Int), AV.bool (decide (q < (↑l.listOf.length : Int))), x54, x55, x56, x57,
      x58, x59, x60, x61, x62, x63, x64, x65, x66, x67, x68, x69, x70, x71, x72, x73, x74, x75, x76, x77, x78, x79, x80,
      x81]
     {
      objs :=
       [AObj.cells cs, AObj.cells [AV.int IntKind.i64 b0, b1, b2, b3, b4, b5, b6, b7, b8, b9],
        AObj.cells [AV.int IntKind.u8 c0, AV.int IntKind.i64 c1, c2, c3, c4, c5, c6, c7],
        AObj.cells
         [AV.int IntKind.i64 e0, AV.int IntKind.i64 e1, AV.int IntKind.u8 e2, AV.int IntKind.i64 e3,
          AV.int IntKind.i64 e4, AV.int IntKind.i64 e5, AV.bool e6]],
      toks := ts }))
    (fun _ => none) := by kernel_rfl
-- PROOFS
def predT (b0 j c1 : Int) (p : AV) : Bool := liveP p && decide (tokP p = (b0, j, c1))

theorem rfI_loop (m : Array Value) {R : Type} (fuel : Nat) (cs : List AV) (b0 : Int) (b1 b2 b3 b4 b5 b6 b7 b8 b9 : AV) (c0 c1 : Int) (c2 c3 c4 c5 c6 c7 : AV) (e0 e1 e2 e3 e4 e5 : Int) (ts : List (Nat × Nat × TypeId)) (o : AV) {l : AV} (hl : tyV (.sl 9 dtProc) l) (i j : Int) (K : Ex → List AV → AH → Option R) (Q : Option R → Prop)
    (hexit : ∀ (q : Int) (x0 x3 x12 x13 x14 x15 x16 x17 x18 x19 x20 x21 x22 x23 x24 x25 x26 x27 x28 x29 x30 x31 x32 x33 x34 x35 x36 x37 x38 x39 x40 x41 x42 x43 x44 x45 x46 x47 x48 x49 x50 x51 x52 x53 x54 x55 x56 x57 x58 x59 x60 x61 x62 x63 x64 x65 x66 x67 x68 x69 x70 x71 x72 x73 x74 x75 x76 x77 x78 x79 x80 x81 : AV), Q (K (.exit 4) [x0, l, .ptr 0 0, x3, .nils, o, .int .i64 i, .ptr 1 0, .int .i64 j, .ptr 2 0, .ptr 3 0, .int .i64 q, x12, x13, x14, x15, x16, x17, x18, x19, x20, x21, x22, x23, x24, x25, x26, x27, x28, x29, x30, x31, x32, x33, x34, x35, x36, x37, x38, x39, x40, x41, x42, x43, x44, x45, x46, x47, x48, x49, x50, x51, x52, x53, x54, x55, x56, x57, x58, x59, x60, x61, x62, x63, x64, x65, x66, x67, x68, x69, x70, x71, x72, x73, x74, x75, x76, x77, x78, x79, x80, x81] ⟨[.cells cs, .cells (alC b0 b1 b2 b3 b4 b5 b6 b7 b8 b9), .cells (tkC c0 c1 c2 c3 c4 c5 c6 c7), .cells [.int .i64 e0, .int .i64 e1, .int .u8 e2, .int .i64 e3, .int .i64 e4, .int .i64 e5, .bool (l.listOf.any (predT b0 j c1))]], ts⟩)) :
    ∀ (r qn k : Nat) (q : Int) (e6 : Bool) (x0 x3 x12 x13 x14 x15 x16 x17 x18 x19 x20 x21 x22 x23 x24 x25 x26 x27 x28 x29 x30 x31 x32 x33 x34 x35 x36 x37 x38 x39 x40 x41 x42 x43 x44 x45 x46 x47 x48 x49 x50 x51 x52 x53 x54 x55 x56 x57 x58 x59 x60 x61 x62 x63 x64 x65 x66 x67 x68 x69 x70 x71 x72 x73 x74 x75 x76 x77 x78 x79 x80 x81 : AV), q = (qn : Int) → qn + r = l.listOf.length → r < k → e6 = (l.listOf.take qn).any (predT b0 j c1) →
      Q (loopC (Rep.D m) (cD m fuel) fuel rfI k [x0, l, .ptr 0 0, x3, .nils, o, .int .i64 i, .ptr 1 0, .int .i64 j, .ptr 2 0, .ptr 3 0, .int .i64 q, x12, x13, x14, x15, x16, x17, x18, x19, x20, x21, x22, x23, x24, x25, x26, x27, x28, x29, x30, x31, x32, x33, x34, x35, x36, x37, x38, x39, x40, x41, x42, x43, x44, x45, x46, x47, x48, x49, x50, x51, x52, x53, x54, x55, x56, x57, x58, x59, x60, x61, x62, x63, x64, x65, x66, x67, x68, x69, x70, x71, x72, x73, x74, x75, x76, x77, x78, x79, x80, x81] ⟨[.cells cs, .cells (alC b0 b1 b2 b3 b4 b5 b6 b7 b8 b9), .cells (tkC c0 c1 c2 c3 c4 c5 c6 c7), .cells [.int .i64 e0, .int .i64 e1, .int .u8 e2, .int .i64 e3, .int .i64 e4, .int .i64 e5, .bool e6]], ts⟩ K)
  | r, qn, 0, q, e6, _, _, _, _, _, _, _, _, _, _, _, _, _, _, _, _, _, _, _, _, _, _, _, _, _, _, _, _, _, _, _, _, _, _, _, _, _, _, _, _, _, _, _, _, _, _, _, _, _, _, _, _, _, _, _, _, _, _, _, _, _, _, _, _, _, _, _, _, _, _, _, _, hj, h, hk, he => by omega
  | 0, qn, k + 1, q, e6, x0, x3, x12, x13, x14, x15, x16, x17, x18, x19, x20, x21, x22, x23, x24, x25, x26, x27, x28, x29, x30, x31, x32, x33, x34, x35, x36, x37, x38, x39, x40, x41, x42, x43, x44, x45, x46, x47, x48, x49, x50, x51, x52, x53, x54, x55, x56, x57, x58, x59, x60, x61, x62, x63, x64, x65, x66, x67, x68, x69, x70, x71, x72, x73, x74, x75, x76, x77, x78, x79, x80, x81, hj, h, hk, he => by
    subst hj
    rw [List.take_of_length_le (by omega)] at he
    subst he
    rw [rfI_step, (sl_facts hl).1, lt_false (by omega : ¬ qn < l.listOf.length)]
    simp only [br]
    exact hexit _ _ _ _ _ _ _ _ _ _ _ _ _ _ _ _ _ _ _ _ _ _ _ _ _ _ _ _ _ _ _ _ _ _ _ _ _ _ _ _ _ _ _ _ _ _ _ _ _ _ _ _ _ _ _ _ _ _ _ _ _ _ _ _ _ _ _ _ _ _ _ _ _
  | r + 1, qn, k + 1, q, e6, x0, x3, x12, x13, x14, x15, x16, x17, x18, x19, x20, x21, x22, x23, x24, x25, x26, x27, x28, x29, x30, x31, x32, x33, x34, x35, x36, x37, x38, x39, x40, x41, x42, x43, x44, x45, x46, x47, x48, x49, x50, x51, x52, x53, x54, x55, x56, x57, x58, x59, x60, x61, x62, x63, x64, x65, x66, x67, x68, x69, x70, x71, x72, x73, x74, x75, x76, x77, x78, x79, x80, x81, hj, h, hk, he => by
    subst hj
    obtain ⟨hB, hmax, hT, -, -⟩ := sl_facts hl
    have hi : qn < l.listOf.length := by omega
    obtain ⟨u, hu⟩ : ∃ u, l.listOf[qn]? = some u := ⟨_, List.getElem?_eq_getElem hi⟩
    have tu := hT u (List.mem_of_getElem? hu)
    rw [rfI_step, hB, lt_true hi, ge_true, Int.toNat_natCast, hu]
    simp only [br, Bool.and_self, fit_dtProc tu]
    have hany : (l.listOf.take (qn + 1)).any (predT b0 j c1) = ((l.listOf.take qn).any (predT b0 j c1) || predT b0 j c1 u) := by
      rw [List.take_add_one, hu]
      simp
    have ht : ((hdV (tlV (tlV u.aggOf))).numOf == b0 && ((hdV (tlV (tlV (tlV u.aggOf)))).numOf == j && ((hdV (tlV (tlV (tlV (tlV u.aggOf))))).numOf == c1 && true))) = decide (tokP u = (b0, j, c1)) := tok_beq (tokP u) (b0, j, c1)
    rw [ht]
    have ih := rfI_loop m fuel cs b0 b1 b2 b3 b4 b5 b6 b7 b8 b9 c0 c1 c2 c3 c4 c5 c6 c7 e0 e1 e2 e3 e4 e5 ts o hl i j K Q hexit r (qn + 1) k ((qn + 1 : Nat) : Int)
    rw [wrap_next hi hmax]
    cases ha : (hdV (tlV (tlV (tlV (tlV (tlV u.aggOf)))))).boolOf with
    | true =>
      simp only
      cases hd : decide (tokP u = (b0, j, c1)) with
      | true =>
        simp only
        refine ih true _ _ _ _ _ _ _ _ _ _ _ _ _ _ _ _ _ _ _ _ _ _ _ _ _ _ _ _ _ _ _ _ _ _ _ _ _ _ _ _ _ _ _ _ _ _ _ _ _ _ _ _ _ _ _ _ _ _ _ _ _ _ _ _ _ _ _ _ _ _ _ _ rfl (by omega) (by omega) ?_
        rw [hany, ← he]
        simp only [predT, liveP, ha, hd, Bool.and_self, Bool.or_true]
      | false =>
        simp only
        refine ih e6 _ _ _ _ _ _ _ _ _ _ _ _ _ _ _ _ _ _ _ _ _ _ _ _ _ _ _ _ _ _ _ _ _ _ _ _ _ _ _ _ _ _ _ _ _ _ _ _ _ _ _ _ _ _ _ _ _ _ _ _ _ _ _ _ _ _ _ _ _ _ _ _ rfl (by omega) (by omega) ?_
        rw [hany, ← he]
        simp only [predT, hd, Bool.and_false, Bool.or_false]
    | false =>
      simp only
      refine ih e6 _ _ _ _ _ _ _ _ _ _ _ _ _ _ _ _ _ _ _ _ _ _ _ _ _ _ _ _ _ _ _ _ _ _ _ _ _ _ _ _ _ _ _ _ _ _ _ _ _ _ _ _ _ _ _ _ _ _ _ _ _ _ _ _ _ _ _ _ _ _ _ _ rfl (by omega) (by omega) ?_
      rw [hany, ← he]
      simp only [predT, liveP, ha, Bool.false_and, Bool.or_false]

theorem rfM_loop (m : Array Value) {R : Type} (fuel : Nat) {cs : List AV} (hcs : ∀ n k, belowL n k cs = true) {l b9 : AV} (hl : tyV (.sl 9 dtProc) l) (hlf : l.listOf.length < fuel) (hb : tyV (.sl 8 dtTask) b9) (b0 : Int) (b1 b2 b3 b4 b5 b6 b7 b8 : AV)
    (hcs' : ∀ n k, belowL n k (alC b0 b1 b2 b3 b4 b5 b6 b7 b8 b9) = true) (hw : (Lit.int .i64 b0).wf = true) (i : Int)
    (K : Ex → List AV → AH → Option R) (Q : Option R → Prop) (xs0 : List AV) (hxl : xs0.length + b9.listOf.length ≤ 100000)
    (hexit : ∀ (o : AV) (ts : List (Nat × Nat × TypeId)), OutOk o ts (xs0 ++ stT (aliveF l.listOf) b0 0 b9.listOf) → (∀ u ∈ xs0 ++ stT (aliveF l.listOf) b0 0 b9.listOf, tyV dtSt u) → ∀ (j : Int) (x0 x3 x9 x10 x11 x12 x13 x14 x15 x16 x17 x18 x19 x20 x21 x22 x23 x24 x25 x26 x27 x28 x29 x30 x31 x32 x33 x34 x35 x36 x37 x38 x39 x40 x41 x42 x43 x44 x45 x46 x47 x48 x49 x50 x51 x52 x53 x54 x55 x56 x57 x58 x59 x60 x61 x62 x63 x64 x65 x66 x67 x68 x69 x70 x71 x72 x73 x74 x75 x76 x77 x78 x79 x80 x81 : AV), Q (K (.exit 2) [x0, l, .ptr 0 0, x3, .nils, o, .int .i64 i, .ptr 1 0, .int .i64 j, x9, x10, x11, x12, x13, x14, x15, x16, x17, x18, x19, x20, x21, x22, x23, x24, x25, x26, x27, x28, x29, x30, x31, x32, x33, x34, x35, x36, x37, x38, x39, x40, x41, x42, x43, x44, x45, x46, x47, x48, x49, x50, x51, x52, x53, x54, x55, x56, x57, x58, x59, x60, x61, x62, x63, x64, x65, x66, x67, x68, x69, x70, x71, x72, x73, x74, x75, x76, x77, x78, x79, x80, x81] ⟨[.cells cs, .cells (alC b0 b1 b2 b3 b4 b5 b6 b7 b8 b9)], ts⟩)) :
    ∀ (r jn k : Nat) (j : Int) (o : AV) (ts : List (Nat × Nat × TypeId)) (xs : List AV) (x0 x3 x9 x10 x11 x12 x13 x14 x15 x16 x17 x18 x19 x20 x21 x22 x23 x24 x25 x26 x27 x28 x29 x30 x31 x32 x33 x34 x35 x36 x37 x38 x39 x40 x41 x42 x43 x44 x45 x46 x47 x48 x49 x50 x51 x52 x53 x54 x55 x56 x57 x58 x59 x60 x61 x62 x63 x64 x65 x66 x67 x68 x69 x70 x71 x72 x73 x74 x75 x76 x77 x78 x79 x80 x81 : AV), j = (jn : Int) → jn + r = b9.listOf.length → r < k → OutOk o ts xs → (∀ u ∈ xs, tyV dtSt u) → xs.length = xs0.length + jn → xs ++ stT (aliveF l.listOf) b0 jn (b9.listOf.drop jn) = xs0 ++ stT (aliveF l.listOf) b0 0 b9.listOf →
      Q (loopC (Rep.D m) (cD m fuel) fuel rfM k [x0, l, .ptr 0 0, x3, .nils, o, .int .i64 i, .ptr 1 0, .int .i64 j, x9, x10, x11, x12, x13, x14, x15, x16, x17, x18, x19, x20, x21, x22, x23, x24, x25, x26, x27, x28, x29, x30, x31, x32, x33, x34, x35, x36, x37, x38, x39, x40, x41, x42, x43, x44, x45, x46, x47, x48, x49, x50, x51, x52, x53, x54, x55, x56, x57, x58, x59, x60, x61, x62, x63, x64, x65, x66, x67, x68, x69, x70, x71, x72, x73, x74, x75, x76, x77, x78, x79, x80, x81] ⟨[.cells cs, .cells (alC b0 b1 b2 b3 b4 b5 b6 b7 b8 b9)], ts⟩ K)
  | r, jn, 0, j, o, ts, xs, _, _, _, _, _, _, _, _, _, _, _, _, _, _, _, _, _, _, _, _, _, _, _, _, _, _, _, _, _, _, _, _, _, _, _, _, _, _, _, _, _, _, _, _, _, _, _, _, _, _, _, _, _, _, _, _, _, _, _, _, _, _, _, _, _, _, _, _, _, _, _, _, _, _, _, hj, h, hk, ho, ht, hl', he => by omega
  | 0, jn, k + 1, j, o, ts, xs, x0, x3, x9, x10, x11, x12, x13, x14, x15, x16, x17, x18, x19, x20, x21, x22, x23, x24, x25, x26, x27, x28, x29, x30, x31, x32, x33, x34, x35, x36, x37, x38, x39, x40, x41, x42, x43, x44, x45, x46, x47, x48, x49, x50, x51, x52, x53, x54, x55, x56, x57, x58, x59, x60, x61, x62, x63, x64, x65, x66, x67, x68, x69, x70, x71, x72, x73, x74, x75, x76, x77, x78, x79, x80, x81, hj, h, hk, ho, ht, hl', he => by
    subst hj
    rw [List.drop_eq_nil_of_le (by omega)] at he
    simp only [stT, List.append_nil] at he
    rw [← he] at hexit
    rw [rfM_step, (sl_facts hb).1, lt_false (by omega : ¬ jn < b9.listOf.length)]
    exact hexit o ts ho ht _ _ _ _ _ _ _ _ _ _ _ _ _ _ _ _ _ _ _ _ _ _ _ _ _ _ _ _ _ _ _ _ _ _ _ _ _ _ _ _ _ _ _ _ _ _ _ _ _ _ _ _ _ _ _ _ _ _ _ _ _ _ _ _ _ _ _ _ _ _ _ _ _ _ _ _
  | r + 1, jn, k + 1, j, o, ts, xs, x0, x3, x9, x10, x11, x12, x13, x14, x15, x16, x17, x18, x19, x20, x21, x22, x23, x24, x25, x26, x27, x28, x29, x30, x31, x32, x33, x34, x35, x36, x37, x38, x39, x40, x41, x42, x43, x44, x45, x46, x47, x48, x49, x50, x51, x52, x53, x54, x55, x56, x57, x58, x59, x60, x61, x62, x63, x64, x65, x66, x67, x68, x69, x70, x71, x72, x73, x74, x75, x76, x77, x78, x79, x80, x81, hj, h, hk, ho, ht, hlx, he => by
    subst hj
    obtain ⟨hB, hmax, hT, -, -⟩ := sl_facts hb
    have hi : jn < b9.listOf.length := by omega
    obtain ⟨u, hu⟩ : ∃ u, b9.listOf[jn]? = some u := ⟨_, List.getElem?_eq_getElem hi⟩
    have tu := hT u (List.mem_of_getElem? hu)
    have g1 := (sl_facts (pj_dtTask_7 tu)).1
    have hbo (n : Nat) : belowO 2 n [AObj.cells cs, AObj.cells (alC b0 b1 b2 b3 b4 b5 b6 b7 b8 b9)] = true := by
      simp only [belowO, AObj.below, hcs, hcs', Bool.and_self]
    have ts' := ty_stOf (al := aliveF l.listOf b0 jn u) hw (show jn ≤ maxLen by omega) tu
    have hd := nrm_drop hu
    rw [hd] at he
    simp only [stT] at he
    have he' : (xs ++ [stOf b0 jn u (aliveF l.listOf b0 jn u)]) ++ stT (aliveF l.listOf) b0 (jn + 1) (b9.listOf.drop (jn + 1)) = xs0 ++ stT (aliveF l.listOf) b0 0 b9.listOf := by
      rw [← he]; simp
    have ht' : ∀ v ∈ xs ++ [stOf b0 jn u (aliveF l.listOf b0 jn u)], tyV dtSt v := by
      intro v hv
      rcases List.mem_append.1 hv with hv | hv
      · exact ht v hv
      · simp only [List.mem_singleton] at hv
        subst hv
        exact ts'
    have hdt : detokL (detokL [stOf b0 jn u (aliveF l.listOf b0 jn u)]) = [stOf b0 jn u (aliveF l.listOf b0 jn u)] := by
      simp only [detokL, tyV_detok ts']
    have ih := rfM_loop m fuel hcs hl hlf hb b0 b1 b2 b3 b4 b5 b6 b7 b8 hcs' hw i K Q xs0 hxl hexit r (jn + 1) k ((jn + 1 : Nat) : Int)
    rw [rfM_step, hB, lt_true hi, ge_true, Int.toNat_natCast, hu]
    simp only [br, Bool.and_self, fit_dtTask tu, g1]
    refine rfI_loop m fuel cs b0 b1 b2 b3 b4 b5 b6 b7 b8 b9 _ _ _ _ _ _ _ _ _ _ _ _ _ _ ts o hl i (jn : Int) _ Q ?_ l.listOf.length 0 fuel _ false _ _ _ _ _ _ _ _ _ _ _ _ _ _ _ _ _ _ _ _ _ _ _ _ _ _ _ _ _ _ _ _ _ _ _ _ _ _ _ _ _ _ _ _ _ _ _ _ _ _ _ _ _ _ _ _ _ _ _ _ _ _ _ _ _ _ _ _ _ _ _ _ rfl (by omega) hlf (by simp)
    intro q x0 x3 x12 x13 x14 x15 x16 x17 x18 x19 x20 x21 x22 x23 x24 x25 x26 x27 x28 x29 x30 x31 x32 x33 x34 x35 x36 x37 x38 x39 x40 x41 x42 x43 x44 x45 x46 x47 x48 x49 x50 x51 x52 x53 x54 x55 x56 x57 x58 x59 x60 x61 x62 x63 x64 x65 x66 x67 x68 x69 x70 x71 x72 x73 x74 x75 x76 x77 x78 x79 x80 x81
    rcases ho with ⟨rfl, rfl, rfl⟩ | ⟨g, rfl, rfl⟩
    · rw [rfM_postN]
      have hbo' : belowO 2 1 [AObj.cells cs, AObj.cells [.int .i64 b0, b1, b2, b3, b4, b5, b6, b7, b8, b9]] = true := hbo 1
      first | rw [hbo'] | rw [hbo]
      simp only [br]
      rw [wrap_next hi hmax]
      simp only [cut_ty hl]
      refine ih _ _ ([] ++ [stOf b0 jn u (aliveF l.listOf b0 jn u)]) _ _ _ _ _ _ _ _ _ _ _ _ _ _ _ _ _ _ _ _ _ _ _ _ _ _ _ _ _ _ _ _ _ _ _ _ _ _ _ _ _ _ _ _ _ _ _ _ _ _ _ _ _ _ _ _ _ _ _ _ _ _ _ _ _ _ _ _ _ _ _ _ _ _ _ rfl (by omega) (by omega) (.inr ⟨0, ?_, rfl⟩) ht' (by simp; simp at hlx; omega) he'
      refine Eq.trans ?_ (cut_tok ht' 2 0)
      congr 2
    · rw [rfM_post]
      rw [if_pos ⟨show fitsRoom (xs.length + 1) 56 = true from fits_small (by omega) (by decide), by first | trivial | rfl⟩, if_pos (by first | trivial | rfl), hbo]
      simp only [br]
      rw [wrap_next hi hmax]
      simp only [cut_ty hl]
      refine ih _ _ (xs ++ [stOf b0 jn u (aliveF l.listOf b0 jn u)]) _ _ _ _ _ _ _ _ _ _ _ _ _ _ _ _ _ _ _ _ _ _ _ _ _ _ _ _ _ _ _ _ _ _ _ _ _ _ _ _ _ _ _ _ _ _ _ _ _ _ _ _ _ _ _ _ _ _ _ _ _ _ _ _ _ _ _ _ _ _ _ _ _ _ _ rfl (by omega) (by omega) (.inr ⟨g + 1, ?_, rfl⟩) ht' (by simp; omega) he'
      refine Eq.trans ?_ (cut_tok ht' 2 (g + 1))
      congr 3
-- DEFS
-- PROOFS
theorem rfO_loop (m : Array Value) {R : Type} (fuel : Nat) (a0 a1 a2 a3 : Int) {a4 l : AV} (hl : tyV (.sl 9 dtProc) l) (hlf : l.listOf.length < fuel) (ha : tyV (.sl 10 dtAlloc) a4) (hb : bnd 100 a4 = true) (hF : 100 < fuel)
    (K : Ex → List AV → AH → Option R) (Q : Option R → Prop)
    (hexit : ∀ (o : AV) (ts : List (Nat × Nat × TypeId)), OutOk o ts (stA (aliveF l.listOf) a4.listOf) → (∀ u ∈ stA (aliveF l.listOf) a4.listOf, tyV dtSt u) → ∀ (i : Int) (x0 x3 x7 x8 x9 x10 x11 x12 x13 x14 x15 x16 x17 x18 x19 x20 x21 x22 x23 x24 x25 x26 x27 x28 x29 x30 x31 x32 x33 x34 x35 x36 x37 x38 x39 x40 x41 x42 x43 x44 x45 x46 x47 x48 x49 x50 x51 x52 x53 x54 x55 x56 x57 x58 x59 x60 x61 x62 x63 x64 x65 x66 x67 x68 x69 x70 x71 x72 x73 x74 x75 x76 x77 x78 x79 x80 x81 : AV), Q (K (.exit 0) [x0, l, .ptr 0 0, x3, .nils, o, .int .i64 i, x7, x8, x9, x10, x11, x12, x13, x14, x15, x16, x17, x18, x19, x20, x21, x22, x23, x24, x25, x26, x27, x28, x29, x30, x31, x32, x33, x34, x35, x36, x37, x38, x39, x40, x41, x42, x43, x44, x45, x46, x47, x48, x49, x50, x51, x52, x53, x54, x55, x56, x57, x58, x59, x60, x61, x62, x63, x64, x65, x66, x67, x68, x69, x70, x71, x72, x73, x74, x75, x76, x77, x78, x79, x80, x81] ⟨[.cells (stC a0 a1 a2 a3 a4)], ts⟩)) :
    ∀ (r jn k : Nat) (i : Int) (o : AV) (ts : List (Nat × Nat × TypeId)) (xs : List AV) (x0 x3 x7 x8 x9 x10 x11 x12 x13 x14 x15 x16 x17 x18 x19 x20 x21 x22 x23 x24 x25 x26 x27 x28 x29 x30 x31 x32 x33 x34 x35 x36 x37 x38 x39 x40 x41 x42 x43 x44 x45 x46 x47 x48 x49 x50 x51 x52 x53 x54 x55 x56 x57 x58 x59 x60 x61 x62 x63 x64 x65 x66 x67 x68 x69 x70 x71 x72 x73 x74 x75 x76 x77 x78 x79 x80 x81 : AV), i = (jn : Int) → jn + r = a4.listOf.length → r < k → OutOk o ts xs → (∀ u ∈ xs, tyV dtSt u) → xs.length ≤ 100 * jn → xs ++ stA (aliveF l.listOf) (a4.listOf.drop jn) = stA (aliveF l.listOf) a4.listOf →
      Q (loopC (Rep.D m) (cD m fuel) fuel rfO k [x0, l, .ptr 0 0, x3, .nils, o, .int .i64 i, x7, x8, x9, x10, x11, x12, x13, x14, x15, x16, x17, x18, x19, x20, x21, x22, x23, x24, x25, x26, x27, x28, x29, x30, x31, x32, x33, x34, x35, x36, x37, x38, x39, x40, x41, x42, x43, x44, x45, x46, x47, x48, x49, x50, x51, x52, x53, x54, x55, x56, x57, x58, x59, x60, x61, x62, x63, x64, x65, x66, x67, x68, x69, x70, x71, x72, x73, x74, x75, x76, x77, x78, x79, x80, x81] ⟨[.cells (stC a0 a1 a2 a3 a4)], ts⟩ K)
  | r, jn, 0, i, o, ts, xs, _, _, _, _, _, _, _, _, _, _, _, _, _, _, _, _, _, _, _, _, _, _, _, _, _, _, _, _, _, _, _, _, _, _, _, _, _, _, _, _, _, _, _, _, _, _, _, _, _, _, _, _, _, _, _, _, _, _, _, _, _, _, _, _, _, _, _, _, _, _, _, _, _, _, _, _, _, hj, h, hk, ho, ht, hlx, he => by omega
  | 0, jn, k + 1, i, o, ts, xs, x0, x3, x7, x8, x9, x10, x11, x12, x13, x14, x15, x16, x17, x18, x19, x20, x21, x22, x23, x24, x25, x26, x27, x28, x29, x30, x31, x32, x33, x34, x35, x36, x37, x38, x39, x40, x41, x42, x43, x44, x45, x46, x47, x48, x49, x50, x51, x52, x53, x54, x55, x56, x57, x58, x59, x60, x61, x62, x63, x64, x65, x66, x67, x68, x69, x70, x71, x72, x73, x74, x75, x76, x77, x78, x79, x80, x81, hj, h, hk, ho, ht, hlx, he => by
    subst hj
    rw [List.drop_eq_nil_of_le (by omega)] at he
    simp only [stA, List.append_nil] at he
    rw [← he] at hexit
    rw [rfO_step, (sl_facts ha).1, lt_false (by omega : ¬ jn < a4.listOf.length)]
    exact hexit o ts ho ht _ _ _ _ _ _ _ _ _ _ _ _ _ _ _ _ _ _ _ _ _ _ _ _ _ _ _ _ _ _ _ _ _ _ _ _ _ _ _ _ _ _ _ _ _ _ _ _ _ _ _ _ _ _ _ _ _ _ _ _ _ _ _ _ _ _ _ _ _ _ _ _ _ _ _ _ _ _
  | r + 1, jn, k + 1, i, o, ts, xs, x0, x3, x7, x8, x9, x10, x11, x12, x13, x14, x15, x16, x17, x18, x19, x20, x21, x22, x23, x24, x25, x26, x27, x28, x29, x30, x31, x32, x33, x34, x35, x36, x37, x38, x39, x40, x41, x42, x43, x44, x45, x46, x47, x48, x49, x50, x51, x52, x53, x54, x55, x56, x57, x58, x59, x60, x61, x62, x63, x64, x65, x66, x67, x68, x69, x70, x71, x72, x73, x74, x75, x76, x77, x78, x79, x80, x81, hj, h, hk, ho, ht, hlx, he => by
    subst hj
    obtain ⟨hB, hmax, hT, -, -⟩ := sl_facts ha
    obtain ⟨hblen, hbel⟩ := bnd_list ha hb
    have hi : jn < a4.listOf.length := by omega
    obtain ⟨u, hu⟩ : ∃ u, a4.listOf[jn]? = some u := ⟨_, List.getElem?_eq_getElem hi⟩
    have hmem := List.mem_of_getElem? hu
    have tu := hT u hmem
    have w9 := pj_dtAlloc_9 tu
    have hl9 := (bnd_list w9 (bi_dtAlloc_9 tu (hbel u hmem))).1
    have hcs : ∀ n k, belowL n k (stC a0 a1 a2 a3 a4) = true := by
      intro n k
      simp only [stC, belowL, below, tyV_below ha, Bool.and_self]
    have hd := nrm_drop hu
    rw [hd] at he
    simp only [stA] at he
    rw [rfO_step, hB, lt_true hi, ge_true, Int.toNat_natCast, hu]
    simp only [br, Bool.and_self, fit_dtAlloc tu]
    refine rfM_loop m fuel hcs hl hlf w9 _ _ _ _ _ _ _ _ _ ?_ (pw_dtAlloc_0 tu) _ _ Q xs (by omega) ?_ (shS Sh.any (hdV (tlV (tlV (tlV (tlV (tlV (tlV (tlV (tlV (tlV u.aggOf))))))))))).listOf.length 0 fuel _ o ts xs _ _ _ _ _ _ _ _ _ _ _ _ _ _ _ _ _ _ _ _ _ _ _ _ _ _ _ _ _ _ _ _ _ _ _ _ _ _ _ _ _ _ _ _ _ _ _ _ _ _ _ _ _ _ _ _ _ _ _ _ _ _ _ _ _ _ _ _ _ _ _ _ _ _ _ rfl (by omega) (by omega) ho ht (by simp) (by simp)
    · intro n k
      exact (congrArg (below n k) (eta_dtAlloc tu)).trans (tyV_below tu n k)
    · intro o' ts' ho' ht' j x0 x3 x9 x10 x11 x12 x13 x14 x15 x16 x17 x18 x19 x20 x21 x22 x23 x24 x25 x26 x27 x28 x29 x30 x31 x32 x33 x34 x35 x36 x37 x38 x39 x40 x41 x42 x43 x44 x45 x46 x47 x48 x49 x50 x51 x52 x53 x54 x55 x56 x57 x58 x59 x60 x61 x62 x63 x64 x65 x66 x67 x68 x69 x70 x71 x72 x73 x74 x75 x76 x77 x78 x79 x80 x81
      have hbo : belowO 1 ts'.length [AObj.cells (stC a0 a1 a2 a3 a4)] = true := by
        simp only [belowO, AObj.below, hcs, Bool.and_self]
      rw [rfO_post, hbo]
      simp only [br]
      rw [wrap_next hi hmax]
      simp only [cut_ty hl]
      refine rfO_loop m fuel a0 a1 a2 a3 hl hlf ha hb hF K Q hexit r (jn + 1) k _ _ ts' (xs ++ stT (aliveF l.listOf) (hdV u.aggOf).numOf 0 (shS Sh.any (hdV (tlV (tlV (tlV (tlV (tlV (tlV (tlV (tlV (tlV u.aggOf))))))))))).listOf) _ _ _ _ _ _ _ _ _ _ _ _ _ _ _ _ _ _ _ _ _ _ _ _ _ _ _ _ _ _ _ _ _ _ _ _ _ _ _ _ _ _ _ _ _ _ _ _ _ _ _ _ _ _ _ _ _ _ _ _ _ _ _ _ _ _ _ _ _ _ _ _ _ _ _ _ _ rfl (by omega) (by omega) ?_ ht' ?_ ?_
      · rw [cut_out ho' ht' 1]
        exact ho'
      · rw [List.length_append, stT_length]; omega
      · rw [← he]; simp

theorem stS_length {s : AV} (hs : tyV dtState s) (hb : bnd 100 s = true) (l : AV) : (stS s l).length ≤ 10000 := by
  have key : ∀ (f : Int → Nat → AV → Bool) (l : List AV), (∀ u ∈ l, tyV dtAlloc u) → (∀ u ∈ l, bnd 100 u = true) → (stA f l).length ≤ 100 * l.length := by
    intro f l
    induction l with
    | nil => intro _ _; simp [stA]
    | cons u r ih =>
      intro h k
      have := ih (fun v hv => h v (by simp [hv])) (fun v hv => k v (by simp [hv]))
      have h9 := (bnd_list (pj_dtAlloc_9 (h u (by simp))) (bi_dtAlloc_9 (h u (by simp)) (k u (by simp)))).1
      simp only [stA, List.length_append, stT_length, List.length_cons]
      omega
  obtain ⟨a0, a1, a2, a3, a4, rfl, w0, w1, w2, w3, w4⟩ := un_dtState hs
  simp only [bnd, bndL, Bool.true_and, Bool.and_true] at hb
  obtain ⟨q1, q2⟩ := bnd_list w4 hb
  have := key (aliveF l.listOf) a4.listOf (sl_facts w4).2.2.1 q2
  have e : (stS (.agg [.int .i64 a0, .int .i64 a1, .int .i64 a2, .int .i64 a3, a4]) l).length ≤ 100 * a4.listOf.length := this
  omega

theorem ref25 (m : Array Value) {s l : AV} (hs : tyV dtState s) (hb : bnd 100 s = true) (hl : tyV (.sl 9 dtProc) l) : ∃ v, (∀ H : AH, callL (Rep.D m) 25 [s, l] H = some (v, H)) ∧ tyV (.sl 7 dtSt) v ∧ v.listOf = stS s l := by
  have key : OfQ (erase s) (erase l) (runI (Rep.D m) (cD m 9223372036854775808) 9223372036854775808 Tryd.f25 [erase s, erase l] ⟨[], []⟩ (fun v _ => some v)) := by
    have hs' := tyV_erase hs
    have hl' := tyV_erase hl
    have hb' : bnd 100 (erase s) = true := bnd_same (tyV_nrm hs) hb
    generalize erase s = s at hs' hb' ⊢
    generalize erase l = l at hl' ⊢
    obtain ⟨a0, a1, a2, a3, a4, rfl, w0, w1, w2, w3, w4⟩ := un_dtState hs'
    simp only [bnd, bndL, Bool.true_and, Bool.and_true] at hb'
    have emax : maxLen = 9223372036854775807 := by decide
    have hll := (sl_facts hl').2.1
    have hal := (sl_facts w4).2.1
    have e := rf_pre m (R := AV) 9223372036854775808 a0 a1 a2 a3 a4 l (fun v _ => some v)
    have e0 : runI (Rep.D m) (cD m 9223372036854775808) 9223372036854775808 Tryd.f25 [.agg [.int .i64 a0, .int .i64 a1, .int .i64 a2, .int .i64 a3, a4], l] ⟨[], []⟩ (fun v _ => some v) = runI (Rep.D m) (cD m 9223372036854775808) 9223372036854775808 Tryd.f25 [.agg (stC a0 a1 a2 a3 a4), l] ⟨[], []⟩ (fun v _ => some v) := rfl
    rw [e0, e]
    refine rfO_loop m 9223372036854775808 a0 a1 a2 a3 hl' (by omega) w4 hb' (by decide) _ (OfQ (.agg [.int .i64 a0, .int .i64 a1, .int .i64 a2, .int .i64 a3, a4]) l) ?_ a4.listOf.length 0 9223372036854775808 _ _ [] [] _ _ _ _ _ _ _ _ _ _ _ _ _ _ _ _ _ _ _ _ _ _ _ _ _ _ _ _ _ _ _ _ _ _ _ _ _ _ _ _ _ _ _ _ _ _ _ _ _ _ _ _ _ _ _ _ _ _ _ _ _ _ _ _ _ _ _ _ _ _ _ _ _ _ _ _ _ rfl (by omega) (by omega) (.inl ⟨rfl, rfl, rfl⟩) (by simp) (by simp) (by simp)
    intro o ts ho ht i x0 x3 x7 x8 x9 x10 x11 x12 x13 x14 x15 x16 x17 x18 x19 x20 x21 x22 x23 x24 x25 x26 x27 x28 x29 x30 x31 x32 x33 x34 x35 x36 x37 x38 x39 x40 x41 x42 x43 x44 x45 x46 x47 x48 x49 x50 x51 x52 x53 x54 x55 x56 x57 x58 x59 x60 x61 x62 x63 x64 x65 x66 x67 x68 x69 x70 x71 x72 x73 x74 x75 x76 x77 x78 x79 x80 x81
    rw [rf_end]
    refine ⟨o, _, rfl, ?_, ht, rfl⟩
    rcases ho with ⟨h1, _, h2⟩ | ⟨g, h1, _⟩
    · exact .inl ⟨h1, h2⟩
    · exact .inr ⟨g, h1⟩
  obtain ⟨o, xs, h1, h2, h3, h4⟩ := key
  have h5 : xs = stS s l := h4.trans (stS_same (tyV_erase hs) hs (tyV_nrm hs) (tyV_erase hl) hl (tyV_nrm hl))
  have hlen : xs.length ≤ maxLen := by
    have emax : maxLen = 9223372036854775807 := by decide
    have := stS_length hs hb l
    rw [h5]
    omega
  have call (v : AV) (hd : detok o = v) (hv : tyV (.sl 7 dtSt) v) (H : AH) : callL (Rep.D m) 25 [s, l] H = some (v, H) := by
    rw [← hd]
    exact callL_D (tabD0_ok m) (fuel := 9223372036854775808) (n := 2) (fn := Tryd.f25) (ds := [dtState, .sl 9 dtProc]) (v := o) (by kernel_rfl) (by kernel_rfl) (by kernel_rfl) ⟨hs, hl, trivial⟩ h1 (by rw [hd]; exact tyV_below hv 0 0)
  rcases h2 with ⟨rfl, h2⟩ | ⟨g, rfl⟩
  · refine ⟨.nils, call _ rfl (.inl rfl), .inl rfl, ?_⟩
    rw [← h5, h2]; rfl
  · refine ⟨.inl true .unk 7 xs, call _ ?_ (ty_new rfl hlen h3), ty_new rfl hlen h3, h5⟩
    simp only [detok, Spare.detok, ty_detokL h3]
-- DEFS
end Go.Proofs.YtoagnbpmoihojaaDoor

/- report.Of: forms. -/
import Derived.Test.YtoagnbpmoihojaaDoorRepFew
set_option maxRecDepth 100000
set_option linter.unusedSimpArgs false
set_option linter.unusedVariables false
namespace Go.Proofs.YtoagnbpmoihojaaDoor
open Go.Sx

noncomputable def ofA : Code := subC (bodyOf Tryd.f24) [1, 1, 0, 1, 0, 0]
noncomputable def ofB : Code := subC (bodyOf Tryd.f24) [1, 1, 1, 1, 0, 1, 0, 0]
def ofR : List Nat := [1, 1, 0, 0, 1, 1, 0]
noncomputable def ofC : Code := subC ofB [1, 1, 0, 0, 1, 1, 0, 0]
def stC (a0 a1 a2 a3 : Int) (a4 : AV) : List AV := [.int .i64 a0, .int .i64 a1, .int .i64 a2, .int .i64 a3, a4]
theorem ofA_step (m : Array Value) {R : Type} (fuel k : Nat) (cs : List AV) (es : List (AV × AV)) (l : AV) (i : Int) (x0 x1 x3 x6 x7 x8 x9 x10 x11 x12 x13 x14 x18 x19 x20 x21 x22 x23 x24 x25 x26 x27 x28 x29 x30 x31 x32 x33 x34 x35 x36 x37 x38 x39 x40 x41 x42 x43 x44 x45 x46 x47 x48 x49 x50 x51 x52 x53 x54 x55 x56 x57 x58 x59 x60 x61 x62 x63 x64 x65 x66 x67 x68 x69 x70 : AV) (K : Ex → List AV → AH → Option R) :
  loopC (Rep.D m) (cD m fuel) fuel ofA (k + 1) [x0, x1, .ptr 0 0, x3, .nils, .map 1, x6, x7, x8, x9, x10, x11, x12, x13, x14, l, .int .i64 l.listOf.length, .int .i64 i, x18, x19, x20, x21, x22, x23, x24, x25, x26, x27, x28, x29, x30, x31, x32, x33, x34, x35, x36, x37, x38, x39, x40, x41, x42, x43, x44, x45, x46, x47, x48, x49, x50, x51, x52, x53, x54, x55, x56, x57, x58, x59, x60, x61, x62, x63, x64, x65, x66, x67, x68, x69, x70] ⟨[.cells cs, .map es], []⟩ K =
  br (decide (i < (↑l.listOf.length : Int)))
    (fun _ => br (AV.listN 9 l && (decide ((0 : Int) ≤ i) && decide (i < (↑l.listOf.length : Int))))
     (fun _ => (match l.listOf[i.toNat]? with
      | some u2 => br (u2.isAgg &&
     fitL
      [Sh.int IntKind.i64, Sh.int IntKind.i64, Sh.int IntKind.i64, Sh.int IntKind.i64, Sh.int IntKind.i64, Sh.bool,
       Sh.bool, Sh.bool, Sh.int IntKind.i64]
      u2.aggOf)
       (fun _ => br ((hdV (tlV (tlV (tlV (tlV (tlV u2.aggOf)))))).boolOf)
        (fun _ => (match putM (Rep.D m).T 47
     (AV.agg
      [AV.int IntKind.i64 (hdV (tlV (tlV u2.aggOf))).numOf, AV.int IntKind.i64 (hdV (tlV (tlV (tlV u2.aggOf)))).numOf,
       AV.int IntKind.i64 (hdV (tlV (tlV (tlV (tlV u2.aggOf))))).numOf])
     (AV.bool true) es with
         | some u5 => br (belowO 2 0 [AObj.cells cs, AObj.map u5])
          (fun _ => loopC (Rep.D m) (cD m fuel) fuel ofA k [cutV 2 0 x0, cutV 2 0 x1, AV.ptr 0 0, cutV 2 0 x3, AV.nils, AV.map 1, cutV 2 0 x6, AV.top, cutV 2 0 x8, cutV 2 0 x9, cutV 2 0 x10, cutV 2 0 x11, cutV 2 0 x12, cutV 2 0 x13, cutV 2 0 x14, cutV 2 0 l, AV.int IntKind.i64 (↑l.listOf.length : Int), AV.int IntKind.i64 (IntKind.i64.wrap (i + (1 : Int))), AV.bool (decide (i < (↑l.listOf.length : Int))), (AV.agg (shL [Sh.int IntKind.i64, Sh.int IntKind.i64, Sh.int IntKind.i64, Sh.int IntKind.i64, Sh.int IntKind.i64, Sh.bool, Sh.bool, Sh.bool, Sh.int IntKind.i64] u2.aggOf)).rop, AV.agg (shL [Sh.int IntKind.i64, Sh.int IntKind.i64, Sh.int IntKind.i64, Sh.int IntKind.i64, Sh.int IntKind.i64, Sh.bool, Sh.bool, Sh.bool, Sh.int IntKind.i64] u2.aggOf), AV.top, AV.bool (hdV (tlV (tlV (tlV (tlV (tlV u2.aggOf)))))).boolOf, AV.map 1, AV.top, AV.agg [AV.int IntKind.i64 (hdV (tlV (tlV u2.aggOf))).numOf, AV.int IntKind.i64 (hdV (tlV (tlV (tlV u2.aggOf)))).numOf, AV.int IntKind.i64 (hdV (tlV (tlV (tlV (tlV u2.aggOf))))).numOf], AV.int IntKind.i64 (IntKind.i64.wrap (i + (1 : Int))), cutV 2 0 x27, cutV 2 0 x28, cutV 2 0 x29, cutV 2 0 x30, cutV 2 0 x31, cutV 2 0 x32, cutV 2 0 x33, cutV 2 0 x34, cutV 2 0 x35, cutV 2 0 x36, cutV 2 0 x37, cutV 2 0 x38, cutV 2 0 x39, cutV 2 0 x40, cutV 2 0 x41, cutV 2 0 x42, cutV 2 0 x43, cutV 2 0 x44, cutV 2 0 x45, cutV 2 0 x46, cutV 2 0 x47, cutV 2 0 x48, cutV 2 0 x49, cutV 2 0 x50, cutV 2 0 x51, cutV 2 0 x52, cutV 2 0 x53, cutV 2 0 x54, cutV 2 0 x55, cutV 2 0 x56, cutV 2 0 x57, cutV 2 0 x58, cutV 2 0 x59, cutV 2 0 x60, cutV 2 0 x61, cutV 2 0 x62, cutV 2 0 x63, cutV 2 0 x64, cutV 2 0 x65, cutV 2 0 x66, cutV 2 0 x67, cutV 2 0 x68, cutV 2 0 x69, cutV 2 0 x70] { objs := [AObj.cells cs, AObj.map u5], toks := [] } K)
          (fun _ => none)
         | none => none))
        (fun _ => br (belowO 2 0 [AObj.cells cs, AObj.map es])
         (fun _ => loopC (Rep.D m) (cD m fuel) fuel ofA k [cutV 2 0 x0, cutV 2 0 x1, AV.ptr 0 0, cutV 2 0 x3, AV.nils, AV.map 1, cutV 2 0 x6, AV.top, cutV 2 0 x8, cutV 2 0 x9, cutV 2 0 x10, cutV 2 0 x11, cutV 2 0 x12, cutV 2 0 x13, cutV 2 0 x14, cutV 2 0 l, AV.int IntKind.i64 (↑l.listOf.length : Int), AV.int IntKind.i64 (IntKind.i64.wrap (i + (1 : Int))), AV.bool (decide (i < (↑l.listOf.length : Int))), (AV.agg (shL [Sh.int IntKind.i64, Sh.int IntKind.i64, Sh.int IntKind.i64, Sh.int IntKind.i64, Sh.int IntKind.i64, Sh.bool, Sh.bool, Sh.bool, Sh.int IntKind.i64] u2.aggOf)).rop, AV.agg (shL [Sh.int IntKind.i64, Sh.int IntKind.i64, Sh.int IntKind.i64, Sh.int IntKind.i64, Sh.int IntKind.i64, Sh.bool, Sh.bool, Sh.bool, Sh.int IntKind.i64] u2.aggOf), AV.top, AV.bool (hdV (tlV (tlV (tlV (tlV (tlV u2.aggOf)))))).boolOf, cutV 2 0 x23, cutV 2 0 x24, cutV 2 0 x25, AV.int IntKind.i64 (IntKind.i64.wrap (i + (1 : Int))), cutV 2 0 x27, cutV 2 0 x28, cutV 2 0 x29, cutV 2 0 x30, cutV 2 0 x31, cutV 2 0 x32, cutV 2 0 x33, cutV 2 0 x34, cutV 2 0 x35, cutV 2 0 x36, cutV 2 0 x37, cutV 2 0 x38, cutV 2 0 x39, cutV 2 0 x40, cutV 2 0 x41, cutV 2 0 x42, cutV 2 0 x43, cutV 2 0 x44, cutV 2 0 x45, cutV 2 0 x46, cutV 2 0 x47, cutV 2 0 x48, cutV 2 0 x49, cutV 2 0 x50, cutV 2 0 x51, cutV 2 0 x52, cutV 2 0 x53, cutV 2 0 x54, cutV 2 0 x55, cutV 2 0 x56, cutV 2 0 x57, cutV 2 0 x58, cutV 2 0 x59, cutV 2 0 x60, cutV 2 0 x61, cutV 2 0 x62, cutV 2 0 x63, cutV 2 0 x64, cutV 2 0 x65, cutV 2 0 x66, cutV 2 0 x67, cutV 2 0 x68, cutV 2 0 x69, cutV 2 0 x70] { objs := [AObj.cells cs, AObj.map es], toks := [] } K)
         (fun _ => none)))
       (fun _ => none)
      | none => none))
     (fun _ => none))
    (fun _ => K (Ex.exit 0)
     [x0, x1, AV.ptr 0 0, x3, AV.nils, AV.map 1, x6, x7, x8, x9, x10, x11, x12, x13, x14, l,
      AV.int IntKind.i64 (↑l.listOf.length : Int), AV.int IntKind.i64 i, AV.bool (decide (i < (↑l.listOf.length : Int))),
      x19, x20, x21, x22, x23, x24, x25, x26, x27, x28, x29, x30, x31, x32, x33, x34, x35, x36, x37, x38, x39, x40, x41,
      x42, x43, x44, x45, x46, x47, x48, x49, x50, x51, x52, x53, x54, x55, x56, x57, x58, x59, x60, x61, x62, x63, x64,
      x65, x66, x67, x68, x69, x70]
     { objs := [AObj.cells cs, AObj.map es], toks := [] }) := by kernel_rfl
theorem of_pre (m : Array Value) {R : Type} (fuel : Nat) (a0 a1 a2 a3 : Int) (a4 l : AV) (K : AV → AH → Option R) :
  runI (Rep.D m) (cD m fuel) fuel Tryd.f24 [.agg (stC a0 a1 a2 a3 a4), l] ⟨[], []⟩ K =
  br (AV.listN 9 l)
    (fun _ => loopC (Rep.D m) (cD m fuel) fuel ofA fuel [AV.agg [AV.int IntKind.i64 a0, AV.int IntKind.i64 a1, AV.int IntKind.i64 a2, AV.int IntKind.i64 a3, a4], l, AV.ptr 0 0, AV.top, AV.nils, AV.map 1, AV.top, AV.top, AV.top, AV.top, AV.top, AV.top, AV.top, AV.top, AV.map 1, l, AV.int IntKind.i64 (↑l.listOf.length : Int), AV.int IntKind.i64 ((0 : Int)), AV.top, AV.top, AV.top, AV.top, AV.top, AV.top, AV.top, AV.top, AV.top, AV.top, AV.top, AV.top, AV.top, AV.top, AV.top, AV.top, AV.top, AV.top, AV.top, AV.top, AV.top, AV.top, AV.top, AV.top, AV.top, AV.top, AV.top, AV.top, AV.top, AV.top, AV.top, AV.top, AV.top, AV.top, AV.top, AV.top, AV.top, AV.top, AV.top, AV.top, AV.top, AV.top, AV.top, AV.top, AV.top, AV.top, AV.top, AV.top, AV.top, AV.top, AV.top, AV.top, AV.top] { objs := [AObj.cells [AV.int IntKind.i64 a0, AV.int IntKind.i64 a1, AV.int IntKind.i64 a2, AV.int IntKind.i64 a3, a4], AObj.map []], toks := [] } (kontI (Rep.D m) (cD m fuel) fuel (bodyOf Tryd.f24) [1, 1, 0, 1, 0] (endI (Rep.D m) Tryd.f24 K)))
    (fun _ => none) := by kernel_rfl
theorem ofA_post (m : Array Value) {R : Type} (fuel : Nat) (a0 a1 a2 a3 : Int) (a4 : AV) (es : List (AV × AV)) (l : AV) (i : Int) (x0 x1 x3 x6 x7 x8 x9 x10 x11 x12 x13 x14 x18 x19 x20 x21 x22 x23 x24 x25 x26 x27 x28 x29 x30 x31 x32 x33 x34 x35 x36 x37 x38 x39 x40 x41 x42 x43 x44 x45 x46 x47 x48 x49 x50 x51 x52 x53 x54 x55 x56 x57 x58 x59 x60 x61 x62 x63 x64 x65 x66 x67 x68 x69 x70 : AV) (K : AV → AH → Option R) :
  kontI (Rep.D m) (cD m fuel) fuel (bodyOf Tryd.f24) [1, 1, 0, 1, 0] (endI (Rep.D m) Tryd.f24 K) (.exit 0) [x0, x1, .ptr 0 0, x3, .nils, .map 1, x6, x7, x8, x9, x10, x11, x12, x13, x14, l, .int .i64 l.listOf.length, .int .i64 i, x18, x19, x20, x21, x22, x23, x24, x25, x26, x27, x28, x29, x30, x31, x32, x33, x34, x35, x36, x37, x38, x39, x40, x41, x42, x43, x44, x45, x46, x47, x48, x49, x50, x51, x52, x53, x54, x55, x56, x57, x58, x59, x60, x61, x62, x63, x64, x65, x66, x67, x68, x69, x70] ⟨[.cells (stC a0 a1 a2 a3 a4), .map es], []⟩ =
  br (AV.listN 10 a4)
    (fun _ => loopC (Rep.D m) (cD m fuel) fuel ofB fuel [x0, x1, AV.ptr 0 0, x3, AV.nils, AV.map 1, x6, x7, AV.nils, x9, x10, x11, x12, x13, x14, l, AV.int IntKind.i64 (↑l.listOf.length : Int), AV.int IntKind.i64 i, x18, x19, x20, x21, x22, x23, x24, x25, x26, AV.ptr 0 4, a4, AV.int IntKind.i64 (↑a4.listOf.length : Int), AV.int IntKind.i64 ((0 : Int)), x31, x32, x33, x34, x35, x36, x37, x38, x39, x40, x41, x42, x43, x44, x45, x46, x47, x48, x49, x50, x51, x52, x53, x54, x55, x56, x57, x58, x59, x60, x61, x62, x63, x64, x65, x66, x67, x68, x69, x70] { objs := [AObj.cells [AV.int IntKind.i64 a0, AV.int IntKind.i64 a1, AV.int IntKind.i64 a2, AV.int IntKind.i64 a3, a4], AObj.map es], toks := [] } (kontI (Rep.D m) (cD m fuel) fuel (bodyOf Tryd.f24) [1, 1, 1, 1, 0, 1, 0] (endI (Rep.D m) Tryd.f24 K)))
    (fun _ => none) := by kernel_rfl
theorem ofB_step (m : Array Value) {R : Type} (fuel k : Nat) (cs : List AV) (es : List (AV × AV)) (ts : List (Nat × Nat × TypeId)) (a4 o : AV) (i : Int) (x0 x1 x3 x6 x7 x9 x10 x11 x12 x13 x14 x15 x16 x17 x18 x19 x20 x21 x22 x23 x24 x25 x26 x27 x31 x32 x33 x34 x35 x36 x37 x38 x39 x40 x41 x42 x43 x44 x45 x46 x47 x48 x49 x50 x51 x52 x53 x54 x55 x56 x57 x58 x59 x60 x61 x62 x63 x64 x65 x66 x67 x68 x69 x70 : AV) (K : Ex → List AV → AH → Option R) :
  loopC (Rep.D m) (cD m fuel) fuel ofB (k + 1) [x0, x1, .ptr 0 0, x3, .nils, .map 1, x6, x7, o, x9, x10, x11, x12, x13, x14, x15, x16, x17, x18, x19, x20, x21, x22, x23, x24, x25, x26, x27, a4, .int .i64 a4.listOf.length, .int .i64 i, x31, x32, x33, x34, x35, x36, x37, x38, x39, x40, x41, x42, x43, x44, x45, x46, x47, x48, x49, x50, x51, x52, x53, x54, x55, x56, x57, x58, x59, x60, x61, x62, x63, x64, x65, x66, x67, x68, x69, x70] ⟨[.cells cs, .map es], ts⟩ K =
  br (decide (i < (↑a4.listOf.length : Int)))
    (fun _ => br (AV.listN 10 a4 && (decide ((0 : Int) ≤ i) && decide (i < (↑a4.listOf.length : Int))))
     (fun _ => (match a4.listOf[i.toNat]? with
      | some u2 => br (u2.isAgg &&
     fitL
      [Sh.int IntKind.i64, Sh.int IntKind.i64, Sh.int IntKind.i64, Sh.int IntKind.i64, Sh.any, Sh.any, Sh.int IntKind.i64,
       Sh.int IntKind.i64, Sh.bool, Sh.any]
      u2.aggOf)
       (fun _ => br (AV.listN 8 (shS Sh.any (hdV (tlV (tlV (tlV (tlV (tlV (tlV (tlV (tlV (tlV u2.aggOf))))))))))))
        (fun _ => loopC (Rep.D m) (cD m fuel) fuel ofC fuel [x0, x1, AV.ptr 0 0, x3, AV.nils, AV.map 1, x6, x7, o, x9, AV.ptr 2 0, x11, x12, x13, x14, x15, x16, x17, x18, x19, x20, x21, x22, x23, x24, x25, x26, x27, a4, AV.int IntKind.i64 (↑a4.listOf.length : Int), AV.int IntKind.i64 i, AV.bool (decide (i < (↑a4.listOf.length : Int))), (AV.agg (shL [Sh.int IntKind.i64, Sh.int IntKind.i64, Sh.int IntKind.i64, Sh.int IntKind.i64, Sh.any, Sh.any, Sh.int IntKind.i64, Sh.int IntKind.i64, Sh.bool, Sh.any] u2.aggOf)).rop, AV.agg (shL [Sh.int IntKind.i64, Sh.int IntKind.i64, Sh.int IntKind.i64, Sh.int IntKind.i64, Sh.any, Sh.any, Sh.int IntKind.i64, Sh.int IntKind.i64, Sh.bool, Sh.any] u2.aggOf), AV.ptr 2 9, shS Sh.any (hdV (tlV (tlV (tlV (tlV (tlV (tlV (tlV (tlV (tlV u2.aggOf)))))))))), AV.int IntKind.i64 (↑(shS Sh.any (hdV (tlV (tlV (tlV (tlV (tlV (tlV (tlV (tlV (tlV u2.aggOf))))))))))).listOf.length : Int), AV.int IntKind.i64 ((0 : Int)), x38, x39, x40, x41, x42, x43, x44, x45, x46, x47, x48, x49, x50, x51, x52, x53, x54, x55, x56, x57, x58, x59, x60, x61, x62, x63, x64, x65, x66, x67, x68, x69, x70] { objs := [AObj.cells cs, AObj.map es, AObj.cells [AV.int IntKind.i64 (hdV u2.aggOf).numOf, AV.int IntKind.i64 (hdV (tlV u2.aggOf)).numOf, AV.int IntKind.i64 (hdV (tlV (tlV u2.aggOf))).numOf, AV.int IntKind.i64 (hdV (tlV (tlV (tlV u2.aggOf)))).numOf, shS Sh.any (hdV (tlV (tlV (tlV (tlV u2.aggOf))))), shS Sh.any (hdV (tlV (tlV (tlV (tlV (tlV u2.aggOf)))))), AV.int IntKind.i64 (hdV (tlV (tlV (tlV (tlV (tlV (tlV u2.aggOf))))))).numOf, AV.int IntKind.i64 (hdV (tlV (tlV (tlV (tlV (tlV (tlV (tlV u2.aggOf)))))))).numOf, AV.bool (hdV (tlV (tlV (tlV (tlV (tlV (tlV (tlV (tlV u2.aggOf))))))))).boolOf, shS Sh.any (hdV (tlV (tlV (tlV (tlV (tlV (tlV (tlV (tlV (tlV u2.aggOf))))))))))]], toks := ts } (kontI (Rep.D m) (cD m fuel) fuel ofB ofR (stepK (Rep.D m) (cD m fuel) fuel ofB k [x0, x1, .ptr 0 0, x3, .nils, .map 1, x6, x7, o, x9, x10, x11, x12, x13, x14, x15, x16, x17, x18, x19, x20, x21, x22, x23, x24, x25, x26, x27, a4, .int .i64 a4.listOf.length, .int .i64 i, x31, x32, x33, x34, x35, x36, x37, x38, x39, x40, x41, x42, x43, x44, x45, x46, x47, x48, x49, x50, x51, x52, x53, x54, x55, x56, x57, x58, x59, x60, x61, x62, x63, x64, x65, x66, x67, x68, x69, x70] ⟨[.cells cs, .map es], ts⟩ K)))
        (fun _ => none))
       (fun _ => none)
      | none => none))
     (fun _ => none))
    (fun _ => K (Ex.exit 2)
     [x0, x1, AV.ptr 0 0, x3, AV.nils, AV.map 1, x6, x7, o, x9, x10, x11, x12, x13, x14, x15, x16, x17, x18, x19, x20, x21,
      x22, x23, x24, x25, x26, x27, a4, AV.int IntKind.i64 (↑a4.listOf.length : Int), AV.int IntKind.i64 i,
      AV.bool (decide (i < (↑a4.listOf.length : Int))), x32, x33, x34, x35, x36, x37, x38, x39, x40, x41, x42, x43, x44,
      x45, x46, x47, x48, x49, x50, x51, x52, x53, x54, x55, x56, x57, x58, x59, x60, x61, x62, x63, x64, x65, x66, x67,
      x68, x69, x70]
     { objs := [AObj.cells cs, AObj.map es], toks := ts }) := by kernel_rfl
theorem ofB_post (m : Array Value) {R : Type} (fuel k : Nat) (cs cs' : List AV) (es : List (AV × AV)) (ts ts' : List (Nat × Nat × TypeId)) (a4 o b : AV) (i j : Int) (s0 : List AV) (x0 x1 x3 x6 x7 x9 x11 x12 x13 x14 x15 x16 x17 x18 x19 x20 x21 x22 x23 x24 x25 x26 x27 x31 x32 x33 x34 x38 x39 x40 x41 x42 x43 x44 x45 x46 x47 x48 x49 x50 x51 x52 x53 x54 x55 x56 x57 x58 x59 x60 x61 x62 x63 x64 x65 x66 x67 x68 x69 x70 : AV) (K : Ex → List AV → AH → Option R) :
  kontI (Rep.D m) (cD m fuel) fuel ofB ofR (stepK (Rep.D m) (cD m fuel) fuel ofB k s0 ⟨[.cells cs, .map es], ts'⟩ K) (.exit 4) [x0, x1, .ptr 0 0, x3, .nils, .map 1, x6, x7, o, x9, .ptr 2 0, x11, x12, x13, x14, x15, x16, x17, x18, x19, x20, x21, x22, x23, x24, x25, x26, x27, a4, .int .i64 a4.listOf.length, .int .i64 i, x31, x32, x33, x34, b, .int .i64 b.listOf.length, .int .i64 j, x38, x39, x40, x41, x42, x43, x44, x45, x46, x47, x48, x49, x50, x51, x52, x53, x54, x55, x56, x57, x58, x59, x60, x61, x62, x63, x64, x65, x66, x67, x68, x69, x70] ⟨[.cells cs, .map es, .cells cs'], ts⟩ =
  br (belowO 2 ts.length [AObj.cells cs, AObj.map es])
    (fun _ => loopC (Rep.D m) (cD m fuel) fuel ofB k [cutV 2 ts.length x0, cutV 2 ts.length x1, AV.ptr 0 0, cutV 2 ts.length x3, AV.nils, AV.map 1, cutV 2 ts.length x6, cutV 2 ts.length x7, cutV 2 ts.length o, cutV 2 ts.length x9, AV.top, cutV 2 ts.length x11, cutV 2 ts.length x12, cutV 2 ts.length x13, cutV 2 ts.length x14, cutV 2 ts.length x15, cutV 2 ts.length x16, cutV 2 ts.length x17, cutV 2 ts.length x18, cutV 2 ts.length x19, cutV 2 ts.length x20, cutV 2 ts.length x21, cutV 2 ts.length x22, cutV 2 ts.length x23, cutV 2 ts.length x24, cutV 2 ts.length x25, cutV 2 ts.length x26, cutV 2 ts.length x27, cutV 2 ts.length a4, AV.int IntKind.i64 (↑a4.listOf.length : Int), AV.int IntKind.i64 (IntKind.i64.wrap (i + (1 : Int))), cutV 2 ts.length x31, cutV 2 ts.length x32, cutV 2 ts.length x33, cutV 2 ts.length x34, cutV 2 ts.length b, AV.int IntKind.i64 (↑b.listOf.length : Int), AV.int IntKind.i64 j, cutV 2 ts.length x38, cutV 2 ts.length x39, cutV 2 ts.length x40, cutV 2 ts.length x41, cutV 2 ts.length x42, cutV 2 ts.length x43, cutV 2 ts.length x44, cutV 2 ts.length x45, cutV 2 ts.length x46, cutV 2 ts.length x47, cutV 2 ts.length x48, cutV 2 ts.length x49, cutV 2 ts.length x50, cutV 2 ts.length x51, cutV 2 ts.length x52, cutV 2 ts.length x53, cutV 2 ts.length x54, cutV 2 ts.length x55, cutV 2 ts.length x56, cutV 2 ts.length x57, cutV 2 ts.length x58, cutV 2 ts.length x59, cutV 2 ts.length x60, cutV 2 ts.length x61, cutV 2 ts.length x62, cutV 2 ts.length x63, cutV 2 ts.length x64, cutV 2 ts.length x65, cutV 2 ts.length x66, cutV 2 ts.length x67, cutV 2 ts.length x68, AV.int IntKind.i64 (IntKind.i64.wrap (i + (1 : Int))), cutV 2 ts.length x70] { objs := [AObj.cells cs, AObj.map es], toks := ts } K)
    (fun _ => none) := by kernel_rfl
theorem of_end (m : Array Value) {R : Type} (fuel : Nat) (H : AH) (o : AV) (x0 x1 x2 x3 x4 x5 x6 x7 x9 x10 x11 x12 x13 x14 x15 x16 x17 x18 x19 x20 x21 x22 x23 x24 x25 x26 x27 x28 x29 x30 x31 x32 x33 x34 x35 x36 x37 x38 x39 x40 x41 x42 x43 x44 x45 x46 x47 x48 x49 x50 x51 x52 x53 x54 x55 x56 x57 x58 x59 x60 x61 x62 x63 x64 x65 x66 x67 x68 x69 x70 : AV) (K : AV → AH → Option R) :
  kontI (Rep.D m) (cD m fuel) fuel (bodyOf Tryd.f24) [1, 1, 1, 1, 0, 1, 0] (endI (Rep.D m) Tryd.f24 K) (.exit 2) [x0, x1, x2, x3, x4, x5, x6, x7, o, x9, x10, x11, x12, x13, x14, x15, x16, x17, x18, x19, x20, x21, x22, x23, x24, x25, x26, x27, x28, x29, x30, x31, x32, x33, x34, x35, x36, x37, x38, x39, x40, x41, x42, x43, x44, x45, x46, x47, x48, x49, x50, x51, x52, x53, x54, x55, x56, x57, x58, x59, x60, x61, x62, x63, x64, x65, x66, x67, x68, x69, x70] H =
  K o H := by kernel_rfl
theorem ofC_stepN (m : Array Value) {R : Type} (fuel k : Nat) (cs : List AV) (es : List (AV × AV)) (a4 b : AV) (b0 b1 b2 b3 : Int) (b4 b5 : AV) (b6 b7 : Int) (b8 : Bool) (b9 : AV) (i j : Int) (x0 x1 x3 x6 x7 x9 x11 x12 x13 x14 x15 x16 x17 x18 x19 x20 x21 x22 x23 x24 x25 x26 x27 x31 x32 x33 x34 x38 x39 x40 x41 x42 x43 x44 x45 x46 x47 x48 x49 x50 x51 x52 x53 x54 x55 x56 x57 x58 x59 x60 x61 x62 x63 x64 x65 x66 x67 x68 x69 x70 : AV) (K : Ex → List AV → AH → Option R) :
  loopC (Rep.D m) (cD m fuel) fuel ofC (k + 1) [x0, x1, .ptr 0 0, x3, .nils, .map 1, x6, x7, .nils, x9, .ptr 2 0, x11, x12, x13, x14, x15, x16, x17, x18, x19, x20, x21, x22, x23, x24, x25, x26, x27, a4, .int .i64 a4.listOf.length, .int .i64 i, x31, x32, x33, x34, b, .int .i64 b.listOf.length, .int .i64 j, x38, x39, x40, x41, x42, x43, x44, x45, x46, x47, x48, x49, x50, x51, x52, x53, x54, x55, x56, x57, x58, x59, x60, x61, x62, x63, x64, x65, x66, x67, x68, x69, x70] ⟨[.cells cs, .map es, .cells [.int .i64 b0, .int .i64 b1, .int .i64 b2, .int .i64 b3, b4, b5, .int .i64 b6, .int .i64 b7, .bool b8, b9]], []⟩ K =
  br (decide (j < (↑b.listOf.length : Int)))
    (fun _ => br (AV.listN 8 b && (decide ((0 : Int) ≤ j) && decide (j < (↑b.listOf.length : Int))))
     (fun _ => (match b.listOf[j.toNat]? with
      | some u2 => br (u2.isAgg &&
     fitL
      [Sh.int IntKind.u8, Sh.int IntKind.i64, Sh.int IntKind.i64, Sh.int IntKind.i64, Sh.int IntKind.i64,
       Sh.int IntKind.i64, Sh.int IntKind.i64, Sh.any]
      u2.aggOf)
       (fun _ => br (AV.listN 1 (shS Sh.any (hdV (tlV (tlV (tlV (tlV (tlV (tlV (tlV u2.aggOf))))))))))
        (fun _ => (match getM (Rep.D m).T 47
     (AV.agg [AV.int IntKind.i64 b0, AV.int IntKind.i64 j, AV.int IntKind.i64 (hdV (tlV u2.aggOf)).numOf]) (AV.bool false)
     es with
         | some u5 => br (fitS Sh.bool u5)
          (fun _ => br (belowO 3 1
     [AObj.cells cs, AObj.map es,
      AObj.cells
       [AV.int IntKind.i64 b0, AV.int IntKind.i64 b1, AV.int IntKind.i64 b2, AV.int IntKind.i64 b3, b4, b5,
        AV.int IntKind.i64 b6, AV.int IntKind.i64 b7, AV.bool b8, b9]])
           (fun _ => loopC (Rep.D m) (cD m fuel) fuel ofC k [cutV 3 1 x0, cutV 3 1 x1, AV.ptr 0 0, cutV 3 1 x3, AV.nils, AV.map 1, cutV 3 1 x6, cutV 3 1 x7, AV.inl true (Spare.tok 0 0) 7 (detokL (detokL [AV.agg [AV.int IntKind.i64 b0, AV.int IntKind.i64 j, AV.int IntKind.u8 (hdV u2.aggOf).numOf, AV.int IntKind.i64 (hdV (tlV u2.aggOf)).numOf, AV.int IntKind.i64 (↑(shS Sh.any (hdV (tlV (tlV (tlV (tlV (tlV (tlV (tlV u2.aggOf))))))))).listOf.length : Int), AV.int IntKind.i64 (hdV (tlV (tlV (tlV (tlV (tlV (tlV u2.aggOf))))))).numOf, AV.bool u5.boolOf]])), cutV 3 1 x9, AV.ptr 2 0, AV.int IntKind.i64 j, AV.top, AV.top, cutV 3 1 x14, cutV 3 1 x15, cutV 3 1 x16, cutV 3 1 x17, cutV 3 1 x18, cutV 3 1 x19, cutV 3 1 x20, cutV 3 1 x21, cutV 3 1 x22, cutV 3 1 x23, cutV 3 1 x24, cutV 3 1 x25, cutV 3 1 x26, cutV 3 1 x27, cutV 3 1 a4, AV.int IntKind.i64 (↑a4.listOf.length : Int), AV.int IntKind.i64 i, cutV 3 1 x31, cutV 3 1 x32, cutV 3 1 x33, cutV 3 1 x34, cutV 3 1 b, AV.int IntKind.i64 (↑b.listOf.length : Int), AV.int IntKind.i64 (IntKind.i64.wrap (j + (1 : Int))), AV.bool (decide (j < (↑b.listOf.length : Int))), AV.int IntKind.i64 j, cutV 3 1 (AV.agg (shL [Sh.int IntKind.u8, Sh.int IntKind.i64, Sh.int IntKind.i64, Sh.int IntKind.i64, Sh.int IntKind.i64, Sh.int IntKind.i64, Sh.int IntKind.i64, Sh.any] u2.aggOf)).rop, cutV 3 1 (AV.agg (shL [Sh.int IntKind.u8, Sh.int IntKind.i64, Sh.int IntKind.i64, Sh.int IntKind.i64, Sh.int IntKind.i64, Sh.int IntKind.i64, Sh.int IntKind.i64, Sh.any] u2.aggOf)), AV.ptr 2 0, AV.ptr 2 0, AV.int IntKind.i64 b0, AV.int IntKind.i64 j, AV.top, AV.int IntKind.i64 (hdV (tlV u2.aggOf)).numOf, AV.agg [AV.int IntKind.i64 b0, AV.int IntKind.i64 j, AV.int IntKind.i64 (hdV (tlV u2.aggOf)).numOf], AV.nils, AV.top, AV.int IntKind.i64 b0, AV.int IntKind.i64 j, AV.top, AV.int IntKind.u8 (hdV u2.aggOf).numOf, AV.top, AV.int IntKind.i64 (hdV (tlV u2.aggOf)).numOf, AV.top, cutV 3 1 (shS Sh.any (hdV (tlV (tlV (tlV (tlV (tlV (tlV (tlV u2.aggOf))))))))), AV.int IntKind.i64 (↑(shS Sh.any (hdV (tlV (tlV (tlV (tlV (tlV (tlV (tlV u2.aggOf))))))))).listOf.length : Int), AV.top, AV.int IntKind.i64 (hdV (tlV (tlV (tlV (tlV (tlV (tlV u2.aggOf))))))).numOf, AV.map 1, AV.agg [AV.int IntKind.i64 b0, AV.int IntKind.i64 j, AV.int IntKind.i64 (hdV (tlV u2.aggOf)).numOf], AV.bool u5.boolOf, AV.agg [AV.int IntKind.i64 b0, AV.int IntKind.i64 j, AV.int IntKind.u8 (hdV u2.aggOf).numOf, AV.int IntKind.i64 (hdV (tlV u2.aggOf)).numOf, AV.int IntKind.i64 (↑(shS Sh.any (hdV (tlV (tlV (tlV (tlV (tlV (tlV (tlV u2.aggOf))))))))).listOf.length : Int), AV.int IntKind.i64 (hdV (tlV (tlV (tlV (tlV (tlV (tlV u2.aggOf))))))).numOf, AV.bool u5.boolOf], AV.inl true Spare.zero 7 (detokL [AV.agg [AV.int IntKind.i64 b0, AV.int IntKind.i64 j, AV.int IntKind.u8 (hdV u2.aggOf).numOf, AV.int IntKind.i64 (hdV (tlV u2.aggOf)).numOf, AV.int IntKind.i64 (↑(shS Sh.any (hdV (tlV (tlV (tlV (tlV (tlV (tlV (tlV u2.aggOf))))))))).listOf.length : Int), AV.int IntKind.i64 (hdV (tlV (tlV (tlV (tlV (tlV (tlV u2.aggOf))))))).numOf, AV.bool u5.boolOf]]), AV.inl true (Spare.tok 0 0) 7 (detokL (detokL [AV.agg [AV.int IntKind.i64 b0, AV.int IntKind.i64 j, AV.int IntKind.u8 (hdV u2.aggOf).numOf, AV.int IntKind.i64 (hdV (tlV u2.aggOf)).numOf, AV.int IntKind.i64 (↑(shS Sh.any (hdV (tlV (tlV (tlV (tlV (tlV (tlV (tlV u2.aggOf))))))))).listOf.length : Int), AV.int IntKind.i64 (hdV (tlV (tlV (tlV (tlV (tlV (tlV u2.aggOf))))))).numOf, AV.bool u5.boolOf]])), AV.int IntKind.i64 (IntKind.i64.wrap (j + (1 : Int))), cutV 3 1 x69, cutV 3 1 x70] { objs := [AObj.cells cs, AObj.map es, AObj.cells [AV.int IntKind.i64 b0, AV.int IntKind.i64 b1, AV.int IntKind.i64 b2, AV.int IntKind.i64 b3, b4, b5, AV.int IntKind.i64 b6, AV.int IntKind.i64 b7, AV.bool b8, b9]], toks := [(0, 7, 23)] } K)
           (fun _ => none))
          (fun _ => none)
         | none => none))
        (fun _ => none))
       (fun _ => none)
      | none => none))
     (fun _ => none))
    (fun _ => K (Ex.exit 4)
     [x0, x1, AV.ptr 0 0, x3, AV.nils, AV.map 1, x6, x7, AV.nils, x9, AV.ptr 2 0, x11, x12, x13, x14, x15, x16, x17, x18,
      x19, x20, x21, x22, x23, x24, x25, x26, x27, a4, AV.int IntKind.i64 (↑a4.listOf.length : Int), AV.int IntKind.i64 i,
      x31, x32, x33, x34, b, AV.int IntKind.i64 (↑b.listOf.length : Int), AV.int IntKind.i64 j,
      AV.bool (decide (j < (↑b.listOf.length : Int))), x39, x40, x41, x42, x43, x44, x45, x46, x47, x48, x49, x50, x51,
      x52, x53, x54, x55, x56, x57, x58, x59, x60, x61, x62, x63, x64, x65, x66, x67, x68, x69, x70]
     {
      objs :=
       [AObj.cells cs, AObj.map es,
        AObj.cells
         [AV.int IntKind.i64 b0, AV.int IntKind.i64 b1, AV.int IntKind.i64 b2, AV.int IntKind.i64 b3, b4, b5,
          AV.int IntKind.i64 b6, AV.int IntKind.i64 b7, AV.bool b8, b9]],
      toks := [] }) := by kernel_rfl
theorem ofC_step (m : Array Value) {R : Type} (fuel k : Nat) (cs : List AV) (es : List (AV × AV)) (g : Nat) (ys : List AV) (a4 b : AV) (b0 b1 b2 b3 : Int) (b4 b5 : AV) (b6 b7 : Int) (b8 : Bool) (b9 : AV) (i j : Int) (x0 x1 x3 x6 x7 x9 x11 x12 x13 x14 x15 x16 x17 x18 x19 x20 x21 x22 x23 x24 x25 x26 x27 x31 x32 x33 x34 x38 x39 x40 x41 x42 x43 x44 x45 x46 x47 x48 x49 x50 x51 x52 x53 x54 x55 x56 x57 x58 x59 x60 x61 x62 x63 x64 x65 x66 x67 x68 x69 x70 : AV) (K : Ex → List AV → AH → Option R) :
  loopC (Rep.D m) (cD m fuel) fuel ofC (k + 1) [x0, x1, .ptr 0 0, x3, .nils, .map 1, x6, x7, .inl true (.tok 0 g) 7 ys, x9, .ptr 2 0, x11, x12, x13, x14, x15, x16, x17, x18, x19, x20, x21, x22, x23, x24, x25, x26, x27, a4, .int .i64 a4.listOf.length, .int .i64 i, x31, x32, x33, x34, b, .int .i64 b.listOf.length, .int .i64 j, x38, x39, x40, x41, x42, x43, x44, x45, x46, x47, x48, x49, x50, x51, x52, x53, x54, x55, x56, x57, x58, x59, x60, x61, x62, x63, x64, x65, x66, x67, x68, x69, x70] ⟨[.cells cs, .map es, .cells [.int .i64 b0, .int .i64 b1, .int .i64 b2, .int .i64 b3, b4, b5, .int .i64 b6, .int .i64 b7, .bool b8, b9]], [(g, 7, 23)]⟩ K =
  br (decide (j < (↑b.listOf.length : Int)))
    (fun _ => br (AV.listN 8 b && (decide ((0 : Int) ≤ j) && decide (j < (↑b.listOf.length : Int))))
     (fun _ => (match b.listOf[j.toNat]? with
      | some u2 => br (u2.isAgg &&
     fitL
      [Sh.int IntKind.u8, Sh.int IntKind.i64, Sh.int IntKind.i64, Sh.int IntKind.i64, Sh.int IntKind.i64,
       Sh.int IntKind.i64, Sh.int IntKind.i64, Sh.any]
      u2.aggOf)
       (fun _ => br (AV.listN 1 (shS Sh.any (hdV (tlV (tlV (tlV (tlV (tlV (tlV (tlV u2.aggOf))))))))))
        (fun _ => (match getM (Rep.D m).T 47
     (AV.agg [AV.int IntKind.i64 b0, AV.int IntKind.i64 j, AV.int IntKind.i64 (hdV (tlV u2.aggOf)).numOf]) (AV.bool false)
     es with
         | some u5 => br (fitS Sh.bool u5)
          (fun _ => (if fitsRoom (ys.length + 1) 56 = true ∧ 7 = 7 then (if some (g, 7, 23) = some (g, 7, 23) then br (belowO 3 1
     [AObj.cells cs, AObj.map es,
      AObj.cells
       [AV.int IntKind.i64 b0, AV.int IntKind.i64 b1, AV.int IntKind.i64 b2, AV.int IntKind.i64 b3, b4, b5,
        AV.int IntKind.i64 b6, AV.int IntKind.i64 b7, AV.bool b8, b9]])
             (fun _ => loopC (Rep.D m) (cD m fuel) fuel ofC k [cutV 3 1 x0, cutV 3 1 x1, AV.ptr 0 0, cutV 3 1 x3, AV.nils, AV.map 1, cutV 3 1 x6, cutV 3 1 x7, cutV 3 1 (AV.inl true (Spare.tok 0 (g + 1)) 7 (ys ++ detokL (detokL [AV.agg [AV.int IntKind.i64 b0, AV.int IntKind.i64 j, AV.int IntKind.u8 (hdV u2.aggOf).numOf, AV.int IntKind.i64 (hdV (tlV u2.aggOf)).numOf, AV.int IntKind.i64 (↑(shS Sh.any (hdV (tlV (tlV (tlV (tlV (tlV (tlV (tlV u2.aggOf))))))))).listOf.length : Int), AV.int IntKind.i64 (hdV (tlV (tlV (tlV (tlV (tlV (tlV u2.aggOf))))))).numOf, AV.bool u5.boolOf]]))), cutV 3 1 x9, AV.ptr 2 0, AV.int IntKind.i64 j, AV.top, AV.top, cutV 3 1 x14, cutV 3 1 x15, cutV 3 1 x16, cutV 3 1 x17, cutV 3 1 x18, cutV 3 1 x19, cutV 3 1 x20, cutV 3 1 x21, cutV 3 1 x22, cutV 3 1 x23, cutV 3 1 x24, cutV 3 1 x25, cutV 3 1 x26, cutV 3 1 x27, cutV 3 1 a4, AV.int IntKind.i64 (↑a4.listOf.length : Int), AV.int IntKind.i64 i, cutV 3 1 x31, cutV 3 1 x32, cutV 3 1 x33, cutV 3 1 x34, cutV 3 1 b, AV.int IntKind.i64 (↑b.listOf.length : Int), AV.int IntKind.i64 (IntKind.i64.wrap (j + (1 : Int))), AV.bool (decide (j < (↑b.listOf.length : Int))), AV.int IntKind.i64 j, cutV 3 1 (AV.agg (shL [Sh.int IntKind.u8, Sh.int IntKind.i64, Sh.int IntKind.i64, Sh.int IntKind.i64, Sh.int IntKind.i64, Sh.int IntKind.i64, Sh.int IntKind.i64, Sh.any] u2.aggOf)).rop, cutV 3 1 (AV.agg (shL [Sh.int IntKind.u8, Sh.int IntKind.i64, Sh.int IntKind.i64, Sh.int IntKind.i64, Sh.int IntKind.i64, Sh.int IntKind.i64, Sh.int IntKind.i64, Sh.any] u2.aggOf)), AV.ptr 2 0, AV.ptr 2 0, AV.int IntKind.i64 b0, AV.int IntKind.i64 j, AV.top, AV.int IntKind.i64 (hdV (tlV u2.aggOf)).numOf, AV.agg [AV.int IntKind.i64 b0, AV.int IntKind.i64 j, AV.int IntKind.i64 (hdV (tlV u2.aggOf)).numOf], cutV 3 1 (AV.inl true (Spare.tok 0 g) 7 ys), AV.top, AV.int IntKind.i64 b0, AV.int IntKind.i64 j, AV.top, AV.int IntKind.u8 (hdV u2.aggOf).numOf, AV.top, AV.int IntKind.i64 (hdV (tlV u2.aggOf)).numOf, AV.top, cutV 3 1 (shS Sh.any (hdV (tlV (tlV (tlV (tlV (tlV (tlV (tlV u2.aggOf))))))))), AV.int IntKind.i64 (↑(shS Sh.any (hdV (tlV (tlV (tlV (tlV (tlV (tlV (tlV u2.aggOf))))))))).listOf.length : Int), AV.top, AV.int IntKind.i64 (hdV (tlV (tlV (tlV (tlV (tlV (tlV u2.aggOf))))))).numOf, AV.map 1, AV.agg [AV.int IntKind.i64 b0, AV.int IntKind.i64 j, AV.int IntKind.i64 (hdV (tlV u2.aggOf)).numOf], AV.bool u5.boolOf, AV.agg [AV.int IntKind.i64 b0, AV.int IntKind.i64 j, AV.int IntKind.u8 (hdV u2.aggOf).numOf, AV.int IntKind.i64 (hdV (tlV u2.aggOf)).numOf, AV.int IntKind.i64 (↑(shS Sh.any (hdV (tlV (tlV (tlV (tlV (tlV (tlV (tlV u2.aggOf))))))))).listOf.length : Int), AV.int IntKind.i64 (hdV (tlV (tlV (tlV (tlV (tlV (tlV u2.aggOf))))))).numOf, AV.bool u5.boolOf], AV.inl true Spare.zero 7 (detokL [AV.agg [AV.int IntKind.i64 b0, AV.int IntKind.i64 j, AV.int IntKind.u8 (hdV u2.aggOf).numOf, AV.int IntKind.i64 (hdV (tlV u2.aggOf)).numOf, AV.int IntKind.i64 (↑(shS Sh.any (hdV (tlV (tlV (tlV (tlV (tlV (tlV (tlV u2.aggOf))))))))).listOf.length : Int), AV.int IntKind.i64 (hdV (tlV (tlV (tlV (tlV (tlV (tlV u2.aggOf))))))).numOf, AV.bool u5.boolOf]]), cutV 3 1 (AV.inl true (Spare.tok 0 (g + 1)) 7 (ys ++ detokL (detokL [AV.agg [AV.int IntKind.i64 b0, AV.int IntKind.i64 j, AV.int IntKind.u8 (hdV u2.aggOf).numOf, AV.int IntKind.i64 (hdV (tlV u2.aggOf)).numOf, AV.int IntKind.i64 (↑(shS Sh.any (hdV (tlV (tlV (tlV (tlV (tlV (tlV (tlV u2.aggOf))))))))).listOf.length : Int), AV.int IntKind.i64 (hdV (tlV (tlV (tlV (tlV (tlV (tlV u2.aggOf))))))).numOf, AV.bool u5.boolOf]]))), AV.int IntKind.i64 (IntKind.i64.wrap (j + (1 : Int))), cutV 3 1 x69, cutV 3 1 x70] { objs := [AObj.cells cs, AObj.map es, AObj.cells [AV.int IntKind.i64 b0, AV.int IntKind.i64 b1, AV.int IntKind.i64 b2, AV.int IntKind.i64 b3, b4, b5, AV.int IntKind.i64 b6, AV.int IntKind.i64 b7, AV.bool b8, b9]], toks := [(g + 1, 7, 23)] } K)
             (fun _ => none)
            else none)
           else none))
          (fun _ => none)
         | none => none))
        (fun _ => none))
       (fun _ => none)
      | none => none))
     (fun _ => none))
    (fun _ => K (Ex.exit 4)
     [x0, x1, AV.ptr 0 0, x3, AV.nils, AV.map 1, x6, x7, AV.inl true (Spare.tok 0 g) 7 ys, x9, AV.ptr 2 0, x11, x12, x13,
      x14, x15, x16, x17, x18, x19, x20, x21, x22, x23, x24, x25, x26, x27, a4,
      AV.int IntKind.i64 (↑a4.listOf.length : Int), AV.int IntKind.i64 i, x31, x32, x33, x34, b,
      AV.int IntKind.i64 (↑b.listOf.length : Int), AV.int IntKind.i64 j, AV.bool (decide (j < (↑b.listOf.length : Int))),
      x39, x40, x41, x42, x43, x44, x45, x46, x47, x48, x49, x50, x51, x52, x53, x54, x55, x56, x57, x58, x59, x60, x61,
      x62, x63, x64, x65, x66, x67, x68, x69, x70]
     {
      objs :=
       [AObj.cells cs, AObj.map es,
        AObj.cells
         [AV.int IntKind.i64 b0, AV.int IntKind.i64 b1, AV.int IntKind.i64 b2, AV.int IntKind.i64 b3, b4, b5,
          AV.int IntKind.i64 b6, AV.int IntKind.i64 b7, AV.bool b8, b9]],
      toks := [(g, 7, 23)] }) := by kernel_rfl
-- PROOFS
def tokV (t : Int × Int × Int) : AV := .agg [.int .i64 t.1, .int .i64 t.2.1, .int .i64 t.2.2]
def ent (t : Int × Int × Int) : AV × AV := (tokV t, .bool true)

theorem eqv_tok (m : Array Value) (t u : Int × Int × Int) : eqv (Rep.D m).T eqDepth 47 (tokV t) (tokV u) = some (t.1 == u.1 && (t.2.1 == u.2.1 && (t.2.2 == u.2.2 && true))) := by kernel_rfl

theorem tok_beq (t u : Int × Int × Int) : (t.1 == u.1 && (t.2.1 == u.2.1 && (t.2.2 == u.2.2 && true))) = decide (t = u) := by
  obtain ⟨a, b, c⟩ := t
  obtain ⟨d, e, f⟩ := u
  rw [Bool.eq_iff_iff]
  simp

theorem findK_ent (m : Array Value) (t : Int × Int × Int) : ∀ (X : List (Int × Int × Int)) (n : Nat), (t ∉ X → findK (Rep.D m).T 47 (tokV t) (X.map ent) n = some none) ∧
    (t ∈ X → ∃ q, findK (Rep.D m).T 47 (tokV t) (X.map ent) n = some (some (n + q, .bool true)) ∧ (X.map ent)[q]? = some (ent t))
  | [], n => ⟨fun _ => rfl, fun h => by cases h⟩
  | u :: X, n => by
    obtain ⟨h1, h2⟩ := findK_ent m t X (n + 1)
    have e : findK (Rep.D m).T 47 (tokV t) ((u :: X).map ent) n = (match eqv (Rep.D m).T eqDepth 47 (tokV t) (tokV u) with
      | some true => some (some (n, .bool true))
      | some false => findK (Rep.D m).T 47 (tokV t) (X.map ent) (n + 1)
      | none => none) := rfl
    rw [eqv_tok, tok_beq] at e
    by_cases htu : t = u
    · subst htu
      rw [e]
      refine ⟨fun h => absurd (List.mem_cons_self ..) h, fun _ => ⟨0, by simp, rfl⟩⟩
    · rw [e]
      simp only [htu, decide_false]
      refine ⟨fun h => h1 (fun h' => h (List.mem_cons_of_mem _ h')), fun h => ?_⟩
      rcases List.mem_cons.1 h with h' | h'
      · exact absurd h' htu
      · obtain ⟨q, k1, k2⟩ := h2 h'
        exact ⟨q + 1, by rw [k1]; congr 3; omega, by simpa using k2⟩

theorem set_same_get {A : Type} : ∀ {l : List A} {n : Nat} {x : A}, l[n]? = some x → l.set n x = l
  | [], n, x, h => by simp at h
  | y :: l, 0, x, h => by simp at h; subst h; rfl
  | y :: l, n + 1, x, h => by simp at h; simp [set_same_get h]

theorem putM_ent (m : Array Value) (t : Int × Int × Int) (X : List (Int × Int × Int)) : putM (Rep.D m).T 47 (tokV t) (.bool true) (X.map ent) = some ((if t ∈ X then X else X ++ [t]).map ent) := by
  obtain ⟨h1, h2⟩ := findK_ent m t X 0
  unfold putM
  by_cases h : t ∈ X
  · obtain ⟨q, k1, k2⟩ := h2 h
    rw [k1, if_pos h]
    simp only [Nat.zero_add, k2]
    have hs : sameA (ent t).1 (tokV t) = true := by
      simp [ent, tokV, sameA, sameL, sameS]
    rw [if_pos hs]
    congr 1
    exact set_same_get k2
  · rw [h1 h, if_neg h]
    simp [ent]

theorem getM_ent (m : Array Value) (t : Int × Int × Int) (X : List (Int × Int × Int)) : getM (Rep.D m).T 47 (tokV t) (.bool false) (X.map ent) = some (.bool (decide (t ∈ X))) := by
  obtain ⟨h1, h2⟩ := findK_ent m t X 0
  unfold getM
  by_cases h : t ∈ X
  · obtain ⟨q, k1, k2⟩ := h2 h
    rw [k1, decide_eq_true h]
  · rw [h1 h, decide_eq_false h]

theorem belowE_ent (n k : Nat) : ∀ (X : List (Int × Int × Int)), belowE n k (X.map ent) = true
  | [] => rfl
  | t :: X => by
    have := belowE_ent n k X
    simp only [List.map_cons, belowE, this]
    rfl

/-- A live process, and its token. -/
def liveP (p : AV) : Bool := (hdV (tlV (tlV (tlV (tlV (tlV p.aggOf)))))).boolOf
def tokP (p : AV) : Int × Int × Int := ((hdV (tlV (tlV p.aggOf))).numOf, (hdV (tlV (tlV (tlV p.aggOf)))).numOf, (hdV (tlV (tlV (tlV (tlV p.aggOf))))).numOf)
def Lives (L : List AV) (X : List (Int × Int × Int)) : Prop := ∀ t, t ∈ X ↔ ∃ p ∈ L, liveP p = true ∧ tokP p = t

theorem ofA_loop (m : Array Value) {R : Type} (fuel : Nat) {cs : List AV} (hcs : ∀ n k, belowL n k cs = true) {l : AV} (hl : tyV (.sl 9 dtProc) l) (K : Ex → List AV → AH → Option R) (Q : Option R → Prop)
    (hexit : ∀ X, Lives l.listOf X → ∀ (i : Int) (x0 x1 x3 x6 x7 x8 x9 x10 x11 x12 x13 x14 x18 x19 x20 x21 x22 x23 x24 x25 x26 x27 x28 x29 x30 x31 x32 x33 x34 x35 x36 x37 x38 x39 x40 x41 x42 x43 x44 x45 x46 x47 x48 x49 x50 x51 x52 x53 x54 x55 x56 x57 x58 x59 x60 x61 x62 x63 x64 x65 x66 x67 x68 x69 x70 : AV), Q (K (.exit 0) [x0, x1, .ptr 0 0, x3, .nils, .map 1, x6, x7, x8, x9, x10, x11, x12, x13, x14, l, .int .i64 l.listOf.length, .int .i64 i, x18, x19, x20, x21, x22, x23, x24, x25, x26, x27, x28, x29, x30, x31, x32, x33, x34, x35, x36, x37, x38, x39, x40, x41, x42, x43, x44, x45, x46, x47, x48, x49, x50, x51, x52, x53, x54, x55, x56, x57, x58, x59, x60, x61, x62, x63, x64, x65, x66, x67, x68, x69, x70] ⟨[.cells cs, .map (X.map ent)], []⟩)) :
    ∀ (r jn k : Nat) (i : Int) (X : List (Int × Int × Int)) (x0 x1 x3 x6 x7 x8 x9 x10 x11 x12 x13 x14 x18 x19 x20 x21 x22 x23 x24 x25 x26 x27 x28 x29 x30 x31 x32 x33 x34 x35 x36 x37 x38 x39 x40 x41 x42 x43 x44 x45 x46 x47 x48 x49 x50 x51 x52 x53 x54 x55 x56 x57 x58 x59 x60 x61 x62 x63 x64 x65 x66 x67 x68 x69 x70 : AV), i = (jn : Int) → jn + r = l.listOf.length → r < k → Lives (l.listOf.take jn) X → Q (loopC (Rep.D m) (cD m fuel) fuel ofA k [x0, x1, .ptr 0 0, x3, .nils, .map 1, x6, x7, x8, x9, x10, x11, x12, x13, x14, l, .int .i64 l.listOf.length, .int .i64 i, x18, x19, x20, x21, x22, x23, x24, x25, x26, x27, x28, x29, x30, x31, x32, x33, x34, x35, x36, x37, x38, x39, x40, x41, x42, x43, x44, x45, x46, x47, x48, x49, x50, x51, x52, x53, x54, x55, x56, x57, x58, x59, x60, x61, x62, x63, x64, x65, x66, x67, x68, x69, x70] ⟨[.cells cs, .map (X.map ent)], []⟩ K)
  | r, jn, 0, i, X, _, _, _, _, _, _, _, _, _, _, _, _, _, _, _, _, _, _, _, _, _, _, _, _, _, _, _, _, _, _, _, _, _, _, _, _, _, _, _, _, _, _, _, _, _, _, _, _, _, _, _, _, _, _, _, _, _, _, _, _, _, _, _, _, _, hj, h, hk, hX => by omega
  | 0, jn, k + 1, i, X, x0, x1, x3, x6, x7, x8, x9, x10, x11, x12, x13, x14, x18, x19, x20, x21, x22, x23, x24, x25, x26, x27, x28, x29, x30, x31, x32, x33, x34, x35, x36, x37, x38, x39, x40, x41, x42, x43, x44, x45, x46, x47, x48, x49, x50, x51, x52, x53, x54, x55, x56, x57, x58, x59, x60, x61, x62, x63, x64, x65, x66, x67, x68, x69, x70, hj, h, hk, hX => by
    subst hj
    rw [ofA_step, lt_false (by omega : ¬ jn < l.listOf.length)]
    simp only [br]
    rw [List.take_of_length_le (by omega)] at hX
    exact hexit X hX _ _ _ _ _ _ _ _ _ _ _ _ _ _ _ _ _ _ _ _ _ _ _ _ _ _ _ _ _ _ _ _ _ _ _ _ _ _ _ _ _ _ _ _ _ _ _ _ _ _ _ _ _ _ _ _ _ _ _ _ _ _ _ _ _ _
  | r + 1, jn, k + 1, i, X, x0, x1, x3, x6, x7, x8, x9, x10, x11, x12, x13, x14, x18, x19, x20, x21, x22, x23, x24, x25, x26, x27, x28, x29, x30, x31, x32, x33, x34, x35, x36, x37, x38, x39, x40, x41, x42, x43, x44, x45, x46, x47, x48, x49, x50, x51, x52, x53, x54, x55, x56, x57, x58, x59, x60, x61, x62, x63, x64, x65, x66, x67, x68, x69, x70, hj, h, hk, hX => by
    subst hj
    obtain ⟨hB, hmax, hT, -, -⟩ := sl_facts hl
    have hi : jn < l.listOf.length := by omega
    obtain ⟨u, hu⟩ : ∃ u, l.listOf[jn]? = some u := ⟨_, List.getElem?_eq_getElem hi⟩
    have tu := hT u (List.mem_of_getElem? hu)
    have hbo (X : List (Int × Int × Int)) : belowO 2 0 [AObj.cells cs, AObj.map (X.map ent)] = true := by
      simp only [belowO, AObj.below, hcs, belowE_ent, Bool.and_self]
    rw [ofA_step, lt_true hi, hB, ge_true, Int.toNat_natCast, hu]
    simp only [br, Bool.and_self, fit_dtProc tu]
    have htk (X' : List (Int × Int × Int)) (h' : ∀ t, t ∈ X' ↔ t ∈ X ∨ (liveP u = true ∧ tokP u = t)) : Lives (l.listOf.take (jn + 1)) X' := by
      intro t
      rw [h', hX t, List.take_add_one, hu]
      simp only [Option.toList_some, List.mem_append, List.mem_singleton]
      constructor
      · rintro (⟨p, h1, h2⟩ | h2)
        · exact ⟨p, .inl h1, h2⟩
        · exact ⟨u, .inr rfl, h2⟩
      · rintro ⟨p, h1 | rfl, h2⟩
        · exact .inl ⟨p, h1, h2⟩
        · exact .inr h2
    cases ha : (hdV (tlV (tlV (tlV (tlV (tlV u.aggOf)))))).boolOf with
    | true =>
      simp only
      have e : putM (Rep.D m).T 47 (.agg [.int .i64 (hdV (tlV (tlV u.aggOf))).numOf, .int .i64 (hdV (tlV (tlV (tlV u.aggOf)))).numOf, .int .i64 (hdV (tlV (tlV (tlV (tlV u.aggOf))))).numOf]) (.bool true) (X.map ent) = some ((if tokP u ∈ X then X else X ++ [tokP u]).map ent) := putM_ent m (tokP u) X
      rw [e]
      simp only [hbo, cut_ty hl]
      rw [wrap_next hi hmax]
      refine ofA_loop m fuel hcs hl K Q hexit r (jn + 1) k _ _ _ _ _ _ _ _ _ _ _ _ _ _ _ _ _ _ _ _ _ _ _ _ _ _ _ _ _ _ _ _ _ _ _ _ _ _ _ _ _ _ _ _ _ _ _ _ _ _ _ _ _ _ _ _ _ _ _ _ _ _ _ _ _ _ _ rfl (by omega) (by omega) (htk _ ?_)
      intro t
      have hlv : liveP u = true := ha
      by_cases hm : tokP u ∈ X
      · rw [if_pos hm]
        constructor
        · exact .inl
        · rintro (h1 | ⟨_, rfl⟩)
          · exact h1
          · exact hm
      · rw [if_neg hm]
        simp only [List.mem_append, List.mem_singleton]
        constructor
        · rintro (h1 | rfl)
          · exact .inl h1
          · exact .inr ⟨hlv, rfl⟩
        · rintro (h1 | ⟨_, rfl⟩)
          · exact .inl h1
          · exact .inr rfl
    | false =>
      simp only [hbo, cut_ty hl]
      rw [wrap_next hi hmax]
      refine ofA_loop m fuel hcs hl K Q hexit r (jn + 1) k _ _ _ _ _ _ _ _ _ _ _ _ _ _ _ _ _ _ _ _ _ _ _ _ _ _ _ _ _ _ _ _ _ _ _ _ _ _ _ _ _ _ _ _ _ _ _ _ _ _ _ _ _ _ _ _ _ _ _ _ _ _ _ _ _ _ _ rfl (by omega) (by omega) (htk _ ?_)
      intro t
      have hlv : liveP u = false := ha
      rw [hlv]
      simp
-- DEFS
-- PROOFS
/-- The status of a task. -/
def stOf (id : Int) (k : Nat) (t : AV) (al : Bool) : AV := .agg [.int .i64 id, .int .i64 k, .int .u8 (hdV t.aggOf).numOf, .int .i64 (hdV (tlV t.aggOf)).numOf, .int .i64 (shS Sh.any (hdV (tlV (tlV (tlV (tlV (tlV (tlV (tlV t.aggOf))))))))).listOf.length, .int .i64 (hdV (tlV (tlV (tlV (tlV (tlV (tlV t.aggOf))))))).numOf, .bool al]
def stT (f : Int → Nat → AV → Bool) (id : Int) : Nat → List AV → List AV
  | _, [] => []
  | k, t :: r => stOf id k t (f id k t) :: stT f id (k + 1) r
def stA (f : Int → Nat → AV → Bool) : List AV → List AV
  | [] => []
  | u :: r => stT f (hdV u.aggOf).numOf 0 (shS Sh.any (hdV (tlV (tlV (tlV (tlV (tlV (tlV (tlV (tlV (tlV u.aggOf))))))))))).listOf ++ stA f r

/-- The slice that is built. -/
def OutOk (o : AV) (ts : List (Nat × Nat × TypeId)) (xs : List AV) : Prop := (o = .nils ∧ ts = [] ∧ xs = []) ∨ ∃ g, o = .inl true (.tok 0 g) 7 xs ∧ ts = [(g, 7, 23)]

theorem wfN {n : Nat} (h : n ≤ maxLen) : (Lit.int .i64 (n : Int)).wf = true := by
  have e1 : IntKind.i64.min = -9223372036854775808 := by decide
  have e2 : IntKind.i64.max = 9223372036854775807 := by decide
  have e : maxLen = 9223372036854775807 := by decide
  simp only [Lit.wf, Bool.and_eq_true, decide_eq_true_eq, e1, e2]
  omega

theorem ty_stOf {id : Int} {k : Nat} {t : AV} {al : Bool} (h1 : (Lit.int .i64 id).wf = true) (h2 : k ≤ maxLen) (h3 : tyV dtTask t) : tyV dtSt (stOf id k t al) :=
  mk_dtSt h1 (wfN h2) (pw_dtTask_0 h3) (pw_dtTask_1 h3) (wfN (sl_facts (pj_dtTask_7 h3)).2.1) (pw_dtTask_6 h3)

theorem cut_tok {xs : List AV} (h : ∀ u ∈ xs, tyV dtSt u) (n g : Nat) : cutV n 1 (.inl true (.tok 0 g) 7 xs) = .inl true (.tok 0 g) 7 xs := by
  unfold cutV
  have : below n 1 (.inl true (.tok 0 g) 7 xs) = true := by
    simp only [below, ty_ebelowL h]
    rfl
  rw [this]

theorem cut_out {o : AV} {ts : List (Nat × Nat × TypeId)} {xs : List AV} (h : OutOk o ts xs) (hx : ∀ u ∈ xs, tyV dtSt u) (n : Nat) : cutV n ts.length o = o := by
  rcases h with ⟨rfl, rfl, rfl⟩ | ⟨g, rfl, rfl⟩
  · rfl
  · exact cut_tok hx n g

theorem ofC_loop (m : Array Value) {R : Type} (fuel : Nat) {cs : List AV} (hcs : ∀ n k, belowL n k cs = true) (X : List (Int × Int × Int)) {a4 b : AV} (ha : tyV (.sl 10 dtAlloc) a4) (hb : tyV (.sl 8 dtTask) b) (b0 b1 b2 b3 : Int) (b4 b5 : AV) (b6 b7 : Int) (b8 : Bool) (b9 : AV)
    (hcs' : ∀ n k, belowL n k [.int .i64 b0, .int .i64 b1, .int .i64 b2, .int .i64 b3, b4, b5, .int .i64 b6, .int .i64 b7, .bool b8, b9] = true) (hw : (Lit.int .i64 b0).wf = true) (i : Int) (f : Int → Nat → AV → Bool) (hf : ∀ j t, f b0 j t = decide ((b0, (j : Int), (hdV (tlV t.aggOf)).numOf) ∈ X))
    (K : Ex → List AV → AH → Option R) (Q : Option R → Prop) (xs0 : List AV) (hxl : xs0.length + b.listOf.length ≤ 100000)
    (hexit : ∀ (o : AV) (ts : List (Nat × Nat × TypeId)), OutOk o ts (xs0 ++ stT f b0 0 b.listOf) → (∀ u ∈ xs0 ++ stT f b0 0 b.listOf, tyV dtSt u) → ∀ (j : Int) (x0 x1 x3 x6 x7 x9 x11 x12 x13 x14 x15 x16 x17 x18 x19 x20 x21 x22 x23 x24 x25 x26 x27 x31 x32 x33 x34 x38 x39 x40 x41 x42 x43 x44 x45 x46 x47 x48 x49 x50 x51 x52 x53 x54 x55 x56 x57 x58 x59 x60 x61 x62 x63 x64 x65 x66 x67 x68 x69 x70 : AV), Q (K (.exit 4) [x0, x1, .ptr 0 0, x3, .nils, .map 1, x6, x7, o, x9, .ptr 2 0, x11, x12, x13, x14, x15, x16, x17, x18, x19, x20, x21, x22, x23, x24, x25, x26, x27, a4, .int .i64 a4.listOf.length, .int .i64 i, x31, x32, x33, x34, b, .int .i64 b.listOf.length, .int .i64 j, x38, x39, x40, x41, x42, x43, x44, x45, x46, x47, x48, x49, x50, x51, x52, x53, x54, x55, x56, x57, x58, x59, x60, x61, x62, x63, x64, x65, x66, x67, x68, x69, x70] ⟨[.cells cs, .map (X.map ent), .cells [.int .i64 b0, .int .i64 b1, .int .i64 b2, .int .i64 b3, b4, b5, .int .i64 b6, .int .i64 b7, .bool b8, b9]], ts⟩)) :
    ∀ (r jn k : Nat) (j : Int) (o : AV) (ts : List (Nat × Nat × TypeId)) (xs : List AV) (x0 x1 x3 x6 x7 x9 x11 x12 x13 x14 x15 x16 x17 x18 x19 x20 x21 x22 x23 x24 x25 x26 x27 x31 x32 x33 x34 x38 x39 x40 x41 x42 x43 x44 x45 x46 x47 x48 x49 x50 x51 x52 x53 x54 x55 x56 x57 x58 x59 x60 x61 x62 x63 x64 x65 x66 x67 x68 x69 x70 : AV), j = (jn : Int) → jn + r = b.listOf.length → r < k → OutOk o ts xs → (∀ u ∈ xs, tyV dtSt u) → xs.length = xs0.length + jn → xs ++ stT f b0 jn (b.listOf.drop jn) = xs0 ++ stT f b0 0 b.listOf →
      Q (loopC (Rep.D m) (cD m fuel) fuel ofC k [x0, x1, .ptr 0 0, x3, .nils, .map 1, x6, x7, o, x9, .ptr 2 0, x11, x12, x13, x14, x15, x16, x17, x18, x19, x20, x21, x22, x23, x24, x25, x26, x27, a4, .int .i64 a4.listOf.length, .int .i64 i, x31, x32, x33, x34, b, .int .i64 b.listOf.length, .int .i64 j, x38, x39, x40, x41, x42, x43, x44, x45, x46, x47, x48, x49, x50, x51, x52, x53, x54, x55, x56, x57, x58, x59, x60, x61, x62, x63, x64, x65, x66, x67, x68, x69, x70] ⟨[.cells cs, .map (X.map ent), .cells [.int .i64 b0, .int .i64 b1, .int .i64 b2, .int .i64 b3, b4, b5, .int .i64 b6, .int .i64 b7, .bool b8, b9]], ts⟩ K)
  | r, jn, 0, j, o, ts, xs, _, _, _, _, _, _, _, _, _, _, _, _, _, _, _, _, _, _, _, _, _, _, _, _, _, _, _, _, _, _, _, _, _, _, _, _, _, _, _, _, _, _, _, _, _, _, _, _, _, _, _, _, _, _, _, _, _, _, _, _, hj, h, hk, ho, ht, hl, he => by omega
  | 0, jn, k + 1, j, o, ts, xs, x0, x1, x3, x6, x7, x9, x11, x12, x13, x14, x15, x16, x17, x18, x19, x20, x21, x22, x23, x24, x25, x26, x27, x31, x32, x33, x34, x38, x39, x40, x41, x42, x43, x44, x45, x46, x47, x48, x49, x50, x51, x52, x53, x54, x55, x56, x57, x58, x59, x60, x61, x62, x63, x64, x65, x66, x67, x68, x69, x70, hj, h, hk, ho, ht, hl, he => by
    subst hj
    rw [List.drop_eq_nil_of_le (by omega)] at he
    simp only [stT, List.append_nil] at he
    rw [← he] at hexit
    have hx := hexit o ts ho ht
    rcases ho with ⟨rfl, rfl, rfl⟩ | ⟨g, rfl, rfl⟩
    · rw [ofC_stepN, lt_false (by omega : ¬ jn < b.listOf.length)]
      exact hx _ _ _ _ _ _ _ _ _ _ _ _ _ _ _ _ _ _ _ _ _ _ _ _ _ _ _ _ _ _ _ _ _ _ _ _ _ _ _ _ _ _ _ _ _ _ _ _ _ _ _ _ _ _ _ _ _ _ _ _ _
    · rw [ofC_step, lt_false (by omega : ¬ jn < b.listOf.length)]
      exact hx _ _ _ _ _ _ _ _ _ _ _ _ _ _ _ _ _ _ _ _ _ _ _ _ _ _ _ _ _ _ _ _ _ _ _ _ _ _ _ _ _ _ _ _ _ _ _ _ _ _ _ _ _ _ _ _ _ _ _ _ _
  | r + 1, jn, k + 1, j, o, ts, xs, x0, x1, x3, x6, x7, x9, x11, x12, x13, x14, x15, x16, x17, x18, x19, x20, x21, x22, x23, x24, x25, x26, x27, x31, x32, x33, x34, x38, x39, x40, x41, x42, x43, x44, x45, x46, x47, x48, x49, x50, x51, x52, x53, x54, x55, x56, x57, x58, x59, x60, x61, x62, x63, x64, x65, x66, x67, x68, x69, x70, hj, h, hk, ho, ht, hl, he => by
    subst hj
    obtain ⟨hB, hmax, hT, -, -⟩ := sl_facts hb
    have hi : jn < b.listOf.length := by omega
    obtain ⟨u, hu⟩ : ∃ u, b.listOf[jn]? = some u := ⟨_, List.getElem?_eq_getElem hi⟩
    have tu := hT u (List.mem_of_getElem? hu)
    have g1 := (sl_facts (pj_dtTask_7 tu)).1
    have hbo (n : Nat) : belowO 3 n [AObj.cells cs, AObj.map (X.map ent), AObj.cells [.int .i64 b0, .int .i64 b1, .int .i64 b2, .int .i64 b3, b4, b5, .int .i64 b6, .int .i64 b7, .bool b8, b9]] = true := by
      simp only [belowO, AObj.below, hcs, hcs', belowE_ent, Bool.and_self]
    have e : getM (Rep.D m).T 47 (.agg [.int .i64 b0, .int .i64 (jn : Int), .int .i64 (hdV (tlV u.aggOf)).numOf]) (.bool false) (X.map ent) = some (.bool (f b0 jn u)) := by
      rw [hf]; exact getM_ent m (b0, (jn : Int), (hdV (tlV u.aggOf)).numOf) X
    have ts' := ty_stOf (al := f b0 jn u) hw (show jn ≤ maxLen by omega) tu
    have hd := nrm_drop hu
    rw [hd] at he
    simp only [stT] at he
    have he' : (xs ++ [stOf b0 jn u (f b0 jn u)]) ++ stT f b0 (jn + 1) (b.listOf.drop (jn + 1)) = xs0 ++ stT f b0 0 b.listOf := by
      rw [← he]; simp
    have ht' : ∀ v ∈ xs ++ [stOf b0 jn u (f b0 jn u)], tyV dtSt v := by
      intro v hv
      rcases List.mem_append.1 hv with hv | hv
      · exact ht v hv
      · simp only [List.mem_singleton] at hv
        subst hv
        exact ts'
    have hdt : detokL (detokL [stOf b0 jn u (f b0 jn u)]) = [stOf b0 jn u (f b0 jn u)] := by
      simp only [detokL, tyV_detok ts']
    have ih := ofC_loop m fuel hcs X ha hb b0 b1 b2 b3 b4 b5 b6 b7 b8 b9 hcs' hw i f hf K Q xs0 hxl hexit r (jn + 1) k ((jn + 1 : Nat) : Int)
    rcases ho with ⟨rfl, rfl, rfl⟩ | ⟨g, rfl, rfl⟩
    · rw [ofC_stepN, lt_true hi, hB, ge_true, Int.toNat_natCast, hu]
      simp only [br, Bool.and_self, fit_dtTask tu, g1]
      rw [e]
      simp only [fitS, AV.boolOf, hbo]
      rw [wrap_next hi hmax]
      simp only [cut_ty ha, cut_ty hb]
      refine ih _ _ ([] ++ [stOf b0 jn u (f b0 jn u)]) _ _ _ _ _ _ _ _ _ _ _ _ _ _ _ _ _ _ _ _ _ _ _ _ _ _ _ _ _ _ _ _ _ _ _ _ _ _ _ _ _ _ _ _ _ _ _ _ _ _ _ _ _ _ _ _ _ _ _ _ rfl (by omega) (by omega) (.inr ⟨0, ?_, rfl⟩) ht' (by simp; simp at hl; omega) he'
      refine Eq.trans ?_ (cut_tok ht' 3 0)
      congr 2
    · rw [ofC_step, lt_true hi, hB, ge_true, Int.toNat_natCast, hu]
      simp only [br, Bool.and_self, fit_dtTask tu, g1]
      rw [e]
      simp only [fitS, AV.boolOf, hbo]
      rw [if_pos ⟨show fitsRoom (xs.length + 1) 56 = true from fits_small (by omega) (by decide), by first | trivial | rfl⟩, if_pos (by first | trivial | rfl), wrap_next hi hmax]
      simp only [cut_ty ha, cut_ty hb]
      refine ih _ _ (xs ++ [stOf b0 jn u (f b0 jn u)]) _ _ _ _ _ _ _ _ _ _ _ _ _ _ _ _ _ _ _ _ _ _ _ _ _ _ _ _ _ _ _ _ _ _ _ _ _ _ _ _ _ _ _ _ _ _ _ _ _ _ _ _ _ _ _ _ _ _ _ _ rfl (by omega) (by omega) (.inr ⟨g + 1, ?_, rfl⟩) ht' (by simp; omega) he'
      refine Eq.trans ?_ (cut_tok ht' 3 (g + 1))
      congr 3
-- DEFS
-- PROOFS
theorem stT_length (f : Int → Nat → AV → Bool) (id : Int) : ∀ (k : Nat) (l : List AV), (stT f id k l).length = l.length
  | _, [] => rfl
  | k, t :: r => by simp [stT, stT_length f id (k + 1) r]

theorem ofB_loop (m : Array Value) {R : Type} (fuel : Nat) {cs : List AV} (hcs : ∀ n k, belowL n k cs = true) (X : List (Int × Int × Int)) {a4 : AV} (ha : tyV (.sl 10 dtAlloc) a4) (hb : bnd 100 a4 = true) (hF : 100 < fuel) (f : Int → Nat → AV → Bool) (hf : ∀ id j t, f id j t = decide ((id, (j : Int), (hdV (tlV t.aggOf)).numOf) ∈ X))
    (K : Ex → List AV → AH → Option R) (Q : Option R → Prop)
    (hexit : ∀ (o : AV) (ts : List (Nat × Nat × TypeId)), OutOk o ts (stA f a4.listOf) → (∀ u ∈ stA f a4.listOf, tyV dtSt u) → ∀ (i : Int) (x0 x1 x3 x6 x7 x9 x10 x11 x12 x13 x14 x15 x16 x17 x18 x19 x20 x21 x22 x23 x24 x25 x26 x27 x31 x32 x33 x34 x35 x36 x37 x38 x39 x40 x41 x42 x43 x44 x45 x46 x47 x48 x49 x50 x51 x52 x53 x54 x55 x56 x57 x58 x59 x60 x61 x62 x63 x64 x65 x66 x67 x68 x69 x70 : AV), Q (K (.exit 2) [x0, x1, .ptr 0 0, x3, .nils, .map 1, x6, x7, o, x9, x10, x11, x12, x13, x14, x15, x16, x17, x18, x19, x20, x21, x22, x23, x24, x25, x26, x27, a4, .int .i64 a4.listOf.length, .int .i64 i, x31, x32, x33, x34, x35, x36, x37, x38, x39, x40, x41, x42, x43, x44, x45, x46, x47, x48, x49, x50, x51, x52, x53, x54, x55, x56, x57, x58, x59, x60, x61, x62, x63, x64, x65, x66, x67, x68, x69, x70] ⟨[.cells cs, .map (X.map ent)], ts⟩)) :
    ∀ (r jn k : Nat) (i : Int) (o : AV) (ts : List (Nat × Nat × TypeId)) (xs : List AV) (x0 x1 x3 x6 x7 x9 x10 x11 x12 x13 x14 x15 x16 x17 x18 x19 x20 x21 x22 x23 x24 x25 x26 x27 x31 x32 x33 x34 x35 x36 x37 x38 x39 x40 x41 x42 x43 x44 x45 x46 x47 x48 x49 x50 x51 x52 x53 x54 x55 x56 x57 x58 x59 x60 x61 x62 x63 x64 x65 x66 x67 x68 x69 x70 : AV), i = (jn : Int) → jn + r = a4.listOf.length → r < k → OutOk o ts xs → (∀ u ∈ xs, tyV dtSt u) → xs.length ≤ 100 * jn → xs ++ stA f (a4.listOf.drop jn) = stA f a4.listOf →
      Q (loopC (Rep.D m) (cD m fuel) fuel ofB k [x0, x1, .ptr 0 0, x3, .nils, .map 1, x6, x7, o, x9, x10, x11, x12, x13, x14, x15, x16, x17, x18, x19, x20, x21, x22, x23, x24, x25, x26, x27, a4, .int .i64 a4.listOf.length, .int .i64 i, x31, x32, x33, x34, x35, x36, x37, x38, x39, x40, x41, x42, x43, x44, x45, x46, x47, x48, x49, x50, x51, x52, x53, x54, x55, x56, x57, x58, x59, x60, x61, x62, x63, x64, x65, x66, x67, x68, x69, x70] ⟨[.cells cs, .map (X.map ent)], ts⟩ K)
  | r, jn, 0, i, o, ts, xs, _, _, _, _, _, _, _, _, _, _, _, _, _, _, _, _, _, _, _, _, _, _, _, _, _, _, _, _, _, _, _, _, _, _, _, _, _, _, _, _, _, _, _, _, _, _, _, _, _, _, _, _, _, _, _, _, _, _, _, _, _, _, _, _, hj, h, hk, ho, ht, hl, he => by omega
  | 0, jn, k + 1, i, o, ts, xs, x0, x1, x3, x6, x7, x9, x10, x11, x12, x13, x14, x15, x16, x17, x18, x19, x20, x21, x22, x23, x24, x25, x26, x27, x31, x32, x33, x34, x35, x36, x37, x38, x39, x40, x41, x42, x43, x44, x45, x46, x47, x48, x49, x50, x51, x52, x53, x54, x55, x56, x57, x58, x59, x60, x61, x62, x63, x64, x65, x66, x67, x68, x69, x70, hj, h, hk, ho, ht, hl, he => by
    subst hj
    rw [List.drop_eq_nil_of_le (by omega)] at he
    simp only [stA, List.append_nil] at he
    rw [← he] at hexit
    rw [ofB_step, lt_false (by omega : ¬ jn < a4.listOf.length)]
    exact hexit o ts ho ht _ _ _ _ _ _ _ _ _ _ _ _ _ _ _ _ _ _ _ _ _ _ _ _ _ _ _ _ _ _ _ _ _ _ _ _ _ _ _ _ _ _ _ _ _ _ _ _ _ _ _ _ _ _ _ _ _ _ _ _ _ _ _ _ _
  | r + 1, jn, k + 1, i, o, ts, xs, x0, x1, x3, x6, x7, x9, x10, x11, x12, x13, x14, x15, x16, x17, x18, x19, x20, x21, x22, x23, x24, x25, x26, x27, x31, x32, x33, x34, x35, x36, x37, x38, x39, x40, x41, x42, x43, x44, x45, x46, x47, x48, x49, x50, x51, x52, x53, x54, x55, x56, x57, x58, x59, x60, x61, x62, x63, x64, x65, x66, x67, x68, x69, x70, hj, h, hk, ho, ht, hl, he => by
    subst hj
    obtain ⟨hB, hmax, hT, -, -⟩ := sl_facts ha
    obtain ⟨hblen, hbel⟩ := bnd_list ha hb
    have hi : jn < a4.listOf.length := by omega
    obtain ⟨u, hu⟩ : ∃ u, a4.listOf[jn]? = some u := ⟨_, List.getElem?_eq_getElem hi⟩
    have hmem := List.mem_of_getElem? hu
    have tu := hT u hmem
    have w9 := pj_dtAlloc_9 tu
    have g1 := (sl_facts w9).1
    have hl9 := (bnd_list w9 (bi_dtAlloc_9 tu (hbel u hmem))).1
    have hd := nrm_drop hu
    rw [hd] at he
    simp only [stA] at he
    rw [ofB_step, lt_true hi, hB, ge_true, Int.toNat_natCast, hu]
    simp only [br, Bool.and_self, fit_dtAlloc tu, g1]
    refine ofC_loop m fuel hcs X ha w9 _ _ _ _ _ _ _ _ _ _ ?_ (pw_dtAlloc_0 tu) _ f (fun j t => hf _ j t) _ Q xs (by omega) ?_ (shS Sh.any (hdV (tlV (tlV (tlV (tlV (tlV (tlV (tlV (tlV (tlV u.aggOf))))))))))).listOf.length 0 fuel _ o ts xs _ _ _ _ _ _ _ _ _ _ _ _ _ _ _ _ _ _ _ _ _ _ _ _ _ _ _ _ _ _ _ _ _ _ _ _ _ _ _ _ _ _ _ _ _ _ _ _ _ _ _ _ _ _ _ _ _ _ _ _ rfl (by omega) (by omega) ho ht (by simp) (by simp)
    · intro n k
      exact (congrArg (below n k) (eta_dtAlloc tu)).trans (tyV_below tu n k)
    · intro o' ts' ho' ht' j x0 x1 x3 x6 x7 x9 x11 x12 x13 x14 x15 x16 x17 x18 x19 x20 x21 x22 x23 x24 x25 x26 x27 x31 x32 x33 x34 x38 x39 x40 x41 x42 x43 x44 x45 x46 x47 x48 x49 x50 x51 x52 x53 x54 x55 x56 x57 x58 x59 x60 x61 x62 x63 x64 x65 x66 x67 x68 x69 x70
      have hbo : belowO 2 ts'.length [AObj.cells cs, AObj.map (X.map ent)] = true := by
        simp only [belowO, AObj.below, hcs, belowE_ent, Bool.and_self]
      rw [ofB_post, hbo]
      simp only [br]
      rw [wrap_next hi hmax]
      simp only [cut_ty ha]
      refine ofB_loop m fuel hcs X ha hb hF f hf K Q hexit r (jn + 1) k _ _ ts' (xs ++ stT f (hdV u.aggOf).numOf 0 (shS Sh.any (hdV (tlV (tlV (tlV (tlV (tlV (tlV (tlV (tlV (tlV u.aggOf))))))))))).listOf) _ _ _ _ _ _ _ _ _ _ _ _ _ _ _ _ _ _ _ _ _ _ _ _ _ _ _ _ _ _ _ _ _ _ _ _ _ _ _ _ _ _ _ _ _ _ _ _ _ _ _ _ _ _ _ _ _ _ _ _ _ _ _ _ rfl (by omega) (by omega) ?_ ht' ?_ ?_
      · rw [cut_out ho' ht' 2]
        exact ho'
      · rw [List.length_append, stT_length]; omega
      · rw [← he]; simp
-- DEFS
-- PROOFS
/-- Is a process with that token live? -/
def aliveF (L : List AV) (id : Int) (j : Nat) (t : AV) : Bool := L.any fun p => liveP p && decide (tokP p = (id, (j : Int), (hdV (tlV t.aggOf)).numOf))
/-- The statuses of a state. -/
def stS (s l : AV) : List AV := stA (aliveF l.listOf) (shS Sh.any (hdV (tlV (tlV (tlV (tlV s.aggOf)))))).listOf

theorem stT_same (f : Int → Nat → AV → Bool) (g : Int → Nat → AV → Bool) (id : Int) : ∀ (k : Nat) (a b : List AV), (∀ u ∈ a, tyV dtTask u) → (∀ u ∈ b, tyV dtTask u) → nrmL a = nrmL b → (∀ k u w, tyV dtTask u → tyV dtTask w → nrm u = nrm w → f id k u = g id k w) → stT f id k a = stT g id k b
  | _, [], [], _, _, _, _ => rfl
  | k, u :: a, w :: b, ha, hb, h, hf => by
    simp only [nrmL, List.cons.injEq] at h
    have tu := ha u (by simp)
    have tw := hb w (by simp)
    simp only [stT]
    rw [hf k u w tu tw h.1, stT_same f g id (k + 1) a b (fun v hv => ha v (by simp [hv])) (fun v hv => hb v (by simp [hv])) h.2 hf]
    congr 1
    obtain ⟨c0, c1, c2, c3, c4, c5, c6, c7, rfl, w0, w1, w2, w3, w4, w5, w6, w7⟩ := un_dtTask tu
    obtain ⟨d0, d1, d2, d3, d4, d5, d6, d7, rfl, v0, v1, v2, v3, v4, v5, v6, v7⟩ := un_dtTask tw
    have h1 := h.1
    simp only [nrm, nrmL, AV.agg.injEq, List.cons.injEq, AV.int.injEq, AV.bool.injEq, true_and, and_true] at h1
    obtain ⟨rfl, rfl, rfl, rfl, rfl, rfl, rfl, h7⟩ := h1
    have := (nrmL_get (list_same w7 v7 h7)).1
    simp only [stOf, AV.aggOf, hdV, tlV, AV.numOf, shS, this]
  | _, [], _ :: _, _, _, h, _ => by simp [nrmL] at h
  | _, _ :: _, [], _, _, h, _ => by simp [nrmL] at h

theorem stA_same (f : Int → Nat → AV → Bool) (g : Int → Nat → AV → Bool) (hf : ∀ id k u w, tyV dtTask u → tyV dtTask w → nrm u = nrm w → f id k u = g id k w) : ∀ (a b : List AV), (∀ u ∈ a, tyV dtAlloc u) → (∀ u ∈ b, tyV dtAlloc u) → nrmL a = nrmL b → stA f a = stA g b
  | [], [], _, _, _ => rfl
  | u :: a, w :: b, ha, hb, h => by
    simp only [nrmL, List.cons.injEq] at h
    have tu := ha u (by simp)
    have tw := hb w (by simp)
    simp only [stA]
    rw [stA_same f g hf a b (fun v hv => ha v (by simp [hv])) (fun v hv => hb v (by simp [hv])) h.2]
    congr 1
    obtain ⟨c0, c1, c2, c3, c4, c5, c6, c7, c8, c9, rfl, w0, w1, w2, w3, w4, w5, w6, w7, w9⟩ := un_dtAlloc tu
    obtain ⟨d0, d1, d2, d3, d4, d5, d6, d7, d8, d9, rfl, v0, v1, v2, v3, v4, v5, v6, v7, v9⟩ := un_dtAlloc tw
    have h1 := h.1
    simp only [nrm, nrmL, AV.agg.injEq, List.cons.injEq, AV.int.injEq, AV.bool.injEq, true_and, and_true] at h1
    obtain ⟨rfl, rfl, rfl, rfl, h4, h5, rfl, rfl, rfl, h9⟩ := h1
    exact stT_same f g _ 0 c9.listOf d9.listOf (sl_facts w9).2.2.1 (sl_facts v9).2.2.1 (list_same w9 v9 h9) (fun k => hf _ k)
  | [], _ :: _, _, _, h => by simp [nrmL] at h
  | _ :: _, [], _, _, h => by simp [nrmL] at h

theorem aliveF_same {L L' : List AV} (h : L = L') (id : Int) (k : Nat) (u w : AV) (tu : tyV dtTask u) (tw : tyV dtTask w) (hs : nrm u = nrm w) : aliveF L id k u = aliveF L' id k w := by
  subst h
  obtain ⟨c0, c1, c2, c3, c4, c5, c6, c7, rfl, w0, w1, w2, w3, w4, w5, w6, w7⟩ := un_dtTask tu
  obtain ⟨d0, d1, d2, d3, d4, d5, d6, d7, rfl, v0, v1, v2, v3, v4, v5, v6, v7⟩ := un_dtTask tw
  simp only [nrm, nrmL, AV.agg.injEq, List.cons.injEq, AV.int.injEq, AV.bool.injEq, true_and, and_true] at hs
  obtain ⟨rfl, rfl, rfl, rfl, rfl, rfl, rfl, h7⟩ := hs
  rfl

theorem stS_same {s s' l l' : AV} (hs : tyV dtState s) (hs' : tyV dtState s') (h : nrm s = nrm s') (hl : tyV (.sl 9 dtProc) l) (hl' : tyV (.sl 9 dtProc) l') (k : nrm l = nrm l') : stS s l = stS s' l' := by
  have hL := list_flat rfl hl hl' k
  obtain ⟨a0, a1, a2, a3, a4, rfl, w0, w1, w2, w3, w4⟩ := un_dtState hs
  obtain ⟨b0, b1, b2, b3, b4, rfl, v0, v1, v2, v3, v4⟩ := un_dtState hs'
  simp only [nrm, nrmL, AV.agg.injEq, List.cons.injEq, AV.int.injEq, true_and, and_true] at h
  obtain ⟨rfl, rfl, rfl, rfl, h4⟩ := h
  exact stA_same _ _ (fun id k u w tu tw hs => aliveF_same hL id k u w tu tw hs) a4.listOf b4.listOf (sl_facts w4).2.2.1 (sl_facts v4).2.2.1 (list_same w4 v4 h4)

theorem lives_alive {L : List AV} {X : List (Int × Int × Int)} (h : Lives L X) (id : Int) (j : Nat) (t : AV) : aliveF L id j t = decide ((id, (j : Int), (hdV (tlV t.aggOf)).numOf) ∈ X) := by
  rw [Bool.eq_iff_iff]
  simp only [aliveF, List.any_eq_true, Bool.and_eq_true, decide_eq_true_eq]
  exact (h _).symm

theorem new_flat : ∀ {xs : List AV}, (∀ u ∈ xs, tyV dtSt u) → isNewL xs = true
  | [], _ => rfl
  | v :: xs, h => by
    obtain ⟨c0, c1, c2, c3, c4, c5, c6, rfl, _⟩ := un_dtSt (h v (by simp))
    simp only [isNewL, new_flat (xs := xs) (fun u hu => h u (by simp [hu])), isNew, Bool.and_self]

def OfQ (s l : AV) (z : Option AV) : Prop := ∃ (o : AV) (xs : List AV), z = some o ∧ ((o = .nils ∧ xs = []) ∨ ∃ g, o = .inl true (.tok 0 g) 7 xs) ∧ (∀ u ∈ xs, tyV dtSt u) ∧ xs = stS s l

theorem of24 (m : Array Value) {s l : AV} (hs : tyV dtState s) (hb : bnd 100 s = true) (hl : tyV (.sl 9 dtProc) l) : ∃ v, (∀ H : AH, callL (Rep.D m) 24 [s, l] H = some (v, H)) ∧ tyV (.sl 7 dtSt) v ∧ v.listOf = stS s l ∧ isNew v = true := by
  have key : ∃ o xs, runI (Rep.D m) (cD m 9223372036854775808) 9223372036854775808 Tryd.f24 [erase s, erase l] ⟨[], []⟩ (fun v _ => some v) = some o ∧ ((o = .nils ∧ xs = []) ∨ ∃ g, o = .inl true (.tok 0 g) 7 xs) ∧ (∀ u ∈ xs, tyV dtSt u) ∧ xs = stS (erase s) (erase l) := by
    have hs' := tyV_erase hs
    have hl' := tyV_erase hl
    have hb' : bnd 100 (erase s) = true := bnd_same (tyV_nrm hs) hb
    generalize erase s = s at hs' hb' ⊢
    generalize erase l = l at hl' ⊢
    obtain ⟨a0, a1, a2, a3, a4, rfl, w0, w1, w2, w3, w4⟩ := un_dtState hs'
    simp only [bnd, bndL, Bool.true_and, Bool.and_true] at hb'
    have emax : maxLen = 9223372036854775807 := by decide
    have hcs : ∀ n k, belowL n k (stC a0 a1 a2 a3 a4) = true := by
      intro n k
      simp only [stC, belowL, below, tyV_below w4, Bool.and_self]
    have e := of_pre m (R := AV) 9223372036854775808 a0 a1 a2 a3 a4 l (fun v _ => some v)
    have e0 : runI (Rep.D m) (cD m 9223372036854775808) 9223372036854775808 Tryd.f24 [.agg [.int .i64 a0, .int .i64 a1, .int .i64 a2, .int .i64 a3, a4], l] ⟨[], []⟩ (fun v _ => some v) = runI (Rep.D m) (cD m 9223372036854775808) 9223372036854775808 Tryd.f24 [.agg (stC a0 a1 a2 a3 a4), l] ⟨[], []⟩ (fun v _ => some v) := rfl
    rw [e0, e, (sl_facts hl').1]
    simp only [br]
    have hll := (sl_facts hl').2.1
    have hal := (sl_facts w4).2.1
    refine ofA_loop m 9223372036854775808 hcs hl' _ (OfQ (.agg [.int .i64 a0, .int .i64 a1, .int .i64 a2, .int .i64 a3, a4]) l) ?_ l.listOf.length 0 9223372036854775808 _ [] _ _ _ _ _ _ _ _ _ _ _ _ _ _ _ _ _ _ _ _ _ _ _ _ _ _ _ _ _ _ _ _ _ _ _ _ _ _ _ _ _ _ _ _ _ _ _ _ _ _ _ _ _ _ _ _ _ _ _ _ _ _ _ _ _ rfl (by omega) (by omega) ?_
    · intro X hX i x0 x1 x3 x6 x7 x8 x9 x10 x11 x12 x13 x14 x18 x19 x20 x21 x22 x23 x24 x25 x26 x27 x28 x29 x30 x31 x32 x33 x34 x35 x36 x37 x38 x39 x40 x41 x42 x43 x44 x45 x46 x47 x48 x49 x50 x51 x52 x53 x54 x55 x56 x57 x58 x59 x60 x61 x62 x63 x64 x65 x66 x67 x68 x69 x70
      rw [ofA_post, (sl_facts w4).1]
      simp only [br]
      refine ofB_loop m 9223372036854775808 hcs X w4 hb' (by decide) (aliveF l.listOf) (fun id j t => lives_alive hX id j t) _ (OfQ (.agg [.int .i64 a0, .int .i64 a1, .int .i64 a2, .int .i64 a3, a4]) l) ?_ a4.listOf.length 0 9223372036854775808 _ _ [] [] _ _ _ _ _ _ _ _ _ _ _ _ _ _ _ _ _ _ _ _ _ _ _ _ _ _ _ _ _ _ _ _ _ _ _ _ _ _ _ _ _ _ _ _ _ _ _ _ _ _ _ _ _ _ _ _ _ _ _ _ _ _ _ _ rfl (by omega) (by omega) (.inl ⟨rfl, rfl, rfl⟩) (by simp) (by simp) (by simp)
      intro o ts ho ht i x0 x1 x3 x6 x7 x9 x10 x11 x12 x13 x14 x15 x16 x17 x18 x19 x20 x21 x22 x23 x24 x25 x26 x27 x31 x32 x33 x34 x35 x36 x37 x38 x39 x40 x41 x42 x43 x44 x45 x46 x47 x48 x49 x50 x51 x52 x53 x54 x55 x56 x57 x58 x59 x60 x61 x62 x63 x64 x65 x66 x67 x68 x69 x70
      rw [of_end]
      refine ⟨o, _, rfl, ?_, ht, rfl⟩
      rcases ho with ⟨h1, _, h2⟩ | ⟨g, h1, _⟩
      · exact .inl ⟨h1, h2⟩
      · exact .inr ⟨g, h1⟩
    · intro t
      simp
  obtain ⟨o, xs, h1, h2, h3, h4⟩ := key
  have h5 : xs = stS s l := h4.trans (stS_same (tyV_erase hs) hs (tyV_nrm hs) (tyV_erase hl) hl (tyV_nrm hl))
  have hlen : xs.length ≤ maxLen := by
    have : ∀ (f : Int → Nat → AV → Bool) (l : List AV), (∀ u ∈ l, tyV dtAlloc u) → (∀ u ∈ l, bnd 100 u = true) → (stA f l).length ≤ 100 * l.length := by
      intro f l
      induction l with
      | nil => intro _ _; simp [stA]
      | cons u r ih =>
        intro h k
        have := ih (fun v hv => h v (by simp [hv])) (fun v hv => k v (by simp [hv]))
        have h9 := (bnd_list (pj_dtAlloc_9 (h u (by simp))) (bi_dtAlloc_9 (h u (by simp)) (k u (by simp)))).1
        simp only [stA, List.length_append, stT_length, List.length_cons]
        omega
    obtain ⟨a0, a1, a2, a3, a4, rfl, w0, w1, w2, w3, w4⟩ := un_dtState hs
    simp only [bnd, bndL, Bool.true_and, Bool.and_true] at hb
    obtain ⟨q1, q2⟩ := bnd_list w4 hb
    have := this (aliveF l.listOf) a4.listOf (sl_facts w4).2.2.1 q2
    have emax : maxLen = 9223372036854775807 := by decide
    have e : (stS (.agg [.int .i64 a0, .int .i64 a1, .int .i64 a2, .int .i64 a3, a4]) l).length ≤ 100 * a4.listOf.length := this
    rw [h5]
    omega
  have call (v : AV) (hd : detok o = v) (hv : tyV (.sl 7 dtSt) v) (H : AH) : callL (Rep.D m) 24 [s, l] H = some (v, H) := by
    rw [← hd]
    exact callL_D (tabD0_ok m) (fuel := 9223372036854775808) (n := 2) (fn := Tryd.f24) (ds := [dtState, .sl 9 dtProc]) (v := o) (by kernel_rfl) (by kernel_rfl) (by kernel_rfl) ⟨hs, hl, trivial⟩ h1 (by rw [hd]; exact tyV_below hv 0 0)
  rcases h2 with ⟨rfl, h2⟩ | ⟨g, rfl⟩
  · refine ⟨.nils, call _ rfl (.inl rfl), .inl rfl, ?_⟩
    exact ⟨by rw [← h5, h2]; rfl, rfl⟩
  · refine ⟨.inl true .unk 7 xs, call _ ?_ (ty_new rfl hlen h3), ty_new rfl hlen h3, h5, ?_⟩
    · simp only [detok, Spare.detok, ty_detokL h3]
    · simp only [isNew, new_flat h3, Bool.and_self]
-- DEFS
end Go.Proofs.YtoagnbpmoihojaaDoor

/- ReportAlive, on unknown states and processes. -/
import Derived.Test.YtoagnbpmoihojaaDoorRepMat
set_option maxRecDepth 100000
set_option linter.unusedSimpArgs false
set_option linter.unusedVariables false
namespace Go.Proofs.YtoagnbpmoihojaaDoor
open Go.Sx

noncomputable def alO : Code := subC (bodyOf Tryd.f8) [1, 1, 1, 1, 0, 1, 0, 0]
def alR : List Nat := [1, 0, 0, 1, 0, 1, 0]
noncomputable def alI : Code := subC alO [1, 0, 0, 1, 0, 1, 0, 0]
theorem al_pre (m : Array Value) {R : Type} (fuel : Nat) (a0 a1 a2 a3 : Int) (a4 l : AV) (K : AV → AH → Option R) :
  runI (Rep.D m) (cD m fuel) fuel Tryd.f8 [.agg (stC a0 a1 a2 a3 a4), l] ⟨[], []⟩ K =
  (match valH (Rep.D m) 20
     [AV.agg [AV.int IntKind.i64 a0, AV.int IntKind.i64 a1, AV.int IntKind.i64 a2, AV.int IntKind.i64 a3, a4]]
     {
      objs :=
       [AObj.cells [AV.int IntKind.i64 a0, AV.int IntKind.i64 a1, AV.int IntKind.i64 a2, AV.int IntKind.i64 a3, a4]],
      toks := [] } with
    | some u0 => br (fitS Sh.bool u0)
     (fun _ => br (!u0.boolOf)
      (fun _ => K (AV.bool true)
     {
      objs :=
       [AObj.cells [AV.int IntKind.i64 a0, AV.int IntKind.i64 a1, AV.int IntKind.i64 a2, AV.int IntKind.i64 a3, a4]],
      toks := [] })
      (fun _ => br (AV.listN 9 l)
       (fun _ => br (decide ((↑l.listOf.length : Int) > (20 : Int)))
        (fun _ => K (AV.bool true)
     {
      objs :=
       [AObj.cells [AV.int IntKind.i64 a0, AV.int IntKind.i64 a1, AV.int IntKind.i64 a2, AV.int IntKind.i64 a3, a4]],
      toks := [] })
        (fun _ => (match valH (Rep.D m) 24
     [AV.agg [AV.int IntKind.i64 a0, AV.int IntKind.i64 a1, AV.int IntKind.i64 a2, AV.int IntKind.i64 a3, a4], l]
     {
      objs :=
       [AObj.cells [AV.int IntKind.i64 a0, AV.int IntKind.i64 a1, AV.int IntKind.i64 a2, AV.int IntKind.i64 a3, a4]],
      toks := [] } with
         | some u5 => (match valH (Rep.D m) 24
     [AV.agg [AV.int IntKind.i64 a0, AV.int IntKind.i64 a1, AV.int IntKind.i64 a2, AV.int IntKind.i64 a3, a4], AV.nils]
     {
      objs :=
       [AObj.cells [AV.int IntKind.i64 a0, AV.int IntKind.i64 a1, AV.int IntKind.i64 a2, AV.int IntKind.i64 a3, a4]],
      toks := [] } with
          | some u6 => br (AV.listN 7 u5)
           (fun _ => br (AV.listN 7 u6)
            (fun _ => br ((↑u5.listOf.length : Int) != (↑u6.listOf.length : Int))
             (fun _ => K (AV.bool false)
     {
      objs :=
       [AObj.cells [AV.int IntKind.i64 a0, AV.int IntKind.i64 a1, AV.int IntKind.i64 a2, AV.int IntKind.i64 a3, a4]],
      toks := [] })
             (fun _ => loopC (Rep.D m) (cD m fuel) fuel alO fuel [AV.agg [AV.int IntKind.i64 a0, AV.int IntKind.i64 a1, AV.int IntKind.i64 a2, AV.int IntKind.i64 a3, a4], l, AV.ptr 0 0, AV.top, AV.bool false, u5, u6, AV.int IntKind.i64 ((0 : Int)), AV.top, AV.top, AV.top, AV.agg [AV.int IntKind.i64 a0, AV.int IntKind.i64 a1, AV.int IntKind.i64 a2, AV.int IntKind.i64 a3, a4], AV.bool u0.boolOf, AV.bool !u0.boolOf, AV.bool false, l, AV.int IntKind.i64 (↑l.listOf.length : Int), AV.bool (decide ((↑l.listOf.length : Int) > (20 : Int))), AV.bool (decide ((↑l.listOf.length : Int) > (20 : Int))), AV.agg [AV.int IntKind.i64 a0, AV.int IntKind.i64 a1, AV.int IntKind.i64 a2, AV.int IntKind.i64 a3, a4], l, u5, AV.agg [AV.int IntKind.i64 a0, AV.int IntKind.i64 a1, AV.int IntKind.i64 a2, AV.int IntKind.i64 a3, a4], u6, u5, AV.int IntKind.i64 (↑u5.listOf.length : Int), u6, AV.int IntKind.i64 (↑u6.listOf.length : Int), AV.bool ((↑u5.listOf.length : Int) != (↑u6.listOf.length : Int)), AV.top, AV.top, AV.top, AV.top, AV.top, AV.top, AV.top, AV.top, AV.top, AV.top, AV.top, AV.top, AV.top, AV.top, AV.top, AV.top, AV.top, AV.top, AV.top, AV.top, AV.top, AV.top, AV.top, AV.top, AV.top, AV.top, AV.top, AV.top, AV.top, AV.top, AV.top, AV.top, AV.top, AV.top, AV.top, AV.top, AV.top, AV.top, AV.top, AV.top, AV.top, AV.top, AV.top, AV.top, AV.top, AV.top, AV.top, AV.top, AV.top, AV.top, AV.top, AV.top, AV.top, AV.top, AV.top, AV.top, AV.top, AV.top, AV.top, AV.top, AV.top, AV.top, AV.top, AV.top, AV.top] { objs := [AObj.cells [AV.int IntKind.i64 a0, AV.int IntKind.i64 a1, AV.int IntKind.i64 a2, AV.int IntKind.i64 a3, a4]], toks := [] } (kontI (Rep.D m) (cD m fuel) fuel (bodyOf Tryd.f8) [1, 1, 1, 1, 0, 1, 0] (endI (Rep.D m) Tryd.f8 K))))
            (fun _ => none))
           (fun _ => none)
          | none => none)
         | none => none)))
       (fun _ => none)))
     (fun _ => none)
    | none => none) := by kernel_rfl
theorem alO_step (m : Array Value) {R : Type} (fuel k : Nat) (cs : List AV) (l v w : AV) (i : Int) (x0 x3 x8 x9 x10 x11 x12 x13 x14 x15 x16 x17 x18 x19 x20 x21 x22 x23 x24 x25 x26 x27 x28 x29 x30 x31 x32 x33 x34 x35 x36 x37 x38 x39 x40 x41 x42 x43 x44 x45 x46 x47 x48 x49 x50 x51 x52 x53 x54 x55 x56 x57 x58 x59 x60 x61 x62 x63 x64 x65 x66 x67 x68 x69 x70 x71 x72 x73 x74 x75 x76 x77 x78 x79 x80 x81 x82 x83 x84 x85 x86 x87 x88 x89 x90 x91 x92 x93 : AV) (K : Ex → List AV → AH → Option R) :
  loopC (Rep.D m) (cD m fuel) fuel alO (k + 1) [x0, l, .ptr 0 0, x3, .bool false, v, w, .int .i64 i, x8, x9, x10, x11, x12, x13, x14, x15, x16, x17, x18, x19, x20, x21, x22, x23, x24, x25, x26, x27, x28, x29, x30, x31, x32, x33, x34, x35, x36, x37, x38, x39, x40, x41, x42, x43, x44, x45, x46, x47, x48, x49, x50, x51, x52, x53, x54, x55, x56, x57, x58, x59, x60, x61, x62, x63, x64, x65, x66, x67, x68, x69, x70, x71, x72, x73, x74, x75, x76, x77, x78, x79, x80, x81, x82, x83, x84, x85, x86, x87, x88, x89, x90, x91, x92, x93] ⟨[.cells cs], []⟩ K =
  br (AV.listN 7 v)
    (fun _ => br (decide (i < (↑v.listOf.length : Int)))
     (fun _ => loopC (Rep.D m) (cD m fuel) fuel alI fuel [x0, l, AV.ptr 0 0, x3, AV.bool false, v, w, AV.int IntKind.i64 i, AV.bool false, AV.int IntKind.i64 ((0 : Int)), x10, x11, x12, x13, x14, x15, x16, x17, x18, x19, x20, x21, x22, x23, x24, x25, x26, x27, x28, AV.int IntKind.i64 i, v, AV.int IntKind.i64 (↑v.listOf.length : Int), AV.bool (decide (i < (↑v.listOf.length : Int))), x33, x34, x35, x36, x37, x38, x39, x40, x41, x42, x43, x44, x45, x46, x47, x48, x49, x50, x51, x52, x53, x54, x55, x56, x57, x58, x59, x60, x61, x62, x63, x64, x65, x66, x67, x68, x69, x70, x71, x72, x73, x74, x75, x76, x77, x78, x79, x80, x81, x82, x83, x84, x85, x86, x87, x88, x89, x90, x91, x92, x93] { objs := [AObj.cells cs], toks := [] } (kontI (Rep.D m) (cD m fuel) fuel alO alR (stepK (Rep.D m) (cD m fuel) fuel alO k [x0, l, .ptr 0 0, x3, .bool false, v, w, .int .i64 i, x8, x9, x10, x11, x12, x13, x14, x15, x16, x17, x18, x19, x20, x21, x22, x23, x24, x25, x26, x27, x28, x29, x30, x31, x32, x33, x34, x35, x36, x37, x38, x39, x40, x41, x42, x43, x44, x45, x46, x47, x48, x49, x50, x51, x52, x53, x54, x55, x56, x57, x58, x59, x60, x61, x62, x63, x64, x65, x66, x67, x68, x69, x70, x71, x72, x73, x74, x75, x76, x77, x78, x79, x80, x81, x82, x83, x84, x85, x86, x87, x88, x89, x90, x91, x92, x93] ⟨[.cells cs], []⟩ K)))
     (fun _ => K (Ex.exit 0)
     [x0, l, AV.ptr 0 0, x3, AV.bool false, v, w, AV.int IntKind.i64 i, x8, x9, x10, x11, x12, x13, x14, x15, x16, x17,
      x18, x19, x20, x21, x22, x23, x24, x25, x26, x27, x28, AV.int IntKind.i64 i, v,
      AV.int IntKind.i64 (↑v.listOf.length : Int), AV.bool (decide (i < (↑v.listOf.length : Int))), x33, x34, x35, x36,
      x37, x38, x39, x40, x41, x42, x43, x44, x45, x46, x47, x48, x49, x50, x51, x52, x53, x54, x55, x56, x57, x58, x59,
      x60, x61, x62, x63, x64, x65, x66, x67, x68, x69, x70, x71, x72, x73, x74, x75, x76, x77, x78, x79, x80, x81, x82,
      x83, x84, x85, x86, x87, x88, x89, x90, x91, x92, x93]
     { objs := [AObj.cells cs], toks := [] }))
    (fun _ => none) := by kernel_rfl
theorem alI_step (m : Array Value) {R : Type} (fuel k : Nat) (cs : List AV) (l v w : AV) (i j : Int) (c : Bool) (x0 x3 x10 x11 x12 x13 x14 x15 x16 x17 x18 x19 x20 x21 x22 x23 x24 x25 x26 x27 x28 x29 x30 x31 x32 x33 x34 x35 x36 x37 x38 x39 x40 x41 x42 x43 x44 x45 x46 x47 x48 x49 x50 x51 x52 x53 x54 x55 x56 x57 x58 x59 x60 x61 x62 x63 x64 x65 x66 x67 x68 x69 x70 x71 x72 x73 x74 x75 x76 x77 x78 x79 x80 x81 x82 x83 x84 x85 x86 x87 x88 x89 x90 x91 x92 x93 : AV) (K : Ex → List AV → AH → Option R) :
  loopC (Rep.D m) (cD m fuel) fuel alI (k + 1) [x0, l, .ptr 0 0, x3, .bool false, v, w, .int .i64 i, .bool c, .int .i64 j, x10, x11, x12, x13, x14, x15, x16, x17, x18, x19, x20, x21, x22, x23, x24, x25, x26, x27, x28, x29, x30, x31, x32, x33, x34, x35, x36, x37, x38, x39, x40, x41, x42, x43, x44, x45, x46, x47, x48, x49, x50, x51, x52, x53, x54, x55, x56, x57, x58, x59, x60, x61, x62, x63, x64, x65, x66, x67, x68, x69, x70, x71, x72, x73, x74, x75, x76, x77, x78, x79, x80, x81, x82, x83, x84, x85, x86, x87, x88, x89, x90, x91, x92, x93] ⟨[.cells cs], []⟩ K =
  br (AV.listN 9 l)
    (fun _ => br (decide (j < (↑l.listOf.length : Int)))
     (fun _ => br (c)
      (fun _ => loopC (Rep.D m) (cD m fuel) fuel alI k [x0, l, AV.ptr 0 0, x3, AV.bool false, v, w, AV.int IntKind.i64 i, AV.bool true, AV.int IntKind.i64 (IntKind.i64.wrap (j + (1 : Int))), x10, x11, x12, x13, x14, x15, x16, x17, x18, x19, x20, x21, x22, x23, x24, x25, x26, x27, x28, x29, x30, x31, x32, x33, x34, AV.int IntKind.i64 j, l, AV.int IntKind.i64 (↑l.listOf.length : Int), AV.bool (decide (j < (↑l.listOf.length : Int))), AV.int IntKind.i64 j, AV.int IntKind.i64 (IntKind.i64.wrap (j + (1 : Int))), AV.bool c, AV.bool true, AV.tuple [], AV.tuple [], AV.tuple [], AV.tuple [], AV.tuple [], AV.tuple [], AV.tuple [], AV.tuple [], AV.tuple [], AV.tuple [], AV.tuple [], AV.tuple [], AV.tuple [], AV.tuple [], AV.tuple [], AV.tuple [], AV.tuple [], AV.tuple [], AV.tuple [], AV.tuple [], AV.tuple [], AV.tuple [], AV.tuple [], AV.tuple [], AV.tuple [], AV.tuple [], AV.tuple [], AV.tuple [], AV.tuple [], AV.bool true, x73, x74, x75, x76, x77, x78, x79, x80, x81, x82, x83, x84, x85, x86, x87, x88, x89, x90, x91, x92, x93] { objs := [AObj.cells cs], toks := [] } K)
      (fun _ => br (AV.listN 9 l && (decide ((0 : Int) ≤ j) && decide (j < (↑l.listOf.length : Int))))
       (fun _ => (match l.listOf[j.toNat]? with
        | some u4 => br (u4.isAgg &&
     fitL
      [Sh.int IntKind.i64, Sh.int IntKind.i64, Sh.int IntKind.i64, Sh.int IntKind.i64, Sh.int IntKind.i64, Sh.bool,
       Sh.bool, Sh.bool, Sh.int IntKind.i64]
      u4.aggOf)
         (fun _ => br ((hdV (tlV (tlV (tlV (tlV (tlV u4.aggOf)))))).boolOf)
          (fun _ => br (AV.listN 9 l && (decide ((0 : Int) ≤ j) && decide (j < (↑l.listOf.length : Int))))
           (fun _ => (match l.listOf[j.toNat]? with
            | some u8 => br (u8.isAgg &&
     fitL
      [Sh.int IntKind.i64, Sh.int IntKind.i64, Sh.int IntKind.i64, Sh.int IntKind.i64, Sh.int IntKind.i64, Sh.bool,
       Sh.bool, Sh.bool, Sh.int IntKind.i64]
      u8.aggOf)
             (fun _ => br (AV.listN 7 v && (decide ((0 : Int) ≤ i) && decide (i < (↑v.listOf.length : Int))))
              (fun _ => (match v.listOf[i.toNat]? with
               | some u11 => br (u11.isAgg &&
     fitL
      [Sh.int IntKind.i64, Sh.int IntKind.i64, Sh.int IntKind.u8, Sh.int IntKind.i64, Sh.int IntKind.i64,
       Sh.int IntKind.i64, Sh.bool]
      u11.aggOf)
                (fun _ => br (AV.listN 7 v && (decide ((0 : Int) ≤ i) && decide (i < (↑v.listOf.length : Int))))
                 (fun _ => (match v.listOf[i.toNat]? with
                  | some u14 => br (u14.isAgg &&
     fitL
      [Sh.int IntKind.i64, Sh.int IntKind.i64, Sh.int IntKind.u8, Sh.int IntKind.i64, Sh.int IntKind.i64,
       Sh.int IntKind.i64, Sh.bool]
      u14.aggOf)
                   (fun _ => br (AV.listN 7 v && (decide ((0 : Int) ≤ i) && decide (i < (↑v.listOf.length : Int))))
                    (fun _ => (match v.listOf[i.toNat]? with
                     | some u17 => br (u17.isAgg &&
     fitL
      [Sh.int IntKind.i64, Sh.int IntKind.i64, Sh.int IntKind.u8, Sh.int IntKind.i64, Sh.int IntKind.i64,
       Sh.int IntKind.i64, Sh.bool]
      u17.aggOf)
                      (fun _ => loopC (Rep.D m) (cD m fuel) fuel alI k [x0, l, AV.ptr 0 0, x3, AV.bool false, v, w, AV.int IntKind.i64 i, AV.bool ((hdV (tlV (tlV u8.aggOf))).numOf == (hdV u11.aggOf).numOf && ((hdV (tlV (tlV (tlV u8.aggOf)))).numOf == (hdV (tlV u14.aggOf)).numOf && ((hdV (tlV (tlV (tlV (tlV u8.aggOf))))).numOf == (hdV (tlV (tlV (tlV u17.aggOf)))).numOf && true))), AV.int IntKind.i64 (IntKind.i64.wrap (j + (1 : Int))), x10, x11, x12, x13, x14, x15, x16, x17, x18, x19, x20, x21, x22, x23, x24, x25, x26, x27, x28, x29, x30, x31, x32, x33, x34, AV.int IntKind.i64 j, l, AV.int IntKind.i64 (↑l.listOf.length : Int), AV.bool (decide (j < (↑l.listOf.length : Int))), AV.int IntKind.i64 j, AV.int IntKind.i64 (IntKind.i64.wrap (j + (1 : Int))), AV.bool c, AV.bool false, l, AV.int IntKind.i64 j, (AV.agg (shL [Sh.int IntKind.i64, Sh.int IntKind.i64, Sh.int IntKind.i64, Sh.int IntKind.i64, Sh.int IntKind.i64, Sh.bool, Sh.bool, Sh.bool, Sh.int IntKind.i64] u4.aggOf)).rop, (AV.bool (hdV (tlV (tlV (tlV (tlV (tlV u4.aggOf)))))).boolOf).rop, AV.bool (hdV (tlV (tlV (tlV (tlV (tlV u4.aggOf)))))).boolOf, AV.bool true, l, AV.int IntKind.i64 j, (AV.agg (shL [Sh.int IntKind.i64, Sh.int IntKind.i64, Sh.int IntKind.i64, Sh.int IntKind.i64, Sh.int IntKind.i64, Sh.bool, Sh.bool, Sh.bool, Sh.int IntKind.i64] u8.aggOf)).rop, (AV.agg [AV.int IntKind.i64 (hdV (tlV (tlV u8.aggOf))).numOf, AV.int IntKind.i64 (hdV (tlV (tlV (tlV u8.aggOf)))).numOf, AV.int IntKind.i64 (hdV (tlV (tlV (tlV (tlV u8.aggOf))))).numOf]).rop, AV.agg [AV.int IntKind.i64 (hdV (tlV (tlV u8.aggOf))).numOf, AV.int IntKind.i64 (hdV (tlV (tlV (tlV u8.aggOf)))).numOf, AV.int IntKind.i64 (hdV (tlV (tlV (tlV (tlV u8.aggOf))))).numOf], v, AV.int IntKind.i64 i, (AV.agg (shL [Sh.int IntKind.i64, Sh.int IntKind.i64, Sh.int IntKind.u8, Sh.int IntKind.i64, Sh.int IntKind.i64, Sh.int IntKind.i64, Sh.bool] u11.aggOf)).rop, (AV.int IntKind.i64 (hdV u11.aggOf).numOf).rop, AV.int IntKind.i64 (hdV u11.aggOf).numOf, v, AV.int IntKind.i64 i, (AV.agg (shL [Sh.int IntKind.i64, Sh.int IntKind.i64, Sh.int IntKind.u8, Sh.int IntKind.i64, Sh.int IntKind.i64, Sh.int IntKind.i64, Sh.bool] u14.aggOf)).rop, (AV.int IntKind.i64 (hdV (tlV u14.aggOf)).numOf).rop, AV.int IntKind.i64 (hdV (tlV u14.aggOf)).numOf, v, AV.int IntKind.i64 i, (AV.agg (shL [Sh.int IntKind.i64, Sh.int IntKind.i64, Sh.int IntKind.u8, Sh.int IntKind.i64, Sh.int IntKind.i64, Sh.int IntKind.i64, Sh.bool] u17.aggOf)).rop, (AV.int IntKind.i64 (hdV (tlV (tlV (tlV u17.aggOf)))).numOf).rop, AV.int IntKind.i64 (hdV (tlV (tlV (tlV u17.aggOf)))).numOf, AV.agg [AV.int IntKind.i64 (hdV u11.aggOf).numOf, AV.int IntKind.i64 (hdV (tlV u14.aggOf)).numOf, AV.int IntKind.i64 (hdV (tlV (tlV (tlV u17.aggOf)))).numOf], AV.bool ((hdV (tlV (tlV u8.aggOf))).numOf == (hdV u11.aggOf).numOf && ((hdV (tlV (tlV (tlV u8.aggOf)))).numOf == (hdV (tlV u14.aggOf)).numOf && ((hdV (tlV (tlV (tlV (tlV u8.aggOf))))).numOf == (hdV (tlV (tlV (tlV u17.aggOf)))).numOf && true))), AV.bool ((hdV (tlV (tlV u8.aggOf))).numOf == (hdV u11.aggOf).numOf && ((hdV (tlV (tlV (tlV u8.aggOf)))).numOf == (hdV (tlV u14.aggOf)).numOf && ((hdV (tlV (tlV (tlV (tlV u8.aggOf))))).numOf == (hdV (tlV (tlV (tlV u17.aggOf)))).numOf && true))), AV.bool ((hdV (tlV (tlV u8.aggOf))).numOf == (hdV u11.aggOf).numOf && ((hdV (tlV (tlV (tlV u8.aggOf)))).numOf == (hdV (tlV u14.aggOf)).numOf && ((hdV (tlV (tlV (tlV (tlV u8.aggOf))))).numOf == (hdV (tlV (tlV (tlV u17.aggOf)))).numOf && true))), x73, x74, x75, x76, x77, x78, x79, x80, x81, x82, x83, x84, x85, x86, x87, x88, x89, x90, x91, x92, x93] { objs := [AObj.cells cs], toks := [] } K)
                      (fun _ => none)
                     | none => none))
                    (fun _ => none))
                   (fun _ => none)
                  | none => none))
                 (fun _ => none))
                (fun _ => none)
               | none => none))
              (fun _ => none))
             (fun _ => none)
            | none => none))
           (fun _ => none))
          (fun _ => loopC (Rep.D m) (cD m fuel) fuel alI k [x0, l, AV.ptr 0 0, x3, AV.bool false, v, w, AV.int IntKind.i64 i, AV.bool false, AV.int IntKind.i64 (IntKind.i64.wrap (j + (1 : Int))), x10, x11, x12, x13, x14, x15, x16, x17, x18, x19, x20, x21, x22, x23, x24, x25, x26, x27, x28, x29, x30, x31, x32, x33, x34, AV.int IntKind.i64 j, l, AV.int IntKind.i64 (↑l.listOf.length : Int), AV.bool (decide (j < (↑l.listOf.length : Int))), AV.int IntKind.i64 j, AV.int IntKind.i64 (IntKind.i64.wrap (j + (1 : Int))), AV.bool c, AV.bool false, l, AV.int IntKind.i64 j, (AV.agg (shL [Sh.int IntKind.i64, Sh.int IntKind.i64, Sh.int IntKind.i64, Sh.int IntKind.i64, Sh.int IntKind.i64, Sh.bool, Sh.bool, Sh.bool, Sh.int IntKind.i64] u4.aggOf)).rop, (AV.bool (hdV (tlV (tlV (tlV (tlV (tlV u4.aggOf)))))).boolOf).rop, AV.bool (hdV (tlV (tlV (tlV (tlV (tlV u4.aggOf)))))).boolOf, AV.bool false, AV.tuple [], AV.tuple [], AV.tuple [], AV.tuple [], AV.tuple [], AV.tuple [], AV.tuple [], AV.tuple [], AV.tuple [], AV.tuple [], AV.tuple [], AV.tuple [], AV.tuple [], AV.tuple [], AV.tuple [], AV.tuple [], AV.tuple [], AV.tuple [], AV.tuple [], AV.tuple [], AV.tuple [], AV.tuple [], AV.bool false, AV.bool false, x73, x74, x75, x76, x77, x78, x79, x80, x81, x82, x83, x84, x85, x86, x87, x88, x89, x90, x91, x92, x93] { objs := [AObj.cells cs], toks := [] } K))
         (fun _ => none)
        | none => none))
       (fun _ => none)))
     (fun _ => K (Ex.exit 2)
     [x0, l, AV.ptr 0 0, x3, AV.bool false, v, w, AV.int IntKind.i64 i, AV.bool c, AV.int IntKind.i64 j, x10, x11, x12,
      x13, x14, x15, x16, x17, x18, x19, x20, x21, x22, x23, x24, x25, x26, x27, x28, x29, x30, x31, x32, x33, x34,
      AV.int IntKind.i64 j, l, AV.int IntKind.i64 (↑l.listOf.length : Int),
      AV.bool (decide (j < (↑l.listOf.length : Int))), x39, x40, x41, x42, x43, x44, x45, x46, x47, x48, x49, x50, x51,
      x52, x53, x54, x55, x56, x57, x58, x59, x60, x61, x62, x63, x64, x65, x66, x67, x68, x69, x70, x71, x72, x73, x74,
      x75, x76, x77, x78, x79, x80, x81, x82, x83, x84, x85, x86, x87, x88, x89, x90, x91, x92, x93]
     { objs := [AObj.cells cs], toks := [] }))
    (fun _ => none) := by kernel_rfl
theorem alO_post (m : Array Value) {R : Type} (fuel k : Nat) (cs : List AV) (l v w : AV) (i j : Int) (c : Bool) (s0 : List AV) (x0 x3 x10 x11 x12 x13 x14 x15 x16 x17 x18 x19 x20 x21 x22 x23 x24 x25 x26 x27 x28 x29 x30 x31 x32 x33 x34 x35 x36 x37 x38 x39 x40 x41 x42 x43 x44 x45 x46 x47 x48 x49 x50 x51 x52 x53 x54 x55 x56 x57 x58 x59 x60 x61 x62 x63 x64 x65 x66 x67 x68 x69 x70 x71 x72 x73 x74 x75 x76 x77 x78 x79 x80 x81 x82 x83 x84 x85 x86 x87 x88 x89 x90 x91 x92 x93 : AV) (K : Ex → List AV → AH → Option R) :
  kontI (Rep.D m) (cD m fuel) fuel alO alR (stepK (Rep.D m) (cD m fuel) fuel alO k s0 ⟨[.cells cs], []⟩ K) (.exit 2) [x0, l, .ptr 0 0, x3, .bool false, v, w, .int .i64 i, .bool c, .int .i64 j, x10, x11, x12, x13, x14, x15, x16, x17, x18, x19, x20, x21, x22, x23, x24, x25, x26, x27, x28, x29, x30, x31, x32, x33, x34, x35, x36, x37, x38, x39, x40, x41, x42, x43, x44, x45, x46, x47, x48, x49, x50, x51, x52, x53, x54, x55, x56, x57, x58, x59, x60, x61, x62, x63, x64, x65, x66, x67, x68, x69, x70, x71, x72, x73, x74, x75, x76, x77, x78, x79, x80, x81, x82, x83, x84, x85, x86, x87, x88, x89, x90, x91, x92, x93] ⟨[.cells cs], []⟩ =
  br (AV.listN 7 v && (decide ((0 : Int) ≤ i) && decide (i < (↑v.listOf.length : Int))))
    (fun _ => (match v.listOf[i.toNat]? with
     | some u1 => br (u1.isAgg &&
     fitL
      [Sh.int IntKind.i64, Sh.int IntKind.i64, Sh.int IntKind.u8, Sh.int IntKind.i64, Sh.int IntKind.i64,
       Sh.int IntKind.i64, Sh.bool]
      u1.aggOf)
      (fun _ => br (AV.listN 7 v && (decide ((0 : Int) ≤ i) && decide (i < (↑v.listOf.length : Int))))
       (fun _ => (match v.listOf[i.toNat]? with
        | some u4 => br (u4.isAgg &&
     fitL
      [Sh.int IntKind.i64, Sh.int IntKind.i64, Sh.int IntKind.u8, Sh.int IntKind.i64, Sh.int IntKind.i64,
       Sh.int IntKind.i64, Sh.bool]
      u4.aggOf)
         (fun _ => br (!(hdV (tlV (tlV (tlV (tlV (tlV (tlV u4.aggOf))))))).boolOf == c)
          (fun _ => K Ex.ret
     [x0, l, AV.ptr 0 0, x3, AV.bool false, v, w, AV.int IntKind.i64 i, AV.bool c, AV.int IntKind.i64 j, AV.ptr 1 0, x11,
      x12, x13, x14, x15, x16, x17, x18, x19, x20, x21, x22, x23, x24, x25, x26, x27, x28, x29, x30, x31, x32, x33, x34,
      x35, x36, x37, x38, x39, x40, x41, x42, x43, x44, x45, x46, x47, x48, x49, x50, x51, x52, x53, x54, x55, x56, x57,
      x58, x59, x60, x61, x62, x63, x64, x65, x66, x67, x68, x69, x70, x71, x72, v, AV.int IntKind.i64 i,
      (AV.agg
        (shL
         [Sh.int IntKind.i64, Sh.int IntKind.i64, Sh.int IntKind.u8, Sh.int IntKind.i64, Sh.int IntKind.i64,
          Sh.int IntKind.i64, Sh.bool]
         u1.aggOf)).rop,
      AV.agg
       (shL
        [Sh.int IntKind.i64, Sh.int IntKind.i64, Sh.int IntKind.u8, Sh.int IntKind.i64, Sh.int IntKind.i64,
         Sh.int IntKind.i64, Sh.bool]
        u1.aggOf),
      AV.ptr 1 6, v, AV.int IntKind.i64 i,
      (AV.agg
        (shL
         [Sh.int IntKind.i64, Sh.int IntKind.i64, Sh.int IntKind.u8, Sh.int IntKind.i64, Sh.int IntKind.i64,
          Sh.int IntKind.i64, Sh.bool]
         u4.aggOf)).rop,
      (AV.bool (hdV (tlV (tlV (tlV (tlV (tlV (tlV u4.aggOf))))))).boolOf).rop,
      AV.bool (hdV (tlV (tlV (tlV (tlV (tlV (tlV u4.aggOf))))))).boolOf, AV.bool c,
      AV.bool !(hdV (tlV (tlV (tlV (tlV (tlV (tlV u4.aggOf))))))).boolOf == c, AV.bool true, AV.tuple [], AV.tuple [],
      AV.tuple [], AV.tuple [], AV.tuple [], AV.tuple [], AV.bool true, x93]
     {
      objs :=
       [AObj.cells cs,
        AObj.cells
         [AV.int IntKind.i64 (hdV u1.aggOf).numOf, AV.int IntKind.i64 (hdV (tlV u1.aggOf)).numOf,
          AV.int IntKind.u8 (hdV (tlV (tlV u1.aggOf))).numOf,
          AV.int IntKind.i64 (hdV (tlV (tlV (tlV u1.aggOf)))).numOf,
          AV.int IntKind.i64 (hdV (tlV (tlV (tlV (tlV u1.aggOf))))).numOf,
          AV.int IntKind.i64 (hdV (tlV (tlV (tlV (tlV (tlV u1.aggOf)))))).numOf, AV.bool false]],
      toks := [] })
          (fun _ => br (AV.listN 7 w && (decide ((0 : Int) ≤ i) && decide (i < (↑w.listOf.length : Int))))
           (fun _ => (match w.listOf[i.toNat]? with
            | some u8 => br (u8.isAgg &&
     fitL
      [Sh.int IntKind.i64, Sh.int IntKind.i64, Sh.int IntKind.u8, Sh.int IntKind.i64, Sh.int IntKind.i64,
       Sh.int IntKind.i64, Sh.bool]
      u8.aggOf)
             (fun _ => br (!((hdV u1.aggOf).numOf == (hdV u8.aggOf).numOf &&
      ((hdV (tlV u1.aggOf)).numOf == (hdV (tlV u8.aggOf)).numOf &&
       ((hdV (tlV (tlV u1.aggOf))).numOf == (hdV (tlV (tlV u8.aggOf))).numOf &&
        ((hdV (tlV (tlV (tlV u1.aggOf)))).numOf == (hdV (tlV (tlV (tlV u8.aggOf)))).numOf &&
         ((hdV (tlV (tlV (tlV (tlV u1.aggOf))))).numOf == (hdV (tlV (tlV (tlV (tlV u8.aggOf))))).numOf &&
          ((hdV (tlV (tlV (tlV (tlV (tlV u1.aggOf)))))).numOf == (hdV (tlV (tlV (tlV (tlV (tlV u8.aggOf)))))).numOf &&
           (false == (hdV (tlV (tlV (tlV (tlV (tlV (tlV u8.aggOf))))))).boolOf && true))))))))
              (fun _ => K Ex.ret
     [x0, l, AV.ptr 0 0, x3, AV.bool false, v, w, AV.int IntKind.i64 i, AV.bool c, AV.int IntKind.i64 j, AV.ptr 1 0, x11,
      x12, x13, x14, x15, x16, x17, x18, x19, x20, x21, x22, x23, x24, x25, x26, x27, x28, x29, x30, x31, x32, x33, x34,
      x35, x36, x37, x38, x39, x40, x41, x42, x43, x44, x45, x46, x47, x48, x49, x50, x51, x52, x53, x54, x55, x56, x57,
      x58, x59, x60, x61, x62, x63, x64, x65, x66, x67, x68, x69, x70, x71, x72, v, AV.int IntKind.i64 i,
      (AV.agg
        (shL
         [Sh.int IntKind.i64, Sh.int IntKind.i64, Sh.int IntKind.u8, Sh.int IntKind.i64, Sh.int IntKind.i64,
          Sh.int IntKind.i64, Sh.bool]
         u1.aggOf)).rop,
      AV.agg
       (shL
        [Sh.int IntKind.i64, Sh.int IntKind.i64, Sh.int IntKind.u8, Sh.int IntKind.i64, Sh.int IntKind.i64,
         Sh.int IntKind.i64, Sh.bool]
        u1.aggOf),
      AV.ptr 1 6, v, AV.int IntKind.i64 i,
      (AV.agg
        (shL
         [Sh.int IntKind.i64, Sh.int IntKind.i64, Sh.int IntKind.u8, Sh.int IntKind.i64, Sh.int IntKind.i64,
          Sh.int IntKind.i64, Sh.bool]
         u4.aggOf)).rop,
      (AV.bool (hdV (tlV (tlV (tlV (tlV (tlV (tlV u4.aggOf))))))).boolOf).rop,
      AV.bool (hdV (tlV (tlV (tlV (tlV (tlV (tlV u4.aggOf))))))).boolOf, AV.bool c,
      AV.bool !(hdV (tlV (tlV (tlV (tlV (tlV (tlV u4.aggOf))))))).boolOf == c, AV.bool false,
      AV.agg
       [AV.int IntKind.i64 (hdV u1.aggOf).numOf, AV.int IntKind.i64 (hdV (tlV u1.aggOf)).numOf,
        AV.int IntKind.u8 (hdV (tlV (tlV u1.aggOf))).numOf, AV.int IntKind.i64 (hdV (tlV (tlV (tlV u1.aggOf)))).numOf,
        AV.int IntKind.i64 (hdV (tlV (tlV (tlV (tlV u1.aggOf))))).numOf,
        AV.int IntKind.i64 (hdV (tlV (tlV (tlV (tlV (tlV u1.aggOf)))))).numOf, AV.bool false],
      w, AV.int IntKind.i64 i,
      (AV.agg
        (shL
         [Sh.int IntKind.i64, Sh.int IntKind.i64, Sh.int IntKind.u8, Sh.int IntKind.i64, Sh.int IntKind.i64,
          Sh.int IntKind.i64, Sh.bool]
         u8.aggOf)).rop,
      AV.agg
       (shL
        [Sh.int IntKind.i64, Sh.int IntKind.i64, Sh.int IntKind.u8, Sh.int IntKind.i64, Sh.int IntKind.i64,
         Sh.int IntKind.i64, Sh.bool]
        u8.aggOf),
      AV.bool
       !((hdV u1.aggOf).numOf == (hdV u8.aggOf).numOf &&
         ((hdV (tlV u1.aggOf)).numOf == (hdV (tlV u8.aggOf)).numOf &&
          ((hdV (tlV (tlV u1.aggOf))).numOf == (hdV (tlV (tlV u8.aggOf))).numOf &&
           ((hdV (tlV (tlV (tlV u1.aggOf)))).numOf == (hdV (tlV (tlV (tlV u8.aggOf)))).numOf &&
            ((hdV (tlV (tlV (tlV (tlV u1.aggOf))))).numOf == (hdV (tlV (tlV (tlV (tlV u8.aggOf))))).numOf &&
             ((hdV (tlV (tlV (tlV (tlV (tlV u1.aggOf)))))).numOf ==
               (hdV (tlV (tlV (tlV (tlV (tlV u8.aggOf)))))).numOf &&
              (false == (hdV (tlV (tlV (tlV (tlV (tlV (tlV u8.aggOf))))))).boolOf && true))))))),
      AV.bool
       !((hdV u1.aggOf).numOf == (hdV u8.aggOf).numOf &&
         ((hdV (tlV u1.aggOf)).numOf == (hdV (tlV u8.aggOf)).numOf &&
          ((hdV (tlV (tlV u1.aggOf))).numOf == (hdV (tlV (tlV u8.aggOf))).numOf &&
           ((hdV (tlV (tlV (tlV u1.aggOf)))).numOf == (hdV (tlV (tlV (tlV u8.aggOf)))).numOf &&
            ((hdV (tlV (tlV (tlV (tlV u1.aggOf))))).numOf == (hdV (tlV (tlV (tlV (tlV u8.aggOf))))).numOf &&
             ((hdV (tlV (tlV (tlV (tlV (tlV u1.aggOf)))))).numOf ==
               (hdV (tlV (tlV (tlV (tlV (tlV u8.aggOf)))))).numOf &&
              (false == (hdV (tlV (tlV (tlV (tlV (tlV (tlV u8.aggOf))))))).boolOf && true))))))),
      x93]
     {
      objs :=
       [AObj.cells cs,
        AObj.cells
         [AV.int IntKind.i64 (hdV u1.aggOf).numOf, AV.int IntKind.i64 (hdV (tlV u1.aggOf)).numOf,
          AV.int IntKind.u8 (hdV (tlV (tlV u1.aggOf))).numOf,
          AV.int IntKind.i64 (hdV (tlV (tlV (tlV u1.aggOf)))).numOf,
          AV.int IntKind.i64 (hdV (tlV (tlV (tlV (tlV u1.aggOf))))).numOf,
          AV.int IntKind.i64 (hdV (tlV (tlV (tlV (tlV (tlV u1.aggOf)))))).numOf, AV.bool false]],
      toks := [] })
              (fun _ => br (belowO 1 0 [AObj.cells cs])
               (fun _ => loopC (Rep.D m) (cD m fuel) fuel alO k [cutV 1 0 x0, cutV 1 0 l, AV.ptr 0 0, cutV 1 0 x3, AV.bool false, cutV 1 0 v, cutV 1 0 w, AV.int IntKind.i64 (IntKind.i64.wrap (i + (1 : Int))), AV.bool c, AV.int IntKind.i64 j, AV.top, cutV 1 0 x11, cutV 1 0 x12, cutV 1 0 x13, cutV 1 0 x14, cutV 1 0 x15, cutV 1 0 x16, cutV 1 0 x17, cutV 1 0 x18, cutV 1 0 x19, cutV 1 0 x20, cutV 1 0 x21, cutV 1 0 x22, cutV 1 0 x23, cutV 1 0 x24, cutV 1 0 x25, cutV 1 0 x26, cutV 1 0 x27, cutV 1 0 x28, cutV 1 0 x29, cutV 1 0 x30, cutV 1 0 x31, cutV 1 0 x32, AV.int IntKind.i64 i, AV.int IntKind.i64 (IntKind.i64.wrap (i + (1 : Int))), cutV 1 0 x35, cutV 1 0 x36, cutV 1 0 x37, cutV 1 0 x38, cutV 1 0 x39, cutV 1 0 x40, cutV 1 0 x41, cutV 1 0 x42, cutV 1 0 x43, cutV 1 0 x44, cutV 1 0 x45, cutV 1 0 x46, cutV 1 0 x47, cutV 1 0 x48, cutV 1 0 x49, cutV 1 0 x50, cutV 1 0 x51, cutV 1 0 x52, cutV 1 0 x53, cutV 1 0 x54, cutV 1 0 x55, cutV 1 0 x56, cutV 1 0 x57, cutV 1 0 x58, cutV 1 0 x59, cutV 1 0 x60, cutV 1 0 x61, cutV 1 0 x62, cutV 1 0 x63, cutV 1 0 x64, cutV 1 0 x65, cutV 1 0 x66, cutV 1 0 x67, cutV 1 0 x68, cutV 1 0 x69, cutV 1 0 x70, cutV 1 0 x71, cutV 1 0 x72, cutV 1 0 v, AV.int IntKind.i64 i, (AV.agg (shL [Sh.int IntKind.i64, Sh.int IntKind.i64, Sh.int IntKind.u8, Sh.int IntKind.i64, Sh.int IntKind.i64, Sh.int IntKind.i64, Sh.bool] u1.aggOf)).rop, AV.agg (shL [Sh.int IntKind.i64, Sh.int IntKind.i64, Sh.int IntKind.u8, Sh.int IntKind.i64, Sh.int IntKind.i64, Sh.int IntKind.i64, Sh.bool] u1.aggOf), AV.top, cutV 1 0 v, AV.int IntKind.i64 i, (AV.agg (shL [Sh.int IntKind.i64, Sh.int IntKind.i64, Sh.int IntKind.u8, Sh.int IntKind.i64, Sh.int IntKind.i64, Sh.int IntKind.i64, Sh.bool] u4.aggOf)).rop, (AV.bool (hdV (tlV (tlV (tlV (tlV (tlV (tlV u4.aggOf))))))).boolOf).rop, AV.bool (hdV (tlV (tlV (tlV (tlV (tlV (tlV u4.aggOf))))))).boolOf, AV.bool c, AV.bool !(hdV (tlV (tlV (tlV (tlV (tlV (tlV u4.aggOf))))))).boolOf == c, AV.bool false, AV.agg [AV.int IntKind.i64 (hdV u1.aggOf).numOf, AV.int IntKind.i64 (hdV (tlV u1.aggOf)).numOf, AV.int IntKind.u8 (hdV (tlV (tlV u1.aggOf))).numOf, AV.int IntKind.i64 (hdV (tlV (tlV (tlV u1.aggOf)))).numOf, AV.int IntKind.i64 (hdV (tlV (tlV (tlV (tlV u1.aggOf))))).numOf, AV.int IntKind.i64 (hdV (tlV (tlV (tlV (tlV (tlV u1.aggOf)))))).numOf, AV.bool false], cutV 1 0 w, AV.int IntKind.i64 i, (AV.agg (shL [Sh.int IntKind.i64, Sh.int IntKind.i64, Sh.int IntKind.u8, Sh.int IntKind.i64, Sh.int IntKind.i64, Sh.int IntKind.i64, Sh.bool] u8.aggOf)).rop, AV.agg (shL [Sh.int IntKind.i64, Sh.int IntKind.i64, Sh.int IntKind.u8, Sh.int IntKind.i64, Sh.int IntKind.i64, Sh.int IntKind.i64, Sh.bool] u8.aggOf), AV.bool !((hdV u1.aggOf).numOf == (hdV u8.aggOf).numOf && ((hdV (tlV u1.aggOf)).numOf == (hdV (tlV u8.aggOf)).numOf && ((hdV (tlV (tlV u1.aggOf))).numOf == (hdV (tlV (tlV u8.aggOf))).numOf && ((hdV (tlV (tlV (tlV u1.aggOf)))).numOf == (hdV (tlV (tlV (tlV u8.aggOf)))).numOf && ((hdV (tlV (tlV (tlV (tlV u1.aggOf))))).numOf == (hdV (tlV (tlV (tlV (tlV u8.aggOf))))).numOf && ((hdV (tlV (tlV (tlV (tlV (tlV u1.aggOf)))))).numOf == (hdV (tlV (tlV (tlV (tlV (tlV u8.aggOf)))))).numOf && (false == (hdV (tlV (tlV (tlV (tlV (tlV (tlV u8.aggOf))))))).boolOf && true))))))), AV.bool !((hdV u1.aggOf).numOf == (hdV u8.aggOf).numOf && ((hdV (tlV u1.aggOf)).numOf == (hdV (tlV u8.aggOf)).numOf && ((hdV (tlV (tlV u1.aggOf))).numOf == (hdV (tlV (tlV u8.aggOf))).numOf && ((hdV (tlV (tlV (tlV u1.aggOf)))).numOf == (hdV (tlV (tlV (tlV u8.aggOf)))).numOf && ((hdV (tlV (tlV (tlV (tlV u1.aggOf))))).numOf == (hdV (tlV (tlV (tlV (tlV u8.aggOf))))).numOf && ((hdV (tlV (tlV (tlV (tlV (tlV u1.aggOf)))))).numOf == (hdV (tlV (tlV (tlV (tlV (tlV u8.aggOf)))))).numOf && (false == (hdV (tlV (tlV (tlV (tlV (tlV (tlV u8.aggOf))))))).boolOf && true))))))), cutV 1 0 x93] { objs := [AObj.cells cs], toks := [] } K)
               (fun _ => none)))
             (fun _ => none)
            | none => none))
           (fun _ => none)))
         (fun _ => none)
        | none => none))
       (fun _ => none))
      (fun _ => none)
     | none => none))
    (fun _ => none) := by kernel_rfl
theorem al_end (m : Array Value) {R : Type} (fuel : Nat) (cs : List AV) (l v w : AV) (i : Int) (x0 x3 x8 x9 x10 x11 x12 x13 x14 x15 x16 x17 x18 x19 x20 x21 x22 x23 x24 x25 x26 x27 x28 x29 x30 x31 x32 x33 x34 x35 x36 x37 x38 x39 x40 x41 x42 x43 x44 x45 x46 x47 x48 x49 x50 x51 x52 x53 x54 x55 x56 x57 x58 x59 x60 x61 x62 x63 x64 x65 x66 x67 x68 x69 x70 x71 x72 x73 x74 x75 x76 x77 x78 x79 x80 x81 x82 x83 x84 x85 x86 x87 x88 x89 x90 x91 x92 x93 : AV) (K : AV → AH → Option R) :
  kontI (Rep.D m) (cD m fuel) fuel (bodyOf Tryd.f8) [1, 1, 1, 1, 0, 1, 0] (endI (Rep.D m) Tryd.f8 K) (.exit 0) [x0, l, .ptr 0 0, x3, .bool false, v, w, .int .i64 i, x8, x9, x10, x11, x12, x13, x14, x15, x16, x17, x18, x19, x20, x21, x22, x23, x24, x25, x26, x27, x28, x29, x30, x31, x32, x33, x34, x35, x36, x37, x38, x39, x40, x41, x42, x43, x44, x45, x46, x47, x48, x49, x50, x51, x52, x53, x54, x55, x56, x57, x58, x59, x60, x61, x62, x63, x64, x65, x66, x67, x68, x69, x70, x71, x72, x73, x74, x75, x76, x77, x78, x79, x80, x81, x82, x83, x84, x85, x86, x87, x88, x89, x90, x91, x92, x93] ⟨[.cells cs], []⟩ =
  (match valH (Rep.D m) 19 [] { objs := [AObj.cells cs], toks := [] } with
    | some u0 => br (fitS Sh.bool u0)
     (fun _ => K (AV.bool u0.boolOf) { objs := [AObj.cells cs], toks := [] })
     (fun _ => none)
    | none => none) := by kernel_rfl
-- PROOFS
theorem stT_len (f : Int → Nat → AV → Bool) (id : Int) : ∀ (k : Nat) (l : List AV), (stT f id k l).length = l.length
  | _, [] => rfl
  | k, t :: r => by simp [stT, stT_len f id (k + 1) r]
theorem stT_at (f : Int → Nat → AV → Bool) (id : Int) : ∀ (l : List AV) (k j : Nat), (stT f id k l)[j]? = (l[j]?).map fun t => stOf id (k + j) t (f id (k + j) t)
  | [], k, j => by simp [stT]
  | t :: r, k, 0 => by simp [stT]
  | t :: r, k, j + 1 => by
    simp only [stT, List.getElem?_cons_succ, stT_at f id r (k + 1) j]
    congr 1
    funext u
    rw [show k + 1 + j = k + (j + 1) by omega]
-- DEFS
-- PROOFS
def TrueQ (z : Option AV) : Prop := z = some (.bool true)

/-- Has a live process that token? -/
def aliveK (L : List AV) (t : Int × Int × Int) : Bool := L.any fun p => liveP p && decide (tokP p = t)

theorem alI_loop (m : Array Value) {R : Type} (fuel : Nat) (cs : List AV) {l v : AV} (hl : tyV (.sl 9 dtProc) l) (hv : tyV (.sl 7 dtSt) v) (w : AV) (n : Nat) {u : AV} (hu : v.listOf[n]? = some u) (K : Ex → List AV → AH → Option R) (Q : Option R → Prop)
    (hexit : ∀ (i j : Int) (c : Bool) (x0 x3 x10 x11 x12 x13 x14 x15 x16 x17 x18 x19 x20 x21 x22 x23 x24 x25 x26 x27 x28 x29 x30 x31 x32 x33 x34 x35 x36 x37 x38 x39 x40 x41 x42 x43 x44 x45 x46 x47 x48 x49 x50 x51 x52 x53 x54 x55 x56 x57 x58 x59 x60 x61 x62 x63 x64 x65 x66 x67 x68 x69 x70 x71 x72 x73 x74 x75 x76 x77 x78 x79 x80 x81 x82 x83 x84 x85 x86 x87 x88 x89 x90 x91 x92 x93 : AV), i = (n : Int) → c = aliveK l.listOf ((hdV u.aggOf).numOf, (hdV (tlV u.aggOf)).numOf, (hdV (tlV (tlV (tlV u.aggOf)))).numOf) → Q (K (.exit 2) [x0, l, .ptr 0 0, x3, .bool false, v, w, .int .i64 i, .bool c, .int .i64 j, x10, x11, x12, x13, x14, x15, x16, x17, x18, x19, x20, x21, x22, x23, x24, x25, x26, x27, x28, x29, x30, x31, x32, x33, x34, x35, x36, x37, x38, x39, x40, x41, x42, x43, x44, x45, x46, x47, x48, x49, x50, x51, x52, x53, x54, x55, x56, x57, x58, x59, x60, x61, x62, x63, x64, x65, x66, x67, x68, x69, x70, x71, x72, x73, x74, x75, x76, x77, x78, x79, x80, x81, x82, x83, x84, x85, x86, x87, x88, x89, x90, x91, x92, x93] ⟨[.cells cs], []⟩)) :
    ∀ (r q k : Nat) (i j : Int) (c : Bool) (x0 x3 x10 x11 x12 x13 x14 x15 x16 x17 x18 x19 x20 x21 x22 x23 x24 x25 x26 x27 x28 x29 x30 x31 x32 x33 x34 x35 x36 x37 x38 x39 x40 x41 x42 x43 x44 x45 x46 x47 x48 x49 x50 x51 x52 x53 x54 x55 x56 x57 x58 x59 x60 x61 x62 x63 x64 x65 x66 x67 x68 x69 x70 x71 x72 x73 x74 x75 x76 x77 x78 x79 x80 x81 x82 x83 x84 x85 x86 x87 x88 x89 x90 x91 x92 x93 : AV), i = (n : Int) → j = (q : Int) → q + r = l.listOf.length → r < k → c = aliveK (l.listOf.take q) ((hdV u.aggOf).numOf, (hdV (tlV u.aggOf)).numOf, (hdV (tlV (tlV (tlV u.aggOf)))).numOf) →
      Q (loopC (Rep.D m) (cD m fuel) fuel alI k [x0, l, .ptr 0 0, x3, .bool false, v, w, .int .i64 i, .bool c, .int .i64 j, x10, x11, x12, x13, x14, x15, x16, x17, x18, x19, x20, x21, x22, x23, x24, x25, x26, x27, x28, x29, x30, x31, x32, x33, x34, x35, x36, x37, x38, x39, x40, x41, x42, x43, x44, x45, x46, x47, x48, x49, x50, x51, x52, x53, x54, x55, x56, x57, x58, x59, x60, x61, x62, x63, x64, x65, x66, x67, x68, x69, x70, x71, x72, x73, x74, x75, x76, x77, x78, x79, x80, x81, x82, x83, x84, x85, x86, x87, x88, x89, x90, x91, x92, x93] ⟨[.cells cs], []⟩ K)
  | r, q, 0, i, j, c, _, _, _, _, _, _, _, _, _, _, _, _, _, _, _, _, _, _, _, _, _, _, _, _, _, _, _, _, _, _, _, _, _, _, _, _, _, _, _, _, _, _, _, _, _, _, _, _, _, _, _, _, _, _, _, _, _, _, _, _, _, _, _, _, _, _, _, _, _, _, _, _, _, _, _, _, _, _, _, _, _, _, _, _, _, _, hi', hj, h, hk, hc => by omega
  | 0, q, k + 1, i, j, c, x0, x3, x10, x11, x12, x13, x14, x15, x16, x17, x18, x19, x20, x21, x22, x23, x24, x25, x26, x27, x28, x29, x30, x31, x32, x33, x34, x35, x36, x37, x38, x39, x40, x41, x42, x43, x44, x45, x46, x47, x48, x49, x50, x51, x52, x53, x54, x55, x56, x57, x58, x59, x60, x61, x62, x63, x64, x65, x66, x67, x68, x69, x70, x71, x72, x73, x74, x75, x76, x77, x78, x79, x80, x81, x82, x83, x84, x85, x86, x87, x88, x89, x90, x91, x92, x93, hi', hj, h, hk, hc => by
    subst hi'
    subst hj
    rw [List.take_of_length_le (by omega)] at hc
    rw [alI_step, (sl_facts hl).1, lt_false (by omega : ¬ q < l.listOf.length)]
    exact hexit _ _ _ _ _ _ _ _ _ _ _ _ _ _ _ _ _ _ _ _ _ _ _ _ _ _ _ _ _ _ _ _ _ _ _ _ _ _ _ _ _ _ _ _ _ _ _ _ _ _ _ _ _ _ _ _ _ _ _ _ _ _ _ _ _ _ _ _ _ _ _ _ _ _ _ _ _ _ _ _ _ _ _ _ _ _ _ _ _ rfl hc
  | r + 1, q, k + 1, i, j, c, x0, x3, x10, x11, x12, x13, x14, x15, x16, x17, x18, x19, x20, x21, x22, x23, x24, x25, x26, x27, x28, x29, x30, x31, x32, x33, x34, x35, x36, x37, x38, x39, x40, x41, x42, x43, x44, x45, x46, x47, x48, x49, x50, x51, x52, x53, x54, x55, x56, x57, x58, x59, x60, x61, x62, x63, x64, x65, x66, x67, x68, x69, x70, x71, x72, x73, x74, x75, x76, x77, x78, x79, x80, x81, x82, x83, x84, x85, x86, x87, x88, x89, x90, x91, x92, x93, hi', hj, h, hk, hc => by
    subst hi'
    subst hj
    obtain ⟨hB, hmax, hT, -, -⟩ := sl_facts hl
    obtain ⟨V1, Vm, V3, -, -⟩ := sl_facts hv
    have hq : q < l.listOf.length := by omega
    have hn : n < v.listOf.length := (List.getElem?_eq_some_iff.1 hu).1
    obtain ⟨p, hp⟩ : ∃ p, l.listOf[q]? = some p := ⟨_, List.getElem?_eq_getElem hq⟩
    have tp := hT p (List.mem_of_getElem? hp)
    have tu := V3 u (List.mem_of_getElem? hu)
    have hany : aliveK (l.listOf.take (q + 1)) ((hdV u.aggOf).numOf, (hdV (tlV u.aggOf)).numOf, (hdV (tlV (tlV (tlV u.aggOf)))).numOf) = (aliveK (l.listOf.take q) ((hdV u.aggOf).numOf, (hdV (tlV u.aggOf)).numOf, (hdV (tlV (tlV (tlV u.aggOf)))).numOf) || (liveP p && decide (tokP p = ((hdV u.aggOf).numOf, (hdV (tlV u.aggOf)).numOf, (hdV (tlV (tlV (tlV u.aggOf)))).numOf)))) := by
      unfold aliveK
      rw [List.take_add_one, hp]
      simp
    have ht : ((hdV (tlV (tlV p.aggOf))).numOf == (hdV u.aggOf).numOf && ((hdV (tlV (tlV (tlV p.aggOf)))).numOf == (hdV (tlV u.aggOf)).numOf && ((hdV (tlV (tlV (tlV (tlV p.aggOf))))).numOf == (hdV (tlV (tlV (tlV u.aggOf)))).numOf && true))) = decide (tokP p = ((hdV u.aggOf).numOf, (hdV (tlV u.aggOf)).numOf, (hdV (tlV (tlV (tlV u.aggOf)))).numOf)) := tok_beq (tokP p) ((hdV u.aggOf).numOf, (hdV (tlV u.aggOf)).numOf, (hdV (tlV (tlV (tlV u.aggOf)))).numOf)
    have ih := alI_loop m fuel cs hl hv w n hu K Q hexit r (q + 1) k (n : Int) ((q + 1 : Nat) : Int)
    rw [alI_step, hB, lt_true hq, ge_true, Int.toNat_natCast, hp]
    simp only [br, Bool.and_self]
    rw [wrap_next hq hmax]
    cases c with
    | true =>
      simp only
      refine ih true _ _ _ _ _ _ _ _ _ _ _ _ _ _ _ _ _ _ _ _ _ _ _ _ _ _ _ _ _ _ _ _ _ _ _ _ _ _ _ _ _ _ _ _ _ _ _ _ _ _ _ _ _ _ _ _ _ _ _ _ _ _ _ _ _ _ _ _ _ _ _ _ _ _ _ _ _ _ _ _ _ _ _ _ _ _ rfl rfl (by omega) (by omega) ?_
      rw [hany, ← hc]; rfl
    | false =>
      simp only [fit_dtProc tp]
      cases ha : (hdV (tlV (tlV (tlV (tlV (tlV p.aggOf)))))).boolOf with
      | false =>
        simp only
        refine ih false _ _ _ _ _ _ _ _ _ _ _ _ _ _ _ _ _ _ _ _ _ _ _ _ _ _ _ _ _ _ _ _ _ _ _ _ _ _ _ _ _ _ _ _ _ _ _ _ _ _ _ _ _ _ _ _ _ _ _ _ _ _ _ _ _ _ _ _ _ _ _ _ _ _ _ _ _ _ _ _ _ _ _ _ _ _ rfl rfl (by omega) (by omega) ?_
        rw [hany, ← hc]
        simp only [liveP, ha, Bool.false_and, Bool.or_false]
      | true =>
        simp only [V1]
        rw [lt_true hn, ge_true, Int.toNat_natCast, hu]
        simp only [Bool.and_self, fit_dtSt tu]
        rw [ht]
        refine ih _ _ _ _ _ _ _ _ _ _ _ _ _ _ _ _ _ _ _ _ _ _ _ _ _ _ _ _ _ _ _ _ _ _ _ _ _ _ _ _ _ _ _ _ _ _ _ _ _ _ _ _ _ _ _ _ _ _ _ _ _ _ _ _ _ _ _ _ _ _ _ _ _ _ _ _ _ _ _ _ _ _ _ _ _ _ _ rfl rfl (by omega) (by omega) ?_
        rw [hany, ← hc]
        simp only [liveP, ha, Bool.true_and, Bool.false_or]

/-- Two reports of one state. -/
theorem st_pair (f g : Int → Nat → AV → Bool) : ∀ (A : List AV) (i : Nat) (u w : AV), (stA f A)[i]? = some u → (stA g A)[i]? = some w → ∃ id k t, u = stOf id k t (f id k t) ∧ w = stOf id k t (g id k t)
  | [], i, u, w, h1, h2 => by simp [stA] at h1
  | a :: r, i, u, w, h1, h2 => by
    simp only [stA] at h1 h2
    by_cases hi : i < (shS Sh.any (hdV (tlV (tlV (tlV (tlV (tlV (tlV (tlV (tlV (tlV a.aggOf))))))))))).listOf.length
    · rw [List.getElem?_append_left (by rw [stT_len]; exact hi), stT_at] at h1 h2
      obtain ⟨t, ht⟩ : ∃ t, (shS Sh.any (hdV (tlV (tlV (tlV (tlV (tlV (tlV (tlV (tlV (tlV a.aggOf))))))))))).listOf[i]? = some t := ⟨_, List.getElem?_eq_getElem hi⟩
      rw [ht] at h1 h2
      simp only [Option.map_some, Option.some.injEq] at h1 h2
      exact ⟨_, _, t, h1.symm, h2.symm⟩
    · rw [List.getElem?_append_right (by rw [stT_len]; omega), stT_len] at h1 h2
      exact st_pair f g r _ u w h1 h2

theorem stA_len (f g : Int → Nat → AV → Bool) : ∀ (A : List AV), (stA f A).length = (stA g A).length
  | [] => rfl
  | a :: r => by simp only [stA, List.length_append, stT_len, stA_len f g r]

theorem alO_loop (m : Array Value) {R : Type} (fuel : Nat) {cs : List AV} (hcs : ∀ n k, belowL n k cs = true) {l v w : AV} (hl : tyV (.sl 9 dtProc) l) (hlf : l.listOf.length < fuel) (hv : tyV (.sl 7 dtSt) v) (hw : tyV (.sl 7 dtSt) w) (A : List AV) (hvl : v.listOf = stA (aliveF l.listOf) A) (hwl : w.listOf = stA (aliveF []) A)
    (K : Ex → List AV → AH → Option R) (Q : Option R → Prop)
    (hexit : ∀ (i : Int) (x0 x3 x8 x9 x10 x11 x12 x13 x14 x15 x16 x17 x18 x19 x20 x21 x22 x23 x24 x25 x26 x27 x28 x29 x30 x31 x32 x33 x34 x35 x36 x37 x38 x39 x40 x41 x42 x43 x44 x45 x46 x47 x48 x49 x50 x51 x52 x53 x54 x55 x56 x57 x58 x59 x60 x61 x62 x63 x64 x65 x66 x67 x68 x69 x70 x71 x72 x73 x74 x75 x76 x77 x78 x79 x80 x81 x82 x83 x84 x85 x86 x87 x88 x89 x90 x91 x92 x93 : AV), Q (K (.exit 0) [x0, l, .ptr 0 0, x3, .bool false, v, w, .int .i64 i, x8, x9, x10, x11, x12, x13, x14, x15, x16, x17, x18, x19, x20, x21, x22, x23, x24, x25, x26, x27, x28, x29, x30, x31, x32, x33, x34, x35, x36, x37, x38, x39, x40, x41, x42, x43, x44, x45, x46, x47, x48, x49, x50, x51, x52, x53, x54, x55, x56, x57, x58, x59, x60, x61, x62, x63, x64, x65, x66, x67, x68, x69, x70, x71, x72, x73, x74, x75, x76, x77, x78, x79, x80, x81, x82, x83, x84, x85, x86, x87, x88, x89, x90, x91, x92, x93] ⟨[.cells cs], []⟩)) :
    ∀ (r n k : Nat) (i : Int) (x0 x3 x8 x9 x10 x11 x12 x13 x14 x15 x16 x17 x18 x19 x20 x21 x22 x23 x24 x25 x26 x27 x28 x29 x30 x31 x32 x33 x34 x35 x36 x37 x38 x39 x40 x41 x42 x43 x44 x45 x46 x47 x48 x49 x50 x51 x52 x53 x54 x55 x56 x57 x58 x59 x60 x61 x62 x63 x64 x65 x66 x67 x68 x69 x70 x71 x72 x73 x74 x75 x76 x77 x78 x79 x80 x81 x82 x83 x84 x85 x86 x87 x88 x89 x90 x91 x92 x93 : AV), i = (n : Int) → n + r = v.listOf.length → r < k → Q (loopC (Rep.D m) (cD m fuel) fuel alO k [x0, l, .ptr 0 0, x3, .bool false, v, w, .int .i64 i, x8, x9, x10, x11, x12, x13, x14, x15, x16, x17, x18, x19, x20, x21, x22, x23, x24, x25, x26, x27, x28, x29, x30, x31, x32, x33, x34, x35, x36, x37, x38, x39, x40, x41, x42, x43, x44, x45, x46, x47, x48, x49, x50, x51, x52, x53, x54, x55, x56, x57, x58, x59, x60, x61, x62, x63, x64, x65, x66, x67, x68, x69, x70, x71, x72, x73, x74, x75, x76, x77, x78, x79, x80, x81, x82, x83, x84, x85, x86, x87, x88, x89, x90, x91, x92, x93] ⟨[.cells cs], []⟩ K)
  | r, n, 0, i, _, _, _, _, _, _, _, _, _, _, _, _, _, _, _, _, _, _, _, _, _, _, _, _, _, _, _, _, _, _, _, _, _, _, _, _, _, _, _, _, _, _, _, _, _, _, _, _, _, _, _, _, _, _, _, _, _, _, _, _, _, _, _, _, _, _, _, _, _, _, _, _, _, _, _, _, _, _, _, _, _, _, _, _, _, _, _, _, hi', h, hk => by omega
  | 0, n, k + 1, i, x0, x3, x8, x9, x10, x11, x12, x13, x14, x15, x16, x17, x18, x19, x20, x21, x22, x23, x24, x25, x26, x27, x28, x29, x30, x31, x32, x33, x34, x35, x36, x37, x38, x39, x40, x41, x42, x43, x44, x45, x46, x47, x48, x49, x50, x51, x52, x53, x54, x55, x56, x57, x58, x59, x60, x61, x62, x63, x64, x65, x66, x67, x68, x69, x70, x71, x72, x73, x74, x75, x76, x77, x78, x79, x80, x81, x82, x83, x84, x85, x86, x87, x88, x89, x90, x91, x92, x93, hi', h, hk => by
    subst hi'
    rw [alO_step, (sl_facts hv).1, lt_false (by omega : ¬ n < v.listOf.length)]
    exact hexit _ _ _ _ _ _ _ _ _ _ _ _ _ _ _ _ _ _ _ _ _ _ _ _ _ _ _ _ _ _ _ _ _ _ _ _ _ _ _ _ _ _ _ _ _ _ _ _ _ _ _ _ _ _ _ _ _ _ _ _ _ _ _ _ _ _ _ _ _ _ _ _ _ _ _ _ _ _ _ _ _ _ _ _ _ _ _ _ _
  | r + 1, n, k + 1, i, x0, x3, x8, x9, x10, x11, x12, x13, x14, x15, x16, x17, x18, x19, x20, x21, x22, x23, x24, x25, x26, x27, x28, x29, x30, x31, x32, x33, x34, x35, x36, x37, x38, x39, x40, x41, x42, x43, x44, x45, x46, x47, x48, x49, x50, x51, x52, x53, x54, x55, x56, x57, x58, x59, x60, x61, x62, x63, x64, x65, x66, x67, x68, x69, x70, x71, x72, x73, x74, x75, x76, x77, x78, x79, x80, x81, x82, x83, x84, x85, x86, x87, x88, x89, x90, x91, x92, x93, hi', h, hk => by
    subst hi'
    obtain ⟨V1, Vm, V3, -, -⟩ := sl_facts hv
    obtain ⟨W1, Wm, W3, -, -⟩ := sl_facts hw
    have hi : n < v.listOf.length := by omega
    have hlen : v.listOf.length = w.listOf.length := by rw [hvl, hwl]; exact stA_len _ _ A
    have hj : n < w.listOf.length := by omega
    obtain ⟨u, hu⟩ : ∃ u, v.listOf[n]? = some u := ⟨_, List.getElem?_eq_getElem hi⟩
    obtain ⟨z, hz⟩ : ∃ z, w.listOf[n]? = some z := ⟨_, List.getElem?_eq_getElem hj⟩
    have tu := V3 u (List.mem_of_getElem? hu)
    have tz := W3 z (List.mem_of_getElem? hz)
    obtain ⟨id, q, t, eu, ez⟩ := st_pair (aliveF l.listOf) (aliveF []) A n u z (by rw [← hvl]; exact hu) (by rw [← hwl]; exact hz)
    have hbo : belowO 1 0 [AObj.cells cs] = true := by
      simp only [belowO, AObj.below, hcs, Bool.and_self]
    rw [alO_step, V1, lt_true hi]
    simp only [br]
    refine alI_loop m fuel cs hl hv w n hu _ Q ?_ l.listOf.length 0 fuel _ _ false _ _ _ _ _ _ _ _ _ _ _ _ _ _ _ _ _ _ _ _ _ _ _ _ _ _ _ _ _ _ _ _ _ _ _ _ _ _ _ _ _ _ _ _ _ _ _ _ _ _ _ _ _ _ _ _ _ _ _ _ _ _ _ _ _ _ _ _ _ _ _ _ _ _ _ _ _ _ _ _ _ _ _ _ _ _ rfl rfl (by omega) hlf rfl
    intro i' j' c' x0 x3 x10 x11 x12 x13 x14 x15 x16 x17 x18 x19 x20 x21 x22 x23 x24 x25 x26 x27 x28 x29 x30 x31 x32 x33 x34 x35 x36 x37 x38 x39 x40 x41 x42 x43 x44 x45 x46 x47 x48 x49 x50 x51 x52 x53 x54 x55 x56 x57 x58 x59 x60 x61 x62 x63 x64 x65 x66 x67 x68 x69 x70 x71 x72 x73 x74 x75 x76 x77 x78 x79 x80 x81 x82 x83 x84 x85 x86 x87 x88 x89 x90 x91 x92 x93 hi'' hc
    subst hi''
    have hc' : c' = aliveF l.listOf id q t := by
      rw [hc, eu]; rfl
    have e6 : (hdV (tlV (tlV (tlV (tlV (tlV (tlV u.aggOf))))))).boolOf = c' := by
      rw [hc', eu]; rfl
    have hpp : (((hdV u.aggOf).numOf == (hdV z.aggOf).numOf && ((hdV (tlV u.aggOf)).numOf == (hdV (tlV z.aggOf)).numOf && ((hdV (tlV (tlV u.aggOf))).numOf == (hdV (tlV (tlV z.aggOf))).numOf && ((hdV (tlV (tlV (tlV u.aggOf)))).numOf == (hdV (tlV (tlV (tlV z.aggOf)))).numOf && ((hdV (tlV (tlV (tlV (tlV u.aggOf))))).numOf == (hdV (tlV (tlV (tlV (tlV z.aggOf))))).numOf && ((hdV (tlV (tlV (tlV (tlV (tlV u.aggOf)))))).numOf == (hdV (tlV (tlV (tlV (tlV (tlV z.aggOf)))))).numOf && (false == (hdV (tlV (tlV (tlV (tlV (tlV (tlV z.aggOf))))))).boolOf && true)))))))) = true := by
      have h6 : (hdV (tlV (tlV (tlV (tlV (tlV (tlV z.aggOf))))))).boolOf = false := by rw [ez]; rfl
      rw [h6, eu, ez]
      simp only [stOf, AV.aggOf, hdV, tlV, AV.numOf, beq_self_eq_true, Bool.and_self]
    rw [alO_post, V1, W1, lt_true hi, lt_true hj, ge_true, Int.toNat_natCast, hu, hz]
    simp only [br, Bool.and_self, fit_dtSt tu, fit_dtSt tz, e6, beq_self_eq_true, Bool.not_true]
    first | rw [hpp] | simp only [hpp]
    simp only [Bool.not_true, hbo]
    rw [wrap_next hi Vm]
    simp only [cut_ty hl, cut_ty hv, cut_ty hw]
    exact alO_loop m fuel hcs hl hlf hv hw A hvl hwl K Q hexit r (n + 1) k _ _ _ _ _ _ _ _ _ _ _ _ _ _ _ _ _ _ _ _ _ _ _ _ _ _ _ _ _ _ _ _ _ _ _ _ _ _ _ _ _ _ _ _ _ _ _ _ _ _ _ _ _ _ _ _ _ _ _ _ _ _ _ _ _ _ _ _ _ _ _ _ _ _ _ _ _ _ _ _ _ _ _ _ _ _ _ _ _ rfl (by omega) (by omega)

theorem alive_run (m : Array Value) {s l : AV} (hs : tyV dtState s) (hl : tyV (.sl 9 dtProc) l) : runI (Rep.D m) (cD m 9223372036854775808) 9223372036854775808 Tryd.f8 [s, l] ⟨[], []⟩ (fun v _ => some v) = some (.bool true) := by
  obtain ⟨b, hb, hbt⟩ := few20 m hs
  have hs0 := hs
  obtain ⟨a0, a1, a2, a3, a4, rfl, w0, w1, w2, w3, w4⟩ := un_dtState hs
  have e := al_pre m (R := AV) 9223372036854775808 a0 a1 a2 a3 a4 l (fun v _ => some v)
  refine Eq.trans e ?_
  rw [valH_of (hb _)]
  simp only [fitS, AV.boolOf, br, (sl_facts hl).1]
  cases hbv : b with
  | false => rfl
  | true =>
    have hbs := hbt hbv
    simp only [Bool.not_true]
    by_cases hlen : l.listOf.length > 20
    · rw [dec_t (p := (l.listOf.length : Int) > 20) (by omega)]
    rw [dec_f (p := (l.listOf.length : Int) > 20) (by omega)]
    simp only
    have tn : tyV (.sl 9 dtProc) .nils := .inl rfl
    obtain ⟨v, h3, t3, n3, -⟩ := of24 m hs0 hbs hl
    obtain ⟨w, k3, t4, n4, -⟩ := of24 m hs0 hbs tn
    rw [valH_of (h3 _)]
    simp only
    rw [valH_of (k3 _)]
    simp only [(sl_facts t3).1, (sl_facts t4).1]
    have emax : maxLen = 9223372036854775807 := by decide
    have hvl : v.listOf = stA (aliveF l.listOf) a4.listOf := n3
    have hwl : w.listOf = stA (aliveF []) a4.listOf := n4
    have hll : v.listOf.length = w.listOf.length := by rw [hvl, hwl]; exact stA_len _ _ _
    rw [hll, bne_self_eq_false]
    simp only
    have hcs : ∀ n k, belowL n k (stC a0 a1 a2 a3 a4) = true := by
      intro n k
      simp only [stC, belowL, below, tyV_below w4, Bool.and_self]
    have hvm := (sl_facts t3).2.1
    refine alO_loop m 9223372036854775808 hcs hl (by omega) t3 t4 a4.listOf hvl hwl _ TrueQ ?_ v.listOf.length 0 9223372036854775808 _ _ _ _ _ _ _ _ _ _ _ _ _ _ _ _ _ _ _ _ _ _ _ _ _ _ _ _ _ _ _ _ _ _ _ _ _ _ _ _ _ _ _ _ _ _ _ _ _ _ _ _ _ _ _ _ _ _ _ _ _ _ _ _ _ _ _ _ _ _ _ _ _ _ _ _ _ _ _ _ _ _ _ _ _ _ _ _ _ rfl (by omega) (by omega)
    intro i x0 x3 x8 x9 x10 x11 x12 x13 x14 x15 x16 x17 x18 x19 x20 x21 x22 x23 x24 x25 x26 x27 x28 x29 x30 x31 x32 x33 x34 x35 x36 x37 x38 x39 x40 x41 x42 x43 x44 x45 x46 x47 x48 x49 x50 x51 x52 x53 x54 x55 x56 x57 x58 x59 x60 x61 x62 x63 x64 x65 x66 x67 x68 x69 x70 x71 x72 x73 x74 x75 x76 x77 x78 x79 x80 x81 x82 x83 x84 x85 x86 x87 x88 x89 x90 x91 x92 x93
    rw [al_end]
    unfold TrueQ
    rw [valH_of (awakeD m _)]
    rfl

theorem alive_law8 (m : Array Value) {s l : AV} (hs : tyV dtState s) (hl : tyV (.sl 9 dtProc) l) (H : AH) : callL (Rep.D m) 8 [s, l] H = some (.bool true, H) :=
  callL_D (tabD0_ok m) (fuel := 9223372036854775808) (n := 2) (fn := Tryd.f8) (ds := [dtState, .sl 9 dtProc]) (v := .bool true) (by kernel_rfl) (by kernel_rfl) (by kernel_rfl) ⟨hs, hl, trivial⟩ (alive_run m (tyV_erase hs) (tyV_erase hl)) rfl

theorem reportAlive_law (m : Array Value) (avs : List AV) (h : okVs [dtState, .sl 9 dtProc] avs) : ∃ H', callL (Rep.D m) 8 avs ⟨[], []⟩ = some (.bool true, H') := by
  obtain ⟨v, _, rfl, h1, h2⟩ := okVsC h
  obtain ⟨w, _, rfl, k2, h3⟩ := okVsC h2
  obtain rfl := okVs0 h3
  exact ⟨_, alive_law8 m (ok_tyV h1) (ok_tyV k2) ⟨[], []⟩⟩
-- DEFS
end Go.Proofs.YtoagnbpmoihojaaDoor

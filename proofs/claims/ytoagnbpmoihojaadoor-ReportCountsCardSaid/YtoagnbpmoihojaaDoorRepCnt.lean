/- ReportCounts: forms. -/
import Derived.Test.YtoagnbpmoihojaaDoorRepMat
set_option maxRecDepth 100000
set_option linter.unusedSimpArgs false
set_option linter.unusedVariables false
namespace Go.Proofs.YtoagnbpmoihojaaDoor
open Go.Sx

noncomputable def cnO : Code := subC (bodyOf Tryd.f7) [1, 1, 1, 1, 0, 1, 0, 0]
def cnR : List Nat := [1, 0, 0, 1, 0]
noncomputable def cnI : Code := subC cnO [1, 0, 0, 1, 0, 0]
noncomputable def cnL : Code := subC (bodyOf Tryd.f7) [1, 1, 1, 1, 1, 1, 0, 1, 0, 0]
theorem cn_pre (m : Array Value) {R : Type} (fuel : Nat) (a0 a1 a2 a3 : Int) (a4 l : AV) (K : AV → AH → Option R) :
  runI (Rep.D m) (cD m fuel) fuel Tryd.f7 [.agg (stC a0 a1 a2 a3 a4), l] ⟨[], []⟩ K =
  (match valH (Rep.D m) 20
     [AV.agg [AV.int IntKind.i64 a0, AV.int IntKind.i64 a1, AV.int IntKind.i64 a2, AV.int IntKind.i64 a3, a4]]
     {
      objs :=
       [AObj.cells [AV.int IntKind.i64 a0, AV.int IntKind.i64 a1, AV.int IntKind.i64 a2, AV.int IntKind.i64 a3, a4]],
      toks := [] } with
    | some u0 => br (fitS Sh.bool u0)
     (fun _ => br (!u0.boolOf)
      (fun _ => K (AV.bool true)
     {
      objs :=
       [AObj.cells [AV.int IntKind.i64 a0, AV.int IntKind.i64 a1, AV.int IntKind.i64 a2, AV.int IntKind.i64 a3, a4]],
      toks := [] })
      (fun _ => br (AV.listN 9 l)
       (fun _ => br (decide ((↑l.listOf.length : Int) > (20 : Int)))
        (fun _ => K (AV.bool true)
     {
      objs :=
       [AObj.cells [AV.int IntKind.i64 a0, AV.int IntKind.i64 a1, AV.int IntKind.i64 a2, AV.int IntKind.i64 a3, a4]],
      toks := [] })
        (fun _ => (match valH (Rep.D m) 24
     [AV.agg [AV.int IntKind.i64 a0, AV.int IntKind.i64 a1, AV.int IntKind.i64 a2, AV.int IntKind.i64 a3, a4], l]
     {
      objs :=
       [AObj.cells [AV.int IntKind.i64 a0, AV.int IntKind.i64 a1, AV.int IntKind.i64 a2, AV.int IntKind.i64 a3, a4]],
      toks := [] } with
         | some u5 => loopC (Rep.D m) (cD m fuel) fuel cnO fuel [AV.agg [AV.int IntKind.i64 a0, AV.int IntKind.i64 a1, AV.int IntKind.i64 a2, AV.int IntKind.i64 a3, a4], l, AV.ptr 0 0, AV.top, AV.bool false, u5, AV.int IntKind.i64 ((0 : Int)), AV.int IntKind.i64 ((0 : Int)), AV.top, AV.top, AV.top, AV.top, AV.agg [AV.int IntKind.i64 a0, AV.int IntKind.i64 a1, AV.int IntKind.i64 a2, AV.int IntKind.i64 a3, a4], AV.bool u0.boolOf, AV.bool !u0.boolOf, AV.bool false, l, AV.int IntKind.i64 (↑l.listOf.length : Int), AV.bool (decide ((↑l.listOf.length : Int) > (20 : Int))), AV.bool (decide ((↑l.listOf.length : Int) > (20 : Int))), AV.agg [AV.int IntKind.i64 a0, AV.int IntKind.i64 a1, AV.int IntKind.i64 a2, AV.int IntKind.i64 a3, a4], l, u5, AV.top, AV.top, AV.top, AV.top, AV.top, AV.top, AV.top, AV.top, AV.top, AV.top, AV.top, AV.top, AV.top, AV.top, AV.top, AV.top, AV.top, AV.top, AV.top, AV.top, AV.top, AV.top, AV.top, AV.top, AV.top, AV.top, AV.top, AV.top, AV.top, AV.top, AV.top, AV.top, AV.top, AV.top, AV.top, AV.top, AV.top, AV.top, AV.top, AV.top, AV.top, AV.top, AV.top, AV.top, AV.top, AV.top, AV.top, AV.top, AV.top, AV.top, AV.top, AV.top, AV.top, AV.top, AV.top, AV.top, AV.top, AV.top, AV.top, AV.top, AV.top, AV.top, AV.top, AV.top, AV.top, AV.top, AV.top, AV.top, AV.top, AV.top, AV.top, AV.top, AV.top, AV.top, AV.top, AV.top, AV.top, AV.top, AV.top, AV.top, AV.top, AV.top, AV.top, AV.top, AV.top, AV.top, AV.top, AV.top, AV.top, AV.top, AV.top, AV.top, AV.top, AV.top, AV.top, AV.top, AV.top, AV.top, AV.top, AV.top, AV.top, AV.top, AV.top, AV.top, AV.top, AV.top, AV.top, AV.top, AV.top, AV.top, AV.top, AV.top, AV.top, AV.top, AV.top, AV.top, AV.top, AV.top, AV.top, AV.top, AV.top, AV.top, AV.top, AV.top, AV.top, AV.top, AV.top, AV.top, AV.top, AV.top, AV.top] { objs := [AObj.cells [AV.int IntKind.i64 a0, AV.int IntKind.i64 a1, AV.int IntKind.i64 a2, AV.int IntKind.i64 a3, a4]], toks := [] } (kontI (Rep.D m) (cD m fuel) fuel (bodyOf Tryd.f7) [1, 1, 1, 1, 0, 1, 0] (endI (Rep.D m) Tryd.f7 K))
         | none => none)))
       (fun _ => none)))
     (fun _ => none)
    | none => none) := by kernel_rfl
theorem cnO_step (m : Array Value) {R : Type} (fuel k : Nat) (a0 a1 a2 a3 : Int) (a4 l v : AV) (n i : Int) (x0 x3 x8 x9 x10 x11 x12 x13 x14 x15 x16 x17 x18 x19 x20 x21 x22 x23 x24 x25 x26 x27 x28 x29 x30 x31 x32 x33 x34 x35 x36 x37 x38 x39 x40 x41 x42 x43 x44 x45 x46 x47 x48 x49 x50 x51 x52 x53 x54 x55 x56 x57 x58 x59 x60 x61 x62 x63 x64 x65 x66 x67 x68 x69 x70 x71 x72 x73 x74 x75 x76 x77 x78 x79 x80 x81 x82 x83 x84 x85 x86 x87 x88 x89 x90 x91 x92 x93 x94 x95 x96 x97 x98 x99 x100 x101 x102 x103 x104 x105 x106 x107 x108 x109 x110 x111 x112 x113 x114 x115 x116 x117 x118 x119 x120 x121 x122 x123 x124 x125 x126 x127 x128 x129 x130 x131 x132 x133 x134 x135 x136 x137 x138 x139 x140 x141 x142 x143 x144 x145 x146 x147 x148 x149 x150 x151 x152 x153 : AV) (K : Ex → List AV → AH → Option R) :
  loopC (Rep.D m) (cD m fuel) fuel cnO (k + 1) [x0, l, .ptr 0 0, x3, .bool false, v, .int .i64 n, .int .i64 i, x8, x9, x10, x11, x12, x13, x14, x15, x16, x17, x18, x19, x20, x21, x22, x23, x24, x25, x26, x27, x28, x29, x30, x31, x32, x33, x34, x35, x36, x37, x38, x39, x40, x41, x42, x43, x44, x45, x46, x47, x48, x49, x50, x51, x52, x53, x54, x55, x56, x57, x58, x59, x60, x61, x62, x63, x64, x65, x66, x67, x68, x69, x70, x71, x72, x73, x74, x75, x76, x77, x78, x79, x80, x81, x82, x83, x84, x85, x86, x87, x88, x89, x90, x91, x92, x93, x94, x95, x96, x97, x98, x99, x100, x101, x102, x103, x104, x105, x106, x107, x108, x109, x110, x111, x112, x113, x114, x115, x116, x117, x118, x119, x120, x121, x122, x123, x124, x125, x126, x127, x128, x129, x130, x131, x132, x133, x134, x135, x136, x137, x138, x139, x140, x141, x142, x143, x144, x145, x146, x147, x148, x149, x150, x151, x152, x153] ⟨[.cells (stC a0 a1 a2 a3 a4)], []⟩ K =
  br (AV.listN 10 a4)
    (fun _ => br (decide (i < (↑a4.listOf.length : Int)))
     (fun _ => loopC (Rep.D m) (cD m fuel) fuel cnI fuel [x0, l, AV.ptr 0 0, x3, AV.bool false, v, AV.int IntKind.i64 n, AV.int IntKind.i64 i, AV.int IntKind.i64 ((0 : Int)), x9, x10, x11, x12, x13, x14, x15, x16, x17, x18, x19, x20, x21, x22, AV.int IntKind.i64 i, AV.ptr 0 4, a4, AV.int IntKind.i64 (↑a4.listOf.length : Int), AV.bool (decide (i < (↑a4.listOf.length : Int))), x28, x29, x30, x31, x32, x33, x34, x35, x36, x37, x38, x39, x40, x41, x42, x43, x44, x45, x46, x47, x48, x49, x50, x51, x52, x53, x54, x55, x56, x57, x58, x59, x60, x61, x62, x63, x64, x65, x66, x67, x68, x69, x70, x71, x72, x73, x74, x75, x76, x77, x78, x79, x80, x81, x82, x83, x84, x85, x86, x87, x88, x89, x90, x91, x92, x93, x94, x95, x96, x97, x98, x99, x100, x101, x102, x103, x104, x105, x106, x107, x108, x109, x110, x111, x112, x113, x114, x115, x116, x117, x118, x119, x120, x121, x122, x123, x124, x125, x126, x127, x128, x129, x130, x131, x132, x133, x134, x135, x136, x137, x138, x139, x140, x141, x142, x143, x144, x145, x146, x147, x148, x149, x150, x151, x152, x153] { objs := [AObj.cells [AV.int IntKind.i64 a0, AV.int IntKind.i64 a1, AV.int IntKind.i64 a2, AV.int IntKind.i64 a3, a4]], toks := [] } (kontI (Rep.D m) (cD m fuel) fuel cnO cnR (stepK (Rep.D m) (cD m fuel) fuel cnO k [x0, l, .ptr 0 0, x3, .bool false, v, .int .i64 n, .int .i64 i, x8, x9, x10, x11, x12, x13, x14, x15, x16, x17, x18, x19, x20, x21, x22, x23, x24, x25, x26, x27, x28, x29, x30, x31, x32, x33, x34, x35, x36, x37, x38, x39, x40, x41, x42, x43, x44, x45, x46, x47, x48, x49, x50, x51, x52, x53, x54, x55, x56, x57, x58, x59, x60, x61, x62, x63, x64, x65, x66, x67, x68, x69, x70, x71, x72, x73, x74, x75, x76, x77, x78, x79, x80, x81, x82, x83, x84, x85, x86, x87, x88, x89, x90, x91, x92, x93, x94, x95, x96, x97, x98, x99, x100, x101, x102, x103, x104, x105, x106, x107, x108, x109, x110, x111, x112, x113, x114, x115, x116, x117, x118, x119, x120, x121, x122, x123, x124, x125, x126, x127, x128, x129, x130, x131, x132, x133, x134, x135, x136, x137, x138, x139, x140, x141, x142, x143, x144, x145, x146, x147, x148, x149, x150, x151, x152, x153] ⟨[.cells (stC a0 a1 a2 a3 a4)], []⟩ K)))
     (fun _ => K (Ex.exit 0)
     [x0, l, AV.ptr 0 0, x3, AV.bool false, v, AV.int IntKind.i64 n, AV.int IntKind.i64 i, x8, x9, x10, x11, x12, x13, x14,
      x15, x16, x17, x18, x19, x20, x21, x22, AV.int IntKind.i64 i, AV.ptr 0 4, a4,
      AV.int IntKind.i64 (↑a4.listOf.length : Int), AV.bool (decide (i < (↑a4.listOf.length : Int))), x28, x29, x30, x31,
      x32, x33, x34, x35, x36, x37, x38, x39, x40, x41, x42, x43, x44, x45, x46, x47, x48, x49, x50, x51, x52, x53, x54,
      x55, x56, x57, x58, x59, x60, x61, x62, x63, x64, x65, x66, x67, x68, x69, x70, x71, x72, x73, x74, x75, x76, x77,
      x78, x79, x80, x81, x82, x83, x84, x85, x86, x87, x88, x89, x90, x91, x92, x93, x94, x95, x96, x97, x98, x99, x100,
      x101, x102, x103, x104, x105, x106, x107, x108, x109, x110, x111, x112, x113, x114, x115, x116, x117, x118, x119,
      x120, x121, x122, x123, x124, x125, x126, x127, x128, x129, x130, x131, x132, x133, x134, x135, x136, x137, x138,
      x139, x140, x141, x142, x143, x144, x145, x146, x147, x148, x149, x150, x151, x152, x153]
     {
      objs :=
       [AObj.cells [AV.int IntKind.i64 a0, AV.int IntKind.i64 a1, AV.int IntKind.i64 a2, AV.int IntKind.i64 a3, a4]],
      toks := [] }))
    (fun _ => none) := by kernel_rfl
theorem cnI_step (m : Array Value) {R : Type} (fuel k : Nat) (a0 a1 a2 a3 : Int) (a4 l v : AV) (n i j : Int) (x0 x3 x9 x10 x11 x12 x13 x14 x15 x16 x17 x18 x19 x20 x21 x22 x23 x24 x25 x26 x27 x28 x29 x30 x31 x32 x33 x34 x35 x36 x37 x38 x39 x40 x41 x42 x43 x44 x45 x46 x47 x48 x49 x50 x51 x52 x53 x54 x55 x56 x57 x58 x59 x60 x61 x62 x63 x64 x65 x66 x67 x68 x69 x70 x71 x72 x73 x74 x75 x76 x77 x78 x79 x80 x81 x82 x83 x84 x85 x86 x87 x88 x89 x90 x91 x92 x93 x94 x95 x96 x97 x98 x99 x100 x101 x102 x103 x104 x105 x106 x107 x108 x109 x110 x111 x112 x113 x114 x115 x116 x117 x118 x119 x120 x121 x122 x123 x124 x125 x126 x127 x128 x129 x130 x131 x132 x133 x134 x135 x136 x137 x138 x139 x140 x141 x142 x143 x144 x145 x146 x147 x148 x149 x150 x151 x152 x153 : AV) (K : Ex → List AV → AH → Option R) :
  loopC (Rep.D m) (cD m fuel) fuel cnI (k + 1) [x0, l, .ptr 0 0, x3, .bool false, v, .int .i64 n, .int .i64 i, .int .i64 j, x9, x10, x11, x12, x13, x14, x15, x16, x17, x18, x19, x20, x21, x22, x23, x24, x25, x26, x27, x28, x29, x30, x31, x32, x33, x34, x35, x36, x37, x38, x39, x40, x41, x42, x43, x44, x45, x46, x47, x48, x49, x50, x51, x52, x53, x54, x55, x56, x57, x58, x59, x60, x61, x62, x63, x64, x65, x66, x67, x68, x69, x70, x71, x72, x73, x74, x75, x76, x77, x78, x79, x80, x81, x82, x83, x84, x85, x86, x87, x88, x89, x90, x91, x92, x93, x94, x95, x96, x97, x98, x99, x100, x101, x102, x103, x104, x105, x106, x107, x108, x109, x110, x111, x112, x113, x114, x115, x116, x117, x118, x119, x120, x121, x122, x123, x124, x125, x126, x127, x128, x129, x130, x131, x132, x133, x134, x135, x136, x137, x138, x139, x140, x141, x142, x143, x144, x145, x146, x147, x148, x149, x150, x151, x152, x153] ⟨[.cells (stC a0 a1 a2 a3 a4)], []⟩ K =
  br (AV.listN 10 a4 && (decide ((0 : Int) ≤ i) && decide (i < (↑a4.listOf.length : Int))))
    (fun _ => (match a4.listOf[i.toNat]? with
     | some u1 => br (u1.isAgg &&
     fitL
      [Sh.int IntKind.i64, Sh.int IntKind.i64, Sh.int IntKind.i64, Sh.int IntKind.i64, Sh.any, Sh.any, Sh.int IntKind.i64,
       Sh.int IntKind.i64, Sh.bool, Sh.any]
      u1.aggOf)
      (fun _ => br ((shS Sh.any (hdV (tlV (tlV (tlV (tlV (tlV (tlV (tlV (tlV (tlV u1.aggOf))))))))))).isOne)
       (fun _ => br (AV.listN 8 (shS Sh.any (hdV (tlV (tlV (tlV (tlV (tlV (tlV (tlV (tlV (tlV u1.aggOf))))))))))))
        (fun _ => br (decide (j < (↑(shS Sh.any (hdV (tlV (tlV (tlV (tlV (tlV (tlV (tlV (tlV (tlV u1.aggOf))))))))))).listOf.length : Int)))
         (fun _ => br (AV.listN 10 a4 && (decide ((0 : Int) ≤ i) && decide (i < (↑a4.listOf.length : Int))))
          (fun _ => (match a4.listOf[i.toNat]? with
           | some u7 => br (u7.isAgg &&
     fitL
      [Sh.int IntKind.i64, Sh.int IntKind.i64, Sh.int IntKind.i64, Sh.int IntKind.i64, Sh.any, Sh.any, Sh.int IntKind.i64,
       Sh.int IntKind.i64, Sh.bool, Sh.any]
      u7.aggOf)
            (fun _ => br ((shS Sh.any (hdV (tlV (tlV (tlV (tlV (tlV (tlV (tlV (tlV (tlV u7.aggOf))))))))))).isOne)
             (fun _ => br (AV.listN 8 (shS Sh.any (hdV (tlV (tlV (tlV (tlV (tlV (tlV (tlV (tlV (tlV u7.aggOf))))))))))) &&
     (decide ((0 : Int) ≤ j) &&
      decide
       (j < (↑(shS Sh.any (hdV (tlV (tlV (tlV (tlV (tlV (tlV (tlV (tlV (tlV u7.aggOf))))))))))).listOf.length : Int))))
              (fun _ => (match (shS Sh.any (hdV (tlV (tlV (tlV (tlV (tlV (tlV (tlV (tlV (tlV u7.aggOf))))))))))).listOf[j.toNat]? with
               | some u11 => br (u11.isAgg &&
     fitL
      [Sh.int IntKind.u8, Sh.int IntKind.i64, Sh.int IntKind.i64, Sh.int IntKind.i64, Sh.int IntKind.i64,
       Sh.int IntKind.i64, Sh.int IntKind.i64, Sh.any]
      u11.aggOf)
                (fun _ => br (AV.listN 7 v)
                 (fun _ => br (decide (n ≥ (↑v.listOf.length : Int)))
                  (fun _ => K Ex.ret
     [x0, l, AV.ptr 0 0, x3, AV.bool false, v, AV.int IntKind.i64 n, AV.int IntKind.i64 i, AV.int IntKind.i64 j,
      AV.ptr 1 0, x10, x11, x12, x13, x14, x15, x16, x17, x18, x19, x20, x21, x22, x23, x24, x25, x26, x27, x28, x29,
      AV.int IntKind.i64 j, AV.ptr 0 4, a4, AV.int IntKind.i64 i,
      (AV.agg
        (shL
         [Sh.int IntKind.i64, Sh.int IntKind.i64, Sh.int IntKind.i64, Sh.int IntKind.i64, Sh.any, Sh.any,
          Sh.int IntKind.i64, Sh.int IntKind.i64, Sh.bool, Sh.any]
         u1.aggOf)).rop,
      (shS Sh.any (hdV (tlV (tlV (tlV (tlV (tlV (tlV (tlV (tlV (tlV u1.aggOf))))))))))).rop,
      shS Sh.any (hdV (tlV (tlV (tlV (tlV (tlV (tlV (tlV (tlV (tlV u1.aggOf)))))))))),
      AV.int IntKind.i64
       (↑(shS Sh.any (hdV (tlV (tlV (tlV (tlV (tlV (tlV (tlV (tlV (tlV u1.aggOf))))))))))).listOf.length : Int),
      AV.bool
       (decide
        (j < (↑(shS Sh.any (hdV (tlV (tlV (tlV (tlV (tlV (tlV (tlV (tlV (tlV u1.aggOf))))))))))).listOf.length : Int))),
      x39, x40, AV.ptr 0 4, a4, AV.int IntKind.i64 i,
      (AV.agg
        (shL
         [Sh.int IntKind.i64, Sh.int IntKind.i64, Sh.int IntKind.i64, Sh.int IntKind.i64, Sh.any, Sh.any,
          Sh.int IntKind.i64, Sh.int IntKind.i64, Sh.bool, Sh.any]
         u7.aggOf)).rop,
      (shS Sh.any (hdV (tlV (tlV (tlV (tlV (tlV (tlV (tlV (tlV (tlV u7.aggOf))))))))))).rop,
      shS Sh.any (hdV (tlV (tlV (tlV (tlV (tlV (tlV (tlV (tlV (tlV u7.aggOf)))))))))), AV.int IntKind.i64 j,
      (AV.agg
        (shL
         [Sh.int IntKind.u8, Sh.int IntKind.i64, Sh.int IntKind.i64, Sh.int IntKind.i64, Sh.int IntKind.i64,
          Sh.int IntKind.i64, Sh.int IntKind.i64, Sh.any]
         u11.aggOf)).rop,
      AV.agg
       (shL
        [Sh.int IntKind.u8, Sh.int IntKind.i64, Sh.int IntKind.i64, Sh.int IntKind.i64, Sh.int IntKind.i64,
         Sh.int IntKind.i64, Sh.int IntKind.i64, Sh.any]
        u11.aggOf),
      AV.int IntKind.i64 n, v, AV.int IntKind.i64 (↑v.listOf.length : Int),
      AV.bool (decide (n ≥ (↑v.listOf.length : Int))), AV.bool true, AV.tuple [], AV.tuple [], AV.tuple [], AV.tuple [],
      AV.tuple [], AV.tuple [], AV.tuple [], AV.tuple [], AV.tuple [], AV.tuple [], AV.tuple [], AV.tuple [], AV.tuple [],
      AV.bool true, AV.bool true, AV.tuple [], AV.tuple [], AV.tuple [], AV.tuple [], AV.tuple [], AV.tuple [],
      AV.tuple [], AV.bool true, AV.bool true, AV.tuple [], AV.tuple [], AV.tuple [], AV.tuple [], AV.tuple [],
      AV.tuple [], AV.tuple [], AV.tuple [], AV.bool true, AV.bool true, AV.tuple [], AV.tuple [], AV.tuple [],
      AV.tuple [], AV.tuple [], AV.tuple [], AV.tuple [], AV.tuple [], AV.bool true, AV.bool true, AV.tuple [],
      AV.tuple [], AV.tuple [], AV.tuple [], AV.tuple [], AV.tuple [], AV.tuple [], AV.tuple [], AV.tuple [],
      AV.bool true, AV.bool true, AV.tuple [], AV.tuple [], AV.tuple [], AV.tuple [], AV.tuple [], AV.tuple [],
      AV.tuple [], AV.tuple [], AV.bool true, x119, x120, x121, x122, x123, x124, x125, x126, x127, x128, x129, x130,
      x131, x132, x133, x134, x135, x136, x137, x138, x139, x140, x141, x142, x143, x144, x145, x146, x147, x148, x149,
      x150, x151, x152, x153]
     {
      objs :=
       [AObj.cells [AV.int IntKind.i64 a0, AV.int IntKind.i64 a1, AV.int IntKind.i64 a2, AV.int IntKind.i64 a3, a4],
        AObj.cells
         [AV.int IntKind.u8 (hdV u11.aggOf).numOf, AV.int IntKind.i64 (hdV (tlV u11.aggOf)).numOf,
          AV.int IntKind.i64 (hdV (tlV (tlV u11.aggOf))).numOf,
          AV.int IntKind.i64 (hdV (tlV (tlV (tlV u11.aggOf)))).numOf,
          AV.int IntKind.i64 (hdV (tlV (tlV (tlV (tlV u11.aggOf))))).numOf,
          AV.int IntKind.i64 (hdV (tlV (tlV (tlV (tlV (tlV u11.aggOf)))))).numOf,
          AV.int IntKind.i64 (hdV (tlV (tlV (tlV (tlV (tlV (tlV u11.aggOf))))))).numOf,
          shS Sh.any (hdV (tlV (tlV (tlV (tlV (tlV (tlV (tlV u11.aggOf))))))))]],
      toks := [] })
                  (fun _ => br (AV.listN 7 v && (decide ((0 : Int) ≤ n) && decide (n < (↑v.listOf.length : Int))))
                   (fun _ => (match v.listOf[n.toNat]? with
                    | some u16 => br (u16.isAgg &&
     fitL
      [Sh.int IntKind.i64, Sh.int IntKind.i64, Sh.int IntKind.u8, Sh.int IntKind.i64, Sh.int IntKind.i64,
       Sh.int IntKind.i64, Sh.bool]
      u16.aggOf)
                     (fun _ => br (AV.listN 10 a4 && (decide ((0 : Int) ≤ i) && decide (i < (↑a4.listOf.length : Int))))
                      (fun _ => (match a4.listOf[i.toNat]? with
                       | some u19 => br (u19.isAgg &&
     fitL
      [Sh.int IntKind.i64, Sh.int IntKind.i64, Sh.int IntKind.i64, Sh.int IntKind.i64, Sh.any, Sh.any, Sh.int IntKind.i64,
       Sh.int IntKind.i64, Sh.bool, Sh.any]
      u19.aggOf)
                        (fun _ => br ((hdV u16.aggOf).numOf != (hdV u19.aggOf).numOf)
                         (fun _ => K Ex.ret
     [x0, l, AV.ptr 0 0, x3, AV.bool false, v, AV.int IntKind.i64 n, AV.int IntKind.i64 i, AV.int IntKind.i64 j,
      AV.ptr 1 0, x10, x11, x12, x13, x14, x15, x16, x17, x18, x19, x20, x21, x22, x23, x24, x25, x26, x27, x28, x29,
      AV.int IntKind.i64 j, AV.ptr 0 4, a4, AV.int IntKind.i64 i,
      (AV.agg
        (shL
         [Sh.int IntKind.i64, Sh.int IntKind.i64, Sh.int IntKind.i64, Sh.int IntKind.i64, Sh.any, Sh.any,
          Sh.int IntKind.i64, Sh.int IntKind.i64, Sh.bool, Sh.any]
         u1.aggOf)).rop,
      (shS Sh.any (hdV (tlV (tlV (tlV (tlV (tlV (tlV (tlV (tlV (tlV u1.aggOf))))))))))).rop,
      shS Sh.any (hdV (tlV (tlV (tlV (tlV (tlV (tlV (tlV (tlV (tlV u1.aggOf)))))))))),
      AV.int IntKind.i64
       (↑(shS Sh.any (hdV (tlV (tlV (tlV (tlV (tlV (tlV (tlV (tlV (tlV u1.aggOf))))))))))).listOf.length : Int),
      AV.bool
       (decide
        (j < (↑(shS Sh.any (hdV (tlV (tlV (tlV (tlV (tlV (tlV (tlV (tlV (tlV u1.aggOf))))))))))).listOf.length : Int))),
      x39, x40, AV.ptr 0 4, a4, AV.int IntKind.i64 i,
      (AV.agg
        (shL
         [Sh.int IntKind.i64, Sh.int IntKind.i64, Sh.int IntKind.i64, Sh.int IntKind.i64, Sh.any, Sh.any,
          Sh.int IntKind.i64, Sh.int IntKind.i64, Sh.bool, Sh.any]
         u7.aggOf)).rop,
      (shS Sh.any (hdV (tlV (tlV (tlV (tlV (tlV (tlV (tlV (tlV (tlV u7.aggOf))))))))))).rop,
      shS Sh.any (hdV (tlV (tlV (tlV (tlV (tlV (tlV (tlV (tlV (tlV u7.aggOf)))))))))), AV.int IntKind.i64 j,
      (AV.agg
        (shL
         [Sh.int IntKind.u8, Sh.int IntKind.i64, Sh.int IntKind.i64, Sh.int IntKind.i64, Sh.int IntKind.i64,
          Sh.int IntKind.i64, Sh.int IntKind.i64, Sh.any]
         u11.aggOf)).rop,
      AV.agg
       (shL
        [Sh.int IntKind.u8, Sh.int IntKind.i64, Sh.int IntKind.i64, Sh.int IntKind.i64, Sh.int IntKind.i64,
         Sh.int IntKind.i64, Sh.int IntKind.i64, Sh.any]
        u11.aggOf),
      AV.int IntKind.i64 n, v, AV.int IntKind.i64 (↑v.listOf.length : Int),
      AV.bool (decide (n ≥ (↑v.listOf.length : Int))), AV.bool false, v, AV.int IntKind.i64 n,
      (AV.agg
        (shL
         [Sh.int IntKind.i64, Sh.int IntKind.i64, Sh.int IntKind.u8, Sh.int IntKind.i64, Sh.int IntKind.i64,
          Sh.int IntKind.i64, Sh.bool]
         u16.aggOf)).rop,
      (AV.int IntKind.i64 (hdV u16.aggOf).numOf).rop, AV.int IntKind.i64 (hdV u16.aggOf).numOf, AV.ptr 0 4, a4,
      AV.int IntKind.i64 i,
      (AV.agg
        (shL
         [Sh.int IntKind.i64, Sh.int IntKind.i64, Sh.int IntKind.i64, Sh.int IntKind.i64, Sh.any, Sh.any,
          Sh.int IntKind.i64, Sh.int IntKind.i64, Sh.bool, Sh.any]
         u19.aggOf)).rop,
      (AV.agg
        [AV.int IntKind.i64 (hdV u19.aggOf).numOf, AV.int IntKind.i64 (hdV (tlV u19.aggOf)).numOf,
         AV.int IntKind.i64 (hdV (tlV (tlV u19.aggOf))).numOf,
         AV.int IntKind.i64 (hdV (tlV (tlV (tlV u19.aggOf)))).numOf,
         shS Sh.any (hdV (tlV (tlV (tlV (tlV u19.aggOf))))),
         shS Sh.any (hdV (tlV (tlV (tlV (tlV (tlV u19.aggOf))))))]).rop,
      (AV.int IntKind.i64 (hdV u19.aggOf).numOf).rop, AV.int IntKind.i64 (hdV u19.aggOf).numOf,
      AV.bool ((hdV u16.aggOf).numOf != (hdV u19.aggOf).numOf), AV.bool ((hdV u16.aggOf).numOf != (hdV u19.aggOf).numOf),
      AV.bool true, AV.tuple [], AV.tuple [], AV.tuple [], AV.tuple [], AV.tuple [], AV.tuple [], AV.tuple [],
      AV.bool true, AV.bool true, AV.tuple [], AV.tuple [], AV.tuple [], AV.tuple [], AV.tuple [], AV.tuple [],
      AV.tuple [], AV.tuple [], AV.bool true, AV.bool true, AV.tuple [], AV.tuple [], AV.tuple [], AV.tuple [],
      AV.tuple [], AV.tuple [], AV.tuple [], AV.tuple [], AV.bool true, AV.bool true, AV.tuple [], AV.tuple [],
      AV.tuple [], AV.tuple [], AV.tuple [], AV.tuple [], AV.tuple [], AV.tuple [], AV.tuple [], AV.bool true,
      AV.bool true, AV.tuple [], AV.tuple [], AV.tuple [], AV.tuple [], AV.tuple [], AV.tuple [], AV.tuple [],
      AV.tuple [], AV.bool true, x119, x120, x121, x122, x123, x124, x125, x126, x127, x128, x129, x130, x131, x132, x133,
      x134, x135, x136, x137, x138, x139, x140, x141, x142, x143, x144, x145, x146, x147, x148, x149, x150, x151, x152,
      x153]
     {
      objs :=
       [AObj.cells [AV.int IntKind.i64 a0, AV.int IntKind.i64 a1, AV.int IntKind.i64 a2, AV.int IntKind.i64 a3, a4],
        AObj.cells
         [AV.int IntKind.u8 (hdV u11.aggOf).numOf, AV.int IntKind.i64 (hdV (tlV u11.aggOf)).numOf,
          AV.int IntKind.i64 (hdV (tlV (tlV u11.aggOf))).numOf,
          AV.int IntKind.i64 (hdV (tlV (tlV (tlV u11.aggOf)))).numOf,
          AV.int IntKind.i64 (hdV (tlV (tlV (tlV (tlV u11.aggOf))))).numOf,
          AV.int IntKind.i64 (hdV (tlV (tlV (tlV (tlV (tlV u11.aggOf)))))).numOf,
          AV.int IntKind.i64 (hdV (tlV (tlV (tlV (tlV (tlV (tlV u11.aggOf))))))).numOf,
          shS Sh.any (hdV (tlV (tlV (tlV (tlV (tlV (tlV (tlV u11.aggOf))))))))]],
      toks := [] })
                         (fun _ => br (AV.listN 7 v && (decide ((0 : Int) ≤ n) && decide (n < (↑v.listOf.length : Int))))
                          (fun _ => (match v.listOf[n.toNat]? with
                           | some u23 => br (u23.isAgg &&
     fitL
      [Sh.int IntKind.i64, Sh.int IntKind.i64, Sh.int IntKind.u8, Sh.int IntKind.i64, Sh.int IntKind.i64,
       Sh.int IntKind.i64, Sh.bool]
      u23.aggOf)
                            (fun _ => br ((hdV (tlV u23.aggOf)).numOf != j)
                             (fun _ => K Ex.ret
     [x0, l, AV.ptr 0 0, x3, AV.bool false, v, AV.int IntKind.i64 n, AV.int IntKind.i64 i, AV.int IntKind.i64 j,
      AV.ptr 1 0, x10, x11, x12, x13, x14, x15, x16, x17, x18, x19, x20, x21, x22, x23, x24, x25, x26, x27, x28, x29,
      AV.int IntKind.i64 j, AV.ptr 0 4, a4, AV.int IntKind.i64 i,
      (AV.agg
        (shL
         [Sh.int IntKind.i64, Sh.int IntKind.i64, Sh.int IntKind.i64, Sh.int IntKind.i64, Sh.any, Sh.any,
          Sh.int IntKind.i64, Sh.int IntKind.i64, Sh.bool, Sh.any]
         u1.aggOf)).rop,
      (shS Sh.any (hdV (tlV (tlV (tlV (tlV (tlV (tlV (tlV (tlV (tlV u1.aggOf))))))))))).rop,
      shS Sh.any (hdV (tlV (tlV (tlV (tlV (tlV (tlV (tlV (tlV (tlV u1.aggOf)))))))))),
      AV.int IntKind.i64
       (↑(shS Sh.any (hdV (tlV (tlV (tlV (tlV (tlV (tlV (tlV (tlV (tlV u1.aggOf))))))))))).listOf.length : Int),
      AV.bool
       (decide
        (j < (↑(shS Sh.any (hdV (tlV (tlV (tlV (tlV (tlV (tlV (tlV (tlV (tlV u1.aggOf))))))))))).listOf.length : Int))),
      x39, x40, AV.ptr 0 4, a4, AV.int IntKind.i64 i,
      (AV.agg
        (shL
         [Sh.int IntKind.i64, Sh.int IntKind.i64, Sh.int IntKind.i64, Sh.int IntKind.i64, Sh.any, Sh.any,
          Sh.int IntKind.i64, Sh.int IntKind.i64, Sh.bool, Sh.any]
         u7.aggOf)).rop,
      (shS Sh.any (hdV (tlV (tlV (tlV (tlV (tlV (tlV (tlV (tlV (tlV u7.aggOf))))))))))).rop,
      shS Sh.any (hdV (tlV (tlV (tlV (tlV (tlV (tlV (tlV (tlV (tlV u7.aggOf)))))))))), AV.int IntKind.i64 j,
      (AV.agg
        (shL
         [Sh.int IntKind.u8, Sh.int IntKind.i64, Sh.int IntKind.i64, Sh.int IntKind.i64, Sh.int IntKind.i64,
          Sh.int IntKind.i64, Sh.int IntKind.i64, Sh.any]
         u11.aggOf)).rop,
      AV.agg
       (shL
        [Sh.int IntKind.u8, Sh.int IntKind.i64, Sh.int IntKind.i64, Sh.int IntKind.i64, Sh.int IntKind.i64,
         Sh.int IntKind.i64, Sh.int IntKind.i64, Sh.any]
        u11.aggOf),
      AV.int IntKind.i64 n, v, AV.int IntKind.i64 (↑v.listOf.length : Int),
      AV.bool (decide (n ≥ (↑v.listOf.length : Int))), AV.bool false, v, AV.int IntKind.i64 n,
      (AV.agg
        (shL
         [Sh.int IntKind.i64, Sh.int IntKind.i64, Sh.int IntKind.u8, Sh.int IntKind.i64, Sh.int IntKind.i64,
          Sh.int IntKind.i64, Sh.bool]
         u16.aggOf)).rop,
      (AV.int IntKind.i64 (hdV u16.aggOf).numOf).rop, AV.int IntKind.i64 (hdV u16.aggOf).numOf, AV.ptr 0 4, a4,
      AV.int IntKind.i64 i,
      (AV.agg
        (shL
         [Sh.int IntKind.i64, Sh.int IntKind.i64, Sh.int IntKind.i64, Sh.int IntKind.i64, Sh.any, Sh.any,
          Sh.int IntKind.i64, Sh.int IntKind.i64, Sh.bool, Sh.any]
         u19.aggOf)).rop,
      (AV.agg
        [AV.int IntKind.i64 (hdV u19.aggOf).numOf, AV.int IntKind.i64 (hdV (tlV u19.aggOf)).numOf,
         AV.int IntKind.i64 (hdV (tlV (tlV u19.aggOf))).numOf,
         AV.int IntKind.i64 (hdV (tlV (tlV (tlV u19.aggOf)))).numOf,
         shS Sh.any (hdV (tlV (tlV (tlV (tlV u19.aggOf))))),
         shS Sh.any (hdV (tlV (tlV (tlV (tlV (tlV u19.aggOf))))))]).rop,
      (AV.int IntKind.i64 (hdV u19.aggOf).numOf).rop, AV.int IntKind.i64 (hdV u19.aggOf).numOf,
      AV.bool ((hdV u16.aggOf).numOf != (hdV u19.aggOf).numOf), AV.bool ((hdV u16.aggOf).numOf != (hdV u19.aggOf).numOf),
      AV.bool false, v, AV.int IntKind.i64 n,
      (AV.agg
        (shL
         [Sh.int IntKind.i64, Sh.int IntKind.i64, Sh.int IntKind.u8, Sh.int IntKind.i64, Sh.int IntKind.i64,
          Sh.int IntKind.i64, Sh.bool]
         u23.aggOf)).rop,
      (AV.int IntKind.i64 (hdV (tlV u23.aggOf)).numOf).rop, AV.int IntKind.i64 (hdV (tlV u23.aggOf)).numOf,
      AV.int IntKind.i64 j, AV.bool ((hdV (tlV u23.aggOf)).numOf != j), AV.bool ((hdV (tlV u23.aggOf)).numOf != j),
      AV.bool true, AV.tuple [], AV.tuple [], AV.tuple [], AV.tuple [], AV.tuple [], AV.tuple [], AV.tuple [],
      AV.tuple [], AV.bool true, AV.bool true, AV.tuple [], AV.tuple [], AV.tuple [], AV.tuple [], AV.tuple [],
      AV.tuple [], AV.tuple [], AV.tuple [], AV.bool true, AV.bool true, AV.tuple [], AV.tuple [], AV.tuple [],
      AV.tuple [], AV.tuple [], AV.tuple [], AV.tuple [], AV.tuple [], AV.tuple [], AV.bool true, AV.bool true,
      AV.tuple [], AV.tuple [], AV.tuple [], AV.tuple [], AV.tuple [], AV.tuple [], AV.tuple [], AV.tuple [],
      AV.bool true, x119, x120, x121, x122, x123, x124, x125, x126, x127, x128, x129, x130, x131, x132, x133, x134, x135,
      x136, x137, x138, x139, x140, x141, x142, x143, x144, x145, x146, x147, x148, x149, x150, x151, x152, x153]
     {
      objs :=
       [AObj.cells [AV.int IntKind.i64 a0, AV.int IntKind.i64 a1, AV.int IntKind.i64 a2, AV.int IntKind.i64 a3, a4],
        AObj.cells
         [AV.int IntKind.u8 (hdV u11.aggOf).numOf, AV.int IntKind.i64 (hdV (tlV u11.aggOf)).numOf,
          AV.int IntKind.i64 (hdV (tlV (tlV u11.aggOf))).numOf,
          AV.int IntKind.i64 (hdV (tlV (tlV (tlV u11.aggOf)))).numOf,
          AV.int IntKind.i64 (hdV (tlV (tlV (tlV (tlV u11.aggOf))))).numOf,
          AV.int IntKind.i64 (hdV (tlV (tlV (tlV (tlV (tlV u11.aggOf)))))).numOf,
          AV.int IntKind.i64 (hdV (tlV (tlV (tlV (tlV (tlV (tlV u11.aggOf))))))).numOf,
          shS Sh.any (hdV (tlV (tlV (tlV (tlV (tlV (tlV (tlV u11.aggOf))))))))]],
      toks := [] })
                             (fun _ => br (AV.listN 7 v && (decide ((0 : Int) ≤ n) && decide (n < (↑v.listOf.length : Int))))
                              (fun _ => (match v.listOf[n.toNat]? with
                               | some u27 => br (u27.isAgg &&
     fitL
      [Sh.int IntKind.i64, Sh.int IntKind.i64, Sh.int IntKind.u8, Sh.int IntKind.i64, Sh.int IntKind.i64,
       Sh.int IntKind.i64, Sh.bool]
      u27.aggOf)
                                (fun _ => br ((hdV (tlV (tlV u27.aggOf))).numOf != (hdV u11.aggOf).numOf)
                                 (fun _ => K Ex.ret
     [x0, l, AV.ptr 0 0, x3, AV.bool false, v, AV.int IntKind.i64 n, AV.int IntKind.i64 i, AV.int IntKind.i64 j,
      AV.ptr 1 0, x10, x11, x12, x13, x14, x15, x16, x17, x18, x19, x20, x21, x22, x23, x24, x25, x26, x27, x28, x29,
      AV.int IntKind.i64 j, AV.ptr 0 4, a4, AV.int IntKind.i64 i,
      (AV.agg
        (shL
         [Sh.int IntKind.i64, Sh.int IntKind.i64, Sh.int IntKind.i64, Sh.int IntKind.i64, Sh.any, Sh.any,
          Sh.int IntKind.i64, Sh.int IntKind.i64, Sh.bool, Sh.any]
         u1.aggOf)).rop,
      (shS Sh.any (hdV (tlV (tlV (tlV (tlV (tlV (tlV (tlV (tlV (tlV u1.aggOf))))))))))).rop,
      shS Sh.any (hdV (tlV (tlV (tlV (tlV (tlV (tlV (tlV (tlV (tlV u1.aggOf)))))))))),
      AV.int IntKind.i64
       (↑(shS Sh.any (hdV (tlV (tlV (tlV (tlV (tlV (tlV (tlV (tlV (tlV u1.aggOf))))))))))).listOf.length : Int),
      AV.bool
       (decide
        (j < (↑(shS Sh.any (hdV (tlV (tlV (tlV (tlV (tlV (tlV (tlV (tlV (tlV u1.aggOf))))))))))).listOf.length : Int))),
      x39, x40, AV.ptr 0 4, a4, AV.int IntKind.i64 i,
      (AV.agg
        (shL
         [Sh.int IntKind.i64, Sh.int IntKind.i64, Sh.int IntKind.i64, Sh.int IntKind.i64, Sh.any, Sh.any,
          Sh.int IntKind.i64, Sh.int IntKind.i64, Sh.bool, Sh.any]
         u7.aggOf)).rop,
      (shS Sh.any (hdV (tlV (tlV (tlV (tlV (tlV (tlV (tlV (tlV (tlV u7.aggOf))))))))))).rop,
      shS Sh.any (hdV (tlV (tlV (tlV (tlV (tlV (tlV (tlV (tlV (tlV u7.aggOf)))))))))), AV.int IntKind.i64 j,
      (AV.agg
        (shL
         [Sh.int IntKind.u8, Sh.int IntKind.i64, Sh.int IntKind.i64, Sh.int IntKind.i64, Sh.int IntKind.i64,
          Sh.int IntKind.i64, Sh.int IntKind.i64, Sh.any]
         u11.aggOf)).rop,
      AV.agg
       (shL
        [Sh.int IntKind.u8, Sh.int IntKind.i64, Sh.int IntKind.i64, Sh.int IntKind.i64, Sh.int IntKind.i64,
         Sh.int IntKind.i64, Sh.int IntKind.i64, Sh.any]
        u11.aggOf),
      AV.int IntKind.i64 n, v, AV.int IntKind.i64 (↑v.listOf.length : Int),
      AV.bool (decide (n ≥ (↑v.listOf.length : Int))), AV.bool false, v, AV.int IntKind.i64 n,
      (AV.agg
        (shL
         [Sh.int IntKind.i64, Sh.int IntKind.i64, Sh.int IntKind.u8, Sh.int IntKind.i64, Sh.int IntKind.i64,
          Sh.int IntKind.i64, Sh.bool]
         u16.aggOf)).rop,
      (AV.int IntKind.i64 (hdV u16.aggOf).numOf).rop, AV.int IntKind.i64 (hdV u16.aggOf).numOf, AV.ptr 0 4, a4,
      AV.int IntKind.i64 i,
      (AV.agg
        (shL
         [Sh.int IntKind.i64, Sh.int IntKind.i64, Sh.int IntKind.i64, Sh.int IntKind.i64, Sh.any, Sh.any,
          Sh.int IntKind.i64, Sh.int IntKind.i64, Sh.bool, Sh.any]
         u19.aggOf)).rop,
      (AV.agg
        [AV.int IntKind.i64 (hdV u19.aggOf).numOf, AV.int IntKind.i64 (hdV (tlV u19.aggOf)).numOf,
         AV.int IntKind.i64 (hdV (tlV (tlV u19.aggOf))).numOf,
         AV.int IntKind.i64 (hdV (tlV (tlV (tlV u19.aggOf)))).numOf,
         shS Sh.any (hdV (tlV (tlV (tlV (tlV u19.aggOf))))),
         shS Sh.any (hdV (tlV (tlV (tlV (tlV (tlV u19.aggOf))))))]).rop,
      (AV.int IntKind.i64 (hdV u19.aggOf).numOf).rop, AV.int IntKind.i64 (hdV u19.aggOf).numOf,
      AV.bool ((hdV u16.aggOf).numOf != (hdV u19.aggOf).numOf), AV.bool ((hdV u16.aggOf).numOf != (hdV u19.aggOf).numOf),
      AV.bool false, v, AV.int IntKind.i64 n,
      (AV.agg
        (shL
         [Sh.int IntKind.i64, Sh.int IntKind.i64, Sh.int IntKind.u8, Sh.int IntKind.i64, Sh.int IntKind.i64,
          Sh.int IntKind.i64, Sh.bool]
         u23.aggOf)).rop,
      (AV.int IntKind.i64 (hdV (tlV u23.aggOf)).numOf).rop, AV.int IntKind.i64 (hdV (tlV u23.aggOf)).numOf,
      AV.int IntKind.i64 j, AV.bool ((hdV (tlV u23.aggOf)).numOf != j), AV.bool ((hdV (tlV u23.aggOf)).numOf != j),
      AV.bool false, v, AV.int IntKind.i64 n,
      (AV.agg
        (shL
         [Sh.int IntKind.i64, Sh.int IntKind.i64, Sh.int IntKind.u8, Sh.int IntKind.i64, Sh.int IntKind.i64,
          Sh.int IntKind.i64, Sh.bool]
         u27.aggOf)).rop,
      (AV.int IntKind.u8 (hdV (tlV (tlV u27.aggOf))).numOf).rop, AV.int IntKind.u8 (hdV (tlV (tlV u27.aggOf))).numOf,
      AV.ptr 1 0, AV.int IntKind.u8 (hdV u11.aggOf).numOf,
      AV.bool ((hdV (tlV (tlV u27.aggOf))).numOf != (hdV u11.aggOf).numOf),
      AV.bool ((hdV (tlV (tlV u27.aggOf))).numOf != (hdV u11.aggOf).numOf), AV.bool true, AV.tuple [], AV.tuple [],
      AV.tuple [], AV.tuple [], AV.tuple [], AV.tuple [], AV.tuple [], AV.tuple [], AV.bool true, AV.bool true,
      AV.tuple [], AV.tuple [], AV.tuple [], AV.tuple [], AV.tuple [], AV.tuple [], AV.tuple [], AV.tuple [], AV.tuple [],
      AV.bool true, AV.bool true, AV.tuple [], AV.tuple [], AV.tuple [], AV.tuple [], AV.tuple [], AV.tuple [],
      AV.tuple [], AV.tuple [], AV.bool true, x119, x120, x121, x122, x123, x124, x125, x126, x127, x128, x129, x130,
      x131, x132, x133, x134, x135, x136, x137, x138, x139, x140, x141, x142, x143, x144, x145, x146, x147, x148, x149,
      x150, x151, x152, x153]
     {
      objs :=
       [AObj.cells [AV.int IntKind.i64 a0, AV.int IntKind.i64 a1, AV.int IntKind.i64 a2, AV.int IntKind.i64 a3, a4],
        AObj.cells
         [AV.int IntKind.u8 (hdV u11.aggOf).numOf, AV.int IntKind.i64 (hdV (tlV u11.aggOf)).numOf,
          AV.int IntKind.i64 (hdV (tlV (tlV u11.aggOf))).numOf,
          AV.int IntKind.i64 (hdV (tlV (tlV (tlV u11.aggOf)))).numOf,
          AV.int IntKind.i64 (hdV (tlV (tlV (tlV (tlV u11.aggOf))))).numOf,
          AV.int IntKind.i64 (hdV (tlV (tlV (tlV (tlV (tlV u11.aggOf)))))).numOf,
          AV.int IntKind.i64 (hdV (tlV (tlV (tlV (tlV (tlV (tlV u11.aggOf))))))).numOf,
          shS Sh.any (hdV (tlV (tlV (tlV (tlV (tlV (tlV (tlV u11.aggOf))))))))]],
      toks := [] })
                                 (fun _ => br (AV.listN 7 v && (decide ((0 : Int) ≤ n) && decide (n < (↑v.listOf.length : Int))))
                                  (fun _ => (match v.listOf[n.toNat]? with
                                   | some u31 => br (u31.isAgg &&
     fitL
      [Sh.int IntKind.i64, Sh.int IntKind.i64, Sh.int IntKind.u8, Sh.int IntKind.i64, Sh.int IntKind.i64,
       Sh.int IntKind.i64, Sh.bool]
      u31.aggOf)
                                    (fun _ => br ((hdV (tlV (tlV (tlV u31.aggOf)))).numOf != (hdV (tlV u11.aggOf)).numOf)
                                     (fun _ => K Ex.ret
     [x0, l, AV.ptr 0 0, x3, AV.bool false, v, AV.int IntKind.i64 n, AV.int IntKind.i64 i, AV.int IntKind.i64 j,
      AV.ptr 1 0, x10, x11, x12, x13, x14, x15, x16, x17, x18, x19, x20, x21, x22, x23, x24, x25, x26, x27, x28, x29,
      AV.int IntKind.i64 j, AV.ptr 0 4, a4, AV.int IntKind.i64 i,
      (AV.agg
        (shL
         [Sh.int IntKind.i64, Sh.int IntKind.i64, Sh.int IntKind.i64, Sh.int IntKind.i64, Sh.any, Sh.any,
          Sh.int IntKind.i64, Sh.int IntKind.i64, Sh.bool, Sh.any]
         u1.aggOf)).rop,
      (shS Sh.any (hdV (tlV (tlV (tlV (tlV (tlV (tlV (tlV (tlV (tlV u1.aggOf))))))))))).rop,
      shS Sh.any (hdV (tlV (tlV (tlV (tlV (tlV (tlV (tlV (tlV (tlV u1.aggOf)))))))))),
      AV.int IntKind.i64
       (↑(shS Sh.any (hdV (tlV (tlV (tlV (tlV (tlV (tlV (tlV (tlV (tlV u1.aggOf))))))))))).listOf.length : Int),
      AV.bool
       (decide
        (j < (↑(shS Sh.any (hdV (tlV (tlV (tlV (tlV (tlV (tlV (tlV (tlV (tlV u1.aggOf))))))))))).listOf.length : Int))),
      x39, x40, AV.ptr 0 4, a4, AV.int IntKind.i64 i,
      (AV.agg
        (shL
         [Sh.int IntKind.i64, Sh.int IntKind.i64, Sh.int IntKind.i64, Sh.int IntKind.i64, Sh.any, Sh.any,
          Sh.int IntKind.i64, Sh.int IntKind.i64, Sh.bool, Sh.any]
         u7.aggOf)).rop,
      (shS Sh.any (hdV (tlV (tlV (tlV (tlV (tlV (tlV (tlV (tlV (tlV u7.aggOf))))))))))).rop,
      shS Sh.any (hdV (tlV (tlV (tlV (tlV (tlV (tlV (tlV (tlV (tlV u7.aggOf)))))))))), AV.int IntKind.i64 j,
      (AV.agg
        (shL
         [Sh.int IntKind.u8, Sh.int IntKind.i64, Sh.int IntKind.i64, Sh.int IntKind.i64, Sh.int IntKind.i64,
          Sh.int IntKind.i64, Sh.int IntKind.i64, Sh.any]
         u11.aggOf)).rop,
      AV.agg
       (shL
        [Sh.int IntKind.u8, Sh.int IntKind.i64, Sh.int IntKind.i64, Sh.int IntKind.i64, Sh.int IntKind.i64,
         Sh.int IntKind.i64, Sh.int IntKind.i64, Sh.any]
        u11.aggOf),
      AV.int IntKind.i64 n, v, AV.int IntKind.i64 (↑v.listOf.length : Int),
      AV.bool (decide (n ≥ (↑v.listOf.length : Int))), AV.bool false, v, AV.int IntKind.i64 n,
      (AV.agg
        (shL
         [Sh.int IntKind.i64, Sh.int IntKind.i64, Sh.int IntKind.u8, Sh.int IntKind.i64, Sh.int IntKind.i64,
          Sh.int IntKind.i64, Sh.bool]
         u16.aggOf)).rop,
      (AV.int IntKind.i64 (hdV u16.aggOf).numOf).rop, AV.int IntKind.i64 (hdV u16.aggOf).numOf, AV.ptr 0 4, a4,
      AV.int IntKind.i64 i,
      (AV.agg
        (shL
         [Sh.int IntKind.i64, Sh.int IntKind.i64, Sh.int IntKind.i64, Sh.int IntKind.i64, Sh.any, Sh.any,
          Sh.int IntKind.i64, Sh.int IntKind.i64, Sh.bool, Sh.any]
         u19.aggOf)).rop,
      (AV.agg
        [AV.int IntKind.i64 (hdV u19.aggOf).numOf, AV.int IntKind.i64 (hdV (tlV u19.aggOf)).numOf,
         AV.int IntKind.i64 (hdV (tlV (tlV u19.aggOf))).numOf,
         AV.int IntKind.i64 (hdV (tlV (tlV (tlV u19.aggOf)))).numOf,
         shS Sh.any (hdV (tlV (tlV (tlV (tlV u19.aggOf))))),
         shS Sh.any (hdV (tlV (tlV (tlV (tlV (tlV u19.aggOf))))))]).rop,
      (AV.int IntKind.i64 (hdV u19.aggOf).numOf).rop, AV.int IntKind.i64 (hdV u19.aggOf).numOf,
      AV.bool ((hdV u16.aggOf).numOf != (hdV u19.aggOf).numOf), AV.bool ((hdV u16.aggOf).numOf != (hdV u19.aggOf).numOf),
      AV.bool false, v, AV.int IntKind.i64 n,
      (AV.agg
        (shL
         [Sh.int IntKind.i64, Sh.int IntKind.i64, Sh.int IntKind.u8, Sh.int IntKind.i64, Sh.int IntKind.i64,
          Sh.int IntKind.i64, Sh.bool]
         u23.aggOf)).rop,
      (AV.int IntKind.i64 (hdV (tlV u23.aggOf)).numOf).rop, AV.int IntKind.i64 (hdV (tlV u23.aggOf)).numOf,
      AV.int IntKind.i64 j, AV.bool ((hdV (tlV u23.aggOf)).numOf != j), AV.bool ((hdV (tlV u23.aggOf)).numOf != j),
      AV.bool false, v, AV.int IntKind.i64 n,
      (AV.agg
        (shL
         [Sh.int IntKind.i64, Sh.int IntKind.i64, Sh.int IntKind.u8, Sh.int IntKind.i64, Sh.int IntKind.i64,
          Sh.int IntKind.i64, Sh.bool]
         u27.aggOf)).rop,
      (AV.int IntKind.u8 (hdV (tlV (tlV u27.aggOf))).numOf).rop, AV.int IntKind.u8 (hdV (tlV (tlV u27.aggOf))).numOf,
      AV.ptr 1 0, AV.int IntKind.u8 (hdV u11.aggOf).numOf,
      AV.bool ((hdV (tlV (tlV u27.aggOf))).numOf != (hdV u11.aggOf).numOf),
      AV.bool ((hdV (tlV (tlV u27.aggOf))).numOf != (hdV u11.aggOf).numOf), AV.bool false, v, AV.int IntKind.i64 n,
      (AV.agg
        (shL
         [Sh.int IntKind.i64, Sh.int IntKind.i64, Sh.int IntKind.u8, Sh.int IntKind.i64, Sh.int IntKind.i64,
          Sh.int IntKind.i64, Sh.bool]
         u31.aggOf)).rop,
      (AV.int IntKind.i64 (hdV (tlV (tlV (tlV u31.aggOf)))).numOf).rop,
      AV.int IntKind.i64 (hdV (tlV (tlV (tlV u31.aggOf)))).numOf, AV.ptr 1 1,
      AV.int IntKind.i64 (hdV (tlV u11.aggOf)).numOf,
      AV.bool ((hdV (tlV (tlV (tlV u31.aggOf)))).numOf != (hdV (tlV u11.aggOf)).numOf),
      AV.bool ((hdV (tlV (tlV (tlV u31.aggOf)))).numOf != (hdV (tlV u11.aggOf)).numOf), AV.bool true, AV.tuple [],
      AV.tuple [], AV.tuple [], AV.tuple [], AV.tuple [], AV.tuple [], AV.tuple [], AV.tuple [], AV.tuple [],
      AV.bool true, AV.bool true, AV.tuple [], AV.tuple [], AV.tuple [], AV.tuple [], AV.tuple [], AV.tuple [],
      AV.tuple [], AV.tuple [], AV.bool true, x119, x120, x121, x122, x123, x124, x125, x126, x127, x128, x129, x130,
      x131, x132, x133, x134, x135, x136, x137, x138, x139, x140, x141, x142, x143, x144, x145, x146, x147, x148, x149,
      x150, x151, x152, x153]
     {
      objs :=
       [AObj.cells [AV.int IntKind.i64 a0, AV.int IntKind.i64 a1, AV.int IntKind.i64 a2, AV.int IntKind.i64 a3, a4],
        AObj.cells
         [AV.int IntKind.u8 (hdV u11.aggOf).numOf, AV.int IntKind.i64 (hdV (tlV u11.aggOf)).numOf,
          AV.int IntKind.i64 (hdV (tlV (tlV u11.aggOf))).numOf,
          AV.int IntKind.i64 (hdV (tlV (tlV (tlV u11.aggOf)))).numOf,
          AV.int IntKind.i64 (hdV (tlV (tlV (tlV (tlV u11.aggOf))))).numOf,
          AV.int IntKind.i64 (hdV (tlV (tlV (tlV (tlV (tlV u11.aggOf)))))).numOf,
          AV.int IntKind.i64 (hdV (tlV (tlV (tlV (tlV (tlV (tlV u11.aggOf))))))).numOf,
          shS Sh.any (hdV (tlV (tlV (tlV (tlV (tlV (tlV (tlV u11.aggOf))))))))]],
      toks := [] })
                                     (fun _ => br (AV.listN 7 v && (decide ((0 : Int) ≤ n) && decide (n < (↑v.listOf.length : Int))))
                                      (fun _ => (match v.listOf[n.toNat]? with
                                       | some u35 => br (u35.isAgg &&
     fitL
      [Sh.int IntKind.i64, Sh.int IntKind.i64, Sh.int IntKind.u8, Sh.int IntKind.i64, Sh.int IntKind.i64,
       Sh.int IntKind.i64, Sh.bool]
      u35.aggOf)
                                        (fun _ => br (AV.listN 1 (shS Sh.any (hdV (tlV (tlV (tlV (tlV (tlV (tlV (tlV u11.aggOf))))))))))
                                         (fun _ => br ((hdV (tlV (tlV (tlV (tlV u35.aggOf))))).numOf !=
     (↑(shS Sh.any (hdV (tlV (tlV (tlV (tlV (tlV (tlV (tlV u11.aggOf))))))))).listOf.length : Int))
                                          (fun _ => K Ex.ret
     [x0, l, AV.ptr 0 0, x3, AV.bool false, v, AV.int IntKind.i64 n, AV.int IntKind.i64 i, AV.int IntKind.i64 j,
      AV.ptr 1 0, x10, x11, x12, x13, x14, x15, x16, x17, x18, x19, x20, x21, x22, x23, x24, x25, x26, x27, x28, x29,
      AV.int IntKind.i64 j, AV.ptr 0 4, a4, AV.int IntKind.i64 i,
      (AV.agg
        (shL
         [Sh.int IntKind.i64, Sh.int IntKind.i64, Sh.int IntKind.i64, Sh.int IntKind.i64, Sh.any, Sh.any,
          Sh.int IntKind.i64, Sh.int IntKind.i64, Sh.bool, Sh.any]
         u1.aggOf)).rop,
      (shS Sh.any (hdV (tlV (tlV (tlV (tlV (tlV (tlV (tlV (tlV (tlV u1.aggOf))))))))))).rop,
      shS Sh.any (hdV (tlV (tlV (tlV (tlV (tlV (tlV (tlV (tlV (tlV u1.aggOf)))))))))),
      AV.int IntKind.i64
       (↑(shS Sh.any (hdV (tlV (tlV (tlV (tlV (tlV (tlV (tlV (tlV (tlV u1.aggOf))))))))))).listOf.length : Int),
      AV.bool
       (decide
        (j < (↑(shS Sh.any (hdV (tlV (tlV (tlV (tlV (tlV (tlV (tlV (tlV (tlV u1.aggOf))))))))))).listOf.length : Int))),
      x39, x40, AV.ptr 0 4, a4, AV.int IntKind.i64 i,
      (AV.agg
        (shL
         [Sh.int IntKind.i64, Sh.int IntKind.i64, Sh.int IntKind.i64, Sh.int IntKind.i64, Sh.any, Sh.any,
          Sh.int IntKind.i64, Sh.int IntKind.i64, Sh.bool, Sh.any]
         u7.aggOf)).rop,
      (shS Sh.any (hdV (tlV (tlV (tlV (tlV (tlV (tlV (tlV (tlV (tlV u7.aggOf))))))))))).rop,
      shS Sh.any (hdV (tlV (tlV (tlV (tlV (tlV (tlV (tlV (tlV (tlV u7.aggOf)))))))))), AV.int IntKind.i64 j,
      (AV.agg
        (shL
         [Sh.int IntKind.u8, Sh.int IntKind.i64, Sh.int IntKind.i64, Sh.int IntKind.i64, Sh.int IntKind.i64,
          Sh.int IntKind.i64, Sh.int IntKind.i64, Sh.any]
         u11.aggOf)).rop,
      AV.agg
       (shL
        [Sh.int IntKind.u8, Sh.int IntKind.i64, Sh.int IntKind.i64, Sh.int IntKind.i64, Sh.int IntKind.i64,
         Sh.int IntKind.i64, Sh.int IntKind.i64, Sh.any]
        u11.aggOf),
      AV.int IntKind.i64 n, v, AV.int IntKind.i64 (↑v.listOf.length : Int),
      AV.bool (decide (n ≥ (↑v.listOf.length : Int))), AV.bool false, v, AV.int IntKind.i64 n,
      (AV.agg
        (shL
         [Sh.int IntKind.i64, Sh.int IntKind.i64, Sh.int IntKind.u8, Sh.int IntKind.i64, Sh.int IntKind.i64,
          Sh.int IntKind.i64, Sh.bool]
         u16.aggOf)).rop,
      (AV.int IntKind.i64 (hdV u16.aggOf).numOf).rop, AV.int IntKind.i64 (hdV u16.aggOf).numOf, AV.ptr 0 4, a4,
      AV.int IntKind.i64 i,
      (AV.agg
        (shL
         [Sh.int IntKind.i64, Sh.int IntKind.i64, Sh.int IntKind.i64, Sh.int IntKind.i64, Sh.any, Sh.any,
          Sh.int IntKind.i64, Sh.int IntKind.i64, Sh.bool, Sh.any]
         u19.aggOf)).rop,
      (AV.agg
        [AV.int IntKind.i64 (hdV u19.aggOf).numOf, AV.int IntKind.i64 (hdV (tlV u19.aggOf)).numOf,
         AV.int IntKind.i64 (hdV (tlV (tlV u19.aggOf))).numOf,
         AV.int IntKind.i64 (hdV (tlV (tlV (tlV u19.aggOf)))).numOf,
         shS Sh.any (hdV (tlV (tlV (tlV (tlV u19.aggOf))))),
         shS Sh.any (hdV (tlV (tlV (tlV (tlV (tlV u19.aggOf))))))]).rop,
      (AV.int IntKind.i64 (hdV u19.aggOf).numOf).rop, AV.int IntKind.i64 (hdV u19.aggOf).numOf,
      AV.bool ((hdV u16.aggOf).numOf != (hdV u19.aggOf).numOf), AV.bool ((hdV u16.aggOf).numOf != (hdV u19.aggOf).numOf),
      AV.bool false, v, AV.int IntKind.i64 n,
      (AV.agg
        (shL
         [Sh.int IntKind.i64, Sh.int IntKind.i64, Sh.int IntKind.u8, Sh.int IntKind.i64, Sh.int IntKind.i64,
          Sh.int IntKind.i64, Sh.bool]
         u23.aggOf)).rop,
      (AV.int IntKind.i64 (hdV (tlV u23.aggOf)).numOf).rop, AV.int IntKind.i64 (hdV (tlV u23.aggOf)).numOf,
      AV.int IntKind.i64 j, AV.bool ((hdV (tlV u23.aggOf)).numOf != j), AV.bool ((hdV (tlV u23.aggOf)).numOf != j),
      AV.bool false, v, AV.int IntKind.i64 n,
      (AV.agg
        (shL
         [Sh.int IntKind.i64, Sh.int IntKind.i64, Sh.int IntKind.u8, Sh.int IntKind.i64, Sh.int IntKind.i64,
          Sh.int IntKind.i64, Sh.bool]
         u27.aggOf)).rop,
      (AV.int IntKind.u8 (hdV (tlV (tlV u27.aggOf))).numOf).rop, AV.int IntKind.u8 (hdV (tlV (tlV u27.aggOf))).numOf,
      AV.ptr 1 0, AV.int IntKind.u8 (hdV u11.aggOf).numOf,
      AV.bool ((hdV (tlV (tlV u27.aggOf))).numOf != (hdV u11.aggOf).numOf),
      AV.bool ((hdV (tlV (tlV u27.aggOf))).numOf != (hdV u11.aggOf).numOf), AV.bool false, v, AV.int IntKind.i64 n,
      (AV.agg
        (shL
         [Sh.int IntKind.i64, Sh.int IntKind.i64, Sh.int IntKind.u8, Sh.int IntKind.i64, Sh.int IntKind.i64,
          Sh.int IntKind.i64, Sh.bool]
         u31.aggOf)).rop,
      (AV.int IntKind.i64 (hdV (tlV (tlV (tlV u31.aggOf)))).numOf).rop,
      AV.int IntKind.i64 (hdV (tlV (tlV (tlV u31.aggOf)))).numOf, AV.ptr 1 1,
      AV.int IntKind.i64 (hdV (tlV u11.aggOf)).numOf,
      AV.bool ((hdV (tlV (tlV (tlV u31.aggOf)))).numOf != (hdV (tlV u11.aggOf)).numOf),
      AV.bool ((hdV (tlV (tlV (tlV u31.aggOf)))).numOf != (hdV (tlV u11.aggOf)).numOf), AV.bool false, v,
      AV.int IntKind.i64 n,
      (AV.agg
        (shL
         [Sh.int IntKind.i64, Sh.int IntKind.i64, Sh.int IntKind.u8, Sh.int IntKind.i64, Sh.int IntKind.i64,
          Sh.int IntKind.i64, Sh.bool]
         u35.aggOf)).rop,
      (AV.int IntKind.i64 (hdV (tlV (tlV (tlV (tlV u35.aggOf))))).numOf).rop,
      AV.int IntKind.i64 (hdV (tlV (tlV (tlV (tlV u35.aggOf))))).numOf, AV.ptr 1 7,
      shS Sh.any (hdV (tlV (tlV (tlV (tlV (tlV (tlV (tlV u11.aggOf)))))))),
      AV.int IntKind.i64 (↑(shS Sh.any (hdV (tlV (tlV (tlV (tlV (tlV (tlV (tlV u11.aggOf))))))))).listOf.length : Int),
      AV.bool
       ((hdV (tlV (tlV (tlV (tlV u35.aggOf))))).numOf !=
        (↑(shS Sh.any (hdV (tlV (tlV (tlV (tlV (tlV (tlV (tlV u11.aggOf))))))))).listOf.length : Int)),
      AV.bool
       ((hdV (tlV (tlV (tlV (tlV u35.aggOf))))).numOf !=
        (↑(shS Sh.any (hdV (tlV (tlV (tlV (tlV (tlV (tlV (tlV u11.aggOf))))))))).listOf.length : Int)),
      AV.bool true, AV.tuple [], AV.tuple [], AV.tuple [], AV.tuple [], AV.tuple [], AV.tuple [], AV.tuple [],
      AV.tuple [], AV.bool true, x119, x120, x121, x122, x123, x124, x125, x126, x127, x128, x129, x130, x131, x132, x133,
      x134, x135, x136, x137, x138, x139, x140, x141, x142, x143, x144, x145, x146, x147, x148, x149, x150, x151, x152,
      x153]
     {
      objs :=
       [AObj.cells [AV.int IntKind.i64 a0, AV.int IntKind.i64 a1, AV.int IntKind.i64 a2, AV.int IntKind.i64 a3, a4],
        AObj.cells
         [AV.int IntKind.u8 (hdV u11.aggOf).numOf, AV.int IntKind.i64 (hdV (tlV u11.aggOf)).numOf,
          AV.int IntKind.i64 (hdV (tlV (tlV u11.aggOf))).numOf,
          AV.int IntKind.i64 (hdV (tlV (tlV (tlV u11.aggOf)))).numOf,
          AV.int IntKind.i64 (hdV (tlV (tlV (tlV (tlV u11.aggOf))))).numOf,
          AV.int IntKind.i64 (hdV (tlV (tlV (tlV (tlV (tlV u11.aggOf)))))).numOf,
          AV.int IntKind.i64 (hdV (tlV (tlV (tlV (tlV (tlV (tlV u11.aggOf))))))).numOf,
          shS Sh.any (hdV (tlV (tlV (tlV (tlV (tlV (tlV (tlV u11.aggOf))))))))]],
      toks := [] })
                                          (fun _ => br (AV.listN 7 v && (decide ((0 : Int) ≤ n) && decide (n < (↑v.listOf.length : Int))))
                                           (fun _ => (match v.listOf[n.toNat]? with
                                            | some u40 => br (u40.isAgg &&
     fitL
      [Sh.int IntKind.i64, Sh.int IntKind.i64, Sh.int IntKind.u8, Sh.int IntKind.i64, Sh.int IntKind.i64,
       Sh.int IntKind.i64, Sh.bool]
      u40.aggOf)
                                             (fun _ => br ((hdV (tlV (tlV (tlV (tlV (tlV u40.aggOf)))))).numOf != (hdV (tlV (tlV (tlV (tlV (tlV (tlV u11.aggOf))))))).numOf)
                                              (fun _ => K Ex.ret
     [x0, l, AV.ptr 0 0, x3, AV.bool false, v, AV.int IntKind.i64 n, AV.int IntKind.i64 i, AV.int IntKind.i64 j,
      AV.ptr 1 0, x10, x11, x12, x13, x14, x15, x16, x17, x18, x19, x20, x21, x22, x23, x24, x25, x26, x27, x28, x29,
      AV.int IntKind.i64 j, AV.ptr 0 4, a4, AV.int IntKind.i64 i,
      (AV.agg
        (shL
         [Sh.int IntKind.i64, Sh.int IntKind.i64, Sh.int IntKind.i64, Sh.int IntKind.i64, Sh.any, Sh.any,
          Sh.int IntKind.i64, Sh.int IntKind.i64, Sh.bool, Sh.any]
         u1.aggOf)).rop,
      (shS Sh.any (hdV (tlV (tlV (tlV (tlV (tlV (tlV (tlV (tlV (tlV u1.aggOf))))))))))).rop,
      shS Sh.any (hdV (tlV (tlV (tlV (tlV (tlV (tlV (tlV (tlV (tlV u1.aggOf)))))))))),
      AV.int IntKind.i64
       (↑(shS Sh.any (hdV (tlV (tlV (tlV (tlV (tlV (tlV (tlV (tlV (tlV u1.aggOf))))))))))).listOf.length : Int),
      AV.bool
       (decide
        (j < (↑(shS Sh.any (hdV (tlV (tlV (tlV (tlV (tlV (tlV (tlV (tlV (tlV u1.aggOf))))))))))).listOf.length : Int))),
      x39, x40, AV.ptr 0 4, a4, AV.int IntKind.i64 i,
      (AV.agg
        (shL
         [Sh.int IntKind.i64, Sh.int IntKind.i64, Sh.int IntKind.i64, Sh.int IntKind.i64, Sh.any, Sh.any,
          Sh.int IntKind.i64, Sh.int IntKind.i64, Sh.bool, Sh.any]
         u7.aggOf)).rop,
      (shS Sh.any (hdV (tlV (tlV (tlV (tlV (tlV (tlV (tlV (tlV (tlV u7.aggOf))))))))))).rop,
      shS Sh.any (hdV (tlV (tlV (tlV (tlV (tlV (tlV (tlV (tlV (tlV u7.aggOf)))))))))), AV.int IntKind.i64 j,
      (AV.agg
        (shL
         [Sh.int IntKind.u8, Sh.int IntKind.i64, Sh.int IntKind.i64, Sh.int IntKind.i64, Sh.int IntKind.i64,
          Sh.int IntKind.i64, Sh.int IntKind.i64, Sh.any]
         u11.aggOf)).rop,
      AV.agg
       (shL
        [Sh.int IntKind.u8, Sh.int IntKind.i64, Sh.int IntKind.i64, Sh.int IntKind.i64, Sh.int IntKind.i64,
         Sh.int IntKind.i64, Sh.int IntKind.i64, Sh.any]
        u11.aggOf),
      AV.int IntKind.i64 n, v, AV.int IntKind.i64 (↑v.listOf.length : Int),
      AV.bool (decide (n ≥ (↑v.listOf.length : Int))), AV.bool false, v, AV.int IntKind.i64 n,
      (AV.agg
        (shL
         [Sh.int IntKind.i64, Sh.int IntKind.i64, Sh.int IntKind.u8, Sh.int IntKind.i64, Sh.int IntKind.i64,
          Sh.int IntKind.i64, Sh.bool]
         u16.aggOf)).rop,
      (AV.int IntKind.i64 (hdV u16.aggOf).numOf).rop, AV.int IntKind.i64 (hdV u16.aggOf).numOf, AV.ptr 0 4, a4,
      AV.int IntKind.i64 i,
      (AV.agg
        (shL
         [Sh.int IntKind.i64, Sh.int IntKind.i64, Sh.int IntKind.i64, Sh.int IntKind.i64, Sh.any, Sh.any,
          Sh.int IntKind.i64, Sh.int IntKind.i64, Sh.bool, Sh.any]
         u19.aggOf)).rop,
      (AV.agg
        [AV.int IntKind.i64 (hdV u19.aggOf).numOf, AV.int IntKind.i64 (hdV (tlV u19.aggOf)).numOf,
         AV.int IntKind.i64 (hdV (tlV (tlV u19.aggOf))).numOf,
         AV.int IntKind.i64 (hdV (tlV (tlV (tlV u19.aggOf)))).numOf,
         shS Sh.any (hdV (tlV (tlV (tlV (tlV u19.aggOf))))),
         shS Sh.any (hdV (tlV (tlV (tlV (tlV (tlV u19.aggOf))))))]).rop,
      (AV.int IntKind.i64 (hdV u19.aggOf).numOf).rop, AV.int IntKind.i64 (hdV u19.aggOf).numOf,
      AV.bool ((hdV u16.aggOf).numOf != (hdV u19.aggOf).numOf), AV.bool ((hdV u16.aggOf).numOf != (hdV u19.aggOf).numOf),
      AV.bool false, v, AV.int IntKind.i64 n,
      (AV.agg
        (shL
         [Sh.int IntKind.i64, Sh.int IntKind.i64, Sh.int IntKind.u8, Sh.int IntKind.i64, Sh.int IntKind.i64,
          Sh.int IntKind.i64, Sh.bool]
         u23.aggOf)).rop,
      (AV.int IntKind.i64 (hdV (tlV u23.aggOf)).numOf).rop, AV.int IntKind.i64 (hdV (tlV u23.aggOf)).numOf,
      AV.int IntKind.i64 j, AV.bool ((hdV (tlV u23.aggOf)).numOf != j), AV.bool ((hdV (tlV u23.aggOf)).numOf != j),
      AV.bool false, v, AV.int IntKind.i64 n,
      (AV.agg
        (shL
         [Sh.int IntKind.i64, Sh.int IntKind.i64, Sh.int IntKind.u8, Sh.int IntKind.i64, Sh.int IntKind.i64,
          Sh.int IntKind.i64, Sh.bool]
         u27.aggOf)).rop,
      (AV.int IntKind.u8 (hdV (tlV (tlV u27.aggOf))).numOf).rop, AV.int IntKind.u8 (hdV (tlV (tlV u27.aggOf))).numOf,
      AV.ptr 1 0, AV.int IntKind.u8 (hdV u11.aggOf).numOf,
      AV.bool ((hdV (tlV (tlV u27.aggOf))).numOf != (hdV u11.aggOf).numOf),
      AV.bool ((hdV (tlV (tlV u27.aggOf))).numOf != (hdV u11.aggOf).numOf), AV.bool false, v, AV.int IntKind.i64 n,
      (AV.agg
        (shL
         [Sh.int IntKind.i64, Sh.int IntKind.i64, Sh.int IntKind.u8, Sh.int IntKind.i64, Sh.int IntKind.i64,
          Sh.int IntKind.i64, Sh.bool]
         u31.aggOf)).rop,
      (AV.int IntKind.i64 (hdV (tlV (tlV (tlV u31.aggOf)))).numOf).rop,
      AV.int IntKind.i64 (hdV (tlV (tlV (tlV u31.aggOf)))).numOf, AV.ptr 1 1,
      AV.int IntKind.i64 (hdV (tlV u11.aggOf)).numOf,
      AV.bool ((hdV (tlV (tlV (tlV u31.aggOf)))).numOf != (hdV (tlV u11.aggOf)).numOf),
      AV.bool ((hdV (tlV (tlV (tlV u31.aggOf)))).numOf != (hdV (tlV u11.aggOf)).numOf), AV.bool false, v,
      AV.int IntKind.i64 n,
      (AV.agg
        (shL
         [Sh.int IntKind.i64, Sh.int IntKind.i64, Sh.int IntKind.u8, Sh.int IntKind.i64, Sh.int IntKind.i64,
          Sh.int IntKind.i64, Sh.bool]
         u35.aggOf)).rop,
      (AV.int IntKind.i64 (hdV (tlV (tlV (tlV (tlV u35.aggOf))))).numOf).rop,
      AV.int IntKind.i64 (hdV (tlV (tlV (tlV (tlV u35.aggOf))))).numOf, AV.ptr 1 7,
      shS Sh.any (hdV (tlV (tlV (tlV (tlV (tlV (tlV (tlV u11.aggOf)))))))),
      AV.int IntKind.i64 (↑(shS Sh.any (hdV (tlV (tlV (tlV (tlV (tlV (tlV (tlV u11.aggOf))))))))).listOf.length : Int),
      AV.bool
       ((hdV (tlV (tlV (tlV (tlV u35.aggOf))))).numOf !=
        (↑(shS Sh.any (hdV (tlV (tlV (tlV (tlV (tlV (tlV (tlV u11.aggOf))))))))).listOf.length : Int)),
      AV.bool
       ((hdV (tlV (tlV (tlV (tlV u35.aggOf))))).numOf !=
        (↑(shS Sh.any (hdV (tlV (tlV (tlV (tlV (tlV (tlV (tlV u11.aggOf))))))))).listOf.length : Int)),
      AV.bool false, v, AV.int IntKind.i64 n,
      (AV.agg
        (shL
         [Sh.int IntKind.i64, Sh.int IntKind.i64, Sh.int IntKind.u8, Sh.int IntKind.i64, Sh.int IntKind.i64,
          Sh.int IntKind.i64, Sh.bool]
         u40.aggOf)).rop,
      (AV.int IntKind.i64 (hdV (tlV (tlV (tlV (tlV (tlV u40.aggOf)))))).numOf).rop,
      AV.int IntKind.i64 (hdV (tlV (tlV (tlV (tlV (tlV u40.aggOf)))))).numOf, AV.ptr 1 6,
      AV.int IntKind.i64 (hdV (tlV (tlV (tlV (tlV (tlV (tlV u11.aggOf))))))).numOf,
      AV.bool
       ((hdV (tlV (tlV (tlV (tlV (tlV u40.aggOf)))))).numOf !=
        (hdV (tlV (tlV (tlV (tlV (tlV (tlV u11.aggOf))))))).numOf),
      AV.bool
       ((hdV (tlV (tlV (tlV (tlV (tlV u40.aggOf)))))).numOf !=
        (hdV (tlV (tlV (tlV (tlV (tlV (tlV u11.aggOf))))))).numOf),
      x119, x120, x121, x122, x123, x124, x125, x126, x127, x128, x129, x130, x131, x132, x133, x134, x135, x136, x137,
      x138, x139, x140, x141, x142, x143, x144, x145, x146, x147, x148, x149, x150, x151, x152, x153]
     {
      objs :=
       [AObj.cells [AV.int IntKind.i64 a0, AV.int IntKind.i64 a1, AV.int IntKind.i64 a2, AV.int IntKind.i64 a3, a4],
        AObj.cells
         [AV.int IntKind.u8 (hdV u11.aggOf).numOf, AV.int IntKind.i64 (hdV (tlV u11.aggOf)).numOf,
          AV.int IntKind.i64 (hdV (tlV (tlV u11.aggOf))).numOf,
          AV.int IntKind.i64 (hdV (tlV (tlV (tlV u11.aggOf)))).numOf,
          AV.int IntKind.i64 (hdV (tlV (tlV (tlV (tlV u11.aggOf))))).numOf,
          AV.int IntKind.i64 (hdV (tlV (tlV (tlV (tlV (tlV u11.aggOf)))))).numOf,
          AV.int IntKind.i64 (hdV (tlV (tlV (tlV (tlV (tlV (tlV u11.aggOf))))))).numOf,
          shS Sh.any (hdV (tlV (tlV (tlV (tlV (tlV (tlV (tlV u11.aggOf))))))))]],
      toks := [] })
                                              (fun _ => br (belowO 1 0 [AObj.cells [AV.int IntKind.i64 a0, AV.int IntKind.i64 a1, AV.int IntKind.i64 a2, AV.int IntKind.i64 a3, a4]])
                                               (fun _ => loopC (Rep.D m) (cD m fuel) fuel cnI k [cutV 1 0 x0, cutV 1 0 l, AV.ptr 0 0, cutV 1 0 x3, AV.bool false, cutV 1 0 v, AV.int IntKind.i64 (IntKind.i64.wrap (n + (1 : Int))), AV.int IntKind.i64 i, AV.int IntKind.i64 (IntKind.i64.wrap (j + (1 : Int))), AV.top, cutV 1 0 x10, cutV 1 0 x11, cutV 1 0 x12, cutV 1 0 x13, cutV 1 0 x14, cutV 1 0 x15, cutV 1 0 x16, cutV 1 0 x17, cutV 1 0 x18, cutV 1 0 x19, cutV 1 0 x20, cutV 1 0 x21, cutV 1 0 x22, cutV 1 0 x23, cutV 1 0 x24, cutV 1 0 x25, cutV 1 0 x26, cutV 1 0 x27, cutV 1 0 x28, cutV 1 0 x29, AV.int IntKind.i64 j, AV.ptr 0 4, cutV 1 0 a4, AV.int IntKind.i64 i, cutV 1 0 (AV.agg (shL [Sh.int IntKind.i64, Sh.int IntKind.i64, Sh.int IntKind.i64, Sh.int IntKind.i64, Sh.any, Sh.any, Sh.int IntKind.i64, Sh.int IntKind.i64, Sh.bool, Sh.any] u1.aggOf)).rop, cutV 1 0 (shS Sh.any (hdV (tlV (tlV (tlV (tlV (tlV (tlV (tlV (tlV (tlV u1.aggOf))))))))))).rop, cutV 1 0 (shS Sh.any (hdV (tlV (tlV (tlV (tlV (tlV (tlV (tlV (tlV (tlV u1.aggOf))))))))))), AV.int IntKind.i64 (↑(shS Sh.any (hdV (tlV (tlV (tlV (tlV (tlV (tlV (tlV (tlV (tlV u1.aggOf))))))))))).listOf.length : Int), AV.bool (decide (j < (↑(shS Sh.any (hdV (tlV (tlV (tlV (tlV (tlV (tlV (tlV (tlV (tlV u1.aggOf))))))))))).listOf.length : Int))), AV.int IntKind.i64 j, AV.int IntKind.i64 (IntKind.i64.wrap (j + (1 : Int))), AV.ptr 0 4, cutV 1 0 a4, AV.int IntKind.i64 i, cutV 1 0 (AV.agg (shL [Sh.int IntKind.i64, Sh.int IntKind.i64, Sh.int IntKind.i64, Sh.int IntKind.i64, Sh.any, Sh.any, Sh.int IntKind.i64, Sh.int IntKind.i64, Sh.bool, Sh.any] u7.aggOf)).rop, cutV 1 0 (shS Sh.any (hdV (tlV (tlV (tlV (tlV (tlV (tlV (tlV (tlV (tlV u7.aggOf))))))))))).rop, cutV 1 0 (shS Sh.any (hdV (tlV (tlV (tlV (tlV (tlV (tlV (tlV (tlV (tlV u7.aggOf))))))))))), AV.int IntKind.i64 j, cutV 1 0 (AV.agg (shL [Sh.int IntKind.u8, Sh.int IntKind.i64, Sh.int IntKind.i64, Sh.int IntKind.i64, Sh.int IntKind.i64, Sh.int IntKind.i64, Sh.int IntKind.i64, Sh.any] u11.aggOf)).rop, cutV 1 0 (AV.agg (shL [Sh.int IntKind.u8, Sh.int IntKind.i64, Sh.int IntKind.i64, Sh.int IntKind.i64, Sh.int IntKind.i64, Sh.int IntKind.i64, Sh.int IntKind.i64, Sh.any] u11.aggOf)), AV.int IntKind.i64 n, cutV 1 0 v, AV.int IntKind.i64 (↑v.listOf.length : Int), AV.bool (decide (n ≥ (↑v.listOf.length : Int))), AV.bool false, cutV 1 0 v, AV.int IntKind.i64 n, (AV.agg (shL [Sh.int IntKind.i64, Sh.int IntKind.i64, Sh.int IntKind.u8, Sh.int IntKind.i64, Sh.int IntKind.i64, Sh.int IntKind.i64, Sh.bool] u16.aggOf)).rop, (AV.int IntKind.i64 (hdV u16.aggOf).numOf).rop, AV.int IntKind.i64 (hdV u16.aggOf).numOf, AV.ptr 0 4, cutV 1 0 a4, AV.int IntKind.i64 i, cutV 1 0 (AV.agg (shL [Sh.int IntKind.i64, Sh.int IntKind.i64, Sh.int IntKind.i64, Sh.int IntKind.i64, Sh.any, Sh.any, Sh.int IntKind.i64, Sh.int IntKind.i64, Sh.bool, Sh.any] u19.aggOf)).rop, cutV 1 0 (AV.agg [AV.int IntKind.i64 (hdV u19.aggOf).numOf, AV.int IntKind.i64 (hdV (tlV u19.aggOf)).numOf, AV.int IntKind.i64 (hdV (tlV (tlV u19.aggOf))).numOf, AV.int IntKind.i64 (hdV (tlV (tlV (tlV u19.aggOf)))).numOf, shS Sh.any (hdV (tlV (tlV (tlV (tlV u19.aggOf))))), shS Sh.any (hdV (tlV (tlV (tlV (tlV (tlV u19.aggOf))))))]).rop, (AV.int IntKind.i64 (hdV u19.aggOf).numOf).rop, AV.int IntKind.i64 (hdV u19.aggOf).numOf, AV.bool ((hdV u16.aggOf).numOf != (hdV u19.aggOf).numOf), AV.bool ((hdV u16.aggOf).numOf != (hdV u19.aggOf).numOf), AV.bool false, cutV 1 0 v, AV.int IntKind.i64 n, (AV.agg (shL [Sh.int IntKind.i64, Sh.int IntKind.i64, Sh.int IntKind.u8, Sh.int IntKind.i64, Sh.int IntKind.i64, Sh.int IntKind.i64, Sh.bool] u23.aggOf)).rop, (AV.int IntKind.i64 (hdV (tlV u23.aggOf)).numOf).rop, AV.int IntKind.i64 (hdV (tlV u23.aggOf)).numOf, AV.int IntKind.i64 j, AV.bool ((hdV (tlV u23.aggOf)).numOf != j), AV.bool ((hdV (tlV u23.aggOf)).numOf != j), AV.bool false, cutV 1 0 v, AV.int IntKind.i64 n, (AV.agg (shL [Sh.int IntKind.i64, Sh.int IntKind.i64, Sh.int IntKind.u8, Sh.int IntKind.i64, Sh.int IntKind.i64, Sh.int IntKind.i64, Sh.bool] u27.aggOf)).rop, (AV.int IntKind.u8 (hdV (tlV (tlV u27.aggOf))).numOf).rop, AV.int IntKind.u8 (hdV (tlV (tlV u27.aggOf))).numOf, AV.top, AV.int IntKind.u8 (hdV u11.aggOf).numOf, AV.bool ((hdV (tlV (tlV u27.aggOf))).numOf != (hdV u11.aggOf).numOf), AV.bool ((hdV (tlV (tlV u27.aggOf))).numOf != (hdV u11.aggOf).numOf), AV.bool false, cutV 1 0 v, AV.int IntKind.i64 n, (AV.agg (shL [Sh.int IntKind.i64, Sh.int IntKind.i64, Sh.int IntKind.u8, Sh.int IntKind.i64, Sh.int IntKind.i64, Sh.int IntKind.i64, Sh.bool] u31.aggOf)).rop, (AV.int IntKind.i64 (hdV (tlV (tlV (tlV u31.aggOf)))).numOf).rop, AV.int IntKind.i64 (hdV (tlV (tlV (tlV u31.aggOf)))).numOf, AV.top, AV.int IntKind.i64 (hdV (tlV u11.aggOf)).numOf, AV.bool ((hdV (tlV (tlV (tlV u31.aggOf)))).numOf != (hdV (tlV u11.aggOf)).numOf), AV.bool ((hdV (tlV (tlV (tlV u31.aggOf)))).numOf != (hdV (tlV u11.aggOf)).numOf), AV.bool false, cutV 1 0 v, AV.int IntKind.i64 n, (AV.agg (shL [Sh.int IntKind.i64, Sh.int IntKind.i64, Sh.int IntKind.u8, Sh.int IntKind.i64, Sh.int IntKind.i64, Sh.int IntKind.i64, Sh.bool] u35.aggOf)).rop, (AV.int IntKind.i64 (hdV (tlV (tlV (tlV (tlV u35.aggOf))))).numOf).rop, AV.int IntKind.i64 (hdV (tlV (tlV (tlV (tlV u35.aggOf))))).numOf, AV.top, cutV 1 0 (shS Sh.any (hdV (tlV (tlV (tlV (tlV (tlV (tlV (tlV u11.aggOf))))))))), AV.int IntKind.i64 (↑(shS Sh.any (hdV (tlV (tlV (tlV (tlV (tlV (tlV (tlV u11.aggOf))))))))).listOf.length : Int), AV.bool ((hdV (tlV (tlV (tlV (tlV u35.aggOf))))).numOf != (↑(shS Sh.any (hdV (tlV (tlV (tlV (tlV (tlV (tlV (tlV u11.aggOf))))))))).listOf.length : Int)), AV.bool ((hdV (tlV (tlV (tlV (tlV u35.aggOf))))).numOf != (↑(shS Sh.any (hdV (tlV (tlV (tlV (tlV (tlV (tlV (tlV u11.aggOf))))))))).listOf.length : Int)), AV.bool false, cutV 1 0 v, AV.int IntKind.i64 n, (AV.agg (shL [Sh.int IntKind.i64, Sh.int IntKind.i64, Sh.int IntKind.u8, Sh.int IntKind.i64, Sh.int IntKind.i64, Sh.int IntKind.i64, Sh.bool] u40.aggOf)).rop, (AV.int IntKind.i64 (hdV (tlV (tlV (tlV (tlV (tlV u40.aggOf)))))).numOf).rop, AV.int IntKind.i64 (hdV (tlV (tlV (tlV (tlV (tlV u40.aggOf)))))).numOf, AV.top, AV.int IntKind.i64 (hdV (tlV (tlV (tlV (tlV (tlV (tlV u11.aggOf))))))).numOf, AV.bool ((hdV (tlV (tlV (tlV (tlV (tlV u40.aggOf)))))).numOf != (hdV (tlV (tlV (tlV (tlV (tlV (tlV u11.aggOf))))))).numOf), AV.bool ((hdV (tlV (tlV (tlV (tlV (tlV u40.aggOf)))))).numOf != (hdV (tlV (tlV (tlV (tlV (tlV (tlV u11.aggOf))))))).numOf), AV.int IntKind.i64 n, AV.int IntKind.i64 (IntKind.i64.wrap (n + (1 : Int))), cutV 1 0 x121, cutV 1 0 x122, cutV 1 0 x123, cutV 1 0 x124, cutV 1 0 x125, cutV 1 0 x126, cutV 1 0 x127, cutV 1 0 x128, cutV 1 0 x129, cutV 1 0 x130, cutV 1 0 x131, cutV 1 0 x132, cutV 1 0 x133, cutV 1 0 x134, cutV 1 0 x135, cutV 1 0 x136, cutV 1 0 x137, cutV 1 0 x138, cutV 1 0 x139, cutV 1 0 x140, cutV 1 0 x141, cutV 1 0 x142, cutV 1 0 x143, cutV 1 0 x144, cutV 1 0 x145, cutV 1 0 x146, cutV 1 0 x147, cutV 1 0 x148, cutV 1 0 x149, cutV 1 0 x150, cutV 1 0 x151, cutV 1 0 x152, cutV 1 0 x153] { objs := [AObj.cells [AV.int IntKind.i64 a0, AV.int IntKind.i64 a1, AV.int IntKind.i64 a2, AV.int IntKind.i64 a3, a4]], toks := [] } K)
                                               (fun _ => none)))
                                             (fun _ => none)
                                            | none => none))
                                           (fun _ => none)))
                                         (fun _ => none))
                                        (fun _ => none)
                                       | none => none))
                                      (fun _ => none)))
                                    (fun _ => none)
                                   | none => none))
                                  (fun _ => none)))
                                (fun _ => none)
                               | none => none))
                              (fun _ => none)))
                            (fun _ => none)
                           | none => none))
                          (fun _ => none)))
                        (fun _ => none)
                       | none => none))
                      (fun _ => none))
                     (fun _ => none)
                    | none => none))
                   (fun _ => none)))
                 (fun _ => none))
                (fun _ => none)
               | none => none))
              (fun _ => none))
             (fun _ => none))
            (fun _ => none)
           | none => none))
          (fun _ => none))
         (fun _ => K (Ex.exit 2)
     [x0, l, AV.ptr 0 0, x3, AV.bool false, v, AV.int IntKind.i64 n, AV.int IntKind.i64 i, AV.int IntKind.i64 j, x9, x10,
      x11, x12, x13, x14, x15, x16, x17, x18, x19, x20, x21, x22, x23, x24, x25, x26, x27, x28, x29, AV.int IntKind.i64 j,
      AV.ptr 0 4, a4, AV.int IntKind.i64 i,
      (AV.agg
        (shL
         [Sh.int IntKind.i64, Sh.int IntKind.i64, Sh.int IntKind.i64, Sh.int IntKind.i64, Sh.any, Sh.any,
          Sh.int IntKind.i64, Sh.int IntKind.i64, Sh.bool, Sh.any]
         u1.aggOf)).rop,
      (shS Sh.any (hdV (tlV (tlV (tlV (tlV (tlV (tlV (tlV (tlV (tlV u1.aggOf))))))))))).rop,
      shS Sh.any (hdV (tlV (tlV (tlV (tlV (tlV (tlV (tlV (tlV (tlV u1.aggOf)))))))))),
      AV.int IntKind.i64
       (↑(shS Sh.any (hdV (tlV (tlV (tlV (tlV (tlV (tlV (tlV (tlV (tlV u1.aggOf))))))))))).listOf.length : Int),
      AV.bool
       (decide
        (j < (↑(shS Sh.any (hdV (tlV (tlV (tlV (tlV (tlV (tlV (tlV (tlV (tlV u1.aggOf))))))))))).listOf.length : Int))),
      x39, x40, x41, x42, x43, x44, x45, x46, x47, x48, x49, x50, x51, x52, x53, x54, x55, x56, x57, x58, x59, x60, x61,
      x62, x63, x64, x65, x66, x67, x68, x69, x70, x71, x72, x73, x74, x75, x76, x77, x78, x79, x80, x81, x82, x83, x84,
      x85, x86, x87, x88, x89, x90, x91, x92, x93, x94, x95, x96, x97, x98, x99, x100, x101, x102, x103, x104, x105, x106,
      x107, x108, x109, x110, x111, x112, x113, x114, x115, x116, x117, x118, x119, x120, x121, x122, x123, x124, x125,
      x126, x127, x128, x129, x130, x131, x132, x133, x134, x135, x136, x137, x138, x139, x140, x141, x142, x143, x144,
      x145, x146, x147, x148, x149, x150, x151, x152, x153]
     {
      objs :=
       [AObj.cells [AV.int IntKind.i64 a0, AV.int IntKind.i64 a1, AV.int IntKind.i64 a2, AV.int IntKind.i64 a3, a4]],
      toks := [] }))
        (fun _ => none))
       (fun _ => none))
      (fun _ => none)
     | none => none))
    (fun _ => none) := by kernel_rfl
theorem cnO_post (m : Array Value) {R : Type} (fuel k : Nat) (cs : List AV) (l v : AV) (n i j : Int) (s0 : List AV) (x0 x3 x9 x10 x11 x12 x13 x14 x15 x16 x17 x18 x19 x20 x21 x22 x23 x24 x25 x26 x27 x28 x29 x30 x31 x32 x33 x34 x35 x36 x37 x38 x39 x40 x41 x42 x43 x44 x45 x46 x47 x48 x49 x50 x51 x52 x53 x54 x55 x56 x57 x58 x59 x60 x61 x62 x63 x64 x65 x66 x67 x68 x69 x70 x71 x72 x73 x74 x75 x76 x77 x78 x79 x80 x81 x82 x83 x84 x85 x86 x87 x88 x89 x90 x91 x92 x93 x94 x95 x96 x97 x98 x99 x100 x101 x102 x103 x104 x105 x106 x107 x108 x109 x110 x111 x112 x113 x114 x115 x116 x117 x118 x119 x120 x121 x122 x123 x124 x125 x126 x127 x128 x129 x130 x131 x132 x133 x134 x135 x136 x137 x138 x139 x140 x141 x142 x143 x144 x145 x146 x147 x148 x149 x150 x151 x152 x153 : AV) (K : Ex → List AV → AH → Option R) :
  kontI (Rep.D m) (cD m fuel) fuel cnO cnR (stepK (Rep.D m) (cD m fuel) fuel cnO k s0 ⟨[.cells cs], []⟩ K) (.exit 2) [x0, l, .ptr 0 0, x3, .bool false, v, .int .i64 n, .int .i64 i, .int .i64 j, x9, x10, x11, x12, x13, x14, x15, x16, x17, x18, x19, x20, x21, x22, x23, x24, x25, x26, x27, x28, x29, x30, x31, x32, x33, x34, x35, x36, x37, x38, x39, x40, x41, x42, x43, x44, x45, x46, x47, x48, x49, x50, x51, x52, x53, x54, x55, x56, x57, x58, x59, x60, x61, x62, x63, x64, x65, x66, x67, x68, x69, x70, x71, x72, x73, x74, x75, x76, x77, x78, x79, x80, x81, x82, x83, x84, x85, x86, x87, x88, x89, x90, x91, x92, x93, x94, x95, x96, x97, x98, x99, x100, x101, x102, x103, x104, x105, x106, x107, x108, x109, x110, x111, x112, x113, x114, x115, x116, x117, x118, x119, x120, x121, x122, x123, x124, x125, x126, x127, x128, x129, x130, x131, x132, x133, x134, x135, x136, x137, x138, x139, x140, x141, x142, x143, x144, x145, x146, x147, x148, x149, x150, x151, x152, x153] ⟨[.cells cs], []⟩ =
  loopC (Rep.D m) (cD m fuel) fuel cnO k [x0, l, AV.ptr 0 0, x3, AV.bool false, v, AV.int IntKind.i64 n, AV.int IntKind.i64 (IntKind.i64.wrap (i + (1 : Int))), AV.int IntKind.i64 j, x9, x10, x11, x12, x13, x14, x15, x16, x17, x18, x19, x20, x21, x22, x23, x24, x25, x26, x27, AV.int IntKind.i64 i, AV.int IntKind.i64 (IntKind.i64.wrap (i + (1 : Int))), x30, x31, x32, x33, x34, x35, x36, x37, x38, x39, x40, x41, x42, x43, x44, x45, x46, x47, x48, x49, x50, x51, x52, x53, x54, x55, x56, x57, x58, x59, x60, x61, x62, x63, x64, x65, x66, x67, x68, x69, x70, x71, x72, x73, x74, x75, x76, x77, x78, x79, x80, x81, x82, x83, x84, x85, x86, x87, x88, x89, x90, x91, x92, x93, x94, x95, x96, x97, x98, x99, x100, x101, x102, x103, x104, x105, x106, x107, x108, x109, x110, x111, x112, x113, x114, x115, x116, x117, x118, x119, x120, x121, x122, x123, x124, x125, x126, x127, x128, x129, x130, x131, x132, x133, x134, x135, x136, x137, x138, x139, x140, x141, x142, x143, x144, x145, x146, x147, x148, x149, x150, x151, x152, x153] { objs := [AObj.cells cs], toks := [] } K := by kernel_rfl
theorem cn_mid (m : Array Value) {R : Type} (fuel : Nat) (cs : List AV) (l v : AV) (n i : Int) (x0 x3 x8 x9 x10 x11 x12 x13 x14 x15 x16 x17 x18 x19 x20 x21 x22 x23 x24 x25 x26 x27 x28 x29 x30 x31 x32 x33 x34 x35 x36 x37 x38 x39 x40 x41 x42 x43 x44 x45 x46 x47 x48 x49 x50 x51 x52 x53 x54 x55 x56 x57 x58 x59 x60 x61 x62 x63 x64 x65 x66 x67 x68 x69 x70 x71 x72 x73 x74 x75 x76 x77 x78 x79 x80 x81 x82 x83 x84 x85 x86 x87 x88 x89 x90 x91 x92 x93 x94 x95 x96 x97 x98 x99 x100 x101 x102 x103 x104 x105 x106 x107 x108 x109 x110 x111 x112 x113 x114 x115 x116 x117 x118 x119 x120 x121 x122 x123 x124 x125 x126 x127 x128 x129 x130 x131 x132 x133 x134 x135 x136 x137 x138 x139 x140 x141 x142 x143 x144 x145 x146 x147 x148 x149 x150 x151 x152 x153 : AV) (K : AV → AH → Option R) :
  kontI (Rep.D m) (cD m fuel) fuel (bodyOf Tryd.f7) [1, 1, 1, 1, 0, 1, 0] (endI (Rep.D m) Tryd.f7 K) (.exit 0) [x0, l, .ptr 0 0, x3, .bool false, v, .int .i64 n, .int .i64 i, x8, x9, x10, x11, x12, x13, x14, x15, x16, x17, x18, x19, x20, x21, x22, x23, x24, x25, x26, x27, x28, x29, x30, x31, x32, x33, x34, x35, x36, x37, x38, x39, x40, x41, x42, x43, x44, x45, x46, x47, x48, x49, x50, x51, x52, x53, x54, x55, x56, x57, x58, x59, x60, x61, x62, x63, x64, x65, x66, x67, x68, x69, x70, x71, x72, x73, x74, x75, x76, x77, x78, x79, x80, x81, x82, x83, x84, x85, x86, x87, x88, x89, x90, x91, x92, x93, x94, x95, x96, x97, x98, x99, x100, x101, x102, x103, x104, x105, x106, x107, x108, x109, x110, x111, x112, x113, x114, x115, x116, x117, x118, x119, x120, x121, x122, x123, x124, x125, x126, x127, x128, x129, x130, x131, x132, x133, x134, x135, x136, x137, x138, x139, x140, x141, x142, x143, x144, x145, x146, x147, x148, x149, x150, x151, x152, x153] ⟨[.cells cs], []⟩ =
  br (AV.listN 9 l)
    (fun _ => loopC (Rep.D m) (cD m fuel) fuel cnL fuel [x0, l, AV.ptr 0 0, x3, AV.bool false, v, AV.int IntKind.i64 n, AV.int IntKind.i64 i, x8, x9, AV.nils, AV.int IntKind.i64 (IntKind.i64.wrap ((↑l.listOf.length : Int) - (1 : Int))), x12, x13, x14, x15, x16, x17, x18, x19, x20, x21, x22, x23, x24, x25, x26, x27, x28, x29, x30, x31, x32, x33, x34, x35, x36, x37, x38, x39, x40, x41, x42, x43, x44, x45, x46, x47, x48, x49, x50, x51, x52, x53, x54, x55, x56, x57, x58, x59, x60, x61, x62, x63, x64, x65, x66, x67, x68, x69, x70, x71, x72, x73, x74, x75, x76, x77, x78, x79, x80, x81, x82, x83, x84, x85, x86, x87, x88, x89, x90, x91, x92, x93, x94, x95, x96, x97, x98, x99, x100, x101, x102, x103, x104, x105, x106, x107, x108, x109, x110, x111, x112, x113, x114, x115, x116, x117, x118, x119, x120, l, AV.int IntKind.i64 (↑l.listOf.length : Int), AV.int IntKind.i64 (IntKind.i64.wrap ((↑l.listOf.length : Int) - (1 : Int))), x124, x125, x126, x127, x128, x129, x130, x131, x132, x133, x134, x135, x136, x137, x138, x139, x140, x141, x142, x143, x144, x145, x146, x147, x148, x149, x150, x151, x152, x153] { objs := [AObj.cells cs], toks := [] } (kontI (Rep.D m) (cD m fuel) fuel (bodyOf Tryd.f7) [1, 1, 1, 1, 1, 1, 0, 1, 0] (endI (Rep.D m) Tryd.f7 K)))
    (fun _ => none) := by kernel_rfl
theorem cnL_stepN (m : Array Value) {R : Type} (fuel k : Nat) (cs : List AV) (l v : AV) (n i : Int) (x0 x3 x7 x8 x9 x12 x13 x14 x15 x16 x17 x18 x19 x20 x21 x22 x23 x24 x25 x26 x27 x28 x29 x30 x31 x32 x33 x34 x35 x36 x37 x38 x39 x40 x41 x42 x43 x44 x45 x46 x47 x48 x49 x50 x51 x52 x53 x54 x55 x56 x57 x58 x59 x60 x61 x62 x63 x64 x65 x66 x67 x68 x69 x70 x71 x72 x73 x74 x75 x76 x77 x78 x79 x80 x81 x82 x83 x84 x85 x86 x87 x88 x89 x90 x91 x92 x93 x94 x95 x96 x97 x98 x99 x100 x101 x102 x103 x104 x105 x106 x107 x108 x109 x110 x111 x112 x113 x114 x115 x116 x117 x118 x119 x120 x121 x122 x123 x124 x125 x126 x127 x128 x129 x130 x131 x132 x133 x134 x135 x136 x137 x138 x139 x140 x141 x142 x143 x144 x145 x146 x147 x148 x149 x150 x151 x152 x153 : AV) (K : Ex → List AV → AH → Option R) :
  loopC (Rep.D m) (cD m fuel) fuel cnL (k + 1) [x0, l, .ptr 0 0, x3, .bool false, v, .int .i64 n, x7, x8, x9, .nils, .int .i64 i, x12, x13, x14, x15, x16, x17, x18, x19, x20, x21, x22, x23, x24, x25, x26, x27, x28, x29, x30, x31, x32, x33, x34, x35, x36, x37, x38, x39, x40, x41, x42, x43, x44, x45, x46, x47, x48, x49, x50, x51, x52, x53, x54, x55, x56, x57, x58, x59, x60, x61, x62, x63, x64, x65, x66, x67, x68, x69, x70, x71, x72, x73, x74, x75, x76, x77, x78, x79, x80, x81, x82, x83, x84, x85, x86, x87, x88, x89, x90, x91, x92, x93, x94, x95, x96, x97, x98, x99, x100, x101, x102, x103, x104, x105, x106, x107, x108, x109, x110, x111, x112, x113, x114, x115, x116, x117, x118, x119, x120, x121, x122, x123, x124, x125, x126, x127, x128, x129, x130, x131, x132, x133, x134, x135, x136, x137, x138, x139, x140, x141, x142, x143, x144, x145, x146, x147, x148, x149, x150, x151, x152, x153] ⟨[.cells cs], []⟩ K =
  br (decide (i ≥ (0 : Int)))
    (fun _ => br (AV.listN 9 l && (decide ((0 : Int) ≤ i) && decide (i < (↑l.listOf.length : Int))))
     (fun _ => (match l.listOf[i.toNat]? with
      | some u2 => br (u2.isAgg &&
     fitL
      [Sh.int IntKind.i64, Sh.int IntKind.i64, Sh.int IntKind.i64, Sh.int IntKind.i64, Sh.int IntKind.i64, Sh.bool,
       Sh.bool, Sh.bool, Sh.int IntKind.i64]
      u2.aggOf)
       (fun _ => br ((hdV (tlV (tlV (tlV (tlV (tlV u2.aggOf)))))).boolOf)
        (fun _ => br (AV.listN 9 l && (decide ((0 : Int) ≤ i) && decide (i < (↑l.listOf.length : Int))))
         (fun _ => (match l.listOf[i.toNat]? with
          | some u6 => br (u6.isAgg &&
     fitL
      [Sh.int IntKind.i64, Sh.int IntKind.i64, Sh.int IntKind.i64, Sh.int IntKind.i64, Sh.int IntKind.i64, Sh.bool,
       Sh.bool, Sh.bool, Sh.int IntKind.i64]
      u6.aggOf)
           (fun _ => loopC (Rep.D m) (cD m fuel) fuel cnL k [x0, l, AV.ptr 0 0, x3, AV.bool false, v, AV.int IntKind.i64 n, x7, x8, x9, AV.inl true (Spare.tok 0 0) 9 (detokL (detokL [AV.agg (shL [Sh.int IntKind.i64, Sh.int IntKind.i64, Sh.int IntKind.i64, Sh.int IntKind.i64, Sh.int IntKind.i64, Sh.bool, Sh.bool, Sh.bool, Sh.int IntKind.i64] u6.aggOf)])), AV.int IntKind.i64 (IntKind.i64.wrap (i - (1 : Int))), x12, x13, x14, x15, x16, x17, x18, x19, x20, x21, x22, x23, x24, x25, x26, x27, x28, x29, x30, x31, x32, x33, x34, x35, x36, x37, x38, x39, x40, x41, x42, x43, x44, x45, x46, x47, x48, x49, x50, x51, x52, x53, x54, x55, x56, x57, x58, x59, x60, x61, x62, x63, x64, x65, x66, x67, x68, x69, x70, x71, x72, x73, x74, x75, x76, x77, x78, x79, x80, x81, x82, x83, x84, x85, x86, x87, x88, x89, x90, x91, x92, x93, x94, x95, x96, x97, x98, x99, x100, x101, x102, x103, x104, x105, x106, x107, x108, x109, x110, x111, x112, x113, x114, x115, x116, x117, x118, x119, x120, x121, x122, x123, AV.int IntKind.i64 i, AV.bool (decide (i ≥ (0 : Int))), AV.int IntKind.i64 i, AV.int IntKind.i64 (IntKind.i64.wrap (i - (1 : Int))), l, AV.int IntKind.i64 i, (AV.agg (shL [Sh.int IntKind.i64, Sh.int IntKind.i64, Sh.int IntKind.i64, Sh.int IntKind.i64, Sh.int IntKind.i64, Sh.bool, Sh.bool, Sh.bool, Sh.int IntKind.i64] u2.aggOf)).rop, (AV.bool (hdV (tlV (tlV (tlV (tlV (tlV u2.aggOf)))))).boolOf).rop, AV.bool (hdV (tlV (tlV (tlV (tlV (tlV u2.aggOf)))))).boolOf, AV.nils, l, AV.int IntKind.i64 i, (AV.agg (shL [Sh.int IntKind.i64, Sh.int IntKind.i64, Sh.int IntKind.i64, Sh.int IntKind.i64, Sh.int IntKind.i64, Sh.bool, Sh.bool, Sh.bool, Sh.int IntKind.i64] u6.aggOf)).rop, AV.agg (shL [Sh.int IntKind.i64, Sh.int IntKind.i64, Sh.int IntKind.i64, Sh.int IntKind.i64, Sh.int IntKind.i64, Sh.bool, Sh.bool, Sh.bool, Sh.int IntKind.i64] u6.aggOf), AV.inl true Spare.zero 9 (detokL [AV.agg (shL [Sh.int IntKind.i64, Sh.int IntKind.i64, Sh.int IntKind.i64, Sh.int IntKind.i64, Sh.int IntKind.i64, Sh.bool, Sh.bool, Sh.bool, Sh.int IntKind.i64] u6.aggOf)]), AV.inl true (Spare.tok 0 0) 9 (detokL (detokL [AV.agg (shL [Sh.int IntKind.i64, Sh.int IntKind.i64, Sh.int IntKind.i64, Sh.int IntKind.i64, Sh.int IntKind.i64, Sh.bool, Sh.bool, Sh.bool, Sh.int IntKind.i64] u6.aggOf)])), x140, x141, x142, x143, x144, x145, x146, x147, x148, x149, x150, x151, x152, x153] { objs := [AObj.cells cs], toks := [(0, 9, 49)] } K)
           (fun _ => none)
          | none => none))
         (fun _ => none))
        (fun _ => loopC (Rep.D m) (cD m fuel) fuel cnL k [x0, l, AV.ptr 0 0, x3, AV.bool false, v, AV.int IntKind.i64 n, x7, x8, x9, AV.nils, AV.int IntKind.i64 (IntKind.i64.wrap (i - (1 : Int))), x12, x13, x14, x15, x16, x17, x18, x19, x20, x21, x22, x23, x24, x25, x26, x27, x28, x29, x30, x31, x32, x33, x34, x35, x36, x37, x38, x39, x40, x41, x42, x43, x44, x45, x46, x47, x48, x49, x50, x51, x52, x53, x54, x55, x56, x57, x58, x59, x60, x61, x62, x63, x64, x65, x66, x67, x68, x69, x70, x71, x72, x73, x74, x75, x76, x77, x78, x79, x80, x81, x82, x83, x84, x85, x86, x87, x88, x89, x90, x91, x92, x93, x94, x95, x96, x97, x98, x99, x100, x101, x102, x103, x104, x105, x106, x107, x108, x109, x110, x111, x112, x113, x114, x115, x116, x117, x118, x119, x120, x121, x122, x123, AV.int IntKind.i64 i, AV.bool (decide (i ≥ (0 : Int))), AV.int IntKind.i64 i, AV.int IntKind.i64 (IntKind.i64.wrap (i - (1 : Int))), l, AV.int IntKind.i64 i, (AV.agg (shL [Sh.int IntKind.i64, Sh.int IntKind.i64, Sh.int IntKind.i64, Sh.int IntKind.i64, Sh.int IntKind.i64, Sh.bool, Sh.bool, Sh.bool, Sh.int IntKind.i64] u2.aggOf)).rop, (AV.bool (hdV (tlV (tlV (tlV (tlV (tlV u2.aggOf)))))).boolOf).rop, AV.bool (hdV (tlV (tlV (tlV (tlV (tlV u2.aggOf)))))).boolOf, x133, x134, x135, x136, x137, x138, x139, x140, x141, x142, x143, x144, x145, x146, x147, x148, x149, x150, x151, x152, x153] { objs := [AObj.cells cs], toks := [] } K))
       (fun _ => none)
      | none => none))
     (fun _ => none))
    (fun _ => K (Ex.exit 4)
     [x0, l, AV.ptr 0 0, x3, AV.bool false, v, AV.int IntKind.i64 n, x7, x8, x9, AV.nils, AV.int IntKind.i64 i, x12, x13,
      x14, x15, x16, x17, x18, x19, x20, x21, x22, x23, x24, x25, x26, x27, x28, x29, x30, x31, x32, x33, x34, x35, x36,
      x37, x38, x39, x40, x41, x42, x43, x44, x45, x46, x47, x48, x49, x50, x51, x52, x53, x54, x55, x56, x57, x58, x59,
      x60, x61, x62, x63, x64, x65, x66, x67, x68, x69, x70, x71, x72, x73, x74, x75, x76, x77, x78, x79, x80, x81, x82,
      x83, x84, x85, x86, x87, x88, x89, x90, x91, x92, x93, x94, x95, x96, x97, x98, x99, x100, x101, x102, x103, x104,
      x105, x106, x107, x108, x109, x110, x111, x112, x113, x114, x115, x116, x117, x118, x119, x120, x121, x122, x123,
      AV.int IntKind.i64 i, AV.bool (decide (i ≥ (0 : Int))), x126, x127, x128, x129, x130, x131, x132, x133, x134,
      x135, x136, x137, x138, x139, x140, x141, x142, x143, x144, x145, x146, x147, x148, x149, x150, x151, x152, x153]
     { objs := [AObj.cells cs], toks := [] }) := by kernel_rfl
theorem cnL_step (m : Array Value) {R : Type} (fuel k : Nat) (cs : List AV) (g : Nat) (ys : List AV) (l v : AV) (n i : Int) (x0 x3 x7 x8 x9 x12 x13 x14 x15 x16 x17 x18 x19 x20 x21 x22 x23 x24 x25 x26 x27 x28 x29 x30 x31 x32 x33 x34 x35 x36 x37 x38 x39 x40 x41 x42 x43 x44 x45 x46 x47 x48 x49 x50 x51 x52 x53 x54 x55 x56 x57 x58 x59 x60 x61 x62 x63 x64 x65 x66 x67 x68 x69 x70 x71 x72 x73 x74 x75 x76 x77 x78 x79 x80 x81 x82 x83 x84 x85 x86 x87 x88 x89 x90 x91 x92 x93 x94 x95 x96 x97 x98 x99 x100 x101 x102 x103 x104 x105 x106 x107 x108 x109 x110 x111 x112 x113 x114 x115 x116 x117 x118 x119 x120 x121 x122 x123 x124 x125 x126 x127 x128 x129 x130 x131 x132 x133 x134 x135 x136 x137 x138 x139 x140 x141 x142 x143 x144 x145 x146 x147 x148 x149 x150 x151 x152 x153 : AV) (K : Ex → List AV → AH → Option R) :
  loopC (Rep.D m) (cD m fuel) fuel cnL (k + 1) [x0, l, .ptr 0 0, x3, .bool false, v, .int .i64 n, x7, x8, x9, .inl true (.tok 0 g) 9 ys, .int .i64 i, x12, x13, x14, x15, x16, x17, x18, x19, x20, x21, x22, x23, x24, x25, x26, x27, x28, x29, x30, x31, x32, x33, x34, x35, x36, x37, x38, x39, x40, x41, x42, x43, x44, x45, x46, x47, x48, x49, x50, x51, x52, x53, x54, x55, x56, x57, x58, x59, x60, x61, x62, x63, x64, x65, x66, x67, x68, x69, x70, x71, x72, x73, x74, x75, x76, x77, x78, x79, x80, x81, x82, x83, x84, x85, x86, x87, x88, x89, x90, x91, x92, x93, x94, x95, x96, x97, x98, x99, x100, x101, x102, x103, x104, x105, x106, x107, x108, x109, x110, x111, x112, x113, x114, x115, x116, x117, x118, x119, x120, x121, x122, x123, x124, x125, x126, x127, x128, x129, x130, x131, x132, x133, x134, x135, x136, x137, x138, x139, x140, x141, x142, x143, x144, x145, x146, x147, x148, x149, x150, x151, x152, x153] ⟨[.cells cs], [(g, 9, 49)]⟩ K =
  br (decide (i ≥ (0 : Int)))
    (fun _ => br (AV.listN 9 l && (decide ((0 : Int) ≤ i) && decide (i < (↑l.listOf.length : Int))))
     (fun _ => (match l.listOf[i.toNat]? with
      | some u2 => br (u2.isAgg &&
     fitL
      [Sh.int IntKind.i64, Sh.int IntKind.i64, Sh.int IntKind.i64, Sh.int IntKind.i64, Sh.int IntKind.i64, Sh.bool,
       Sh.bool, Sh.bool, Sh.int IntKind.i64]
      u2.aggOf)
       (fun _ => br ((hdV (tlV (tlV (tlV (tlV (tlV u2.aggOf)))))).boolOf)
        (fun _ => br (AV.listN 9 l && (decide ((0 : Int) ≤ i) && decide (i < (↑l.listOf.length : Int))))
         (fun _ => (match l.listOf[i.toNat]? with
          | some u6 => br (u6.isAgg &&
     fitL
      [Sh.int IntKind.i64, Sh.int IntKind.i64, Sh.int IntKind.i64, Sh.int IntKind.i64, Sh.int IntKind.i64, Sh.bool,
       Sh.bool, Sh.bool, Sh.int IntKind.i64]
      u6.aggOf)
           (fun _ => (if fitsRoom (ys.length + 1) 56 = true ∧ 9 = 9 then (if some (g, 9, 49) = some (g, 9, 49) then loopC (Rep.D m) (cD m fuel) fuel cnL k [x0, l, AV.ptr 0 0, x3, AV.bool false, v, AV.int IntKind.i64 n, x7, x8, x9, AV.inl true (Spare.tok 0 (g + 1)) 9 (ys ++ detokL (detokL [AV.agg (shL [Sh.int IntKind.i64, Sh.int IntKind.i64, Sh.int IntKind.i64, Sh.int IntKind.i64, Sh.int IntKind.i64, Sh.bool, Sh.bool, Sh.bool, Sh.int IntKind.i64] u6.aggOf)])), AV.int IntKind.i64 (IntKind.i64.wrap (i - (1 : Int))), x12, x13, x14, x15, x16, x17, x18, x19, x20, x21, x22, x23, x24, x25, x26, x27, x28, x29, x30, x31, x32, x33, x34, x35, x36, x37, x38, x39, x40, x41, x42, x43, x44, x45, x46, x47, x48, x49, x50, x51, x52, x53, x54, x55, x56, x57, x58, x59, x60, x61, x62, x63, x64, x65, x66, x67, x68, x69, x70, x71, x72, x73, x74, x75, x76, x77, x78, x79, x80, x81, x82, x83, x84, x85, x86, x87, x88, x89, x90, x91, x92, x93, x94, x95, x96, x97, x98, x99, x100, x101, x102, x103, x104, x105, x106, x107, x108, x109, x110, x111, x112, x113, x114, x115, x116, x117, x118, x119, x120, x121, x122, x123, AV.int IntKind.i64 i, AV.bool (decide (i ≥ (0 : Int))), AV.int IntKind.i64 i, AV.int IntKind.i64 (IntKind.i64.wrap (i - (1 : Int))), l, AV.int IntKind.i64 i, (AV.agg (shL [Sh.int IntKind.i64, Sh.int IntKind.i64, Sh.int IntKind.i64, Sh.int IntKind.i64, Sh.int IntKind.i64, Sh.bool, Sh.bool, Sh.bool, Sh.int IntKind.i64] u2.aggOf)).rop, (AV.bool (hdV (tlV (tlV (tlV (tlV (tlV u2.aggOf)))))).boolOf).rop, AV.bool (hdV (tlV (tlV (tlV (tlV (tlV u2.aggOf)))))).boolOf, AV.inl true (Spare.tok 0 g) 9 ys, l, AV.int IntKind.i64 i, (AV.agg (shL [Sh.int IntKind.i64, Sh.int IntKind.i64, Sh.int IntKind.i64, Sh.int IntKind.i64, Sh.int IntKind.i64, Sh.bool, Sh.bool, Sh.bool, Sh.int IntKind.i64] u6.aggOf)).rop, AV.agg (shL [Sh.int IntKind.i64, Sh.int IntKind.i64, Sh.int IntKind.i64, Sh.int IntKind.i64, Sh.int IntKind.i64, Sh.bool, Sh.bool, Sh.bool, Sh.int IntKind.i64] u6.aggOf), AV.inl true Spare.zero 9 (detokL [AV.agg (shL [Sh.int IntKind.i64, Sh.int IntKind.i64, Sh.int IntKind.i64, Sh.int IntKind.i64, Sh.int IntKind.i64, Sh.bool, Sh.bool, Sh.bool, Sh.int IntKind.i64] u6.aggOf)]), AV.inl true (Spare.tok 0 (g + 1)) 9 (ys ++ detokL (detokL [AV.agg (shL [Sh.int IntKind.i64, Sh.int IntKind.i64, Sh.int IntKind.i64, Sh.int IntKind.i64, Sh.int IntKind.i64, Sh.bool, Sh.bool, Sh.bool, Sh.int IntKind.i64] u6.aggOf)])), x140, x141, x142, x143, x144, x145, x146, x147, x148, x149, x150, x151, x152, x153] { objs := [AObj.cells cs], toks := [(g + 1, 9, 49)] } K
             else none)
            else none))
           (fun _ => none)
          | none => none))
         (fun _ => none))
        (fun _ => loopC (Rep.D m) (cD m fuel) fuel cnL k [x0, l, AV.ptr 0 0, x3, AV.bool false, v, AV.int IntKind.i64 n, x7, x8, x9, AV.inl true (Spare.tok 0 g) 9 ys, AV.int IntKind.i64 (IntKind.i64.wrap (i - (1 : Int))), x12, x13, x14, x15, x16, x17, x18, x19, x20, x21, x22, x23, x24, x25, x26, x27, x28, x29, x30, x31, x32, x33, x34, x35, x36, x37, x38, x39, x40, x41, x42, x43, x44, x45, x46, x47, x48, x49, x50, x51, x52, x53, x54, x55, x56, x57, x58, x59, x60, x61, x62, x63, x64, x65, x66, x67, x68, x69, x70, x71, x72, x73, x74, x75, x76, x77, x78, x79, x80, x81, x82, x83, x84, x85, x86, x87, x88, x89, x90, x91, x92, x93, x94, x95, x96, x97, x98, x99, x100, x101, x102, x103, x104, x105, x106, x107, x108, x109, x110, x111, x112, x113, x114, x115, x116, x117, x118, x119, x120, x121, x122, x123, AV.int IntKind.i64 i, AV.bool (decide (i ≥ (0 : Int))), AV.int IntKind.i64 i, AV.int IntKind.i64 (IntKind.i64.wrap (i - (1 : Int))), l, AV.int IntKind.i64 i, (AV.agg (shL [Sh.int IntKind.i64, Sh.int IntKind.i64, Sh.int IntKind.i64, Sh.int IntKind.i64, Sh.int IntKind.i64, Sh.bool, Sh.bool, Sh.bool, Sh.int IntKind.i64] u2.aggOf)).rop, (AV.bool (hdV (tlV (tlV (tlV (tlV (tlV u2.aggOf)))))).boolOf).rop, AV.bool (hdV (tlV (tlV (tlV (tlV (tlV u2.aggOf)))))).boolOf, x133, x134, x135, x136, x137, x138, x139, x140, x141, x142, x143, x144, x145, x146, x147, x148, x149, x150, x151, x152, x153] { objs := [AObj.cells cs], toks := [(g, 9, 49)] } K))
       (fun _ => none)
      | none => none))
     (fun _ => none))
    (fun _ => K (Ex.exit 4)
     [x0, l, AV.ptr 0 0, x3, AV.bool false, v, AV.int IntKind.i64 n, x7, x8, x9, AV.inl true (Spare.tok 0 g) 9 ys,
      AV.int IntKind.i64 i, x12, x13, x14, x15, x16, x17, x18, x19, x20, x21, x22, x23, x24, x25, x26, x27, x28, x29, x30,
      x31, x32, x33, x34, x35, x36, x37, x38, x39, x40, x41, x42, x43, x44, x45, x46, x47, x48, x49, x50, x51, x52, x53,
      x54, x55, x56, x57, x58, x59, x60, x61, x62, x63, x64, x65, x66, x67, x68, x69, x70, x71, x72, x73, x74, x75, x76,
      x77, x78, x79, x80, x81, x82, x83, x84, x85, x86, x87, x88, x89, x90, x91, x92, x93, x94, x95, x96, x97, x98, x99,
      x100, x101, x102, x103, x104, x105, x106, x107, x108, x109, x110, x111, x112, x113, x114, x115, x116, x117, x118,
      x119, x120, x121, x122, x123, AV.int IntKind.i64 i, AV.bool (decide (i ≥ (0 : Int))), x126, x127, x128, x129,
      x130, x131, x132, x133, x134, x135, x136, x137, x138, x139, x140, x141, x142, x143, x144, x145, x146, x147, x148,
      x149, x150, x151, x152, x153]
     { objs := [AObj.cells cs], toks := [(g, 9, 49)] }) := by kernel_rfl
theorem cn_end (m : Array Value) {R : Type} (fuel : Nat) (a0 a1 a2 a3 : Int) (a4 l v o : AV) (n i : Int) (ts : List (Nat × Nat × TypeId)) (x0 x3 x7 x8 x9 x12 x13 x14 x15 x16 x17 x18 x19 x20 x21 x22 x23 x24 x25 x26 x27 x28 x29 x30 x31 x32 x33 x34 x35 x36 x37 x38 x39 x40 x41 x42 x43 x44 x45 x46 x47 x48 x49 x50 x51 x52 x53 x54 x55 x56 x57 x58 x59 x60 x61 x62 x63 x64 x65 x66 x67 x68 x69 x70 x71 x72 x73 x74 x75 x76 x77 x78 x79 x80 x81 x82 x83 x84 x85 x86 x87 x88 x89 x90 x91 x92 x93 x94 x95 x96 x97 x98 x99 x100 x101 x102 x103 x104 x105 x106 x107 x108 x109 x110 x111 x112 x113 x114 x115 x116 x117 x118 x119 x120 x121 x122 x123 x124 x125 x126 x127 x128 x129 x130 x131 x132 x133 x134 x135 x136 x137 x138 x139 x140 x141 x142 x143 x144 x145 x146 x147 x148 x149 x150 x151 x152 x153 : AV) (K : AV → AH → Option R) :
  kontI (Rep.D m) (cD m fuel) fuel (bodyOf Tryd.f7) [1, 1, 1, 1, 1, 1, 0, 1, 0] (endI (Rep.D m) Tryd.f7 K) (.exit 4) [x0, l, .ptr 0 0, x3, .bool false, v, .int .i64 n, x7, x8, x9, o, .int .i64 i, x12, x13, x14, x15, x16, x17, x18, x19, x20, x21, x22, x23, x24, x25, x26, x27, x28, x29, x30, x31, x32, x33, x34, x35, x36, x37, x38, x39, x40, x41, x42, x43, x44, x45, x46, x47, x48, x49, x50, x51, x52, x53, x54, x55, x56, x57, x58, x59, x60, x61, x62, x63, x64, x65, x66, x67, x68, x69, x70, x71, x72, x73, x74, x75, x76, x77, x78, x79, x80, x81, x82, x83, x84, x85, x86, x87, x88, x89, x90, x91, x92, x93, x94, x95, x96, x97, x98, x99, x100, x101, x102, x103, x104, x105, x106, x107, x108, x109, x110, x111, x112, x113, x114, x115, x116, x117, x118, x119, x120, x121, x122, x123, x124, x125, x126, x127, x128, x129, x130, x131, x132, x133, x134, x135, x136, x137, x138, x139, x140, x141, x142, x143, x144, x145, x146, x147, x148, x149, x150, x151, x152, x153] ⟨[.cells (stC a0 a1 a2 a3 a4)], ts⟩ =
  br (AV.listN 7 v)
    (fun _ => br (n == (↑v.listOf.length : Int))
     (fun _ => (match valH (Rep.D m) 24
     [AV.agg [AV.int IntKind.i64 a0, AV.int IntKind.i64 a1, AV.int IntKind.i64 a2, AV.int IntKind.i64 a3, a4], o]
     {
      objs :=
       [AObj.cells [AV.int IntKind.i64 a0, AV.int IntKind.i64 a1, AV.int IntKind.i64 a2, AV.int IntKind.i64 a3, a4]],
      toks := ts } with
      | some u2 => (match valH (Rep.D m) 23 [u2, v]
     {
      objs :=
       [AObj.cells [AV.int IntKind.i64 a0, AV.int IntKind.i64 a1, AV.int IntKind.i64 a2, AV.int IntKind.i64 a3, a4]],
      toks := ts } with
       | some u3 => br (fitS Sh.bool u3)
        (fun _ => br (u3.boolOf)
         (fun _ => (match valH (Rep.D m) 19 []
     {
      objs :=
       [AObj.cells [AV.int IntKind.i64 a0, AV.int IntKind.i64 a1, AV.int IntKind.i64 a2, AV.int IntKind.i64 a3, a4]],
      toks := ts } with
          | some u6 => br (fitS Sh.bool u6)
           (fun _ => K (AV.bool u6.boolOf)
     {
      objs :=
       [AObj.cells [AV.int IntKind.i64 a0, AV.int IntKind.i64 a1, AV.int IntKind.i64 a2, AV.int IntKind.i64 a3, a4]],
      toks := ts })
           (fun _ => none)
          | none => none))
         (fun _ => K (AV.bool false)
     {
      objs :=
       [AObj.cells [AV.int IntKind.i64 a0, AV.int IntKind.i64 a1, AV.int IntKind.i64 a2, AV.int IntKind.i64 a3, a4]],
      toks := ts }))
        (fun _ => none)
       | none => none)
      | none => none))
     (fun _ => K (AV.bool false)
     {
      objs :=
       [AObj.cells [AV.int IntKind.i64 a0, AV.int IntKind.i64 a1, AV.int IntKind.i64 a2, AV.int IntKind.i64 a3, a4]],
      toks := ts }))
    (fun _ => none) := by kernel_rfl
-- PROOFS
theorem stT_get (f : Int → Nat → AV → Bool) (id : Int) : ∀ (l : List AV) (k j : Nat), (stT f id k l)[j]? = (l[j]?).map fun t => stOf id (k + j) t (f id (k + j) t)
  | [], k, j => by simp [stT]
  | t :: r, k, 0 => by simp [stT]
  | t :: r, k, j + 1 => by
    simp only [stT, List.getElem?_cons_succ, stT_get f id r (k + 1) j]
    congr 1
    funext u
    rw [show k + 1 + j = k + (j + 1) by omega]
theorem stA_app (f : Int → Nat → AV → Bool) : ∀ (a b : List AV), stA f (a ++ b) = stA f a ++ stA f b
  | [], b => rfl
  | u :: a, b => by simp [stA, stA_app f a b]
theorem ge_false {a b : Nat} (h : a < b) : decide ((a : Int) ≥ (b : Int)) = false := by simp; omega

theorem st_at (f : Int → Nat → AV → Bool) {A : List AV} {jn q : Nat} {u t : AV} (hu : A[jn]? = some u) (ht : (shS Sh.any (hdV (tlV (tlV (tlV (tlV (tlV (tlV (tlV (tlV (tlV u.aggOf))))))))))).listOf[q]? = some t) : (stA f A)[(stA f (A.take jn)).length + q]? = some (stOf (hdV u.aggOf).numOf q t (f (hdV u.aggOf).numOf q t)) := by
  have e : A = A.take jn ++ (u :: A.drop (jn + 1)) := by
    rw [← nrm_drop hu]; exact (List.take_append_drop _ _).symm
  have e2 : stA f A = stA f (A.take jn) ++ (stT f (hdV u.aggOf).numOf 0 (shS Sh.any (hdV (tlV (tlV (tlV (tlV (tlV (tlV (tlV (tlV (tlV u.aggOf))))))))))).listOf ++ stA f (A.drop (jn + 1))) := by
    conv => lhs; rw [e]
    rw [stA_app]; rfl
  have hq := (List.getElem?_eq_some_iff.1 ht).1
  rw [e2, List.getElem?_append_right (by omega), Nat.add_sub_cancel_left, List.getElem?_append_left (by rw [stT_length]; exact hq), stT_get, ht]
  simp
theorem st_next (f : Int → Nat → AV → Bool) {A : List AV} {jn : Nat} {u : AV} (hu : A[jn]? = some u) : (stA f (A.take (jn + 1))).length = (stA f (A.take jn)).length + (shS Sh.any (hdV (tlV (tlV (tlV (tlV (tlV (tlV (tlV (tlV (tlV u.aggOf))))))))))).listOf.length := by
  rw [List.take_add_one, hu, stA_app]
  simp [stA, stT_length]

theorem cnI_loop (m : Array Value) {R : Type} (fuel : Nat) (a0 a1 a2 a3 : Int) {a4 l v : AV} (ha : tyV (.sl 10 dtAlloc) a4) (hl : tyV (.sl 9 dtProc) l) (hv : tyV (.sl 7 dtSt) v) (f : Int → Nat → AV → Bool) (hvl : v.listOf = stA f a4.listOf) (jn : Nat) {u : AV} (hu : a4.listOf[jn]? = some u)
    (K : Ex → List AV → AH → Option R) (Q : Option R → Prop)
    (hexit : ∀ (n i j : Int) (x0 x3 x9 x10 x11 x12 x13 x14 x15 x16 x17 x18 x19 x20 x21 x22 x23 x24 x25 x26 x27 x28 x29 x30 x31 x32 x33 x34 x35 x36 x37 x38 x39 x40 x41 x42 x43 x44 x45 x46 x47 x48 x49 x50 x51 x52 x53 x54 x55 x56 x57 x58 x59 x60 x61 x62 x63 x64 x65 x66 x67 x68 x69 x70 x71 x72 x73 x74 x75 x76 x77 x78 x79 x80 x81 x82 x83 x84 x85 x86 x87 x88 x89 x90 x91 x92 x93 x94 x95 x96 x97 x98 x99 x100 x101 x102 x103 x104 x105 x106 x107 x108 x109 x110 x111 x112 x113 x114 x115 x116 x117 x118 x119 x120 x121 x122 x123 x124 x125 x126 x127 x128 x129 x130 x131 x132 x133 x134 x135 x136 x137 x138 x139 x140 x141 x142 x143 x144 x145 x146 x147 x148 x149 x150 x151 x152 x153 : AV), n = (((stA f (a4.listOf.take (jn + 1))).length : Nat) : Int) → i = (jn : Int) → Q (K (.exit 2) [x0, l, .ptr 0 0, x3, .bool false, v, .int .i64 n, .int .i64 i, .int .i64 j, x9, x10, x11, x12, x13, x14, x15, x16, x17, x18, x19, x20, x21, x22, x23, x24, x25, x26, x27, x28, x29, x30, x31, x32, x33, x34, x35, x36, x37, x38, x39, x40, x41, x42, x43, x44, x45, x46, x47, x48, x49, x50, x51, x52, x53, x54, x55, x56, x57, x58, x59, x60, x61, x62, x63, x64, x65, x66, x67, x68, x69, x70, x71, x72, x73, x74, x75, x76, x77, x78, x79, x80, x81, x82, x83, x84, x85, x86, x87, x88, x89, x90, x91, x92, x93, x94, x95, x96, x97, x98, x99, x100, x101, x102, x103, x104, x105, x106, x107, x108, x109, x110, x111, x112, x113, x114, x115, x116, x117, x118, x119, x120, x121, x122, x123, x124, x125, x126, x127, x128, x129, x130, x131, x132, x133, x134, x135, x136, x137, x138, x139, x140, x141, x142, x143, x144, x145, x146, x147, x148, x149, x150, x151, x152, x153] ⟨[.cells (stC a0 a1 a2 a3 a4)], []⟩)) :
    ∀ (r q k : Nat) (n i j : Int) (x0 x3 x9 x10 x11 x12 x13 x14 x15 x16 x17 x18 x19 x20 x21 x22 x23 x24 x25 x26 x27 x28 x29 x30 x31 x32 x33 x34 x35 x36 x37 x38 x39 x40 x41 x42 x43 x44 x45 x46 x47 x48 x49 x50 x51 x52 x53 x54 x55 x56 x57 x58 x59 x60 x61 x62 x63 x64 x65 x66 x67 x68 x69 x70 x71 x72 x73 x74 x75 x76 x77 x78 x79 x80 x81 x82 x83 x84 x85 x86 x87 x88 x89 x90 x91 x92 x93 x94 x95 x96 x97 x98 x99 x100 x101 x102 x103 x104 x105 x106 x107 x108 x109 x110 x111 x112 x113 x114 x115 x116 x117 x118 x119 x120 x121 x122 x123 x124 x125 x126 x127 x128 x129 x130 x131 x132 x133 x134 x135 x136 x137 x138 x139 x140 x141 x142 x143 x144 x145 x146 x147 x148 x149 x150 x151 x152 x153 : AV), n = (((stA f (a4.listOf.take jn)).length + q : Nat) : Int) → i = (jn : Int) → j = (q : Int) → q + r = (shS Sh.any (hdV (tlV (tlV (tlV (tlV (tlV (tlV (tlV (tlV (tlV u.aggOf))))))))))).listOf.length → r < k →
      Q (loopC (Rep.D m) (cD m fuel) fuel cnI k [x0, l, .ptr 0 0, x3, .bool false, v, .int .i64 n, .int .i64 i, .int .i64 j, x9, x10, x11, x12, x13, x14, x15, x16, x17, x18, x19, x20, x21, x22, x23, x24, x25, x26, x27, x28, x29, x30, x31, x32, x33, x34, x35, x36, x37, x38, x39, x40, x41, x42, x43, x44, x45, x46, x47, x48, x49, x50, x51, x52, x53, x54, x55, x56, x57, x58, x59, x60, x61, x62, x63, x64, x65, x66, x67, x68, x69, x70, x71, x72, x73, x74, x75, x76, x77, x78, x79, x80, x81, x82, x83, x84, x85, x86, x87, x88, x89, x90, x91, x92, x93, x94, x95, x96, x97, x98, x99, x100, x101, x102, x103, x104, x105, x106, x107, x108, x109, x110, x111, x112, x113, x114, x115, x116, x117, x118, x119, x120, x121, x122, x123, x124, x125, x126, x127, x128, x129, x130, x131, x132, x133, x134, x135, x136, x137, x138, x139, x140, x141, x142, x143, x144, x145, x146, x147, x148, x149, x150, x151, x152, x153] ⟨[.cells (stC a0 a1 a2 a3 a4)], []⟩ K)
  | r, q, 0, n, i, j, _, _, _, _, _, _, _, _, _, _, _, _, _, _, _, _, _, _, _, _, _, _, _, _, _, _, _, _, _, _, _, _, _, _, _, _, _, _, _, _, _, _, _, _, _, _, _, _, _, _, _, _, _, _, _, _, _, _, _, _, _, _, _, _, _, _, _, _, _, _, _, _, _, _, _, _, _, _, _, _, _, _, _, _, _, _, _, _, _, _, _, _, _, _, _, _, _, _, _, _, _, _, _, _, _, _, _, _, _, _, _, _, _, _, _, _, _, _, _, _, _, _, _, _, _, _, _, _, _, _, _, _, _, _, _, _, _, _, _, _, _, _, _, _, _, _, _, hn, hi', hj, h, hk => by omega
  | 0, q, k + 1, n, i, j, x0, x3, x9, x10, x11, x12, x13, x14, x15, x16, x17, x18, x19, x20, x21, x22, x23, x24, x25, x26, x27, x28, x29, x30, x31, x32, x33, x34, x35, x36, x37, x38, x39, x40, x41, x42, x43, x44, x45, x46, x47, x48, x49, x50, x51, x52, x53, x54, x55, x56, x57, x58, x59, x60, x61, x62, x63, x64, x65, x66, x67, x68, x69, x70, x71, x72, x73, x74, x75, x76, x77, x78, x79, x80, x81, x82, x83, x84, x85, x86, x87, x88, x89, x90, x91, x92, x93, x94, x95, x96, x97, x98, x99, x100, x101, x102, x103, x104, x105, x106, x107, x108, x109, x110, x111, x112, x113, x114, x115, x116, x117, x118, x119, x120, x121, x122, x123, x124, x125, x126, x127, x128, x129, x130, x131, x132, x133, x134, x135, x136, x137, x138, x139, x140, x141, x142, x143, x144, x145, x146, x147, x148, x149, x150, x151, x152, x153, hn, hi', hj, h, hk => by
    have hjn := (List.getElem?_eq_some_iff.1 hu).1
    have tu := (sl_facts ha).2.2.1 u (List.mem_of_getElem? hu)
    obtain ⟨g1, -, -, -, g5⟩ := sl_facts (pj_dtAlloc_9 tu)
    have hx := hexit n i j x0 x3 x9 x10 x11 x12 x13 x14 x15 x16 x17 x18 x19 x20 x21 x22 x23 x24 x25 x26 x27 x28 x29 x30 x31 x32 x33 x34 x35 x36 x37 x38 x39 x40 x41 x42 x43 x44 x45 x46 x47 x48 x49 x50 x51 x52 x53 x54 x55 x56 x57 x58 x59 x60 x61 x62 x63 x64 x65 x66 x67 x68 x69 x70 x71 x72 x73 x74 x75 x76 x77 x78 x79 x80 x81 x82 x83 x84 x85 x86 x87 x88 x89 x90 x91 x92 x93 x94 x95 x96 x97 x98 x99 x100 x101 x102 x103 x104 x105 x106 x107 x108 x109 x110 x111 x112 x113 x114 x115 x116 x117 x118 x119 x120 x121 x122 x123 x124 x125 x126 x127 x128 x129 x130 x131 x132 x133 x134 x135 x136 x137 x138 x139 x140 x141 x142 x143 x144 x145 x146 x147 x148 x149 x150 x151 x152 x153 (by rw [hn, st_next f hu]; omega) hi'
    subst hn
    subst hi'
    subst hj
    rw [cnI_step, (sl_facts ha).1, lt_true hjn, ge_true, Int.toNat_natCast, hu]
    simp only [br, Bool.and_self, fit_dtAlloc tu, g1, g5]
    rw [lt_false (by omega : ¬ q < (shS Sh.any (hdV (tlV (tlV (tlV (tlV (tlV (tlV (tlV (tlV (tlV u.aggOf))))))))))).listOf.length)]
    exact hexit _ _ _ _ _ _ _ _ _ _ _ _ _ _ _ _ _ _ _ _ _ _ _ _ _ _ _ _ _ _ _ _ _ _ _ _ _ _ _ _ _ _ _ _ _ _ _ _ _ _ _ _ _ _ _ _ _ _ _ _ _ _ _ _ _ _ _ _ _ _ _ _ _ _ _ _ _ _ _ _ _ _ _ _ _ _ _ _ _ _ _ _ _ _ _ _ _ _ _ _ _ _ _ _ _ _ _ _ _ _ _ _ _ _ _ _ _ _ _ _ _ _ _ _ _ _ _ _ _ _ _ _ _ _ _ _ _ _ _ _ _ _ _ _ _ _ _ _ _ _ (by rw [st_next f hu]; omega) rfl
  | r + 1, q, k + 1, n, i, j, x0, x3, x9, x10, x11, x12, x13, x14, x15, x16, x17, x18, x19, x20, x21, x22, x23, x24, x25, x26, x27, x28, x29, x30, x31, x32, x33, x34, x35, x36, x37, x38, x39, x40, x41, x42, x43, x44, x45, x46, x47, x48, x49, x50, x51, x52, x53, x54, x55, x56, x57, x58, x59, x60, x61, x62, x63, x64, x65, x66, x67, x68, x69, x70, x71, x72, x73, x74, x75, x76, x77, x78, x79, x80, x81, x82, x83, x84, x85, x86, x87, x88, x89, x90, x91, x92, x93, x94, x95, x96, x97, x98, x99, x100, x101, x102, x103, x104, x105, x106, x107, x108, x109, x110, x111, x112, x113, x114, x115, x116, x117, x118, x119, x120, x121, x122, x123, x124, x125, x126, x127, x128, x129, x130, x131, x132, x133, x134, x135, x136, x137, x138, x139, x140, x141, x142, x143, x144, x145, x146, x147, x148, x149, x150, x151, x152, x153, hn, hi', hj, h, hk => by
    have hjn := (List.getElem?_eq_some_iff.1 hu).1
    have tu := (sl_facts ha).2.2.1 u (List.mem_of_getElem? hu)
    obtain ⟨g1, gm, g3, -, g5⟩ := sl_facts (pj_dtAlloc_9 tu)
    subst hn
    subst hi'
    subst hj
    have hq : q < (shS Sh.any (hdV (tlV (tlV (tlV (tlV (tlV (tlV (tlV (tlV (tlV u.aggOf))))))))))).listOf.length := by omega
    obtain ⟨t, ht⟩ : ∃ t, (shS Sh.any (hdV (tlV (tlV (tlV (tlV (tlV (tlV (tlV (tlV (tlV u.aggOf))))))))))).listOf[q]? = some t := ⟨_, List.getElem?_eq_getElem hq⟩
    have tt := g3 t (List.mem_of_getElem? ht)
    have t1 := (sl_facts (pj_dtTask_7 tt)).1
    have hst := st_at f hu ht
    rw [← hvl] at hst
    have hnv := (List.getElem?_eq_some_iff.1 hst).1
    obtain ⟨V1, Vm, V3, -, -⟩ := sl_facts hv
    have ts := V3 _ (List.mem_of_getElem? hst)
    have hbo : belowO 1 0 [AObj.cells [AV.int IntKind.i64 a0, AV.int IntKind.i64 a1, AV.int IntKind.i64 a2, AV.int IntKind.i64 a3, a4]] = true := by
      simp only [belowO, AObj.below, belowL, below, tyV_below ha, Bool.and_self]
    rw [cnI_step, (sl_facts ha).1, lt_true hjn, ge_true, Int.toNat_natCast, hu]
    simp only [br, Bool.and_self, fit_dtAlloc tu, g1, g5]
    rw [lt_true hq, ge_true, Int.toNat_natCast, ht]
    simp only [Bool.and_self, fit_dtTask tt, V1]
    rw [ge_false hnv, lt_true hnv, ge_true, Int.toNat_natCast, hst]
    simp only [Bool.and_self, fit_dtSt ts]
    have p0 : (hdV (stOf (hdV u.aggOf).numOf q t (f (hdV u.aggOf).numOf q t)).aggOf).numOf = (hdV u.aggOf).numOf := rfl
    have p1 : (hdV (tlV (stOf (hdV u.aggOf).numOf q t (f (hdV u.aggOf).numOf q t)).aggOf)).numOf = (q : Int) := rfl
    have p2 : (hdV (tlV (tlV (stOf (hdV u.aggOf).numOf q t (f (hdV u.aggOf).numOf q t)).aggOf))).numOf = (hdV t.aggOf).numOf := rfl
    have p3 : (hdV (tlV (tlV (tlV (stOf (hdV u.aggOf).numOf q t (f (hdV u.aggOf).numOf q t)).aggOf)))).numOf = (hdV (tlV t.aggOf)).numOf := rfl
    have p4 : (hdV (tlV (tlV (tlV (tlV (stOf (hdV u.aggOf).numOf q t (f (hdV u.aggOf).numOf q t)).aggOf))))).numOf = ((shS Sh.any (hdV (tlV (tlV (tlV (tlV (tlV (tlV (tlV t.aggOf))))))))).listOf.length : Int) := rfl
    have p5 : (hdV (tlV (tlV (tlV (tlV (tlV (stOf (hdV u.aggOf).numOf q t (f (hdV u.aggOf).numOf q t)).aggOf)))))).numOf = (hdV (tlV (tlV (tlV (tlV (tlV (tlV t.aggOf))))))).numOf := rfl
    simp only [p0, p1, p2, p3, p4, p5, bne_self_eq_false, t1, hbo]
    rw [wrap_next (show (stA f (a4.listOf.take jn)).length + q < v.listOf.length from hnv) Vm, wrap_next hq gm]
    simp only [cut_ty hl, cut_ty hv]
    exact cnI_loop m fuel a0 a1 a2 a3 ha hl hv f hvl jn hu K Q hexit r (q + 1) k _ _ _ _ _ _ _ _ _ _ _ _ _ _ _ _ _ _ _ _ _ _ _ _ _ _ _ _ _ _ _ _ _ _ _ _ _ _ _ _ _ _ _ _ _ _ _ _ _ _ _ _ _ _ _ _ _ _ _ _ _ _ _ _ _ _ _ _ _ _ _ _ _ _ _ _ _ _ _ _ _ _ _ _ _ _ _ _ _ _ _ _ _ _ _ _ _ _ _ _ _ _ _ _ _ _ _ _ _ _ _ _ _ _ _ _ _ _ _ _ _ _ _ _ _ _ _ _ _ _ _ _ _ _ _ _ _ _ _ _ _ _ _ _ _ _ _ _ _ _ rfl rfl rfl (by omega) (by omega)

theorem cnO_loop (m : Array Value) {R : Type} (fuel : Nat) (a0 a1 a2 a3 : Int) {a4 l v : AV} (ha : tyV (.sl 10 dtAlloc) a4) (hl : tyV (.sl 9 dtProc) l) (hv : tyV (.sl 7 dtSt) v) (hF : maxLen < fuel) (f : Int → Nat → AV → Bool) (hvl : v.listOf = stA f a4.listOf)
    (K : Ex → List AV → AH → Option R) (Q : Option R → Prop)
    (hexit : ∀ (n i : Int) (x0 x3 x8 x9 x10 x11 x12 x13 x14 x15 x16 x17 x18 x19 x20 x21 x22 x23 x24 x25 x26 x27 x28 x29 x30 x31 x32 x33 x34 x35 x36 x37 x38 x39 x40 x41 x42 x43 x44 x45 x46 x47 x48 x49 x50 x51 x52 x53 x54 x55 x56 x57 x58 x59 x60 x61 x62 x63 x64 x65 x66 x67 x68 x69 x70 x71 x72 x73 x74 x75 x76 x77 x78 x79 x80 x81 x82 x83 x84 x85 x86 x87 x88 x89 x90 x91 x92 x93 x94 x95 x96 x97 x98 x99 x100 x101 x102 x103 x104 x105 x106 x107 x108 x109 x110 x111 x112 x113 x114 x115 x116 x117 x118 x119 x120 x121 x122 x123 x124 x125 x126 x127 x128 x129 x130 x131 x132 x133 x134 x135 x136 x137 x138 x139 x140 x141 x142 x143 x144 x145 x146 x147 x148 x149 x150 x151 x152 x153 : AV), n = ((stA f a4.listOf).length : Int) → Q (K (.exit 0) [x0, l, .ptr 0 0, x3, .bool false, v, .int .i64 n, .int .i64 i, x8, x9, x10, x11, x12, x13, x14, x15, x16, x17, x18, x19, x20, x21, x22, x23, x24, x25, x26, x27, x28, x29, x30, x31, x32, x33, x34, x35, x36, x37, x38, x39, x40, x41, x42, x43, x44, x45, x46, x47, x48, x49, x50, x51, x52, x53, x54, x55, x56, x57, x58, x59, x60, x61, x62, x63, x64, x65, x66, x67, x68, x69, x70, x71, x72, x73, x74, x75, x76, x77, x78, x79, x80, x81, x82, x83, x84, x85, x86, x87, x88, x89, x90, x91, x92, x93, x94, x95, x96, x97, x98, x99, x100, x101, x102, x103, x104, x105, x106, x107, x108, x109, x110, x111, x112, x113, x114, x115, x116, x117, x118, x119, x120, x121, x122, x123, x124, x125, x126, x127, x128, x129, x130, x131, x132, x133, x134, x135, x136, x137, x138, x139, x140, x141, x142, x143, x144, x145, x146, x147, x148, x149, x150, x151, x152, x153] ⟨[.cells (stC a0 a1 a2 a3 a4)], []⟩)) :
    ∀ (r jn k : Nat) (n i : Int) (x0 x3 x8 x9 x10 x11 x12 x13 x14 x15 x16 x17 x18 x19 x20 x21 x22 x23 x24 x25 x26 x27 x28 x29 x30 x31 x32 x33 x34 x35 x36 x37 x38 x39 x40 x41 x42 x43 x44 x45 x46 x47 x48 x49 x50 x51 x52 x53 x54 x55 x56 x57 x58 x59 x60 x61 x62 x63 x64 x65 x66 x67 x68 x69 x70 x71 x72 x73 x74 x75 x76 x77 x78 x79 x80 x81 x82 x83 x84 x85 x86 x87 x88 x89 x90 x91 x92 x93 x94 x95 x96 x97 x98 x99 x100 x101 x102 x103 x104 x105 x106 x107 x108 x109 x110 x111 x112 x113 x114 x115 x116 x117 x118 x119 x120 x121 x122 x123 x124 x125 x126 x127 x128 x129 x130 x131 x132 x133 x134 x135 x136 x137 x138 x139 x140 x141 x142 x143 x144 x145 x146 x147 x148 x149 x150 x151 x152 x153 : AV), n = (((stA f (a4.listOf.take jn)).length : Nat) : Int) → i = (jn : Int) → jn + r = a4.listOf.length → r < k →
      Q (loopC (Rep.D m) (cD m fuel) fuel cnO k [x0, l, .ptr 0 0, x3, .bool false, v, .int .i64 n, .int .i64 i, x8, x9, x10, x11, x12, x13, x14, x15, x16, x17, x18, x19, x20, x21, x22, x23, x24, x25, x26, x27, x28, x29, x30, x31, x32, x33, x34, x35, x36, x37, x38, x39, x40, x41, x42, x43, x44, x45, x46, x47, x48, x49, x50, x51, x52, x53, x54, x55, x56, x57, x58, x59, x60, x61, x62, x63, x64, x65, x66, x67, x68, x69, x70, x71, x72, x73, x74, x75, x76, x77, x78, x79, x80, x81, x82, x83, x84, x85, x86, x87, x88, x89, x90, x91, x92, x93, x94, x95, x96, x97, x98, x99, x100, x101, x102, x103, x104, x105, x106, x107, x108, x109, x110, x111, x112, x113, x114, x115, x116, x117, x118, x119, x120, x121, x122, x123, x124, x125, x126, x127, x128, x129, x130, x131, x132, x133, x134, x135, x136, x137, x138, x139, x140, x141, x142, x143, x144, x145, x146, x147, x148, x149, x150, x151, x152, x153] ⟨[.cells (stC a0 a1 a2 a3 a4)], []⟩ K)
  | r, jn, 0, n, i, _, _, _, _, _, _, _, _, _, _, _, _, _, _, _, _, _, _, _, _, _, _, _, _, _, _, _, _, _, _, _, _, _, _, _, _, _, _, _, _, _, _, _, _, _, _, _, _, _, _, _, _, _, _, _, _, _, _, _, _, _, _, _, _, _, _, _, _, _, _, _, _, _, _, _, _, _, _, _, _, _, _, _, _, _, _, _, _, _, _, _, _, _, _, _, _, _, _, _, _, _, _, _, _, _, _, _, _, _, _, _, _, _, _, _, _, _, _, _, _, _, _, _, _, _, _, _, _, _, _, _, _, _, _, _, _, _, _, _, _, _, _, _, _, _, _, _, _, hn, hi', h, hk => by omega
  | 0, jn, k + 1, n, i, x0, x3, x8, x9, x10, x11, x12, x13, x14, x15, x16, x17, x18, x19, x20, x21, x22, x23, x24, x25, x26, x27, x28, x29, x30, x31, x32, x33, x34, x35, x36, x37, x38, x39, x40, x41, x42, x43, x44, x45, x46, x47, x48, x49, x50, x51, x52, x53, x54, x55, x56, x57, x58, x59, x60, x61, x62, x63, x64, x65, x66, x67, x68, x69, x70, x71, x72, x73, x74, x75, x76, x77, x78, x79, x80, x81, x82, x83, x84, x85, x86, x87, x88, x89, x90, x91, x92, x93, x94, x95, x96, x97, x98, x99, x100, x101, x102, x103, x104, x105, x106, x107, x108, x109, x110, x111, x112, x113, x114, x115, x116, x117, x118, x119, x120, x121, x122, x123, x124, x125, x126, x127, x128, x129, x130, x131, x132, x133, x134, x135, x136, x137, x138, x139, x140, x141, x142, x143, x144, x145, x146, x147, x148, x149, x150, x151, x152, x153, hn, hi', h, hk => by
    subst hi'
    rw [List.take_of_length_le (by omega)] at hn
    rw [cnO_step, (sl_facts ha).1, lt_false (by omega : ¬ jn < a4.listOf.length)]
    exact hexit _ _ _ _ _ _ _ _ _ _ _ _ _ _ _ _ _ _ _ _ _ _ _ _ _ _ _ _ _ _ _ _ _ _ _ _ _ _ _ _ _ _ _ _ _ _ _ _ _ _ _ _ _ _ _ _ _ _ _ _ _ _ _ _ _ _ _ _ _ _ _ _ _ _ _ _ _ _ _ _ _ _ _ _ _ _ _ _ _ _ _ _ _ _ _ _ _ _ _ _ _ _ _ _ _ _ _ _ _ _ _ _ _ _ _ _ _ _ _ _ _ _ _ _ _ _ _ _ _ _ _ _ _ _ _ _ _ _ _ _ _ _ _ _ _ _ _ _ _ _ hn
  | r + 1, jn, k + 1, n, i, x0, x3, x8, x9, x10, x11, x12, x13, x14, x15, x16, x17, x18, x19, x20, x21, x22, x23, x24, x25, x26, x27, x28, x29, x30, x31, x32, x33, x34, x35, x36, x37, x38, x39, x40, x41, x42, x43, x44, x45, x46, x47, x48, x49, x50, x51, x52, x53, x54, x55, x56, x57, x58, x59, x60, x61, x62, x63, x64, x65, x66, x67, x68, x69, x70, x71, x72, x73, x74, x75, x76, x77, x78, x79, x80, x81, x82, x83, x84, x85, x86, x87, x88, x89, x90, x91, x92, x93, x94, x95, x96, x97, x98, x99, x100, x101, x102, x103, x104, x105, x106, x107, x108, x109, x110, x111, x112, x113, x114, x115, x116, x117, x118, x119, x120, x121, x122, x123, x124, x125, x126, x127, x128, x129, x130, x131, x132, x133, x134, x135, x136, x137, x138, x139, x140, x141, x142, x143, x144, x145, x146, x147, x148, x149, x150, x151, x152, x153, hn, hi', h, hk => by
    subst hi'
    obtain ⟨hB, hmax, hT, -, -⟩ := sl_facts ha
    have hi : jn < a4.listOf.length := by omega
    obtain ⟨u, hu⟩ : ∃ u, a4.listOf[jn]? = some u := ⟨_, List.getElem?_eq_getElem hi⟩
    have tu := hT u (List.mem_of_getElem? hu)
    have gm := (sl_facts (pj_dtAlloc_9 tu)).2.1
    rw [cnO_step, hB, lt_true hi]
    simp only [br]
    refine cnI_loop m fuel a0 a1 a2 a3 ha hl hv f hvl jn hu _ Q ?_ (shS Sh.any (hdV (tlV (tlV (tlV (tlV (tlV (tlV (tlV (tlV (tlV u.aggOf))))))))))).listOf.length 0 fuel _ _ _ _ _ _ _ _ _ _ _ _ _ _ _ _ _ _ _ _ _ _ _ _ _ _ _ _ _ _ _ _ _ _ _ _ _ _ _ _ _ _ _ _ _ _ _ _ _ _ _ _ _ _ _ _ _ _ _ _ _ _ _ _ _ _ _ _ _ _ _ _ _ _ _ _ _ _ _ _ _ _ _ _ _ _ _ _ _ _ _ _ _ _ _ _ _ _ _ _ _ _ _ _ _ _ _ _ _ _ _ _ _ _ _ _ _ _ _ _ _ _ _ _ _ _ _ _ _ _ _ _ _ _ _ _ _ _ _ _ _ _ _ _ _ _ _ _ _ _ (by simpa using hn) rfl rfl (by omega) (by omega)
    intro n' i' j' x0 x3 x9 x10 x11 x12 x13 x14 x15 x16 x17 x18 x19 x20 x21 x22 x23 x24 x25 x26 x27 x28 x29 x30 x31 x32 x33 x34 x35 x36 x37 x38 x39 x40 x41 x42 x43 x44 x45 x46 x47 x48 x49 x50 x51 x52 x53 x54 x55 x56 x57 x58 x59 x60 x61 x62 x63 x64 x65 x66 x67 x68 x69 x70 x71 x72 x73 x74 x75 x76 x77 x78 x79 x80 x81 x82 x83 x84 x85 x86 x87 x88 x89 x90 x91 x92 x93 x94 x95 x96 x97 x98 x99 x100 x101 x102 x103 x104 x105 x106 x107 x108 x109 x110 x111 x112 x113 x114 x115 x116 x117 x118 x119 x120 x121 x122 x123 x124 x125 x126 x127 x128 x129 x130 x131 x132 x133 x134 x135 x136 x137 x138 x139 x140 x141 x142 x143 x144 x145 x146 x147 x148 x149 x150 x151 x152 x153 hn' hi''
    subst hi''
    rw [cnO_post, wrap_next hi hmax]
    exact cnO_loop m fuel a0 a1 a2 a3 ha hl hv hF f hvl K Q hexit r (jn + 1) k _ _ _ _ _ _ _ _ _ _ _ _ _ _ _ _ _ _ _ _ _ _ _ _ _ _ _ _ _ _ _ _ _ _ _ _ _ _ _ _ _ _ _ _ _ _ _ _ _ _ _ _ _ _ _ _ _ _ _ _ _ _ _ _ _ _ _ _ _ _ _ _ _ _ _ _ _ _ _ _ _ _ _ _ _ _ _ _ _ _ _ _ _ _ _ _ _ _ _ _ _ _ _ _ _ _ _ _ _ _ _ _ _ _ _ _ _ _ _ _ _ _ _ _ _ _ _ _ _ _ _ _ _ _ _ _ _ _ _ _ _ _ _ _ _ _ _ _ _ _ hn' rfl (by omega) (by omega)
-- DEFS
-- PROOFS
/-- The live ones, the last first. -/
def OutL (o : AV) (ts : List (Nat × Nat × TypeId)) (ys : List AV) : Prop := (o = .nils ∧ ts = [] ∧ ys = []) ∨ ∃ g, o = .inl true (.tok 0 g) 9 ys ∧ ts = [(g, 9, 49)]

theorem wrap_prev {r : Nat} (h : r + 1 ≤ maxLen) : IntKind.i64.wrap ((r : Int) - 1) = (r : Int) - 1 := by
  have e : maxLen = 9223372036854775807 := by decide
  rw [wrapN (by omega) (by omega)]

set_option maxHeartbeats 1000000 in
theorem cnL_loop (m : Array Value) {R : Type} (fuel : Nat) (cs : List AV) {l : AV} (hl : tyV (.sl 9 dtProc) l) (hlen : l.listOf.length ≤ 1000) (v : AV) (n : Int) (K : Ex → List AV → AH → Option R) (Q : Option R → Prop)
    (hexit : ∀ (o : AV) (ts : List (Nat × Nat × TypeId)), OutL o ts (l.listOf.reverse.filter liveP) → ∀ (i : Int) (x0 x3 x7 x8 x9 x12 x13 x14 x15 x16 x17 x18 x19 x20 x21 x22 x23 x24 x25 x26 x27 x28 x29 x30 x31 x32 x33 x34 x35 x36 x37 x38 x39 x40 x41 x42 x43 x44 x45 x46 x47 x48 x49 x50 x51 x52 x53 x54 x55 x56 x57 x58 x59 x60 x61 x62 x63 x64 x65 x66 x67 x68 x69 x70 x71 x72 x73 x74 x75 x76 x77 x78 x79 x80 x81 x82 x83 x84 x85 x86 x87 x88 x89 x90 x91 x92 x93 x94 x95 x96 x97 x98 x99 x100 x101 x102 x103 x104 x105 x106 x107 x108 x109 x110 x111 x112 x113 x114 x115 x116 x117 x118 x119 x120 x121 x122 x123 x124 x125 x126 x127 x128 x129 x130 x131 x132 x133 x134 x135 x136 x137 x138 x139 x140 x141 x142 x143 x144 x145 x146 x147 x148 x149 x150 x151 x152 x153 : AV), Q (K (.exit 4) [x0, l, .ptr 0 0, x3, .bool false, v, .int .i64 n, x7, x8, x9, o, .int .i64 i, x12, x13, x14, x15, x16, x17, x18, x19, x20, x21, x22, x23, x24, x25, x26, x27, x28, x29, x30, x31, x32, x33, x34, x35, x36, x37, x38, x39, x40, x41, x42, x43, x44, x45, x46, x47, x48, x49, x50, x51, x52, x53, x54, x55, x56, x57, x58, x59, x60, x61, x62, x63, x64, x65, x66, x67, x68, x69, x70, x71, x72, x73, x74, x75, x76, x77, x78, x79, x80, x81, x82, x83, x84, x85, x86, x87, x88, x89, x90, x91, x92, x93, x94, x95, x96, x97, x98, x99, x100, x101, x102, x103, x104, x105, x106, x107, x108, x109, x110, x111, x112, x113, x114, x115, x116, x117, x118, x119, x120, x121, x122, x123, x124, x125, x126, x127, x128, x129, x130, x131, x132, x133, x134, x135, x136, x137, x138, x139, x140, x141, x142, x143, x144, x145, x146, x147, x148, x149, x150, x151, x152, x153] ⟨[.cells cs], ts⟩)) :
    ∀ (r k : Nat) (i : Int) (o : AV) (ts : List (Nat × Nat × TypeId)) (x0 x3 x7 x8 x9 x12 x13 x14 x15 x16 x17 x18 x19 x20 x21 x22 x23 x24 x25 x26 x27 x28 x29 x30 x31 x32 x33 x34 x35 x36 x37 x38 x39 x40 x41 x42 x43 x44 x45 x46 x47 x48 x49 x50 x51 x52 x53 x54 x55 x56 x57 x58 x59 x60 x61 x62 x63 x64 x65 x66 x67 x68 x69 x70 x71 x72 x73 x74 x75 x76 x77 x78 x79 x80 x81 x82 x83 x84 x85 x86 x87 x88 x89 x90 x91 x92 x93 x94 x95 x96 x97 x98 x99 x100 x101 x102 x103 x104 x105 x106 x107 x108 x109 x110 x111 x112 x113 x114 x115 x116 x117 x118 x119 x120 x121 x122 x123 x124 x125 x126 x127 x128 x129 x130 x131 x132 x133 x134 x135 x136 x137 x138 x139 x140 x141 x142 x143 x144 x145 x146 x147 x148 x149 x150 x151 x152 x153 : AV), i = (r : Int) - 1 → r ≤ l.listOf.length → r < k → OutL o ts ((l.listOf.drop r).reverse.filter liveP) →
      Q (loopC (Rep.D m) (cD m fuel) fuel cnL k [x0, l, .ptr 0 0, x3, .bool false, v, .int .i64 n, x7, x8, x9, o, .int .i64 i, x12, x13, x14, x15, x16, x17, x18, x19, x20, x21, x22, x23, x24, x25, x26, x27, x28, x29, x30, x31, x32, x33, x34, x35, x36, x37, x38, x39, x40, x41, x42, x43, x44, x45, x46, x47, x48, x49, x50, x51, x52, x53, x54, x55, x56, x57, x58, x59, x60, x61, x62, x63, x64, x65, x66, x67, x68, x69, x70, x71, x72, x73, x74, x75, x76, x77, x78, x79, x80, x81, x82, x83, x84, x85, x86, x87, x88, x89, x90, x91, x92, x93, x94, x95, x96, x97, x98, x99, x100, x101, x102, x103, x104, x105, x106, x107, x108, x109, x110, x111, x112, x113, x114, x115, x116, x117, x118, x119, x120, x121, x122, x123, x124, x125, x126, x127, x128, x129, x130, x131, x132, x133, x134, x135, x136, x137, x138, x139, x140, x141, x142, x143, x144, x145, x146, x147, x148, x149, x150, x151, x152, x153] ⟨[.cells cs], ts⟩ K)
  | r, 0, i, o, ts, _, _, _, _, _, _, _, _, _, _, _, _, _, _, _, _, _, _, _, _, _, _, _, _, _, _, _, _, _, _, _, _, _, _, _, _, _, _, _, _, _, _, _, _, _, _, _, _, _, _, _, _, _, _, _, _, _, _, _, _, _, _, _, _, _, _, _, _, _, _, _, _, _, _, _, _, _, _, _, _, _, _, _, _, _, _, _, _, _, _, _, _, _, _, _, _, _, _, _, _, _, _, _, _, _, _, _, _, _, _, _, _, _, _, _, _, _, _, _, _, _, _, _, _, _, _, _, _, _, _, _, _, _, _, _, _, _, _, _, _, _, _, _, _, _, _, _, hi', h, hk, ho => by omega
  | 0, k + 1, i, o, ts, x0, x3, x7, x8, x9, x12, x13, x14, x15, x16, x17, x18, x19, x20, x21, x22, x23, x24, x25, x26, x27, x28, x29, x30, x31, x32, x33, x34, x35, x36, x37, x38, x39, x40, x41, x42, x43, x44, x45, x46, x47, x48, x49, x50, x51, x52, x53, x54, x55, x56, x57, x58, x59, x60, x61, x62, x63, x64, x65, x66, x67, x68, x69, x70, x71, x72, x73, x74, x75, x76, x77, x78, x79, x80, x81, x82, x83, x84, x85, x86, x87, x88, x89, x90, x91, x92, x93, x94, x95, x96, x97, x98, x99, x100, x101, x102, x103, x104, x105, x106, x107, x108, x109, x110, x111, x112, x113, x114, x115, x116, x117, x118, x119, x120, x121, x122, x123, x124, x125, x126, x127, x128, x129, x130, x131, x132, x133, x134, x135, x136, x137, x138, x139, x140, x141, x142, x143, x144, x145, x146, x147, x148, x149, x150, x151, x152, x153, hi', h, hk, ho => by
    subst hi'
    simp only [List.drop_zero] at ho
    have hx := hexit o ts ho
    rcases ho with ⟨rfl, rfl, h0⟩ | ⟨g, rfl, rfl⟩
    · rw [cnL_stepN, dec_f (p := ((0 : Nat) : Int) - 1 ≥ 0) (by omega)]
      exact hx _ _ _ _ _ _ _ _ _ _ _ _ _ _ _ _ _ _ _ _ _ _ _ _ _ _ _ _ _ _ _ _ _ _ _ _ _ _ _ _ _ _ _ _ _ _ _ _ _ _ _ _ _ _ _ _ _ _ _ _ _ _ _ _ _ _ _ _ _ _ _ _ _ _ _ _ _ _ _ _ _ _ _ _ _ _ _ _ _ _ _ _ _ _ _ _ _ _ _ _ _ _ _ _ _ _ _ _ _ _ _ _ _ _ _ _ _ _ _ _ _ _ _ _ _ _ _ _ _ _ _ _ _ _ _ _ _ _ _ _ _ _ _ _ _ _ _ _
    · rw [cnL_step, dec_f (p := ((0 : Nat) : Int) - 1 ≥ 0) (by omega)]
      exact hx _ _ _ _ _ _ _ _ _ _ _ _ _ _ _ _ _ _ _ _ _ _ _ _ _ _ _ _ _ _ _ _ _ _ _ _ _ _ _ _ _ _ _ _ _ _ _ _ _ _ _ _ _ _ _ _ _ _ _ _ _ _ _ _ _ _ _ _ _ _ _ _ _ _ _ _ _ _ _ _ _ _ _ _ _ _ _ _ _ _ _ _ _ _ _ _ _ _ _ _ _ _ _ _ _ _ _ _ _ _ _ _ _ _ _ _ _ _ _ _ _ _ _ _ _ _ _ _ _ _ _ _ _ _ _ _ _ _ _ _ _ _ _ _ _ _ _ _
  | r + 1, k + 1, i, o, ts, x0, x3, x7, x8, x9, x12, x13, x14, x15, x16, x17, x18, x19, x20, x21, x22, x23, x24, x25, x26, x27, x28, x29, x30, x31, x32, x33, x34, x35, x36, x37, x38, x39, x40, x41, x42, x43, x44, x45, x46, x47, x48, x49, x50, x51, x52, x53, x54, x55, x56, x57, x58, x59, x60, x61, x62, x63, x64, x65, x66, x67, x68, x69, x70, x71, x72, x73, x74, x75, x76, x77, x78, x79, x80, x81, x82, x83, x84, x85, x86, x87, x88, x89, x90, x91, x92, x93, x94, x95, x96, x97, x98, x99, x100, x101, x102, x103, x104, x105, x106, x107, x108, x109, x110, x111, x112, x113, x114, x115, x116, x117, x118, x119, x120, x121, x122, x123, x124, x125, x126, x127, x128, x129, x130, x131, x132, x133, x134, x135, x136, x137, x138, x139, x140, x141, x142, x143, x144, x145, x146, x147, x148, x149, x150, x151, x152, x153, hi', h, hk, ho => by
    obtain rfl : i = (r : Int) := by omega
    obtain ⟨hB, hmax, hT, -, -⟩ := sl_facts hl
    have hi : r < l.listOf.length := by omega
    obtain ⟨u, hu⟩ : ∃ u, l.listOf[r]? = some u := ⟨_, List.getElem?_eq_getElem hi⟩
    have tu := hT u (List.mem_of_getElem? hu)
    have hrev : (l.listOf.drop r).reverse.filter liveP = (l.listOf.drop (r + 1)).reverse.filter liveP ++ (if liveP u = true then [u] else []) := by
      rw [nrm_drop hu, List.reverse_cons, List.filter_append]
      congr 1
      by_cases hlv : liveP u = true <;> simp [hlv]
    have hlen' : ((l.listOf.drop (r + 1)).reverse.filter liveP).length ≤ 1000 := by
      refine Nat.le_trans (List.length_filter_le _ _) ?_
      simp only [List.length_reverse, List.length_drop]
      omega
    have hd : detokL (detokL [u]) = [u] := by simp only [detokL, tyV_detok tu]
    have ih := cnL_loop m fuel cs hl hlen v n K Q hexit r k ((r : Int) - 1)
    rcases ho with ⟨rfl, rfl, h0⟩ | ⟨g, rfl, rfl⟩
    · rw [cnL_stepN, dec_t (p := ((r : Int)) ≥ 0) (by omega), hB, lt_true hi, Int.toNat_natCast, hu]
      simp only [br, Bool.and_self, fit_dtProc tu]
      rw [wrap_prev (show r + 1 ≤ maxLen by omega)]
      cases ha : (hdV (tlV (tlV (tlV (tlV (tlV u.aggOf)))))).boolOf with
      | true =>
        have hlv : liveP u = true := ha
        simp only [eta_dtProc tu, hd]
        refine ih _ _ _ _ _ _ _ _ _ _ _ _ _ _ _ _ _ _ _ _ _ _ _ _ _ _ _ _ _ _ _ _ _ _ _ _ _ _ _ _ _ _ _ _ _ _ _ _ _ _ _ _ _ _ _ _ _ _ _ _ _ _ _ _ _ _ _ _ _ _ _ _ _ _ _ _ _ _ _ _ _ _ _ _ _ _ _ _ _ _ _ _ _ _ _ _ _ _ _ _ _ _ _ _ _ _ _ _ _ _ _ _ _ _ _ _ _ _ _ _ _ _ _ _ _ _ _ _ _ _ _ _ _ _ _ _ _ _ _ _ _ _ _ _ _ _ _ _ _ rfl (by omega) (by omega) (.inr ⟨0, ?_, rfl⟩)
        rw [hrev, h0, if_pos hlv]
        rfl
      | false =>
        have hlv : ¬ liveP u = true := by unfold liveP; rw [ha]; simp
        simp only
        refine ih _ _ _ _ _ _ _ _ _ _ _ _ _ _ _ _ _ _ _ _ _ _ _ _ _ _ _ _ _ _ _ _ _ _ _ _ _ _ _ _ _ _ _ _ _ _ _ _ _ _ _ _ _ _ _ _ _ _ _ _ _ _ _ _ _ _ _ _ _ _ _ _ _ _ _ _ _ _ _ _ _ _ _ _ _ _ _ _ _ _ _ _ _ _ _ _ _ _ _ _ _ _ _ _ _ _ _ _ _ _ _ _ _ _ _ _ _ _ _ _ _ _ _ _ _ _ _ _ _ _ _ _ _ _ _ _ _ _ _ _ _ _ _ _ _ _ _ _ _ rfl (by omega) (by omega) (.inl ⟨rfl, rfl, ?_⟩)
        rw [hrev, h0, if_neg hlv]
        rfl
    · rw [cnL_step, dec_t (p := ((r : Int)) ≥ 0) (by omega), hB, lt_true hi, Int.toNat_natCast, hu]
      simp only [br, Bool.and_self, fit_dtProc tu]
      rw [wrap_prev (show r + 1 ≤ maxLen by omega)]
      cases ha : (hdV (tlV (tlV (tlV (tlV (tlV u.aggOf)))))).boolOf with
      | true =>
        have hlv : liveP u = true := ha
        simp only [eta_dtProc tu, hd]
        rw [if_pos ⟨show fitsRoom (((l.listOf.drop (r + 1)).reverse.filter liveP).length + 1) 56 = true from fits_small (by omega) (by decide), by first | trivial | rfl⟩, if_pos (by first | trivial | rfl)]
        refine ih _ _ _ _ _ _ _ _ _ _ _ _ _ _ _ _ _ _ _ _ _ _ _ _ _ _ _ _ _ _ _ _ _ _ _ _ _ _ _ _ _ _ _ _ _ _ _ _ _ _ _ _ _ _ _ _ _ _ _ _ _ _ _ _ _ _ _ _ _ _ _ _ _ _ _ _ _ _ _ _ _ _ _ _ _ _ _ _ _ _ _ _ _ _ _ _ _ _ _ _ _ _ _ _ _ _ _ _ _ _ _ _ _ _ _ _ _ _ _ _ _ _ _ _ _ _ _ _ _ _ _ _ _ _ _ _ _ _ _ _ _ _ _ _ _ _ _ _ _ rfl (by omega) (by omega) (.inr ⟨g + 1, ?_, rfl⟩)
        rw [hrev, if_pos hlv]
      | false =>
        have hlv : ¬ liveP u = true := by unfold liveP; rw [ha]; simp
        simp only
        refine ih _ _ _ _ _ _ _ _ _ _ _ _ _ _ _ _ _ _ _ _ _ _ _ _ _ _ _ _ _ _ _ _ _ _ _ _ _ _ _ _ _ _ _ _ _ _ _ _ _ _ _ _ _ _ _ _ _ _ _ _ _ _ _ _ _ _ _ _ _ _ _ _ _ _ _ _ _ _ _ _ _ _ _ _ _ _ _ _ _ _ _ _ _ _ _ _ _ _ _ _ _ _ _ _ _ _ _ _ _ _ _ _ _ _ _ _ _ _ _ _ _ _ _ _ _ _ _ _ _ _ _ _ _ _ _ _ _ _ _ _ _ _ _ _ _ _ _ _ _ rfl (by omega) (by omega) (.inr ⟨g, ?_, rfl⟩)
        rw [hrev, if_neg hlv, List.append_nil]

/-- The live ones are enough. -/
theorem aliveF_live (L : List AV) : aliveF (L.reverse.filter liveP) = aliveF L := by
  funext id j t
  rw [Bool.eq_iff_iff]
  simp only [aliveF, List.any_eq_true, List.mem_filter, List.mem_reverse, Bool.and_eq_true, decide_eq_true_eq]
  constructor
  · rintro ⟨p, ⟨h1, h2⟩, h3⟩
    exact ⟨p, h1, h3⟩
  · rintro ⟨p, h1, h3⟩
    exact ⟨p, ⟨h1, h3.1⟩, h3⟩

def TrueQ (z : Option AV) : Prop := z = some (.bool true)

theorem counts_run (m : Array Value) {s l : AV} (hs : tyV dtState s) (hl : tyV (.sl 9 dtProc) l) : runI (Rep.D m) (cD m 9223372036854775808) 9223372036854775808 Tryd.f7 [s, l] ⟨[], []⟩ (fun v _ => some v) = some (.bool true) := by
  obtain ⟨b, hb, hbt⟩ := few20 m hs
  have hs0 := hs
  obtain ⟨a0, a1, a2, a3, a4, rfl, w0, w1, w2, w3, w4⟩ := un_dtState hs
  have e := cn_pre m (R := AV) 9223372036854775808 a0 a1 a2 a3 a4 l (fun v _ => some v)
  refine Eq.trans e ?_
  rw [valH_of (hb _)]
  simp only [fitS, AV.boolOf, br, (sl_facts hl).1]
  cases hbv : b with
  | false => rfl
  | true =>
    have hbs := hbt hbv
    simp only [Bool.not_true]
    by_cases hlen : l.listOf.length > 20
    · rw [dec_t (p := (l.listOf.length : Int) > 20) (by omega)]
    rw [dec_f (p := (l.listOf.length : Int) > 20) (by omega)]
    simp only
    obtain ⟨v, h3, t3, n3, -⟩ := of24 m hs0 hbs hl
    rw [valH_of (h3 _)]
    simp only
    have emax : maxLen = 9223372036854775807 := by decide
    have hal := (sl_facts w4).2.1
    refine cnO_loop m 9223372036854775808 a0 a1 a2 a3 w4 hl t3 (by omega) (aliveF l.listOf) n3 _ TrueQ ?_ a4.listOf.length 0 9223372036854775808 _ _ _ _ _ _ _ _ _ _ _ _ _ _ _ _ _ _ _ _ _ _ _ _ _ _ _ _ _ _ _ _ _ _ _ _ _ _ _ _ _ _ _ _ _ _ _ _ _ _ _ _ _ _ _ _ _ _ _ _ _ _ _ _ _ _ _ _ _ _ _ _ _ _ _ _ _ _ _ _ _ _ _ _ _ _ _ _ _ _ _ _ _ _ _ _ _ _ _ _ _ _ _ _ _ _ _ _ _ _ _ _ _ _ _ _ _ _ _ _ _ _ _ _ _ _ _ _ _ _ _ _ _ _ _ _ _ _ _ _ _ _ _ _ _ _ _ _ _ _ rfl rfl (by omega) (by omega)
    intro n i x0 x3 x8 x9 x10 x11 x12 x13 x14 x15 x16 x17 x18 x19 x20 x21 x22 x23 x24 x25 x26 x27 x28 x29 x30 x31 x32 x33 x34 x35 x36 x37 x38 x39 x40 x41 x42 x43 x44 x45 x46 x47 x48 x49 x50 x51 x52 x53 x54 x55 x56 x57 x58 x59 x60 x61 x62 x63 x64 x65 x66 x67 x68 x69 x70 x71 x72 x73 x74 x75 x76 x77 x78 x79 x80 x81 x82 x83 x84 x85 x86 x87 x88 x89 x90 x91 x92 x93 x94 x95 x96 x97 x98 x99 x100 x101 x102 x103 x104 x105 x106 x107 x108 x109 x110 x111 x112 x113 x114 x115 x116 x117 x118 x119 x120 x121 x122 x123 x124 x125 x126 x127 x128 x129 x130 x131 x132 x133 x134 x135 x136 x137 x138 x139 x140 x141 x142 x143 x144 x145 x146 x147 x148 x149 x150 x151 x152 x153 hn
    rw [cn_mid, (sl_facts hl).1]
    simp only [br]
    have hwr : IntKind.i64.wrap ((l.listOf.length : Int) - 1) = (l.listOf.length : Int) - 1 := by
      rw [wrapN (by omega) (by omega)]
    rw [hwr]
    refine cnL_loop m 9223372036854775808 _ hl (by omega) v n _ TrueQ ?_ l.listOf.length 9223372036854775808 _ _ _ _ _ _ _ _ _ _ _ _ _ _ _ _ _ _ _ _ _ _ _ _ _ _ _ _ _ _ _ _ _ _ _ _ _ _ _ _ _ _ _ _ _ _ _ _ _ _ _ _ _ _ _ _ _ _ _ _ _ _ _ _ _ _ _ _ _ _ _ _ _ _ _ _ _ _ _ _ _ _ _ _ _ _ _ _ _ _ _ _ _ _ _ _ _ _ _ _ _ _ _ _ _ _ _ _ _ _ _ _ _ _ _ _ _ _ _ _ _ _ _ _ _ _ _ _ _ _ _ _ _ _ _ _ _ _ _ _ _ _ _ _ _ _ _ _ _ _ rfl (by omega) (by omega) (.inl ⟨rfl, rfl, by simp⟩)
    intro o ts ho i x0 x3 x7 x8 x9 x12 x13 x14 x15 x16 x17 x18 x19 x20 x21 x22 x23 x24 x25 x26 x27 x28 x29 x30 x31 x32 x33 x34 x35 x36 x37 x38 x39 x40 x41 x42 x43 x44 x45 x46 x47 x48 x49 x50 x51 x52 x53 x54 x55 x56 x57 x58 x59 x60 x61 x62 x63 x64 x65 x66 x67 x68 x69 x70 x71 x72 x73 x74 x75 x76 x77 x78 x79 x80 x81 x82 x83 x84 x85 x86 x87 x88 x89 x90 x91 x92 x93 x94 x95 x96 x97 x98 x99 x100 x101 x102 x103 x104 x105 x106 x107 x108 x109 x110 x111 x112 x113 x114 x115 x116 x117 x118 x119 x120 x121 x122 x123 x124 x125 x126 x127 x128 x129 x130 x131 x132 x133 x134 x135 x136 x137 x138 x139 x140 x141 x142 x143 x144 x145 x146 x147 x148 x149 x150 x151 x152 x153
    have key : ∃ w, (∀ H : AH, callL (Rep.D m) 24 [.agg [.int .i64 a0, .int .i64 a1, .int .i64 a2, .int .i64 a3, a4], o] H = some (w, H)) ∧ tyV (.sl 7 dtSt) w ∧ w.listOf = v.listOf := by
      have hLt : ∀ u ∈ l.listOf.reverse.filter liveP, tyV dtProc u := fun u hu => (sl_facts hl).2.2.1 u (List.mem_reverse.1 (List.mem_filter.1 hu).1)
      have hLl : (l.listOf.reverse.filter liveP).length ≤ maxLen := by
        have := List.length_filter_le liveP l.listOf.reverse
        simp only [List.length_reverse] at this
        omega
      rcases ho with ⟨rfl, rfl, h0⟩ | ⟨g, rfl, rfl⟩
      · have tn : tyV (.sl 9 dtProc) .nils := .inl rfl
        obtain ⟨w, k1, k2, k3, -⟩ := of24 m hs0 hbs tn
        refine ⟨w, k1, k2, ?_⟩
        rw [k3, n3]
        have : aliveF (AV.nils).listOf = aliveF l.listOf := by
          rw [← aliveF_live l.listOf, h0]; rfl
        simp only [stS, this]
      · have tn : tyV (.sl 9 dtProc) (.inl false .unk 9 (l.listOf.reverse.filter liveP)) := ty_new rfl hLl hLt
        obtain ⟨w, k1, k2, k3, k4⟩ := of24 m hs0 hbs tn
        refine ⟨w, fun H => ?_, k2, ?_⟩
        · refine callL_arg (fn := Tryd.f24) (by kernel_rfl) (by kernel_rfl) (by kernel_rfl) ?_ k4 (k1 H)
          have q1 : Go.Sx.resolve H (AV.inl true (.tok 0 g) 9 (l.listOf.reverse.filter liveP)) = some (AV.inl true (.tok 0 g) 9 (l.listOf.reverse.filter liveP)) := rfl
          have q2 : Go.Sx.resolve H (AV.inl false .unk 9 (l.listOf.reverse.filter liveP)) = some (AV.inl false .unk 9 (l.listOf.reverse.filter liveP)) := rfl
          have q3 : Go.Sx.erase (AV.inl true (.tok 0 g) 9 (l.listOf.reverse.filter liveP)) = Go.Sx.erase (AV.inl false .unk 9 (l.listOf.reverse.filter liveP)) := rfl
          simp only [resolveL, q1, q2, q3]
        · rw [k3, n3]
          have : aliveF (AV.inl false .unk 9 (l.listOf.reverse.filter liveP)).listOf = aliveF l.listOf := aliveF_live l.listOf
          simp only [stS, this]
    obtain ⟨w, k1, k2, k3⟩ := key
    have h5 := eq23 m k2 t3 (nrm_of_list k2 t3 k3)
    have e2 := cn_end m (R := AV) 9223372036854775808 a0 a1 a2 a3 a4 l v o n i ts x0 x3 x7 x8 x9 x12 x13 x14 x15 x16 x17 x18 x19 x20 x21 x22 x23 x24 x25 x26 x27 x28 x29 x30 x31 x32 x33 x34 x35 x36 x37 x38 x39 x40 x41 x42 x43 x44 x45 x46 x47 x48 x49 x50 x51 x52 x53 x54 x55 x56 x57 x58 x59 x60 x61 x62 x63 x64 x65 x66 x67 x68 x69 x70 x71 x72 x73 x74 x75 x76 x77 x78 x79 x80 x81 x82 x83 x84 x85 x86 x87 x88 x89 x90 x91 x92 x93 x94 x95 x96 x97 x98 x99 x100 x101 x102 x103 x104 x105 x106 x107 x108 x109 x110 x111 x112 x113 x114 x115 x116 x117 x118 x119 x120 x121 x122 x123 x124 x125 x126 x127 x128 x129 x130 x131 x132 x133 x134 x135 x136 x137 x138 x139 x140 x141 x142 x143 x144 x145 x146 x147 x148 x149 x150 x151 x152 x153 (fun v _ => some v)
    unfold TrueQ
    refine Eq.trans e2 ?_
    rw [(sl_facts t3).1, hn, n3]
    have hbe : (((stA (aliveF l.listOf) a4.listOf).length : Int) == ((stS (.agg [.int .i64 a0, .int .i64 a1, .int .i64 a2, .int .i64 a3, a4]) l).length : Int)) = true := by
      have : stS (.agg [.int .i64 a0, .int .i64 a1, .int .i64 a2, .int .i64 a3, a4]) l = stA (aliveF l.listOf) a4.listOf := rfl
      rw [this]; simp
    rw [hbe]
    simp only [br]
    rw [valH_of (k1 _)]
    simp only
    rw [valH_of (h5 _)]
    simp only [fitS, AV.boolOf]
    rw [valH_of (awakeD m _)]

theorem counts_law7 (m : Array Value) {s l : AV} (hs : tyV dtState s) (hl : tyV (.sl 9 dtProc) l) (H : AH) : callL (Rep.D m) 7 [s, l] H = some (.bool true, H) :=
  callL_D (tabD0_ok m) (fuel := 9223372036854775808) (n := 2) (fn := Tryd.f7) (ds := [dtState, .sl 9 dtProc]) (v := .bool true) (by kernel_rfl) (by kernel_rfl) (by kernel_rfl) ⟨hs, hl, trivial⟩ (counts_run m (tyV_erase hs) (tyV_erase hl)) rfl
-- DEFS
end Go.Proofs.YtoagnbpmoihojaaDoor

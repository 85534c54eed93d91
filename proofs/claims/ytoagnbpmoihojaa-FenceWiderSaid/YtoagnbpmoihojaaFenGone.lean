/- Gone: late's closure again, and the yield. -/
import Derived.Test.YtoagnbpmoihojaaFenPre3
set_option maxRecDepth 100000
set_option linter.unusedSimpArgs false
set_option linter.unusedVariables false
namespace Go.Proofs.Ytoagnbpmoihojaa
open Go.Sx
noncomputable def gX : Code := rfX (subC (bodyOf Try.f10) [1, 1, 0, 1, 0])
noncomputable def gY : Code := rfY (subC (bodyOf Try.f10) [1, 1, 0, 1, 0])
noncomputable def gS (c0 c1 c2 c3 c4 c5 c6 c7 c8 c9 c10 : Int) (l : AV) (d r n : Int) : List AV := [.agg (cfC c0 c1 c2 c3 c4 c5 c6 c7 c8 c9 c10), .int .i64 d, .int .i64 r, l, .ptr 0 0, .ptr 1 0, .ptr 2 0, .top, .ptr 3 0, .ptr 4 0, .int .i64 n, .top, .top, .top, .top, .agg (cfC c0 c1 c2 c3 c4 c5 c6 c7 c8 c9 c10), .int .i64 d, .int .i64 r, l, .int .i64 n, .int .i64 n, .bool (n != (0 : Int)), .top, .agg (cfC c0 c1 c2 c3 c4 c5 c6 c7 c8 c9 c10), .int .i64 d, .int .i64 r, l, .func (.func 38) [] [.ptr 8 0, .ptr 5 0, .ptr 6 0, .ptr 7 0], .top, .top, .top, .top, .top, .top, .top, .top, .top, .top, .top, .top, .top, .top, .top, .top, .top, .top, .top, .top, .top, .top, .top, .top, .top, .top, .top, .top]
noncomputable def gH (c0 c1 c2 c3 c4 c5 c6 c7 c8 c9 c10 : Int) (l : AV) (d r n : Int) : AH := ⟨[.cells (cfC c0 c1 c2 c3 c4 c5 c6 c7 c8 c9 c10), .cells [.int .i64 d], .cells [.int .i64 r], .cells [.bool false], .cells [.int .i64 0], .cells (cfC c0 c1 c2 c3 c4 c5 c6 c7 c8 c9 c10), .cells [.int .i64 d], .cells [.int .i64 r], .cells [l], .loop (gS c0 c1 c2 c3 c4 c5 c6 c7 c8 c9 c10 l d r n) [28, 29] gX gY .ready], []⟩
noncomputable def gM (c0 c1 c2 c3 c4 c5 c6 c7 c8 c9 c10 : Int) (l : AV) (d r n : Int) (m0 : Int) (m1 m2 m3 : Bool) (m4 m5 m6 m7 : Int) (m8 m9 m10 : AV) (m11 : Int) (m12 m13 : AV) : AH := ⟨[.cells (cfC c0 c1 c2 c3 c4 c5 c6 c7 c8 c9 c10), .cells [.int .i64 d], .cells [.int .i64 r], .cells [.bool false], .cells [.int .i64 0], .cells (cfC c0 c1 c2 c3 c4 c5 c6 c7 c8 c9 c10), .cells [.int .i64 d], .cells [.int .i64 r], .cells [l], .loop (gS c0 c1 c2 c3 c4 c5 c6 c7 c8 c9 c10 l d r n) [28, 29] gX gY .ready, .cells (moC m0 m1 m2 m3 m4 m5 m6 m7 m8 m9 m10 m11 m12 m13)], []⟩
noncomputable def gK (fuel : Nat) (c0 c1 c2 c3 c4 c5 c6 c7 c8 c9 c10 : Int) (l : AV) (d r n : Int) : Ex → List AV → AH → Option AV := kontI Try.D (cP fuel) fuel (bodyOf Try.f38) [1, 1, 0] (endI Try.D Try.f38 fun v H' => truncC (gH c0 c1 c2 c3 c4 c5 c6 c7 c8 c9 c10 l d r n) v H' fun p => leaveK 9 (gS c0 c1 c2 c3 c4 c5 c6 c7 c8 c9 c10 l d r n) p.2 fun e s H => kontI Try.D (cF fuel) fuel (bodyOf Try.f10) [1, 1, 0, 1, 0] (endI Try.D Try.f10 fun v _ => some v) e s H)
-- PROOFS
theorem g_pre (fuel : Nat) (c0 c1 c2 c3 c4 c5 c6 c7 c8 c9 c10 : Int) (l : AV) (d r : Int) : runI Try.D (cF fuel) fuel Try.f10 [.agg (cfC c0 c1 c2 c3 c4 c5 c6 c7 c8 c9 c10), .int .i64 d, .int .i64 r, l] ⟨[], []⟩ (fun v _ => some v) =
  (match valH Try.D 26 [.agg (cfC c0 c1 c2 c3 c4 c5 c6 c7 c8 c9 c10), .int .i64 d, .int .i64 r, l] ⟨[.cells (cfC c0 c1 c2 c3 c4 c5 c6 c7 c8 c9 c10), .cells [.int .i64 d], .cells [.int .i64 r], .cells [.bool false], .cells [.int .i64 0]], []⟩ with
  | some u0 => br (fitS (Sh.int IntKind.i64) u0) (fun _ => br (u0.numOf != Int.ofNat 0) (fun _ => some (.tuple [.bool false, .int .i64 u0.numOf])) (fun _ => br l.isOne (fun _ => br (AV.listN 14 l) (fun _ => loopC Try.D (cP fuel) fuel ltB fuel [.func (.yield 9) [] [], .ptr 8 0, .ptr 5 0, .ptr 6 0, .ptr 7 0, .top, .int .i64 0, .int .i64 0, .bool true, .bool true, .top, .top, .top, .top, l, .int .i64 (l.listOf.length : Int), .int .i64 0, .top, .top, .top, .top, .top, .top, .top, .top, .top, .top, .top, .top, .top, .top, .top, .top, .top, .top, .top, .top, .top, .top, .top, .top, .top, .top, .top, .top, .top, .top, .top, .top, .top, .top, .top, .top, .top, .top, .top, .top, .top, .top, .top, .top, .top, .top, .top, .top, .top, .top, .top, .top, .top, .top, .top, .top, .top, .top, .top, .top, .top, .top, .top, .top, .top, .top, .top, .top, .top, .top, .top, .top, .top, .top, .top] (gH c0 c1 c2 c3 c4 c5 c6 c7 c8 c9 c10 l d r u0.numOf) (gK fuel c0 c1 c2 c3 c4 c5 c6 c7 c8 c9 c10 l d r u0.numOf)) (fun _ => none)) (fun _ => none))) (fun _ => none)
  | none => none) := by kernel_rfl
-- DEFS
theorem g_c1 {R : Type} (fuel : Nat) (l : AV) (ct cr i : Int) (up : Bool) (H : AH) (K : Ex → List AV → AH → Option R) :
  denI Try.D (cP fuel) fuel (subC ltB [0]) [.func (.yield 9) [] [], .ptr 8 0, .ptr 5 0, .ptr 6 0, .ptr 7 0, .top, .int .i64 ct, .int .i64 cr, .bool up, .bool true, .top, .top, .top, .top, l, .int .i64 (l.listOf.length : Int), .int .i64 i, .top, .top, .top, .top, .top, .top, .top, .top, .top, .top, .top, .top, .top, .top, .top, .top, .top, .top, .top, .top, .top, .top, .top, .top, .top, .top, .top, .top, .top, .top, .top, .top, .top, .top, .top, .top, .top, .top, .top, .top, .top, .top, .top, .top, .top, .top, .top, .top, .top, .top, .top, .top, .top, .top, .top, .top, .top, .top, .top, .top, .top, .top, .top, .top, .top, .top, .top, .top, .top, .top, .top, .top, .top, .top, .top] H K =
  K Ex.normal
     [AV.func (Fn.yield 9) [] [], AV.ptr 8 0, AV.ptr 5 0, AV.ptr 6 0, AV.ptr 7 0, AV.top, AV.int IntKind.i64 ct,
      AV.int IntKind.i64 cr, AV.bool up, AV.bool true, AV.top, AV.top, AV.top, AV.top, l,
      AV.int IntKind.i64 (↑l.listOf.length : Int), AV.int IntKind.i64 i, AV.bool (decide (i < (↑l.listOf.length : Int))),
      AV.top, AV.top, AV.top, AV.top, AV.top, AV.top, AV.top, AV.top, AV.top, AV.top, AV.top, AV.top, AV.top, AV.top,
      AV.top, AV.top, AV.top, AV.top, AV.top, AV.top, AV.top, AV.top, AV.top, AV.top, AV.top, AV.top, AV.top, AV.top,
      AV.top, AV.top, AV.top, AV.top, AV.top, AV.top, AV.top, AV.top, AV.top, AV.top, AV.top, AV.top, AV.top, AV.top,
      AV.top, AV.top, AV.top, AV.top, AV.top, AV.top, AV.top, AV.top, AV.top, AV.top, AV.top, AV.top, AV.top, AV.top,
      AV.top, AV.top, AV.top, AV.top, AV.top, AV.top, AV.top, AV.top, AV.top, AV.top, AV.top, AV.top, AV.top, AV.top,
      AV.top, AV.top, AV.top, AV.top]
     H := by kernel_rfl
theorem g_c2 {R : Type} (fuel : Nat) (l : AV) (ct cr i : Int) (up b : Bool) (x5 x10 x11 x12 x13 x18 x19 x20 x21 x22 x23 x24 x25 x26 x27 x28 x29 x30 x31 x32 x33 x34 x35 x36 x37 x38 x39 x40 x41 x42 x43 x44 x45 x46 x47 x48 x49 x50 x51 x52 x53 x54 x55 x56 x57 x58 x59 x60 x61 x62 x63 x64 x65 x66 x67 x68 x69 x70 x71 x72 x73 x74 x75 x76 x77 x78 x79 x80 x81 x82 x83 x84 x85 x86 x87 x88 x89 x90 x91 : AV) (H : AH) (K : Ex → List AV → AH → Option R) :
  denI Try.D (cP fuel) fuel (subC ltB1 [0]) [.func (.yield 9) [] [], .ptr 8 0, .ptr 5 0, .ptr 6 0, .ptr 7 0, x5, .int .i64 ct, .int .i64 cr, .bool up, .bool true, x10, x11, x12, x13, l, .int .i64 (l.listOf.length : Int), .int .i64 i, .bool b, x18, x19, x20, x21, x22, x23, x24, x25, x26, x27, x28, x29, x30, x31, x32, x33, x34, x35, x36, x37, x38, x39, x40, x41, x42, x43, x44, x45, x46, x47, x48, x49, x50, x51, x52, x53, x54, x55, x56, x57, x58, x59, x60, x61, x62, x63, x64, x65, x66, x67, x68, x69, x70, x71, x72, x73, x74, x75, x76, x77, x78, x79, x80, x81, x82, x83, x84, x85, x86, x87, x88, x89, x90, x91] H K =
  br (b)
    (fun _ => K Ex.normal
     [AV.func (Fn.yield 9) [] [], AV.ptr 8 0, AV.ptr 5 0, AV.ptr 6 0, AV.ptr 7 0, x5, AV.int IntKind.i64 ct,
      AV.int IntKind.i64 cr, AV.bool up, AV.bool true, x10, x11, x12, x13, l, AV.int IntKind.i64 (↑l.listOf.length : Int),
      AV.int IntKind.i64 i, AV.bool b, x18, x19, x20, x21, x22, x23, x24, x25, x26, x27, x28, x29, x30, x31, x32, x33,
      x34, x35, x36, x37, x38, x39, x40, x41, x42, x43, x44, x45, x46, x47, x48, x49, x50, x51, x52, x53, x54, x55, x56,
      x57, x58, x59, x60, x61, x62, x63, x64, x65, x66, x67, x68, x69, x70, x71, x72, x73, x74, x75, x76, x77, x78, x79,
      x80, x81, x82, x83, x84, x85, x86, x87, x88, x89, x90, x91]
     H)
    (fun _ => K (Ex.exit 0)
     [AV.func (Fn.yield 9) [] [], AV.ptr 8 0, AV.ptr 5 0, AV.ptr 6 0, AV.ptr 7 0, x5, AV.int IntKind.i64 ct,
      AV.int IntKind.i64 cr, AV.bool up, AV.bool true, x10, x11, x12, x13, l, AV.int IntKind.i64 (↑l.listOf.length : Int),
      AV.int IntKind.i64 i, AV.bool b, x18, x19, x20, x21, x22, x23, x24, x25, x26, x27, x28, x29, x30, x31, x32, x33,
      x34, x35, x36, x37, x38, x39, x40, x41, x42, x43, x44, x45, x46, x47, x48, x49, x50, x51, x52, x53, x54, x55, x56,
      x57, x58, x59, x60, x61, x62, x63, x64, x65, x66, x67, x68, x69, x70, x71, x72, x73, x74, x75, x76, x77, x78, x79,
      x80, x81, x82, x83, x84, x85, x86, x87, x88, x89, x90, x91]
     H) := by kernel_rfl
theorem g_r3 {R : Type} (fuel : Nat) (c0 c1 c2 c3 c4 c5 c6 c7 c8 c9 c10 : Int) (l : AV) (d r n : Int) (ct cr i : Int) (up : Bool) (x5 x10 x11 x12 x13 x17 x18 x19 x20 x21 x22 x23 x24 x25 x26 x27 x28 x29 x30 x31 x32 x33 x34 x35 x36 x37 x38 x39 x40 x41 x42 x43 x44 x45 x46 x47 x48 x49 x50 x51 x52 x53 x54 x55 x56 x57 x58 x59 x60 x61 x62 x63 x64 x65 x66 x67 x68 x69 x70 x71 x72 x73 x74 x75 x76 x77 x78 x79 x80 x81 x82 x83 x84 x85 x86 x87 x88 x89 x90 x91 : AV) (K : Ex → List AV → AH → Option R) :
  denI Try.D (cP fuel) fuel (subC ltY [0]) [.func (.yield 9) [] [], .ptr 8 0, .ptr 5 0, .ptr 6 0, .ptr 7 0, x5, .int .i64 ct, .int .i64 cr, .bool up, .bool true, x10, x11, x12, x13, l, .int .i64 (l.listOf.length : Int), .int .i64 i, x17, x18, x19, x20, x21, x22, x23, x24, x25, x26, x27, x28, x29, x30, x31, x32, x33, x34, x35, x36, x37, x38, x39, x40, x41, x42, x43, x44, x45, x46, x47, x48, x49, x50, x51, x52, x53, x54, x55, x56, x57, x58, x59, x60, x61, x62, x63, x64, x65, x66, x67, x68, x69, x70, x71, x72, x73, x74, x75, x76, x77, x78, x79, x80, x81, x82, x83, x84, x85, x86, x87, x88, x89, x90, x91] (gH c0 c1 c2 c3 c4 c5 c6 c7 c8 c9 c10 l d r n) K =
  br (AV.listN 14 l && (decide ((0 : Int) ≤ i) && decide (i < (↑l.listOf.length : Int))))
    (fun _ => (match l.listOf[i.toNat]? with
     | some u1 => br (u1.isAgg &&
     fitL
      [Sh.int IntKind.i64, Sh.bool, Sh.bool, Sh.bool, Sh.int IntKind.i64, Sh.int IntKind.i64, Sh.int IntKind.i64,
       Sh.int IntKind.i64, Sh.any, Sh.any, Sh.any, Sh.int IntKind.i64, Sh.any, Sh.any]
      u1.aggOf)
      (fun _ => K Ex.normal
     [AV.func (Fn.yield 9) [] [], AV.ptr 8 0, AV.ptr 5 0, AV.ptr 6 0, AV.ptr 7 0, x5, AV.int IntKind.i64 ct,
      AV.int IntKind.i64 cr, AV.bool up, AV.bool true, AV.int IntKind.i64 i, AV.ptr 10 0, x12, x13, l,
      AV.int IntKind.i64 (↑l.listOf.length : Int), AV.int IntKind.i64 i, x17, AV.int IntKind.i64 i,
      (AV.agg
        (shL
         [Sh.int IntKind.i64, Sh.bool, Sh.bool, Sh.bool, Sh.int IntKind.i64, Sh.int IntKind.i64, Sh.int IntKind.i64,
          Sh.int IntKind.i64, Sh.any, Sh.any, Sh.any, Sh.int IntKind.i64, Sh.any, Sh.any]
         u1.aggOf)).rop,
      AV.agg
       (shL
        [Sh.int IntKind.i64, Sh.bool, Sh.bool, Sh.bool, Sh.int IntKind.i64, Sh.int IntKind.i64, Sh.int IntKind.i64,
         Sh.int IntKind.i64, Sh.any, Sh.any, Sh.any, Sh.int IntKind.i64, Sh.any, Sh.any]
        u1.aggOf),
      x21, x22, x23, x24, x25, x26, x27, x28, x29, x30, x31, x32, x33, x34, x35, x36, x37, x38, x39, x40, x41, x42, x43,
      x44, x45, x46, x47, x48, x49, x50, x51, x52, x53, x54, x55, x56, x57, x58, x59, x60, x61, x62, x63, x64, x65, x66,
      x67, x68, x69, x70, x71, x72, x73, x74, x75, x76, x77, x78, x79, x80, x81, x82, x83, x84, x85, x86, x87, x88, x89,
      x90, x91]
     {
      objs :=
       [AObj.cells
         [AV.int IntKind.i64 c0, AV.int IntKind.i64 c1, AV.int IntKind.i64 c2, AV.int IntKind.i64 c3,
          AV.int IntKind.i64 c4, AV.int IntKind.i64 c5, AV.int IntKind.i64 c6, AV.int IntKind.i64 c7,
          AV.int IntKind.i64 c8, AV.int IntKind.i64 c9, AV.int IntKind.i64 c10],
        AObj.cells [AV.int IntKind.i64 d], AObj.cells [AV.int IntKind.i64 r], AObj.cells [AV.bool false],
        AObj.cells [AV.int IntKind.i64 ((0 : Int))],
        AObj.cells
         [AV.int IntKind.i64 c0, AV.int IntKind.i64 c1, AV.int IntKind.i64 c2, AV.int IntKind.i64 c3,
          AV.int IntKind.i64 c4, AV.int IntKind.i64 c5, AV.int IntKind.i64 c6, AV.int IntKind.i64 c7,
          AV.int IntKind.i64 c8, AV.int IntKind.i64 c9, AV.int IntKind.i64 c10],
        AObj.cells [AV.int IntKind.i64 d], AObj.cells [AV.int IntKind.i64 r], AObj.cells [l],
        AObj.loop
         [AV.agg
           [AV.int IntKind.i64 c0, AV.int IntKind.i64 c1, AV.int IntKind.i64 c2, AV.int IntKind.i64 c3,
            AV.int IntKind.i64 c4, AV.int IntKind.i64 c5, AV.int IntKind.i64 c6, AV.int IntKind.i64 c7,
            AV.int IntKind.i64 c8, AV.int IntKind.i64 c9, AV.int IntKind.i64 c10],
          AV.int IntKind.i64 d, AV.int IntKind.i64 r, l, AV.ptr 0 0, AV.ptr 1 0, AV.ptr 2 0, AV.top, AV.ptr 3 0,
          AV.ptr 4 0, AV.int IntKind.i64 n, AV.top, AV.top, AV.top, AV.top,
          AV.agg
           [AV.int IntKind.i64 c0, AV.int IntKind.i64 c1, AV.int IntKind.i64 c2, AV.int IntKind.i64 c3,
            AV.int IntKind.i64 c4, AV.int IntKind.i64 c5, AV.int IntKind.i64 c6, AV.int IntKind.i64 c7,
            AV.int IntKind.i64 c8, AV.int IntKind.i64 c9, AV.int IntKind.i64 c10],
          AV.int IntKind.i64 d, AV.int IntKind.i64 r, l, AV.int IntKind.i64 n, AV.int IntKind.i64 n,
          AV.bool (n != (0 : Int)), AV.top,
          AV.agg
           [AV.int IntKind.i64 c0, AV.int IntKind.i64 c1, AV.int IntKind.i64 c2, AV.int IntKind.i64 c3,
            AV.int IntKind.i64 c4, AV.int IntKind.i64 c5, AV.int IntKind.i64 c6, AV.int IntKind.i64 c7,
            AV.int IntKind.i64 c8, AV.int IntKind.i64 c9, AV.int IntKind.i64 c10],
          AV.int IntKind.i64 d, AV.int IntKind.i64 r, l,
          AV.func (Fn.func 38) [] [AV.ptr 8 0, AV.ptr 5 0, AV.ptr 6 0, AV.ptr 7 0], AV.top, AV.top, AV.top, AV.top,
          AV.top, AV.top, AV.top, AV.top, AV.top, AV.top, AV.top, AV.top, AV.top, AV.top, AV.top, AV.top, AV.top,
          AV.top, AV.top, AV.top, AV.top, AV.top, AV.top, AV.top, AV.top, AV.top, AV.top, AV.top]
         [28, 29] gX gY LSt.ready,
        AObj.cells
         [AV.int IntKind.i64 (hdV u1.aggOf).numOf, AV.bool (hdV (tlV u1.aggOf)).boolOf,
          AV.bool (hdV (tlV (tlV u1.aggOf))).boolOf, AV.bool (hdV (tlV (tlV (tlV u1.aggOf)))).boolOf,
          AV.int IntKind.i64 (hdV (tlV (tlV (tlV (tlV u1.aggOf))))).numOf,
          AV.int IntKind.i64 (hdV (tlV (tlV (tlV (tlV (tlV u1.aggOf)))))).numOf,
          AV.int IntKind.i64 (hdV (tlV (tlV (tlV (tlV (tlV (tlV u1.aggOf))))))).numOf,
          AV.int IntKind.i64 (hdV (tlV (tlV (tlV (tlV (tlV (tlV (tlV u1.aggOf)))))))).numOf,
          shS Sh.any (hdV (tlV (tlV (tlV (tlV (tlV (tlV (tlV (tlV u1.aggOf))))))))),
          shS Sh.any (hdV (tlV (tlV (tlV (tlV (tlV (tlV (tlV (tlV (tlV u1.aggOf)))))))))),
          shS Sh.any (hdV (tlV (tlV (tlV (tlV (tlV (tlV (tlV (tlV (tlV (tlV u1.aggOf))))))))))),
          AV.int IntKind.i64 (hdV (tlV (tlV (tlV (tlV (tlV (tlV (tlV (tlV (tlV (tlV (tlV u1.aggOf)))))))))))).numOf,
          shS Sh.any (hdV (tlV (tlV (tlV (tlV (tlV (tlV (tlV (tlV (tlV (tlV (tlV (tlV u1.aggOf))))))))))))),
          shS Sh.any (hdV (tlV (tlV (tlV (tlV (tlV (tlV (tlV (tlV (tlV (tlV (tlV (tlV (tlV u1.aggOf))))))))))))))]],
      toks := [] })
      (fun _ => none)
     | none => none))
    (fun _ => none) := by kernel_rfl
theorem g_s1 {R : Type} (fuel : Nat) (c0 c1 c2 c3 c4 c5 c6 c7 c8 c9 c10 : Int) (l : AV) (d r n : Int) (ct cr i : Int) (up : Bool) (m0 : Int) (m1 m2 m3 : Bool) (m4 m5 m6 m7 : Int) (m8 m9 m10 : AV) (m11 : Int) (m12 m13 : AV) (x5 x12 x13 x17 x18 x19 x20 x21 x22 x23 x24 x25 x26 x27 x28 x29 x30 x31 x32 x33 x34 x35 x36 x37 x38 x39 x40 x41 x42 x43 x44 x45 x46 x47 x48 x49 x50 x51 x52 x53 x54 x55 x56 x57 x58 x59 x60 x61 x62 x63 x64 x65 x66 x67 x68 x69 x70 x71 x72 x73 x74 x75 x76 x77 x78 x79 x80 x81 x82 x83 x84 x85 x86 x87 x88 x89 x90 x91 : AV) (K : Ex → List AV → AH → Option R) :
  denI Try.D (cP fuel) fuel (subC ltY1 [0]) [.func (.yield 9) [] [], .ptr 8 0, .ptr 5 0, .ptr 6 0, .ptr 7 0, x5, .int .i64 ct, .int .i64 cr, .bool up, .bool true, .int .i64 i, .ptr 10 0, x12, x13, l, .int .i64 (l.listOf.length : Int), .int .i64 i, x17, x18, x19, x20, x21, x22, x23, x24, x25, x26, x27, x28, x29, x30, x31, x32, x33, x34, x35, x36, x37, x38, x39, x40, x41, x42, x43, x44, x45, x46, x47, x48, x49, x50, x51, x52, x53, x54, x55, x56, x57, x58, x59, x60, x61, x62, x63, x64, x65, x66, x67, x68, x69, x70, x71, x72, x73, x74, x75, x76, x77, x78, x79, x80, x81, x82, x83, x84, x85, x86, x87, x88, x89, x90, x91] (gM c0 c1 c2 c3 c4 c5 c6 c7 c8 c9 c10 l d r n m0 m1 m2 m3 m4 m5 m6 m7 m8 m9 m10 m11 m12 m13) K =
  br (i == (0 : Int))
    (fun _ => K Ex.normal
     [AV.func (Fn.yield 9) [] [], AV.ptr 8 0, AV.ptr 5 0, AV.ptr 6 0, AV.ptr 7 0, x5, AV.int IntKind.i64 m0,
      AV.int IntKind.i64 cr, AV.bool up, AV.bool true, AV.int IntKind.i64 i, AV.ptr 10 0, x12, x13, l,
      AV.int IntKind.i64 (↑l.listOf.length : Int), AV.int IntKind.i64 i, x17, x18, x19, x20, AV.int IntKind.i64 i,
      AV.bool (i == (0 : Int)), AV.bool true, AV.tuple [], AV.tuple [], AV.bool true, AV.bool true, AV.tuple [],
      AV.tuple [], AV.bool true, AV.ptr 10 0, AV.int IntKind.i64 m0, x33, x34, x35, x36, x37, x38, x39, x40, x41, x42,
      x43, x44, x45, x46, x47, x48, x49, x50, x51, x52, x53, x54, x55, x56, x57, x58, x59, x60, x61, x62, x63, x64, x65,
      x66, x67, x68, x69, x70, x71, x72, x73, x74, x75, x76, x77, x78, x79, x80, x81, x82, x83, x84, x85, x86, x87, x88,
      x89, x90, x91]
     {
      objs :=
       [AObj.cells
         [AV.int IntKind.i64 c0, AV.int IntKind.i64 c1, AV.int IntKind.i64 c2, AV.int IntKind.i64 c3,
          AV.int IntKind.i64 c4, AV.int IntKind.i64 c5, AV.int IntKind.i64 c6, AV.int IntKind.i64 c7,
          AV.int IntKind.i64 c8, AV.int IntKind.i64 c9, AV.int IntKind.i64 c10],
        AObj.cells [AV.int IntKind.i64 d], AObj.cells [AV.int IntKind.i64 r], AObj.cells [AV.bool false],
        AObj.cells [AV.int IntKind.i64 ((0 : Int))],
        AObj.cells
         [AV.int IntKind.i64 c0, AV.int IntKind.i64 c1, AV.int IntKind.i64 c2, AV.int IntKind.i64 c3,
          AV.int IntKind.i64 c4, AV.int IntKind.i64 c5, AV.int IntKind.i64 c6, AV.int IntKind.i64 c7,
          AV.int IntKind.i64 c8, AV.int IntKind.i64 c9, AV.int IntKind.i64 c10],
        AObj.cells [AV.int IntKind.i64 d], AObj.cells [AV.int IntKind.i64 r], AObj.cells [l],
        AObj.loop
         [AV.agg
           [AV.int IntKind.i64 c0, AV.int IntKind.i64 c1, AV.int IntKind.i64 c2, AV.int IntKind.i64 c3,
            AV.int IntKind.i64 c4, AV.int IntKind.i64 c5, AV.int IntKind.i64 c6, AV.int IntKind.i64 c7,
            AV.int IntKind.i64 c8, AV.int IntKind.i64 c9, AV.int IntKind.i64 c10],
          AV.int IntKind.i64 d, AV.int IntKind.i64 r, l, AV.ptr 0 0, AV.ptr 1 0, AV.ptr 2 0, AV.top, AV.ptr 3 0,
          AV.ptr 4 0, AV.int IntKind.i64 n, AV.top, AV.top, AV.top, AV.top,
          AV.agg
           [AV.int IntKind.i64 c0, AV.int IntKind.i64 c1, AV.int IntKind.i64 c2, AV.int IntKind.i64 c3,
            AV.int IntKind.i64 c4, AV.int IntKind.i64 c5, AV.int IntKind.i64 c6, AV.int IntKind.i64 c7,
            AV.int IntKind.i64 c8, AV.int IntKind.i64 c9, AV.int IntKind.i64 c10],
          AV.int IntKind.i64 d, AV.int IntKind.i64 r, l, AV.int IntKind.i64 n, AV.int IntKind.i64 n,
          AV.bool (n != (0 : Int)), AV.top,
          AV.agg
           [AV.int IntKind.i64 c0, AV.int IntKind.i64 c1, AV.int IntKind.i64 c2, AV.int IntKind.i64 c3,
            AV.int IntKind.i64 c4, AV.int IntKind.i64 c5, AV.int IntKind.i64 c6, AV.int IntKind.i64 c7,
            AV.int IntKind.i64 c8, AV.int IntKind.i64 c9, AV.int IntKind.i64 c10],
          AV.int IntKind.i64 d, AV.int IntKind.i64 r, l,
          AV.func (Fn.func 38) [] [AV.ptr 8 0, AV.ptr 5 0, AV.ptr 6 0, AV.ptr 7 0], AV.top, AV.top, AV.top, AV.top,
          AV.top, AV.top, AV.top, AV.top, AV.top, AV.top, AV.top, AV.top, AV.top, AV.top, AV.top, AV.top, AV.top,
          AV.top, AV.top, AV.top, AV.top, AV.top, AV.top, AV.top, AV.top, AV.top, AV.top, AV.top]
         [28, 29] gX gY LSt.ready,
        AObj.cells
         [AV.int IntKind.i64 m0, AV.bool m1, AV.bool m2, AV.bool m3, AV.int IntKind.i64 m4, AV.int IntKind.i64 m5,
          AV.int IntKind.i64 m6, AV.int IntKind.i64 m7, m8, m9, m10, AV.int IntKind.i64 m11, m12, m13]],
      toks := [] })
    (fun _ => br (m2)
     (fun _ => K Ex.normal
     [AV.func (Fn.yield 9) [] [], AV.ptr 8 0, AV.ptr 5 0, AV.ptr 6 0, AV.ptr 7 0, x5, AV.int IntKind.i64 m0,
      AV.int IntKind.i64 cr, AV.bool up, AV.bool true, AV.int IntKind.i64 i, AV.ptr 10 0, x12, x13, l,
      AV.int IntKind.i64 (↑l.listOf.length : Int), AV.int IntKind.i64 i, x17, x18, x19, x20, AV.int IntKind.i64 i,
      AV.bool (i == (0 : Int)), AV.bool false, AV.ptr 10 2, AV.bool m2, AV.bool m2, AV.bool true, AV.tuple [],
      AV.tuple [], AV.bool true, AV.ptr 10 0, AV.int IntKind.i64 m0, x33, x34, x35, x36, x37, x38, x39, x40, x41, x42,
      x43, x44, x45, x46, x47, x48, x49, x50, x51, x52, x53, x54, x55, x56, x57, x58, x59, x60, x61, x62, x63, x64, x65,
      x66, x67, x68, x69, x70, x71, x72, x73, x74, x75, x76, x77, x78, x79, x80, x81, x82, x83, x84, x85, x86, x87, x88,
      x89, x90, x91]
     {
      objs :=
       [AObj.cells
         [AV.int IntKind.i64 c0, AV.int IntKind.i64 c1, AV.int IntKind.i64 c2, AV.int IntKind.i64 c3,
          AV.int IntKind.i64 c4, AV.int IntKind.i64 c5, AV.int IntKind.i64 c6, AV.int IntKind.i64 c7,
          AV.int IntKind.i64 c8, AV.int IntKind.i64 c9, AV.int IntKind.i64 c10],
        AObj.cells [AV.int IntKind.i64 d], AObj.cells [AV.int IntKind.i64 r], AObj.cells [AV.bool false],
        AObj.cells [AV.int IntKind.i64 ((0 : Int))],
        AObj.cells
         [AV.int IntKind.i64 c0, AV.int IntKind.i64 c1, AV.int IntKind.i64 c2, AV.int IntKind.i64 c3,
          AV.int IntKind.i64 c4, AV.int IntKind.i64 c5, AV.int IntKind.i64 c6, AV.int IntKind.i64 c7,
          AV.int IntKind.i64 c8, AV.int IntKind.i64 c9, AV.int IntKind.i64 c10],
        AObj.cells [AV.int IntKind.i64 d], AObj.cells [AV.int IntKind.i64 r], AObj.cells [l],
        AObj.loop
         [AV.agg
           [AV.int IntKind.i64 c0, AV.int IntKind.i64 c1, AV.int IntKind.i64 c2, AV.int IntKind.i64 c3,
            AV.int IntKind.i64 c4, AV.int IntKind.i64 c5, AV.int IntKind.i64 c6, AV.int IntKind.i64 c7,
            AV.int IntKind.i64 c8, AV.int IntKind.i64 c9, AV.int IntKind.i64 c10],
          AV.int IntKind.i64 d, AV.int IntKind.i64 r, l, AV.ptr 0 0, AV.ptr 1 0, AV.ptr 2 0, AV.top, AV.ptr 3 0,
          AV.ptr 4 0, AV.int IntKind.i64 n, AV.top, AV.top, AV.top, AV.top,
          AV.agg
           [AV.int IntKind.i64 c0, AV.int IntKind.i64 c1, AV.int IntKind.i64 c2, AV.int IntKind.i64 c3,
            AV.int IntKind.i64 c4, AV.int IntKind.i64 c5, AV.int IntKind.i64 c6, AV.int IntKind.i64 c7,
            AV.int IntKind.i64 c8, AV.int IntKind.i64 c9, AV.int IntKind.i64 c10],
          AV.int IntKind.i64 d, AV.int IntKind.i64 r, l, AV.int IntKind.i64 n, AV.int IntKind.i64 n,
          AV.bool (n != (0 : Int)), AV.top,
          AV.agg
           [AV.int IntKind.i64 c0, AV.int IntKind.i64 c1, AV.int IntKind.i64 c2, AV.int IntKind.i64 c3,
            AV.int IntKind.i64 c4, AV.int IntKind.i64 c5, AV.int IntKind.i64 c6, AV.int IntKind.i64 c7,
            AV.int IntKind.i64 c8, AV.int IntKind.i64 c9, AV.int IntKind.i64 c10],
          AV.int IntKind.i64 d, AV.int IntKind.i64 r, l,
          AV.func (Fn.func 38) [] [AV.ptr 8 0, AV.ptr 5 0, AV.ptr 6 0, AV.ptr 7 0], AV.top, AV.top, AV.top, AV.top,
          AV.top, AV.top, AV.top, AV.top, AV.top, AV.top, AV.top, AV.top, AV.top, AV.top, AV.top, AV.top, AV.top,
          AV.top, AV.top, AV.top, AV.top, AV.top, AV.top, AV.top, AV.top, AV.top, AV.top, AV.top]
         [28, 29] gX gY LSt.ready,
        AObj.cells
         [AV.int IntKind.i64 m0, AV.bool m1, AV.bool m2, AV.bool m3, AV.int IntKind.i64 m4, AV.int IntKind.i64 m5,
          AV.int IntKind.i64 m6, AV.int IntKind.i64 m7, m8, m9, m10, AV.int IntKind.i64 m11, m12, m13]],
      toks := [] })
     (fun _ => br (m3)
      (fun _ => K Ex.normal
     [AV.func (Fn.yield 9) [] [], AV.ptr 8 0, AV.ptr 5 0, AV.ptr 6 0, AV.ptr 7 0, x5, AV.int IntKind.i64 m0,
      AV.int IntKind.i64 cr, AV.bool up, AV.bool true, AV.int IntKind.i64 i, AV.ptr 10 0, x12, x13, l,
      AV.int IntKind.i64 (↑l.listOf.length : Int), AV.int IntKind.i64 i, x17, x18, x19, x20, AV.int IntKind.i64 i,
      AV.bool (i == (0 : Int)), AV.bool false, AV.ptr 10 2, AV.bool m2, AV.bool m2, AV.bool false, AV.ptr 10 3,
      AV.bool m3, AV.bool m3, AV.ptr 10 0, AV.int IntKind.i64 m0, x33, x34, x35, x36, x37, x38, x39, x40, x41, x42, x43,
      x44, x45, x46, x47, x48, x49, x50, x51, x52, x53, x54, x55, x56, x57, x58, x59, x60, x61, x62, x63, x64, x65, x66,
      x67, x68, x69, x70, x71, x72, x73, x74, x75, x76, x77, x78, x79, x80, x81, x82, x83, x84, x85, x86, x87, x88, x89,
      x90, x91]
     {
      objs :=
       [AObj.cells
         [AV.int IntKind.i64 c0, AV.int IntKind.i64 c1, AV.int IntKind.i64 c2, AV.int IntKind.i64 c3,
          AV.int IntKind.i64 c4, AV.int IntKind.i64 c5, AV.int IntKind.i64 c6, AV.int IntKind.i64 c7,
          AV.int IntKind.i64 c8, AV.int IntKind.i64 c9, AV.int IntKind.i64 c10],
        AObj.cells [AV.int IntKind.i64 d], AObj.cells [AV.int IntKind.i64 r], AObj.cells [AV.bool false],
        AObj.cells [AV.int IntKind.i64 ((0 : Int))],
        AObj.cells
         [AV.int IntKind.i64 c0, AV.int IntKind.i64 c1, AV.int IntKind.i64 c2, AV.int IntKind.i64 c3,
          AV.int IntKind.i64 c4, AV.int IntKind.i64 c5, AV.int IntKind.i64 c6, AV.int IntKind.i64 c7,
          AV.int IntKind.i64 c8, AV.int IntKind.i64 c9, AV.int IntKind.i64 c10],
        AObj.cells [AV.int IntKind.i64 d], AObj.cells [AV.int IntKind.i64 r], AObj.cells [l],
        AObj.loop
         [AV.agg
           [AV.int IntKind.i64 c0, AV.int IntKind.i64 c1, AV.int IntKind.i64 c2, AV.int IntKind.i64 c3,
            AV.int IntKind.i64 c4, AV.int IntKind.i64 c5, AV.int IntKind.i64 c6, AV.int IntKind.i64 c7,
            AV.int IntKind.i64 c8, AV.int IntKind.i64 c9, AV.int IntKind.i64 c10],
          AV.int IntKind.i64 d, AV.int IntKind.i64 r, l, AV.ptr 0 0, AV.ptr 1 0, AV.ptr 2 0, AV.top, AV.ptr 3 0,
          AV.ptr 4 0, AV.int IntKind.i64 n, AV.top, AV.top, AV.top, AV.top,
          AV.agg
           [AV.int IntKind.i64 c0, AV.int IntKind.i64 c1, AV.int IntKind.i64 c2, AV.int IntKind.i64 c3,
            AV.int IntKind.i64 c4, AV.int IntKind.i64 c5, AV.int IntKind.i64 c6, AV.int IntKind.i64 c7,
            AV.int IntKind.i64 c8, AV.int IntKind.i64 c9, AV.int IntKind.i64 c10],
          AV.int IntKind.i64 d, AV.int IntKind.i64 r, l, AV.int IntKind.i64 n, AV.int IntKind.i64 n,
          AV.bool (n != (0 : Int)), AV.top,
          AV.agg
           [AV.int IntKind.i64 c0, AV.int IntKind.i64 c1, AV.int IntKind.i64 c2, AV.int IntKind.i64 c3,
            AV.int IntKind.i64 c4, AV.int IntKind.i64 c5, AV.int IntKind.i64 c6, AV.int IntKind.i64 c7,
            AV.int IntKind.i64 c8, AV.int IntKind.i64 c9, AV.int IntKind.i64 c10],
          AV.int IntKind.i64 d, AV.int IntKind.i64 r, l,
          AV.func (Fn.func 38) [] [AV.ptr 8 0, AV.ptr 5 0, AV.ptr 6 0, AV.ptr 7 0], AV.top, AV.top, AV.top, AV.top,
          AV.top, AV.top, AV.top, AV.top, AV.top, AV.top, AV.top, AV.top, AV.top, AV.top, AV.top, AV.top, AV.top,
          AV.top, AV.top, AV.top, AV.top, AV.top, AV.top, AV.top, AV.top, AV.top, AV.top, AV.top]
         [28, 29] gX gY LSt.ready,
        AObj.cells
         [AV.int IntKind.i64 m0, AV.bool m1, AV.bool m2, AV.bool m3, AV.int IntKind.i64 m4, AV.int IntKind.i64 m5,
          AV.int IntKind.i64 m6, AV.int IntKind.i64 m7, m8, m9, m10, AV.int IntKind.i64 m11, m12, m13]],
      toks := [] })
      (fun _ => K Ex.normal
     [AV.func (Fn.yield 9) [] [], AV.ptr 8 0, AV.ptr 5 0, AV.ptr 6 0, AV.ptr 7 0, x5, AV.int IntKind.i64 ct,
      AV.int IntKind.i64 cr, AV.bool up, AV.bool true, AV.int IntKind.i64 i, AV.ptr 10 0, x12, x13, l,
      AV.int IntKind.i64 (↑l.listOf.length : Int), AV.int IntKind.i64 i, x17, x18, x19, x20, AV.int IntKind.i64 i,
      AV.bool (i == (0 : Int)), AV.bool false, AV.ptr 10 2, AV.bool m2, AV.bool m2, AV.bool false, AV.ptr 10 3,
      AV.bool m3, AV.bool m3, x31, x32, x33, x34, x35, x36, x37, x38, x39, x40, x41, x42, x43, x44, x45, x46, x47, x48,
      x49, x50, x51, x52, x53, x54, x55, x56, x57, x58, x59, x60, x61, x62, x63, x64, x65, x66, x67, x68, x69, x70, x71,
      x72, x73, x74, x75, x76, x77, x78, x79, x80, x81, x82, x83, x84, x85, x86, x87, x88, x89, x90, x91]
     {
      objs :=
       [AObj.cells
         [AV.int IntKind.i64 c0, AV.int IntKind.i64 c1, AV.int IntKind.i64 c2, AV.int IntKind.i64 c3,
          AV.int IntKind.i64 c4, AV.int IntKind.i64 c5, AV.int IntKind.i64 c6, AV.int IntKind.i64 c7,
          AV.int IntKind.i64 c8, AV.int IntKind.i64 c9, AV.int IntKind.i64 c10],
        AObj.cells [AV.int IntKind.i64 d], AObj.cells [AV.int IntKind.i64 r], AObj.cells [AV.bool false],
        AObj.cells [AV.int IntKind.i64 ((0 : Int))],
        AObj.cells
         [AV.int IntKind.i64 c0, AV.int IntKind.i64 c1, AV.int IntKind.i64 c2, AV.int IntKind.i64 c3,
          AV.int IntKind.i64 c4, AV.int IntKind.i64 c5, AV.int IntKind.i64 c6, AV.int IntKind.i64 c7,
          AV.int IntKind.i64 c8, AV.int IntKind.i64 c9, AV.int IntKind.i64 c10],
        AObj.cells [AV.int IntKind.i64 d], AObj.cells [AV.int IntKind.i64 r], AObj.cells [l],
        AObj.loop
         [AV.agg
           [AV.int IntKind.i64 c0, AV.int IntKind.i64 c1, AV.int IntKind.i64 c2, AV.int IntKind.i64 c3,
            AV.int IntKind.i64 c4, AV.int IntKind.i64 c5, AV.int IntKind.i64 c6, AV.int IntKind.i64 c7,
            AV.int IntKind.i64 c8, AV.int IntKind.i64 c9, AV.int IntKind.i64 c10],
          AV.int IntKind.i64 d, AV.int IntKind.i64 r, l, AV.ptr 0 0, AV.ptr 1 0, AV.ptr 2 0, AV.top, AV.ptr 3 0,
          AV.ptr 4 0, AV.int IntKind.i64 n, AV.top, AV.top, AV.top, AV.top,
          AV.agg
           [AV.int IntKind.i64 c0, AV.int IntKind.i64 c1, AV.int IntKind.i64 c2, AV.int IntKind.i64 c3,
            AV.int IntKind.i64 c4, AV.int IntKind.i64 c5, AV.int IntKind.i64 c6, AV.int IntKind.i64 c7,
            AV.int IntKind.i64 c8, AV.int IntKind.i64 c9, AV.int IntKind.i64 c10],
          AV.int IntKind.i64 d, AV.int IntKind.i64 r, l, AV.int IntKind.i64 n, AV.int IntKind.i64 n,
          AV.bool (n != (0 : Int)), AV.top,
          AV.agg
           [AV.int IntKind.i64 c0, AV.int IntKind.i64 c1, AV.int IntKind.i64 c2, AV.int IntKind.i64 c3,
            AV.int IntKind.i64 c4, AV.int IntKind.i64 c5, AV.int IntKind.i64 c6, AV.int IntKind.i64 c7,
            AV.int IntKind.i64 c8, AV.int IntKind.i64 c9, AV.int IntKind.i64 c10],
          AV.int IntKind.i64 d, AV.int IntKind.i64 r, l,
          AV.func (Fn.func 38) [] [AV.ptr 8 0, AV.ptr 5 0, AV.ptr 6 0, AV.ptr 7 0], AV.top, AV.top, AV.top, AV.top,
          AV.top, AV.top, AV.top, AV.top, AV.top, AV.top, AV.top, AV.top, AV.top, AV.top, AV.top, AV.top, AV.top,
          AV.top, AV.top, AV.top, AV.top, AV.top, AV.top, AV.top, AV.top, AV.top, AV.top, AV.top]
         [28, 29] gX gY LSt.ready,
        AObj.cells
         [AV.int IntKind.i64 m0, AV.bool m1, AV.bool m2, AV.bool m3, AV.int IntKind.i64 m4, AV.int IntKind.i64 m5,
          AV.int IntKind.i64 m6, AV.int IntKind.i64 m7, m8, m9, m10, AV.int IntKind.i64 m11, m12, m13]],
      toks := [] }))) := by kernel_rfl
theorem g_s2 {R : Type} (fuel : Nat) (c0 c1 c2 c3 c4 c5 c6 c7 c8 c9 c10 : Int) (l : AV) (d r n : Int) (ct cr i : Int) (up : Bool) (m0 : Int) (m1 m2 m3 : Bool) (m4 m5 m6 m7 : Int) (m8 m9 m10 : AV) (m11 : Int) (m12 m13 : AV) (x5 x12 x13 x17 x18 x19 x20 x21 x22 x23 x24 x25 x26 x27 x28 x29 x30 x31 x32 x33 x34 x35 x36 x37 x38 x39 x40 x41 x42 x43 x44 x45 x46 x47 x48 x49 x50 x51 x52 x53 x54 x55 x56 x57 x58 x59 x60 x61 x62 x63 x64 x65 x66 x67 x68 x69 x70 x71 x72 x73 x74 x75 x76 x77 x78 x79 x80 x81 x82 x83 x84 x85 x86 x87 x88 x89 x90 x91 : AV) (K : Ex → List AV → AH → Option R) :
  denI Try.D (cP fuel) fuel (subC ltY2 [0]) [.func (.yield 9) [] [], .ptr 8 0, .ptr 5 0, .ptr 6 0, .ptr 7 0, x5, .int .i64 ct, .int .i64 cr, .bool up, .bool true, .int .i64 i, .ptr 10 0, x12, x13, l, .int .i64 (l.listOf.length : Int), .int .i64 i, x17, x18, x19, x20, x21, x22, x23, x24, x25, x26, x27, x28, x29, x30, x31, x32, x33, x34, x35, x36, x37, x38, x39, x40, x41, x42, x43, x44, x45, x46, x47, x48, x49, x50, x51, x52, x53, x54, x55, x56, x57, x58, x59, x60, x61, x62, x63, x64, x65, x66, x67, x68, x69, x70, x71, x72, x73, x74, x75, x76, x77, x78, x79, x80, x81, x82, x83, x84, x85, x86, x87, x88, x89, x90, x91] (gM c0 c1 c2 c3 c4 c5 c6 c7 c8 c9 c10 l d r n m0 m1 m2 m3 m4 m5 m6 m7 m8 m9 m10 m11 m12 m13) K =
  br (!m1)
    (fun _ => br (up)
     (fun _ => K Ex.normal
     [AV.func (Fn.yield 9) [] [], AV.ptr 8 0, AV.ptr 5 0, AV.ptr 6 0, AV.ptr 7 0, x5, AV.int IntKind.i64 ct,
      AV.int IntKind.i64 m0, AV.bool up, AV.bool true, AV.int IntKind.i64 i, AV.ptr 10 0, x12, x13, l,
      AV.int IntKind.i64 (↑l.listOf.length : Int), AV.int IntKind.i64 i, x17, x18, x19, x20, x21, x22, x23, x24, x25, x26,
      x27, x28, x29, x30, x31, x32, AV.ptr 10 1, AV.bool m1, AV.bool !m1, AV.bool true, AV.bool up, AV.bool true,
      AV.tuple [], AV.tuple [], AV.bool true, AV.bool true, AV.ptr 10 0, AV.int IntKind.i64 m0, x45, x46, x47, x48, x49,
      x50, x51, x52, x53, x54, x55, x56, x57, x58, x59, x60, x61, x62, x63, x64, x65, x66, x67, x68, x69, x70, x71, x72,
      x73, x74, x75, x76, x77, x78, x79, x80, x81, x82, x83, x84, x85, x86, x87, x88, x89, x90, x91]
     {
      objs :=
       [AObj.cells
         [AV.int IntKind.i64 c0, AV.int IntKind.i64 c1, AV.int IntKind.i64 c2, AV.int IntKind.i64 c3,
          AV.int IntKind.i64 c4, AV.int IntKind.i64 c5, AV.int IntKind.i64 c6, AV.int IntKind.i64 c7,
          AV.int IntKind.i64 c8, AV.int IntKind.i64 c9, AV.int IntKind.i64 c10],
        AObj.cells [AV.int IntKind.i64 d], AObj.cells [AV.int IntKind.i64 r], AObj.cells [AV.bool false],
        AObj.cells [AV.int IntKind.i64 ((0 : Int))],
        AObj.cells
         [AV.int IntKind.i64 c0, AV.int IntKind.i64 c1, AV.int IntKind.i64 c2, AV.int IntKind.i64 c3,
          AV.int IntKind.i64 c4, AV.int IntKind.i64 c5, AV.int IntKind.i64 c6, AV.int IntKind.i64 c7,
          AV.int IntKind.i64 c8, AV.int IntKind.i64 c9, AV.int IntKind.i64 c10],
        AObj.cells [AV.int IntKind.i64 d], AObj.cells [AV.int IntKind.i64 r], AObj.cells [l],
        AObj.loop
         [AV.agg
           [AV.int IntKind.i64 c0, AV.int IntKind.i64 c1, AV.int IntKind.i64 c2, AV.int IntKind.i64 c3,
            AV.int IntKind.i64 c4, AV.int IntKind.i64 c5, AV.int IntKind.i64 c6, AV.int IntKind.i64 c7,
            AV.int IntKind.i64 c8, AV.int IntKind.i64 c9, AV.int IntKind.i64 c10],
          AV.int IntKind.i64 d, AV.int IntKind.i64 r, l, AV.ptr 0 0, AV.ptr 1 0, AV.ptr 2 0, AV.top, AV.ptr 3 0,
          AV.ptr 4 0, AV.int IntKind.i64 n, AV.top, AV.top, AV.top, AV.top,
          AV.agg
           [AV.int IntKind.i64 c0, AV.int IntKind.i64 c1, AV.int IntKind.i64 c2, AV.int IntKind.i64 c3,
            AV.int IntKind.i64 c4, AV.int IntKind.i64 c5, AV.int IntKind.i64 c6, AV.int IntKind.i64 c7,
            AV.int IntKind.i64 c8, AV.int IntKind.i64 c9, AV.int IntKind.i64 c10],
          AV.int IntKind.i64 d, AV.int IntKind.i64 r, l, AV.int IntKind.i64 n, AV.int IntKind.i64 n,
          AV.bool (n != (0 : Int)), AV.top,
          AV.agg
           [AV.int IntKind.i64 c0, AV.int IntKind.i64 c1, AV.int IntKind.i64 c2, AV.int IntKind.i64 c3,
            AV.int IntKind.i64 c4, AV.int IntKind.i64 c5, AV.int IntKind.i64 c6, AV.int IntKind.i64 c7,
            AV.int IntKind.i64 c8, AV.int IntKind.i64 c9, AV.int IntKind.i64 c10],
          AV.int IntKind.i64 d, AV.int IntKind.i64 r, l,
          AV.func (Fn.func 38) [] [AV.ptr 8 0, AV.ptr 5 0, AV.ptr 6 0, AV.ptr 7 0], AV.top, AV.top, AV.top, AV.top,
          AV.top, AV.top, AV.top, AV.top, AV.top, AV.top, AV.top, AV.top, AV.top, AV.top, AV.top, AV.top, AV.top,
          AV.top, AV.top, AV.top, AV.top, AV.top, AV.top, AV.top, AV.top, AV.top, AV.top, AV.top]
         [28, 29] gX gY LSt.ready,
        AObj.cells
         [AV.int IntKind.i64 m0, AV.bool m1, AV.bool m2, AV.bool m3, AV.int IntKind.i64 m4, AV.int IntKind.i64 m5,
          AV.int IntKind.i64 m6, AV.int IntKind.i64 m7, m8, m9, m10, AV.int IntKind.i64 m11, m12, m13]],
      toks := [] })
     (fun _ => br (i == (0 : Int))
      (fun _ => K Ex.normal
     [AV.func (Fn.yield 9) [] [], AV.ptr 8 0, AV.ptr 5 0, AV.ptr 6 0, AV.ptr 7 0, x5, AV.int IntKind.i64 ct,
      AV.int IntKind.i64 m0, AV.bool up, AV.bool true, AV.int IntKind.i64 i, AV.ptr 10 0, x12, x13, l,
      AV.int IntKind.i64 (↑l.listOf.length : Int), AV.int IntKind.i64 i, x17, x18, x19, x20, x21, x22, x23, x24, x25, x26,
      x27, x28, x29, x30, x31, x32, AV.ptr 10 1, AV.bool m1, AV.bool !m1, AV.bool true, AV.bool up, AV.bool false,
      AV.int IntKind.i64 i, AV.bool (i == (0 : Int)), AV.bool (i == (0 : Int)), AV.bool (i == (0 : Int)),
      AV.ptr 10 0, AV.int IntKind.i64 m0, x45, x46, x47, x48, x49, x50, x51, x52, x53, x54, x55, x56, x57, x58, x59, x60,
      x61, x62, x63, x64, x65, x66, x67, x68, x69, x70, x71, x72, x73, x74, x75, x76, x77, x78, x79, x80, x81, x82, x83,
      x84, x85, x86, x87, x88, x89, x90, x91]
     {
      objs :=
       [AObj.cells
         [AV.int IntKind.i64 c0, AV.int IntKind.i64 c1, AV.int IntKind.i64 c2, AV.int IntKind.i64 c3,
          AV.int IntKind.i64 c4, AV.int IntKind.i64 c5, AV.int IntKind.i64 c6, AV.int IntKind.i64 c7,
          AV.int IntKind.i64 c8, AV.int IntKind.i64 c9, AV.int IntKind.i64 c10],
        AObj.cells [AV.int IntKind.i64 d], AObj.cells [AV.int IntKind.i64 r], AObj.cells [AV.bool false],
        AObj.cells [AV.int IntKind.i64 ((0 : Int))],
        AObj.cells
         [AV.int IntKind.i64 c0, AV.int IntKind.i64 c1, AV.int IntKind.i64 c2, AV.int IntKind.i64 c3,
          AV.int IntKind.i64 c4, AV.int IntKind.i64 c5, AV.int IntKind.i64 c6, AV.int IntKind.i64 c7,
          AV.int IntKind.i64 c8, AV.int IntKind.i64 c9, AV.int IntKind.i64 c10],
        AObj.cells [AV.int IntKind.i64 d], AObj.cells [AV.int IntKind.i64 r], AObj.cells [l],
        AObj.loop
         [AV.agg
           [AV.int IntKind.i64 c0, AV.int IntKind.i64 c1, AV.int IntKind.i64 c2, AV.int IntKind.i64 c3,
            AV.int IntKind.i64 c4, AV.int IntKind.i64 c5, AV.int IntKind.i64 c6, AV.int IntKind.i64 c7,
            AV.int IntKind.i64 c8, AV.int IntKind.i64 c9, AV.int IntKind.i64 c10],
          AV.int IntKind.i64 d, AV.int IntKind.i64 r, l, AV.ptr 0 0, AV.ptr 1 0, AV.ptr 2 0, AV.top, AV.ptr 3 0,
          AV.ptr 4 0, AV.int IntKind.i64 n, AV.top, AV.top, AV.top, AV.top,
          AV.agg
           [AV.int IntKind.i64 c0, AV.int IntKind.i64 c1, AV.int IntKind.i64 c2, AV.int IntKind.i64 c3,
            AV.int IntKind.i64 c4, AV.int IntKind.i64 c5, AV.int IntKind.i64 c6, AV.int IntKind.i64 c7,
            AV.int IntKind.i64 c8, AV.int IntKind.i64 c9, AV.int IntKind.i64 c10],
          AV.int IntKind.i64 d, AV.int IntKind.i64 r, l, AV.int IntKind.i64 n, AV.int IntKind.i64 n,
          AV.bool (n != (0 : Int)), AV.top,
          AV.agg
           [AV.int IntKind.i64 c0, AV.int IntKind.i64 c1, AV.int IntKind.i64 c2, AV.int IntKind.i64 c3,
            AV.int IntKind.i64 c4, AV.int IntKind.i64 c5, AV.int IntKind.i64 c6, AV.int IntKind.i64 c7,
            AV.int IntKind.i64 c8, AV.int IntKind.i64 c9, AV.int IntKind.i64 c10],
          AV.int IntKind.i64 d, AV.int IntKind.i64 r, l,
          AV.func (Fn.func 38) [] [AV.ptr 8 0, AV.ptr 5 0, AV.ptr 6 0, AV.ptr 7 0], AV.top, AV.top, AV.top, AV.top,
          AV.top, AV.top, AV.top, AV.top, AV.top, AV.top, AV.top, AV.top, AV.top, AV.top, AV.top, AV.top, AV.top,
          AV.top, AV.top, AV.top, AV.top, AV.top, AV.top, AV.top, AV.top, AV.top, AV.top, AV.top]
         [28, 29] gX gY LSt.ready,
        AObj.cells
         [AV.int IntKind.i64 m0, AV.bool m1, AV.bool m2, AV.bool m3, AV.int IntKind.i64 m4, AV.int IntKind.i64 m5,
          AV.int IntKind.i64 m6, AV.int IntKind.i64 m7, m8, m9, m10, AV.int IntKind.i64 m11, m12, m13]],
      toks := [] })
      (fun _ => K Ex.normal
     [AV.func (Fn.yield 9) [] [], AV.ptr 8 0, AV.ptr 5 0, AV.ptr 6 0, AV.ptr 7 0, x5, AV.int IntKind.i64 ct,
      AV.int IntKind.i64 cr, AV.bool up, AV.bool true, AV.int IntKind.i64 i, AV.ptr 10 0, x12, x13, l,
      AV.int IntKind.i64 (↑l.listOf.length : Int), AV.int IntKind.i64 i, x17, x18, x19, x20, x21, x22, x23, x24, x25, x26,
      x27, x28, x29, x30, x31, x32, AV.ptr 10 1, AV.bool m1, AV.bool !m1, AV.bool true, AV.bool up, AV.bool false,
      AV.int IntKind.i64 i, AV.bool (i == (0 : Int)), AV.bool (i == (0 : Int)), AV.bool (i == (0 : Int)), x43, x44,
      x45, x46, x47, x48, x49, x50, x51, x52, x53, x54, x55, x56, x57, x58, x59, x60, x61, x62, x63, x64, x65, x66, x67,
      x68, x69, x70, x71, x72, x73, x74, x75, x76, x77, x78, x79, x80, x81, x82, x83, x84, x85, x86, x87, x88, x89, x90,
      x91]
     {
      objs :=
       [AObj.cells
         [AV.int IntKind.i64 c0, AV.int IntKind.i64 c1, AV.int IntKind.i64 c2, AV.int IntKind.i64 c3,
          AV.int IntKind.i64 c4, AV.int IntKind.i64 c5, AV.int IntKind.i64 c6, AV.int IntKind.i64 c7,
          AV.int IntKind.i64 c8, AV.int IntKind.i64 c9, AV.int IntKind.i64 c10],
        AObj.cells [AV.int IntKind.i64 d], AObj.cells [AV.int IntKind.i64 r], AObj.cells [AV.bool false],
        AObj.cells [AV.int IntKind.i64 ((0 : Int))],
        AObj.cells
         [AV.int IntKind.i64 c0, AV.int IntKind.i64 c1, AV.int IntKind.i64 c2, AV.int IntKind.i64 c3,
          AV.int IntKind.i64 c4, AV.int IntKind.i64 c5, AV.int IntKind.i64 c6, AV.int IntKind.i64 c7,
          AV.int IntKind.i64 c8, AV.int IntKind.i64 c9, AV.int IntKind.i64 c10],
        AObj.cells [AV.int IntKind.i64 d], AObj.cells [AV.int IntKind.i64 r], AObj.cells [l],
        AObj.loop
         [AV.agg
           [AV.int IntKind.i64 c0, AV.int IntKind.i64 c1, AV.int IntKind.i64 c2, AV.int IntKind.i64 c3,
            AV.int IntKind.i64 c4, AV.int IntKind.i64 c5, AV.int IntKind.i64 c6, AV.int IntKind.i64 c7,
            AV.int IntKind.i64 c8, AV.int IntKind.i64 c9, AV.int IntKind.i64 c10],
          AV.int IntKind.i64 d, AV.int IntKind.i64 r, l, AV.ptr 0 0, AV.ptr 1 0, AV.ptr 2 0, AV.top, AV.ptr 3 0,
          AV.ptr 4 0, AV.int IntKind.i64 n, AV.top, AV.top, AV.top, AV.top,
          AV.agg
           [AV.int IntKind.i64 c0, AV.int IntKind.i64 c1, AV.int IntKind.i64 c2, AV.int IntKind.i64 c3,
            AV.int IntKind.i64 c4, AV.int IntKind.i64 c5, AV.int IntKind.i64 c6, AV.int IntKind.i64 c7,
            AV.int IntKind.i64 c8, AV.int IntKind.i64 c9, AV.int IntKind.i64 c10],
          AV.int IntKind.i64 d, AV.int IntKind.i64 r, l, AV.int IntKind.i64 n, AV.int IntKind.i64 n,
          AV.bool (n != (0 : Int)), AV.top,
          AV.agg
           [AV.int IntKind.i64 c0, AV.int IntKind.i64 c1, AV.int IntKind.i64 c2, AV.int IntKind.i64 c3,
            AV.int IntKind.i64 c4, AV.int IntKind.i64 c5, AV.int IntKind.i64 c6, AV.int IntKind.i64 c7,
            AV.int IntKind.i64 c8, AV.int IntKind.i64 c9, AV.int IntKind.i64 c10],
          AV.int IntKind.i64 d, AV.int IntKind.i64 r, l,
          AV.func (Fn.func 38) [] [AV.ptr 8 0, AV.ptr 5 0, AV.ptr 6 0, AV.ptr 7 0], AV.top, AV.top, AV.top, AV.top,
          AV.top, AV.top, AV.top, AV.top, AV.top, AV.top, AV.top, AV.top, AV.top, AV.top, AV.top, AV.top, AV.top,
          AV.top, AV.top, AV.top, AV.top, AV.top, AV.top, AV.top, AV.top, AV.top, AV.top, AV.top]
         [28, 29] gX gY LSt.ready,
        AObj.cells
         [AV.int IntKind.i64 m0, AV.bool m1, AV.bool m2, AV.bool m3, AV.int IntKind.i64 m4, AV.int IntKind.i64 m5,
          AV.int IntKind.i64 m6, AV.int IntKind.i64 m7, m8, m9, m10, AV.int IntKind.i64 m11, m12, m13]],
      toks := [] })))
    (fun _ => K Ex.normal
     [AV.func (Fn.yield 9) [] [], AV.ptr 8 0, AV.ptr 5 0, AV.ptr 6 0, AV.ptr 7 0, x5, AV.int IntKind.i64 ct,
      AV.int IntKind.i64 cr, AV.bool up, AV.bool true, AV.int IntKind.i64 i, AV.ptr 10 0, x12, x13, l,
      AV.int IntKind.i64 (↑l.listOf.length : Int), AV.int IntKind.i64 i, x17, x18, x19, x20, x21, x22, x23, x24, x25, x26,
      x27, x28, x29, x30, x31, x32, AV.ptr 10 1, AV.bool m1, AV.bool !m1, AV.bool false, AV.tuple [], AV.tuple [],
      AV.tuple [], AV.tuple [], AV.tuple [], AV.bool false, x43, x44, x45, x46, x47, x48, x49, x50, x51, x52, x53, x54,
      x55, x56, x57, x58, x59, x60, x61, x62, x63, x64, x65, x66, x67, x68, x69, x70, x71, x72, x73, x74, x75, x76, x77,
      x78, x79, x80, x81, x82, x83, x84, x85, x86, x87, x88, x89, x90, x91]
     {
      objs :=
       [AObj.cells
         [AV.int IntKind.i64 c0, AV.int IntKind.i64 c1, AV.int IntKind.i64 c2, AV.int IntKind.i64 c3,
          AV.int IntKind.i64 c4, AV.int IntKind.i64 c5, AV.int IntKind.i64 c6, AV.int IntKind.i64 c7,
          AV.int IntKind.i64 c8, AV.int IntKind.i64 c9, AV.int IntKind.i64 c10],
        AObj.cells [AV.int IntKind.i64 d], AObj.cells [AV.int IntKind.i64 r], AObj.cells [AV.bool false],
        AObj.cells [AV.int IntKind.i64 ((0 : Int))],
        AObj.cells
         [AV.int IntKind.i64 c0, AV.int IntKind.i64 c1, AV.int IntKind.i64 c2, AV.int IntKind.i64 c3,
          AV.int IntKind.i64 c4, AV.int IntKind.i64 c5, AV.int IntKind.i64 c6, AV.int IntKind.i64 c7,
          AV.int IntKind.i64 c8, AV.int IntKind.i64 c9, AV.int IntKind.i64 c10],
        AObj.cells [AV.int IntKind.i64 d], AObj.cells [AV.int IntKind.i64 r], AObj.cells [l],
        AObj.loop
         [AV.agg
           [AV.int IntKind.i64 c0, AV.int IntKind.i64 c1, AV.int IntKind.i64 c2, AV.int IntKind.i64 c3,
            AV.int IntKind.i64 c4, AV.int IntKind.i64 c5, AV.int IntKind.i64 c6, AV.int IntKind.i64 c7,
            AV.int IntKind.i64 c8, AV.int IntKind.i64 c9, AV.int IntKind.i64 c10],
          AV.int IntKind.i64 d, AV.int IntKind.i64 r, l, AV.ptr 0 0, AV.ptr 1 0, AV.ptr 2 0, AV.top, AV.ptr 3 0,
          AV.ptr 4 0, AV.int IntKind.i64 n, AV.top, AV.top, AV.top, AV.top,
          AV.agg
           [AV.int IntKind.i64 c0, AV.int IntKind.i64 c1, AV.int IntKind.i64 c2, AV.int IntKind.i64 c3,
            AV.int IntKind.i64 c4, AV.int IntKind.i64 c5, AV.int IntKind.i64 c6, AV.int IntKind.i64 c7,
            AV.int IntKind.i64 c8, AV.int IntKind.i64 c9, AV.int IntKind.i64 c10],
          AV.int IntKind.i64 d, AV.int IntKind.i64 r, l, AV.int IntKind.i64 n, AV.int IntKind.i64 n,
          AV.bool (n != (0 : Int)), AV.top,
          AV.agg
           [AV.int IntKind.i64 c0, AV.int IntKind.i64 c1, AV.int IntKind.i64 c2, AV.int IntKind.i64 c3,
            AV.int IntKind.i64 c4, AV.int IntKind.i64 c5, AV.int IntKind.i64 c6, AV.int IntKind.i64 c7,
            AV.int IntKind.i64 c8, AV.int IntKind.i64 c9, AV.int IntKind.i64 c10],
          AV.int IntKind.i64 d, AV.int IntKind.i64 r, l,
          AV.func (Fn.func 38) [] [AV.ptr 8 0, AV.ptr 5 0, AV.ptr 6 0, AV.ptr 7 0], AV.top, AV.top, AV.top, AV.top,
          AV.top, AV.top, AV.top, AV.top, AV.top, AV.top, AV.top, AV.top, AV.top, AV.top, AV.top, AV.top, AV.top,
          AV.top, AV.top, AV.top, AV.top, AV.top, AV.top, AV.top, AV.top, AV.top, AV.top, AV.top]
         [28, 29] gX gY LSt.ready,
        AObj.cells
         [AV.int IntKind.i64 m0, AV.bool m1, AV.bool m2, AV.bool m3, AV.int IntKind.i64 m4, AV.int IntKind.i64 m5,
          AV.int IntKind.i64 m6, AV.int IntKind.i64 m7, m8, m9, m10, AV.int IntKind.i64 m11, m12, m13]],
      toks := [] }) := by kernel_rfl
theorem g_r8 {R : Type} (fuel : Nat) (c0 c1 c2 c3 c4 c5 c6 c7 c8 c9 c10 : Int) (l : AV) (d r n : Int) (ct cr i : Int) (up : Bool) (m0 : Int) (m1 m2 m3 : Bool) (m4 m5 m6 m7 : Int) (m8 m9 m10 : AV) (m11 : Int) (m12 m13 : AV) (x5 x12 x13 x17 x18 x19 x20 x21 x22 x23 x24 x25 x26 x27 x28 x29 x30 x31 x32 x33 x34 x35 x36 x37 x38 x39 x40 x41 x42 x43 x44 x45 x46 x47 x48 x49 x50 x51 x52 x53 x54 x55 x56 x57 x58 x59 x60 x61 x62 x63 x64 x65 x66 x67 x68 x69 x70 x71 x72 x73 x74 x75 x76 x77 x78 x79 x80 x81 x82 x83 x84 x85 x86 x87 x88 x89 x90 x91 : AV) (K : Ex → List AV → AH → Option R) :
  denI Try.D (cP fuel) fuel (subC ltY3 [0]) [.func (.yield 9) [] [], .ptr 8 0, .ptr 5 0, .ptr 6 0, .ptr 7 0, x5, .int .i64 ct, .int .i64 cr, .bool up, .bool true, .int .i64 i, .ptr 10 0, x12, x13, l, .int .i64 (l.listOf.length : Int), .int .i64 i, x17, x18, x19, x20, x21, x22, x23, x24, x25, x26, x27, x28, x29, x30, x31, x32, x33, x34, x35, x36, x37, x38, x39, x40, x41, x42, x43, x44, x45, x46, x47, x48, x49, x50, x51, x52, x53, x54, x55, x56, x57, x58, x59, x60, x61, x62, x63, x64, x65, x66, x67, x68, x69, x70, x71, x72, x73, x74, x75, x76, x77, x78, x79, x80, x81, x82, x83, x84, x85, x86, x87, x88, x89, x90, x91] (gM c0 c1 c2 c3 c4 c5 c6 c7 c8 c9 c10 l d r n m0 m1 m2 m3 m4 m5 m6 m7 m8 m9 m10 m11 m12 m13) K =
  K Ex.normal
     [AV.func (Fn.yield 9) [] [], AV.ptr 8 0, AV.ptr 5 0, AV.ptr 6 0, AV.ptr 7 0, x5, AV.int IntKind.i64 ct,
      AV.int IntKind.i64 cr, AV.bool m1, AV.bool true, AV.int IntKind.i64 i, AV.ptr 10 0, x12, x13, l,
      AV.int IntKind.i64 (↑l.listOf.length : Int), AV.int IntKind.i64 i, x17, x18, x19, x20, x21, x22, x23, x24, x25, x26,
      x27, x28, x29, x30, x31, x32, x33, x34, x35, x36, x37, x38, x39, x40, x41, x42, x43, x44, AV.ptr 10 1, AV.bool m1,
      x47, x48, x49, x50, x51, x52, x53, x54, x55, x56, x57, x58, x59, x60, x61, x62, x63, x64, x65, x66, x67, x68, x69,
      x70, x71, x72, x73, x74, x75, x76, x77, x78, x79, x80, x81, x82, x83, x84, x85, x86, x87, x88, x89, x90, x91]
     {
      objs :=
       [AObj.cells
         [AV.int IntKind.i64 c0, AV.int IntKind.i64 c1, AV.int IntKind.i64 c2, AV.int IntKind.i64 c3,
          AV.int IntKind.i64 c4, AV.int IntKind.i64 c5, AV.int IntKind.i64 c6, AV.int IntKind.i64 c7,
          AV.int IntKind.i64 c8, AV.int IntKind.i64 c9, AV.int IntKind.i64 c10],
        AObj.cells [AV.int IntKind.i64 d], AObj.cells [AV.int IntKind.i64 r], AObj.cells [AV.bool false],
        AObj.cells [AV.int IntKind.i64 ((0 : Int))],
        AObj.cells
         [AV.int IntKind.i64 c0, AV.int IntKind.i64 c1, AV.int IntKind.i64 c2, AV.int IntKind.i64 c3,
          AV.int IntKind.i64 c4, AV.int IntKind.i64 c5, AV.int IntKind.i64 c6, AV.int IntKind.i64 c7,
          AV.int IntKind.i64 c8, AV.int IntKind.i64 c9, AV.int IntKind.i64 c10],
        AObj.cells [AV.int IntKind.i64 d], AObj.cells [AV.int IntKind.i64 r], AObj.cells [l],
        AObj.loop
         [AV.agg
           [AV.int IntKind.i64 c0, AV.int IntKind.i64 c1, AV.int IntKind.i64 c2, AV.int IntKind.i64 c3,
            AV.int IntKind.i64 c4, AV.int IntKind.i64 c5, AV.int IntKind.i64 c6, AV.int IntKind.i64 c7,
            AV.int IntKind.i64 c8, AV.int IntKind.i64 c9, AV.int IntKind.i64 c10],
          AV.int IntKind.i64 d, AV.int IntKind.i64 r, l, AV.ptr 0 0, AV.ptr 1 0, AV.ptr 2 0, AV.top, AV.ptr 3 0,
          AV.ptr 4 0, AV.int IntKind.i64 n, AV.top, AV.top, AV.top, AV.top,
          AV.agg
           [AV.int IntKind.i64 c0, AV.int IntKind.i64 c1, AV.int IntKind.i64 c2, AV.int IntKind.i64 c3,
            AV.int IntKind.i64 c4, AV.int IntKind.i64 c5, AV.int IntKind.i64 c6, AV.int IntKind.i64 c7,
            AV.int IntKind.i64 c8, AV.int IntKind.i64 c9, AV.int IntKind.i64 c10],
          AV.int IntKind.i64 d, AV.int IntKind.i64 r, l, AV.int IntKind.i64 n, AV.int IntKind.i64 n,
          AV.bool (n != (0 : Int)), AV.top,
          AV.agg
           [AV.int IntKind.i64 c0, AV.int IntKind.i64 c1, AV.int IntKind.i64 c2, AV.int IntKind.i64 c3,
            AV.int IntKind.i64 c4, AV.int IntKind.i64 c5, AV.int IntKind.i64 c6, AV.int IntKind.i64 c7,
            AV.int IntKind.i64 c8, AV.int IntKind.i64 c9, AV.int IntKind.i64 c10],
          AV.int IntKind.i64 d, AV.int IntKind.i64 r, l,
          AV.func (Fn.func 38) [] [AV.ptr 8 0, AV.ptr 5 0, AV.ptr 6 0, AV.ptr 7 0], AV.top, AV.top, AV.top, AV.top,
          AV.top, AV.top, AV.top, AV.top, AV.top, AV.top, AV.top, AV.top, AV.top, AV.top, AV.top, AV.top, AV.top,
          AV.top, AV.top, AV.top, AV.top, AV.top, AV.top, AV.top, AV.top, AV.top, AV.top, AV.top]
         [28, 29] gX gY LSt.ready,
        AObj.cells
         [AV.int IntKind.i64 m0, AV.bool m1, AV.bool m2, AV.bool m3, AV.int IntKind.i64 m4, AV.int IntKind.i64 m5,
          AV.int IntKind.i64 m6, AV.int IntKind.i64 m7, m8, m9, m10, AV.int IntKind.i64 m11, m12, m13]],
      toks := [] } := by kernel_rfl
theorem g_s3 {R : Type} (fuel : Nat) (c0 c1 c2 c3 c4 c5 c6 c7 c8 c9 c10 : Int) (l : AV) (d r n : Int) (ct cr i : Int) (up : Bool) (m0 : Int) (m1 m2 m3 : Bool) (m4 m5 m6 m7 : Int) (m8 m9 m10 : AV) (m11 : Int) (m12 m13 : AV) (x5 x12 x13 x17 x18 x19 x20 x21 x22 x23 x24 x25 x26 x27 x28 x29 x30 x31 x32 x33 x34 x35 x36 x37 x38 x39 x40 x41 x42 x43 x44 x45 x46 x47 x48 x49 x50 x51 x52 x53 x54 x55 x56 x57 x58 x59 x60 x61 x62 x63 x64 x65 x66 x67 x68 x69 x70 x71 x72 x73 x74 x75 x76 x77 x78 x79 x80 x81 x82 x83 x84 x85 x86 x87 x88 x89 x90 x91 : AV) (K : Ex → List AV → AH → Option R) :
  denI Try.D (cP fuel) fuel (subC ltY4 [0]) [.func (.yield 9) [] [], .ptr 8 0, .ptr 5 0, .ptr 6 0, .ptr 7 0, x5, .int .i64 ct, .int .i64 cr, .bool up, .bool true, .int .i64 i, .ptr 10 0, x12, x13, l, .int .i64 (l.listOf.length : Int), .int .i64 i, x17, x18, x19, x20, x21, x22, x23, x24, x25, x26, x27, x28, x29, x30, x31, x32, x33, x34, x35, x36, x37, x38, x39, x40, x41, x42, x43, x44, x45, x46, x47, x48, x49, x50, x51, x52, x53, x54, x55, x56, x57, x58, x59, x60, x61, x62, x63, x64, x65, x66, x67, x68, x69, x70, x71, x72, x73, x74, x75, x76, x77, x78, x79, x80, x81, x82, x83, x84, x85, x86, x87, x88, x89, x90, x91] (gM c0 c1 c2 c3 c4 c5 c6 c7 c8 c9 c10 l d r n m0 m1 m2 m3 m4 m5 m6 m7 m8 m9 m10 m11 m12 m13) K =
  (match valH Try.D 28
     [AV.agg
       [AV.int IntKind.i64 c0, AV.int IntKind.i64 c1, AV.int IntKind.i64 c2, AV.int IntKind.i64 c3,
        AV.int IntKind.i64 c4, AV.int IntKind.i64 c5, AV.int IntKind.i64 c6, AV.int IntKind.i64 c7,
        AV.int IntKind.i64 c8, AV.int IntKind.i64 c9, AV.int IntKind.i64 c10],
      AV.agg
       [AV.int IntKind.i64 m0, AV.bool m1, AV.bool m2, AV.bool m3, AV.int IntKind.i64 m4, AV.int IntKind.i64 m5,
        AV.int IntKind.i64 m6, AV.int IntKind.i64 m7, m8, m9, m10, AV.int IntKind.i64 m11, m12, m13]]
     {
      objs :=
       [AObj.cells
         [AV.int IntKind.i64 c0, AV.int IntKind.i64 c1, AV.int IntKind.i64 c2, AV.int IntKind.i64 c3,
          AV.int IntKind.i64 c4, AV.int IntKind.i64 c5, AV.int IntKind.i64 c6, AV.int IntKind.i64 c7,
          AV.int IntKind.i64 c8, AV.int IntKind.i64 c9, AV.int IntKind.i64 c10],
        AObj.cells [AV.int IntKind.i64 d], AObj.cells [AV.int IntKind.i64 r], AObj.cells [AV.bool false],
        AObj.cells [AV.int IntKind.i64 ((0 : Int))],
        AObj.cells
         [AV.int IntKind.i64 c0, AV.int IntKind.i64 c1, AV.int IntKind.i64 c2, AV.int IntKind.i64 c3,
          AV.int IntKind.i64 c4, AV.int IntKind.i64 c5, AV.int IntKind.i64 c6, AV.int IntKind.i64 c7,
          AV.int IntKind.i64 c8, AV.int IntKind.i64 c9, AV.int IntKind.i64 c10],
        AObj.cells [AV.int IntKind.i64 d], AObj.cells [AV.int IntKind.i64 r], AObj.cells [l],
        AObj.loop
         [AV.agg
           [AV.int IntKind.i64 c0, AV.int IntKind.i64 c1, AV.int IntKind.i64 c2, AV.int IntKind.i64 c3,
            AV.int IntKind.i64 c4, AV.int IntKind.i64 c5, AV.int IntKind.i64 c6, AV.int IntKind.i64 c7,
            AV.int IntKind.i64 c8, AV.int IntKind.i64 c9, AV.int IntKind.i64 c10],
          AV.int IntKind.i64 d, AV.int IntKind.i64 r, l, AV.ptr 0 0, AV.ptr 1 0, AV.ptr 2 0, AV.top, AV.ptr 3 0,
          AV.ptr 4 0, AV.int IntKind.i64 n, AV.top, AV.top, AV.top, AV.top,
          AV.agg
           [AV.int IntKind.i64 c0, AV.int IntKind.i64 c1, AV.int IntKind.i64 c2, AV.int IntKind.i64 c3,
            AV.int IntKind.i64 c4, AV.int IntKind.i64 c5, AV.int IntKind.i64 c6, AV.int IntKind.i64 c7,
            AV.int IntKind.i64 c8, AV.int IntKind.i64 c9, AV.int IntKind.i64 c10],
          AV.int IntKind.i64 d, AV.int IntKind.i64 r, l, AV.int IntKind.i64 n, AV.int IntKind.i64 n,
          AV.bool (n != (0 : Int)), AV.top,
          AV.agg
           [AV.int IntKind.i64 c0, AV.int IntKind.i64 c1, AV.int IntKind.i64 c2, AV.int IntKind.i64 c3,
            AV.int IntKind.i64 c4, AV.int IntKind.i64 c5, AV.int IntKind.i64 c6, AV.int IntKind.i64 c7,
            AV.int IntKind.i64 c8, AV.int IntKind.i64 c9, AV.int IntKind.i64 c10],
          AV.int IntKind.i64 d, AV.int IntKind.i64 r, l,
          AV.func (Fn.func 38) [] [AV.ptr 8 0, AV.ptr 5 0, AV.ptr 6 0, AV.ptr 7 0], AV.top, AV.top, AV.top, AV.top,
          AV.top, AV.top, AV.top, AV.top, AV.top, AV.top, AV.top, AV.top, AV.top, AV.top, AV.top, AV.top, AV.top,
          AV.top, AV.top, AV.top, AV.top, AV.top, AV.top, AV.top, AV.top, AV.top, AV.top, AV.top]
         [28, 29] gX gY LSt.ready,
        AObj.cells
         [AV.int IntKind.i64 m0, AV.bool m1, AV.bool m2, AV.bool m3, AV.int IntKind.i64 m4, AV.int IntKind.i64 m5,
          AV.int IntKind.i64 m6, AV.int IntKind.i64 m7, m8, m9, m10, AV.int IntKind.i64 m11, m12, m13]],
      toks := [] } with
    | some u0 => br (fitS (Sh.int IntKind.i64) u0)
     (fun _ => br (decide (m0 > u0.numOf))
      (fun _ => br (m1)
       (fun _ => K Ex.normal
     [AV.func (Fn.yield 9) [] [], AV.ptr 8 0, AV.ptr 5 0, AV.ptr 6 0, AV.ptr 7 0, x5, AV.int IntKind.i64 ct,
      AV.int IntKind.i64 cr, AV.bool up,
      AV.bool
       (decide
        (IntKind.i64.wrap
          (m0 -
           if true = true then if ct > u0.numOf then ct else u0.numOf else if ct < u0.numOf then ct else u0.numOf) ≤
         d)),
      AV.int IntKind.i64 i, AV.ptr 10 0, AV.int IntKind.i64 u0.numOf,
      AV.int IntKind.i64
       (if true = true then if ct > u0.numOf then ct else u0.numOf else if ct < u0.numOf then ct else u0.numOf),
      l, AV.int IntKind.i64 (↑l.listOf.length : Int), AV.int IntKind.i64 i, x17, x18, x19, x20, x21, x22, x23, x24, x25,
      x26, x27, x28, x29, x30, x31, x32, x33, x34, x35, x36, x37, x38, x39, x40, x41, x42, x43, x44, x45, x46,
      AV.agg
       [AV.int IntKind.i64 c0, AV.int IntKind.i64 c1, AV.int IntKind.i64 c2, AV.int IntKind.i64 c3,
        AV.int IntKind.i64 c4, AV.int IntKind.i64 c5, AV.int IntKind.i64 c6, AV.int IntKind.i64 c7,
        AV.int IntKind.i64 c8, AV.int IntKind.i64 c9, AV.int IntKind.i64 c10],
      AV.agg
       [AV.int IntKind.i64 m0, AV.bool m1, AV.bool m2, AV.bool m3, AV.int IntKind.i64 m4, AV.int IntKind.i64 m5,
        AV.int IntKind.i64 m6, AV.int IntKind.i64 m7, m8, m9, m10, AV.int IntKind.i64 m11, m12, m13],
      AV.int IntKind.i64 u0.numOf, AV.ptr 10 0, AV.int IntKind.i64 m0, AV.int IntKind.i64 u0.numOf,
      AV.bool (decide (m0 > u0.numOf)), AV.int IntKind.i64 u0.numOf, AV.int IntKind.i64 ct,
      AV.int IntKind.i64
       (if true = true then if ct > u0.numOf then ct else u0.numOf else if ct < u0.numOf then ct else u0.numOf),
      AV.ptr 10 1, AV.bool m1, AV.bool true, AV.bool true, AV.ptr 10 0, AV.int IntKind.i64 m0,
      AV.int IntKind.i64
       (if true = true then if ct > u0.numOf then ct else u0.numOf else if ct < u0.numOf then ct else u0.numOf),
      AV.int IntKind.i64
       (IntKind.i64.wrap
        (m0 - if true = true then if ct > u0.numOf then ct else u0.numOf else if ct < u0.numOf then ct else u0.numOf)),
      AV.int IntKind.i64 d,
      AV.bool
       (decide
        (IntKind.i64.wrap
          (m0 -
           if true = true then if ct > u0.numOf then ct else u0.numOf else if ct < u0.numOf then ct else u0.numOf) ≤
         d)),
      AV.bool
       (decide
        (IntKind.i64.wrap
          (m0 -
           if true = true then if ct > u0.numOf then ct else u0.numOf else if ct < u0.numOf then ct else u0.numOf) ≤
         d)),
      x68, x69, x70, x71, x72, x73, x74, x75, x76, x77, x78, x79, x80, x81, x82, x83, x84, x85, x86, x87, x88, x89, x90,
      x91]
     {
      objs :=
       [AObj.cells
         [AV.int IntKind.i64 c0, AV.int IntKind.i64 c1, AV.int IntKind.i64 c2, AV.int IntKind.i64 c3,
          AV.int IntKind.i64 c4, AV.int IntKind.i64 c5, AV.int IntKind.i64 c6, AV.int IntKind.i64 c7,
          AV.int IntKind.i64 c8, AV.int IntKind.i64 c9, AV.int IntKind.i64 c10],
        AObj.cells [AV.int IntKind.i64 d], AObj.cells [AV.int IntKind.i64 r], AObj.cells [AV.bool false],
        AObj.cells [AV.int IntKind.i64 ((0 : Int))],
        AObj.cells
         [AV.int IntKind.i64 c0, AV.int IntKind.i64 c1, AV.int IntKind.i64 c2, AV.int IntKind.i64 c3,
          AV.int IntKind.i64 c4, AV.int IntKind.i64 c5, AV.int IntKind.i64 c6, AV.int IntKind.i64 c7,
          AV.int IntKind.i64 c8, AV.int IntKind.i64 c9, AV.int IntKind.i64 c10],
        AObj.cells [AV.int IntKind.i64 d], AObj.cells [AV.int IntKind.i64 r], AObj.cells [l],
        AObj.loop
         [AV.agg
           [AV.int IntKind.i64 c0, AV.int IntKind.i64 c1, AV.int IntKind.i64 c2, AV.int IntKind.i64 c3,
            AV.int IntKind.i64 c4, AV.int IntKind.i64 c5, AV.int IntKind.i64 c6, AV.int IntKind.i64 c7,
            AV.int IntKind.i64 c8, AV.int IntKind.i64 c9, AV.int IntKind.i64 c10],
          AV.int IntKind.i64 d, AV.int IntKind.i64 r, l, AV.ptr 0 0, AV.ptr 1 0, AV.ptr 2 0, AV.top, AV.ptr 3 0,
          AV.ptr 4 0, AV.int IntKind.i64 n, AV.top, AV.top, AV.top, AV.top,
          AV.agg
           [AV.int IntKind.i64 c0, AV.int IntKind.i64 c1, AV.int IntKind.i64 c2, AV.int IntKind.i64 c3,
            AV.int IntKind.i64 c4, AV.int IntKind.i64 c5, AV.int IntKind.i64 c6, AV.int IntKind.i64 c7,
            AV.int IntKind.i64 c8, AV.int IntKind.i64 c9, AV.int IntKind.i64 c10],
          AV.int IntKind.i64 d, AV.int IntKind.i64 r, l, AV.int IntKind.i64 n, AV.int IntKind.i64 n,
          AV.bool (n != (0 : Int)), AV.top,
          AV.agg
           [AV.int IntKind.i64 c0, AV.int IntKind.i64 c1, AV.int IntKind.i64 c2, AV.int IntKind.i64 c3,
            AV.int IntKind.i64 c4, AV.int IntKind.i64 c5, AV.int IntKind.i64 c6, AV.int IntKind.i64 c7,
            AV.int IntKind.i64 c8, AV.int IntKind.i64 c9, AV.int IntKind.i64 c10],
          AV.int IntKind.i64 d, AV.int IntKind.i64 r, l,
          AV.func (Fn.func 38) [] [AV.ptr 8 0, AV.ptr 5 0, AV.ptr 6 0, AV.ptr 7 0], AV.top, AV.top, AV.top, AV.top,
          AV.top, AV.top, AV.top, AV.top, AV.top, AV.top, AV.top, AV.top, AV.top, AV.top, AV.top, AV.top, AV.top,
          AV.top, AV.top, AV.top, AV.top, AV.top, AV.top, AV.top, AV.top, AV.top, AV.top, AV.top]
         [28, 29] gX gY LSt.ready,
        AObj.cells
         [AV.int IntKind.i64 m0, AV.bool m1, AV.bool m2, AV.bool m3, AV.int IntKind.i64 m4, AV.int IntKind.i64 m5,
          AV.int IntKind.i64 m6, AV.int IntKind.i64 m7, m8, m9, m10, AV.int IntKind.i64 m11, m12, m13]],
      toks := [] })
       (fun _ => br (decide
     (IntKind.i64.wrap
       (cr - if true = true then if ct > u0.numOf then ct else u0.numOf else if ct < u0.numOf then ct else u0.numOf) ≤
      d))
        (fun _ => K Ex.normal
     [AV.func (Fn.yield 9) [] [], AV.ptr 8 0, AV.ptr 5 0, AV.ptr 6 0, AV.ptr 7 0, x5, AV.int IntKind.i64 ct,
      AV.int IntKind.i64 cr, AV.bool up,
      AV.bool
       (decide
        (IntKind.i64.wrap
          (m0 -
           if true = true then if cr > u0.numOf then cr else u0.numOf else if cr < u0.numOf then cr else u0.numOf) ≤
         r)),
      AV.int IntKind.i64 i, AV.ptr 10 0, AV.int IntKind.i64 u0.numOf,
      AV.int IntKind.i64
       (if true = true then if ct > u0.numOf then ct else u0.numOf else if ct < u0.numOf then ct else u0.numOf),
      l, AV.int IntKind.i64 (↑l.listOf.length : Int), AV.int IntKind.i64 i, x17, x18, x19, x20, x21, x22, x23, x24, x25,
      x26, x27, x28, x29, x30, x31, x32, x33, x34, x35, x36, x37, x38, x39, x40, x41, x42, x43, x44, x45, x46,
      AV.agg
       [AV.int IntKind.i64 c0, AV.int IntKind.i64 c1, AV.int IntKind.i64 c2, AV.int IntKind.i64 c3,
        AV.int IntKind.i64 c4, AV.int IntKind.i64 c5, AV.int IntKind.i64 c6, AV.int IntKind.i64 c7,
        AV.int IntKind.i64 c8, AV.int IntKind.i64 c9, AV.int IntKind.i64 c10],
      AV.agg
       [AV.int IntKind.i64 m0, AV.bool m1, AV.bool m2, AV.bool m3, AV.int IntKind.i64 m4, AV.int IntKind.i64 m5,
        AV.int IntKind.i64 m6, AV.int IntKind.i64 m7, m8, m9, m10, AV.int IntKind.i64 m11, m12, m13],
      AV.int IntKind.i64 u0.numOf, AV.ptr 10 0, AV.int IntKind.i64 m0, AV.int IntKind.i64 u0.numOf,
      AV.bool (decide (m0 > u0.numOf)), AV.int IntKind.i64 u0.numOf, AV.int IntKind.i64 ct,
      AV.int IntKind.i64
       (if true = true then if ct > u0.numOf then ct else u0.numOf else if ct < u0.numOf then ct else u0.numOf),
      AV.ptr 10 1, AV.bool m1, x59, x60, x61, x62, x63, x64, x65, x66, x67, AV.bool true, AV.bool true,
      AV.int IntKind.i64 cr,
      AV.int IntKind.i64
       (if true = true then if ct > u0.numOf then ct else u0.numOf else if ct < u0.numOf then ct else u0.numOf),
      AV.int IntKind.i64
       (IntKind.i64.wrap
        (cr - if true = true then if ct > u0.numOf then ct else u0.numOf else if ct < u0.numOf then ct else u0.numOf)),
      AV.int IntKind.i64 d,
      AV.bool
       (decide
        (IntKind.i64.wrap
          (cr -
           if true = true then if ct > u0.numOf then ct else u0.numOf else if ct < u0.numOf then ct else u0.numOf) ≤
         d)),
      AV.bool
       (decide
        (IntKind.i64.wrap
          (cr -
           if true = true then if ct > u0.numOf then ct else u0.numOf else if ct < u0.numOf then ct else u0.numOf) ≤
         d)),
      AV.bool true, AV.ptr 10 0, AV.int IntKind.i64 m0, AV.int IntKind.i64 u0.numOf, AV.int IntKind.i64 cr,
      AV.int IntKind.i64
       (if true = true then if cr > u0.numOf then cr else u0.numOf else if cr < u0.numOf then cr else u0.numOf),
      AV.int IntKind.i64
       (IntKind.i64.wrap
        (m0 - if true = true then if cr > u0.numOf then cr else u0.numOf else if cr < u0.numOf then cr else u0.numOf)),
      AV.int IntKind.i64 r,
      AV.bool
       (decide
        (IntKind.i64.wrap
          (m0 -
           if true = true then if cr > u0.numOf then cr else u0.numOf else if cr < u0.numOf then cr else u0.numOf) ≤
         r)),
      AV.bool
       (decide
        (IntKind.i64.wrap
          (m0 -
           if true = true then if cr > u0.numOf then cr else u0.numOf else if cr < u0.numOf then cr else u0.numOf) ≤
         r)),
      x86, x87, x88, x89, x90, x91]
     {
      objs :=
       [AObj.cells
         [AV.int IntKind.i64 c0, AV.int IntKind.i64 c1, AV.int IntKind.i64 c2, AV.int IntKind.i64 c3,
          AV.int IntKind.i64 c4, AV.int IntKind.i64 c5, AV.int IntKind.i64 c6, AV.int IntKind.i64 c7,
          AV.int IntKind.i64 c8, AV.int IntKind.i64 c9, AV.int IntKind.i64 c10],
        AObj.cells [AV.int IntKind.i64 d], AObj.cells [AV.int IntKind.i64 r], AObj.cells [AV.bool false],
        AObj.cells [AV.int IntKind.i64 ((0 : Int))],
        AObj.cells
         [AV.int IntKind.i64 c0, AV.int IntKind.i64 c1, AV.int IntKind.i64 c2, AV.int IntKind.i64 c3,
          AV.int IntKind.i64 c4, AV.int IntKind.i64 c5, AV.int IntKind.i64 c6, AV.int IntKind.i64 c7,
          AV.int IntKind.i64 c8, AV.int IntKind.i64 c9, AV.int IntKind.i64 c10],
        AObj.cells [AV.int IntKind.i64 d], AObj.cells [AV.int IntKind.i64 r], AObj.cells [l],
        AObj.loop
         [AV.agg
           [AV.int IntKind.i64 c0, AV.int IntKind.i64 c1, AV.int IntKind.i64 c2, AV.int IntKind.i64 c3,
            AV.int IntKind.i64 c4, AV.int IntKind.i64 c5, AV.int IntKind.i64 c6, AV.int IntKind.i64 c7,
            AV.int IntKind.i64 c8, AV.int IntKind.i64 c9, AV.int IntKind.i64 c10],
          AV.int IntKind.i64 d, AV.int IntKind.i64 r, l, AV.ptr 0 0, AV.ptr 1 0, AV.ptr 2 0, AV.top, AV.ptr 3 0,
          AV.ptr 4 0, AV.int IntKind.i64 n, AV.top, AV.top, AV.top, AV.top,
          AV.agg
           [AV.int IntKind.i64 c0, AV.int IntKind.i64 c1, AV.int IntKind.i64 c2, AV.int IntKind.i64 c3,
            AV.int IntKind.i64 c4, AV.int IntKind.i64 c5, AV.int IntKind.i64 c6, AV.int IntKind.i64 c7,
            AV.int IntKind.i64 c8, AV.int IntKind.i64 c9, AV.int IntKind.i64 c10],
          AV.int IntKind.i64 d, AV.int IntKind.i64 r, l, AV.int IntKind.i64 n, AV.int IntKind.i64 n,
          AV.bool (n != (0 : Int)), AV.top,
          AV.agg
           [AV.int IntKind.i64 c0, AV.int IntKind.i64 c1, AV.int IntKind.i64 c2, AV.int IntKind.i64 c3,
            AV.int IntKind.i64 c4, AV.int IntKind.i64 c5, AV.int IntKind.i64 c6, AV.int IntKind.i64 c7,
            AV.int IntKind.i64 c8, AV.int IntKind.i64 c9, AV.int IntKind.i64 c10],
          AV.int IntKind.i64 d, AV.int IntKind.i64 r, l,
          AV.func (Fn.func 38) [] [AV.ptr 8 0, AV.ptr 5 0, AV.ptr 6 0, AV.ptr 7 0], AV.top, AV.top, AV.top, AV.top,
          AV.top, AV.top, AV.top, AV.top, AV.top, AV.top, AV.top, AV.top, AV.top, AV.top, AV.top, AV.top, AV.top,
          AV.top, AV.top, AV.top, AV.top, AV.top, AV.top, AV.top, AV.top, AV.top, AV.top, AV.top]
         [28, 29] gX gY LSt.ready,
        AObj.cells
         [AV.int IntKind.i64 m0, AV.bool m1, AV.bool m2, AV.bool m3, AV.int IntKind.i64 m4, AV.int IntKind.i64 m5,
          AV.int IntKind.i64 m6, AV.int IntKind.i64 m7, m8, m9, m10, AV.int IntKind.i64 m11, m12, m13]],
      toks := [] })
        (fun _ => K Ex.normal
     [AV.func (Fn.yield 9) [] [], AV.ptr 8 0, AV.ptr 5 0, AV.ptr 6 0, AV.ptr 7 0, x5, AV.int IntKind.i64 ct,
      AV.int IntKind.i64 cr, AV.bool up, AV.bool false, AV.int IntKind.i64 i, AV.ptr 10 0, AV.int IntKind.i64 u0.numOf,
      AV.int IntKind.i64
       (if true = true then if ct > u0.numOf then ct else u0.numOf else if ct < u0.numOf then ct else u0.numOf),
      l, AV.int IntKind.i64 (↑l.listOf.length : Int), AV.int IntKind.i64 i, x17, x18, x19, x20, x21, x22, x23, x24, x25,
      x26, x27, x28, x29, x30, x31, x32, x33, x34, x35, x36, x37, x38, x39, x40, x41, x42, x43, x44, x45, x46,
      AV.agg
       [AV.int IntKind.i64 c0, AV.int IntKind.i64 c1, AV.int IntKind.i64 c2, AV.int IntKind.i64 c3,
        AV.int IntKind.i64 c4, AV.int IntKind.i64 c5, AV.int IntKind.i64 c6, AV.int IntKind.i64 c7,
        AV.int IntKind.i64 c8, AV.int IntKind.i64 c9, AV.int IntKind.i64 c10],
      AV.agg
       [AV.int IntKind.i64 m0, AV.bool m1, AV.bool m2, AV.bool m3, AV.int IntKind.i64 m4, AV.int IntKind.i64 m5,
        AV.int IntKind.i64 m6, AV.int IntKind.i64 m7, m8, m9, m10, AV.int IntKind.i64 m11, m12, m13],
      AV.int IntKind.i64 u0.numOf, AV.ptr 10 0, AV.int IntKind.i64 m0, AV.int IntKind.i64 u0.numOf,
      AV.bool (decide (m0 > u0.numOf)), AV.int IntKind.i64 u0.numOf, AV.int IntKind.i64 ct,
      AV.int IntKind.i64
       (if true = true then if ct > u0.numOf then ct else u0.numOf else if ct < u0.numOf then ct else u0.numOf),
      AV.ptr 10 1, AV.bool m1, x59, x60, x61, x62, x63, x64, x65, x66, x67, AV.bool true, AV.bool true,
      AV.int IntKind.i64 cr,
      AV.int IntKind.i64
       (if true = true then if ct > u0.numOf then ct else u0.numOf else if ct < u0.numOf then ct else u0.numOf),
      AV.int IntKind.i64
       (IntKind.i64.wrap
        (cr - if true = true then if ct > u0.numOf then ct else u0.numOf else if ct < u0.numOf then ct else u0.numOf)),
      AV.int IntKind.i64 d,
      AV.bool
       (decide
        (IntKind.i64.wrap
          (cr -
           if true = true then if ct > u0.numOf then ct else u0.numOf else if ct < u0.numOf then ct else u0.numOf) ≤
         d)),
      AV.bool
       (decide
        (IntKind.i64.wrap
          (cr -
           if true = true then if ct > u0.numOf then ct else u0.numOf else if ct < u0.numOf then ct else u0.numOf) ≤
         d)),
      AV.bool false, AV.tuple [], AV.tuple [], AV.tuple [], AV.tuple [], AV.tuple [], AV.tuple [], AV.tuple [],
      AV.tuple [], AV.bool false, x86, x87, x88, x89, x90, x91]
     {
      objs :=
       [AObj.cells
         [AV.int IntKind.i64 c0, AV.int IntKind.i64 c1, AV.int IntKind.i64 c2, AV.int IntKind.i64 c3,
          AV.int IntKind.i64 c4, AV.int IntKind.i64 c5, AV.int IntKind.i64 c6, AV.int IntKind.i64 c7,
          AV.int IntKind.i64 c8, AV.int IntKind.i64 c9, AV.int IntKind.i64 c10],
        AObj.cells [AV.int IntKind.i64 d], AObj.cells [AV.int IntKind.i64 r], AObj.cells [AV.bool false],
        AObj.cells [AV.int IntKind.i64 ((0 : Int))],
        AObj.cells
         [AV.int IntKind.i64 c0, AV.int IntKind.i64 c1, AV.int IntKind.i64 c2, AV.int IntKind.i64 c3,
          AV.int IntKind.i64 c4, AV.int IntKind.i64 c5, AV.int IntKind.i64 c6, AV.int IntKind.i64 c7,
          AV.int IntKind.i64 c8, AV.int IntKind.i64 c9, AV.int IntKind.i64 c10],
        AObj.cells [AV.int IntKind.i64 d], AObj.cells [AV.int IntKind.i64 r], AObj.cells [l],
        AObj.loop
         [AV.agg
           [AV.int IntKind.i64 c0, AV.int IntKind.i64 c1, AV.int IntKind.i64 c2, AV.int IntKind.i64 c3,
            AV.int IntKind.i64 c4, AV.int IntKind.i64 c5, AV.int IntKind.i64 c6, AV.int IntKind.i64 c7,
            AV.int IntKind.i64 c8, AV.int IntKind.i64 c9, AV.int IntKind.i64 c10],
          AV.int IntKind.i64 d, AV.int IntKind.i64 r, l, AV.ptr 0 0, AV.ptr 1 0, AV.ptr 2 0, AV.top, AV.ptr 3 0,
          AV.ptr 4 0, AV.int IntKind.i64 n, AV.top, AV.top, AV.top, AV.top,
          AV.agg
           [AV.int IntKind.i64 c0, AV.int IntKind.i64 c1, AV.int IntKind.i64 c2, AV.int IntKind.i64 c3,
            AV.int IntKind.i64 c4, AV.int IntKind.i64 c5, AV.int IntKind.i64 c6, AV.int IntKind.i64 c7,
            AV.int IntKind.i64 c8, AV.int IntKind.i64 c9, AV.int IntKind.i64 c10],
          AV.int IntKind.i64 d, AV.int IntKind.i64 r, l, AV.int IntKind.i64 n, AV.int IntKind.i64 n,
          AV.bool (n != (0 : Int)), AV.top,
          AV.agg
           [AV.int IntKind.i64 c0, AV.int IntKind.i64 c1, AV.int IntKind.i64 c2, AV.int IntKind.i64 c3,
            AV.int IntKind.i64 c4, AV.int IntKind.i64 c5, AV.int IntKind.i64 c6, AV.int IntKind.i64 c7,
            AV.int IntKind.i64 c8, AV.int IntKind.i64 c9, AV.int IntKind.i64 c10],
          AV.int IntKind.i64 d, AV.int IntKind.i64 r, l,
          AV.func (Fn.func 38) [] [AV.ptr 8 0, AV.ptr 5 0, AV.ptr 6 0, AV.ptr 7 0], AV.top, AV.top, AV.top, AV.top,
          AV.top, AV.top, AV.top, AV.top, AV.top, AV.top, AV.top, AV.top, AV.top, AV.top, AV.top, AV.top, AV.top,
          AV.top, AV.top, AV.top, AV.top, AV.top, AV.top, AV.top, AV.top, AV.top, AV.top, AV.top]
         [28, 29] gX gY LSt.ready,
        AObj.cells
         [AV.int IntKind.i64 m0, AV.bool m1, AV.bool m2, AV.bool m3, AV.int IntKind.i64 m4, AV.int IntKind.i64 m5,
          AV.int IntKind.i64 m6, AV.int IntKind.i64 m7, m8, m9, m10, AV.int IntKind.i64 m11, m12, m13]],
      toks := [] })))
      (fun _ => K Ex.normal
     [AV.func (Fn.yield 9) [] [], AV.ptr 8 0, AV.ptr 5 0, AV.ptr 6 0, AV.ptr 7 0, x5, AV.int IntKind.i64 ct,
      AV.int IntKind.i64 cr, AV.bool up, AV.bool true, AV.int IntKind.i64 i, AV.ptr 10 0, AV.int IntKind.i64 u0.numOf,
      x13, l, AV.int IntKind.i64 (↑l.listOf.length : Int), AV.int IntKind.i64 i, x17, x18, x19, x20, x21, x22, x23, x24,
      x25, x26, x27, x28, x29, x30, x31, x32, x33, x34, x35, x36, x37, x38, x39, x40, x41, x42, x43, x44, x45, x46,
      AV.agg
       [AV.int IntKind.i64 c0, AV.int IntKind.i64 c1, AV.int IntKind.i64 c2, AV.int IntKind.i64 c3,
        AV.int IntKind.i64 c4, AV.int IntKind.i64 c5, AV.int IntKind.i64 c6, AV.int IntKind.i64 c7,
        AV.int IntKind.i64 c8, AV.int IntKind.i64 c9, AV.int IntKind.i64 c10],
      AV.agg
       [AV.int IntKind.i64 m0, AV.bool m1, AV.bool m2, AV.bool m3, AV.int IntKind.i64 m4, AV.int IntKind.i64 m5,
        AV.int IntKind.i64 m6, AV.int IntKind.i64 m7, m8, m9, m10, AV.int IntKind.i64 m11, m12, m13],
      AV.int IntKind.i64 u0.numOf, AV.ptr 10 0, AV.int IntKind.i64 m0, AV.int IntKind.i64 u0.numOf,
      AV.bool (decide (m0 > u0.numOf)), x54, x55, x56, x57, x58, x59, x60, x61, x62, x63, x64, x65, x66, x67, x68, x69,
      x70, x71, x72, x73, x74, x75, x76, x77, x78, x79, x80, x81, x82, x83, x84, x85, x86, x87, x88, x89, x90, x91]
     {
      objs :=
       [AObj.cells
         [AV.int IntKind.i64 c0, AV.int IntKind.i64 c1, AV.int IntKind.i64 c2, AV.int IntKind.i64 c3,
          AV.int IntKind.i64 c4, AV.int IntKind.i64 c5, AV.int IntKind.i64 c6, AV.int IntKind.i64 c7,
          AV.int IntKind.i64 c8, AV.int IntKind.i64 c9, AV.int IntKind.i64 c10],
        AObj.cells [AV.int IntKind.i64 d], AObj.cells [AV.int IntKind.i64 r], AObj.cells [AV.bool false],
        AObj.cells [AV.int IntKind.i64 ((0 : Int))],
        AObj.cells
         [AV.int IntKind.i64 c0, AV.int IntKind.i64 c1, AV.int IntKind.i64 c2, AV.int IntKind.i64 c3,
          AV.int IntKind.i64 c4, AV.int IntKind.i64 c5, AV.int IntKind.i64 c6, AV.int IntKind.i64 c7,
          AV.int IntKind.i64 c8, AV.int IntKind.i64 c9, AV.int IntKind.i64 c10],
        AObj.cells [AV.int IntKind.i64 d], AObj.cells [AV.int IntKind.i64 r], AObj.cells [l],
        AObj.loop
         [AV.agg
           [AV.int IntKind.i64 c0, AV.int IntKind.i64 c1, AV.int IntKind.i64 c2, AV.int IntKind.i64 c3,
            AV.int IntKind.i64 c4, AV.int IntKind.i64 c5, AV.int IntKind.i64 c6, AV.int IntKind.i64 c7,
            AV.int IntKind.i64 c8, AV.int IntKind.i64 c9, AV.int IntKind.i64 c10],
          AV.int IntKind.i64 d, AV.int IntKind.i64 r, l, AV.ptr 0 0, AV.ptr 1 0, AV.ptr 2 0, AV.top, AV.ptr 3 0,
          AV.ptr 4 0, AV.int IntKind.i64 n, AV.top, AV.top, AV.top, AV.top,
          AV.agg
           [AV.int IntKind.i64 c0, AV.int IntKind.i64 c1, AV.int IntKind.i64 c2, AV.int IntKind.i64 c3,
            AV.int IntKind.i64 c4, AV.int IntKind.i64 c5, AV.int IntKind.i64 c6, AV.int IntKind.i64 c7,
            AV.int IntKind.i64 c8, AV.int IntKind.i64 c9, AV.int IntKind.i64 c10],
          AV.int IntKind.i64 d, AV.int IntKind.i64 r, l, AV.int IntKind.i64 n, AV.int IntKind.i64 n,
          AV.bool (n != (0 : Int)), AV.top,
          AV.agg
           [AV.int IntKind.i64 c0, AV.int IntKind.i64 c1, AV.int IntKind.i64 c2, AV.int IntKind.i64 c3,
            AV.int IntKind.i64 c4, AV.int IntKind.i64 c5, AV.int IntKind.i64 c6, AV.int IntKind.i64 c7,
            AV.int IntKind.i64 c8, AV.int IntKind.i64 c9, AV.int IntKind.i64 c10],
          AV.int IntKind.i64 d, AV.int IntKind.i64 r, l,
          AV.func (Fn.func 38) [] [AV.ptr 8 0, AV.ptr 5 0, AV.ptr 6 0, AV.ptr 7 0], AV.top, AV.top, AV.top, AV.top,
          AV.top, AV.top, AV.top, AV.top, AV.top, AV.top, AV.top, AV.top, AV.top, AV.top, AV.top, AV.top, AV.top,
          AV.top, AV.top, AV.top, AV.top, AV.top, AV.top, AV.top, AV.top, AV.top, AV.top, AV.top]
         [28, 29] gX gY LSt.ready,
        AObj.cells
         [AV.int IntKind.i64 m0, AV.bool m1, AV.bool m2, AV.bool m3, AV.int IntKind.i64 m4, AV.int IntKind.i64 m5,
          AV.int IntKind.i64 m6, AV.int IntKind.i64 m7, m8, m9, m10, AV.int IntKind.i64 m11, m12, m13]],
      toks := [] }))
     (fun _ => none)
    | none => none) := by kernel_rfl
-- PROOFS
theorem g_s1q {R : Type} (fuel : Nat) (c0 c1 c2 c3 c4 c5 c6 c7 c8 c9 c10 : Int) (l : AV) (d r n : Int) (ct cr i : Int) (up : Bool) (m0 : Int) (m1 m2 m3 : Bool) (m4 m5 m6 m7 : Int) (m8 m9 m10 : AV) (m11 : Int) (m12 m13 : AV) (x5 x12 x13 x17 x18 x19 x20 x21 x22 x23 x24 x25 x26 x27 x28 x29 x30 x31 x32 x33 x34 x35 x36 x37 x38 x39 x40 x41 x42 x43 x44 x45 x46 x47 x48 x49 x50 x51 x52 x53 x54 x55 x56 x57 x58 x59 x60 x61 x62 x63 x64 x65 x66 x67 x68 x69 x70 x71 x72 x73 x74 x75 x76 x77 x78 x79 x80 x81 x82 x83 x84 x85 x86 x87 x88 x89 x90 x91 : AV) (K : Ex → List AV → AH → Option R) (Q : Option R → Prop)
    (hQ : ∀ (ct' : Int) (x5 x12 x13 x17 x18 x19 x20 x21 x22 x23 x24 x25 x26 x27 x28 x29 x30 x31 x32 x33 x34 x35 x36 x37 x38 x39 x40 x41 x42 x43 x44 x45 x46 x47 x48 x49 x50 x51 x52 x53 x54 x55 x56 x57 x58 x59 x60 x61 x62 x63 x64 x65 x66 x67 x68 x69 x70 x71 x72 x73 x74 x75 x76 x77 x78 x79 x80 x81 x82 x83 x84 x85 x86 x87 x88 x89 x90 x91 : AV), ct' = (if i == 0 || m2 || m3 then m0 else ct) → (fun ct => Q (K .normal [.func (.yield 9) [] [], .ptr 8 0, .ptr 5 0, .ptr 6 0, .ptr 7 0, x5, .int .i64 ct, .int .i64 cr, .bool up, .bool true, .int .i64 i, .ptr 10 0, x12, x13, l, .int .i64 (l.listOf.length : Int), .int .i64 i, x17, x18, x19, x20, x21, x22, x23, x24, x25, x26, x27, x28, x29, x30, x31, x32, x33, x34, x35, x36, x37, x38, x39, x40, x41, x42, x43, x44, x45, x46, x47, x48, x49, x50, x51, x52, x53, x54, x55, x56, x57, x58, x59, x60, x61, x62, x63, x64, x65, x66, x67, x68, x69, x70, x71, x72, x73, x74, x75, x76, x77, x78, x79, x80, x81, x82, x83, x84, x85, x86, x87, x88, x89, x90, x91] (gM c0 c1 c2 c3 c4 c5 c6 c7 c8 c9 c10 l d r n m0 m1 m2 m3 m4 m5 m6 m7 m8 m9 m10 m11 m12 m13))) ct') : Q (denI Try.D (cP fuel) fuel (subC ltY1 [0]) [.func (.yield 9) [] [], .ptr 8 0, .ptr 5 0, .ptr 6 0, .ptr 7 0, x5, .int .i64 ct, .int .i64 cr, .bool up, .bool true, .int .i64 i, .ptr 10 0, x12, x13, l, .int .i64 (l.listOf.length : Int), .int .i64 i, x17, x18, x19, x20, x21, x22, x23, x24, x25, x26, x27, x28, x29, x30, x31, x32, x33, x34, x35, x36, x37, x38, x39, x40, x41, x42, x43, x44, x45, x46, x47, x48, x49, x50, x51, x52, x53, x54, x55, x56, x57, x58, x59, x60, x61, x62, x63, x64, x65, x66, x67, x68, x69, x70, x71, x72, x73, x74, x75, x76, x77, x78, x79, x80, x81, x82, x83, x84, x85, x86, x87, x88, x89, x90, x91] (gM c0 c1 c2 c3 c4 c5 c6 c7 c8 c9 c10 l d r n m0 m1 m2 m3 m4 m5 m6 m7 m8 m9 m10 m11 m12 m13) K) := by
  rw [g_s1]
  cases h : (i == 0) with
  | true => exact hQ _ _ _ _ _ _ _ _ _ _ _ _ _ _ _ _ _ _ _ _ _ _ _ _ _ _ _ _ _ _ _ _ _ _ _ _ _ _ _ _ _ _ _ _ _ _ _ _ _ _ _ _ _ _ _ _ _ _ _ _ _ _ _ _ _ _ _ _ _ _ _ _ _ _ _ _ _ _ _ (by rw [h]; rfl)
  | false =>
    cases m2 with
    | true => exact hQ _ _ _ _ _ _ _ _ _ _ _ _ _ _ _ _ _ _ _ _ _ _ _ _ _ _ _ _ _ _ _ _ _ _ _ _ _ _ _ _ _ _ _ _ _ _ _ _ _ _ _ _ _ _ _ _ _ _ _ _ _ _ _ _ _ _ _ _ _ _ _ _ _ _ _ _ _ _ _ (by rw [h]; rfl)
    | false =>
      cases m3 with
      | true => exact hQ _ _ _ _ _ _ _ _ _ _ _ _ _ _ _ _ _ _ _ _ _ _ _ _ _ _ _ _ _ _ _ _ _ _ _ _ _ _ _ _ _ _ _ _ _ _ _ _ _ _ _ _ _ _ _ _ _ _ _ _ _ _ _ _ _ _ _ _ _ _ _ _ _ _ _ _ _ _ _ (by rw [h]; rfl)
      | false => exact hQ _ _ _ _ _ _ _ _ _ _ _ _ _ _ _ _ _ _ _ _ _ _ _ _ _ _ _ _ _ _ _ _ _ _ _ _ _ _ _ _ _ _ _ _ _ _ _ _ _ _ _ _ _ _ _ _ _ _ _ _ _ _ _ _ _ _ _ _ _ _ _ _ _ _ _ _ _ _ _ (by rw [h]; rfl)

theorem g_s2q {R : Type} (fuel : Nat) (c0 c1 c2 c3 c4 c5 c6 c7 c8 c9 c10 : Int) (l : AV) (d r n : Int) (ct cr i : Int) (up : Bool) (m0 : Int) (m1 m2 m3 : Bool) (m4 m5 m6 m7 : Int) (m8 m9 m10 : AV) (m11 : Int) (m12 m13 : AV) (x5 x12 x13 x17 x18 x19 x20 x21 x22 x23 x24 x25 x26 x27 x28 x29 x30 x31 x32 x33 x34 x35 x36 x37 x38 x39 x40 x41 x42 x43 x44 x45 x46 x47 x48 x49 x50 x51 x52 x53 x54 x55 x56 x57 x58 x59 x60 x61 x62 x63 x64 x65 x66 x67 x68 x69 x70 x71 x72 x73 x74 x75 x76 x77 x78 x79 x80 x81 x82 x83 x84 x85 x86 x87 x88 x89 x90 x91 : AV) (K : Ex → List AV → AH → Option R) (Q : Option R → Prop)
    (hQ : ∀ (cr' : Int) (x5 x12 x13 x17 x18 x19 x20 x21 x22 x23 x24 x25 x26 x27 x28 x29 x30 x31 x32 x33 x34 x35 x36 x37 x38 x39 x40 x41 x42 x43 x44 x45 x46 x47 x48 x49 x50 x51 x52 x53 x54 x55 x56 x57 x58 x59 x60 x61 x62 x63 x64 x65 x66 x67 x68 x69 x70 x71 x72 x73 x74 x75 x76 x77 x78 x79 x80 x81 x82 x83 x84 x85 x86 x87 x88 x89 x90 x91 : AV), cr' = (if !m1 && (up || i == 0) then m0 else cr) → (fun cr => Q (K .normal [.func (.yield 9) [] [], .ptr 8 0, .ptr 5 0, .ptr 6 0, .ptr 7 0, x5, .int .i64 ct, .int .i64 cr, .bool up, .bool true, .int .i64 i, .ptr 10 0, x12, x13, l, .int .i64 (l.listOf.length : Int), .int .i64 i, x17, x18, x19, x20, x21, x22, x23, x24, x25, x26, x27, x28, x29, x30, x31, x32, x33, x34, x35, x36, x37, x38, x39, x40, x41, x42, x43, x44, x45, x46, x47, x48, x49, x50, x51, x52, x53, x54, x55, x56, x57, x58, x59, x60, x61, x62, x63, x64, x65, x66, x67, x68, x69, x70, x71, x72, x73, x74, x75, x76, x77, x78, x79, x80, x81, x82, x83, x84, x85, x86, x87, x88, x89, x90, x91] (gM c0 c1 c2 c3 c4 c5 c6 c7 c8 c9 c10 l d r n m0 m1 m2 m3 m4 m5 m6 m7 m8 m9 m10 m11 m12 m13))) cr') : Q (denI Try.D (cP fuel) fuel (subC ltY2 [0]) [.func (.yield 9) [] [], .ptr 8 0, .ptr 5 0, .ptr 6 0, .ptr 7 0, x5, .int .i64 ct, .int .i64 cr, .bool up, .bool true, .int .i64 i, .ptr 10 0, x12, x13, l, .int .i64 (l.listOf.length : Int), .int .i64 i, x17, x18, x19, x20, x21, x22, x23, x24, x25, x26, x27, x28, x29, x30, x31, x32, x33, x34, x35, x36, x37, x38, x39, x40, x41, x42, x43, x44, x45, x46, x47, x48, x49, x50, x51, x52, x53, x54, x55, x56, x57, x58, x59, x60, x61, x62, x63, x64, x65, x66, x67, x68, x69, x70, x71, x72, x73, x74, x75, x76, x77, x78, x79, x80, x81, x82, x83, x84, x85, x86, x87, x88, x89, x90, x91] (gM c0 c1 c2 c3 c4 c5 c6 c7 c8 c9 c10 l d r n m0 m1 m2 m3 m4 m5 m6 m7 m8 m9 m10 m11 m12 m13) K) := by
  rw [g_s2]
  cases m1 with
  | true => exact hQ _ _ _ _ _ _ _ _ _ _ _ _ _ _ _ _ _ _ _ _ _ _ _ _ _ _ _ _ _ _ _ _ _ _ _ _ _ _ _ _ _ _ _ _ _ _ _ _ _ _ _ _ _ _ _ _ _ _ _ _ _ _ _ _ _ _ _ _ _ _ _ _ _ _ _ _ _ _ _ rfl
  | false =>
    cases up with
    | true => exact hQ _ _ _ _ _ _ _ _ _ _ _ _ _ _ _ _ _ _ _ _ _ _ _ _ _ _ _ _ _ _ _ _ _ _ _ _ _ _ _ _ _ _ _ _ _ _ _ _ _ _ _ _ _ _ _ _ _ _ _ _ _ _ _ _ _ _ _ _ _ _ _ _ _ _ _ _ _ _ _ rfl
    | false =>
      cases h : (i == 0) with
      | true => exact hQ _ _ _ _ _ _ _ _ _ _ _ _ _ _ _ _ _ _ _ _ _ _ _ _ _ _ _ _ _ _ _ _ _ _ _ _ _ _ _ _ _ _ _ _ _ _ _ _ _ _ _ _ _ _ _ _ _ _ _ _ _ _ _ _ _ _ _ _ _ _ _ _ _ _ _ _ _ _ _ (by rw [h]; rfl)
      | false => exact hQ _ _ _ _ _ _ _ _ _ _ _ _ _ _ _ _ _ _ _ _ _ _ _ _ _ _ _ _ _ _ _ _ _ _ _ _ _ _ _ _ _ _ _ _ _ _ _ _ _ _ _ _ _ _ _ _ _ _ _ _ _ _ _ _ _ _ _ _ _ _ _ _ _ _ _ _ _ _ _ (by rw [h]; rfl)

theorem g_s3q {R : Type} (fuel : Nat) (c0 c1 c2 c3 c4 c5 c6 c7 c8 c9 c10 : Int) (l : AV) (d r n : Int) (ct cr i : Int) (up : Bool) (m0 : Int) (m1 m2 m3 : Bool) (m4 m5 m6 m7 : Int) (m8 m9 m10 : AV) (m11 : Int) (m12 m13 : AV) (x5 x12 x13 x17 x18 x19 x20 x21 x22 x23 x24 x25 x26 x27 x28 x29 x30 x31 x32 x33 x34 x35 x36 x37 x38 x39 x40 x41 x42 x43 x44 x45 x46 x47 x48 x49 x50 x51 x52 x53 x54 x55 x56 x57 x58 x59 x60 x61 x62 x63 x64 x65 x66 x67 x68 x69 x70 x71 x72 x73 x74 x75 x76 x77 x78 x79 x80 x81 x82 x83 x84 x85 x86 x87 x88 x89 x90 x91 : AV) (K : Ex → List AV → AH → Option R) (Q : Option R → Prop) (E : Int)
    (hk : ∀ H, valH Try.D 28 [.agg (cfC c0 c1 c2 c3 c4 c5 c6 c7 c8 c9 c10), .agg (moC m0 m1 m2 m3 m4 m5 m6 m7 m8 m9 m10 m11 m12 m13)] H = some (.int .i64 E)) (b1 : 0 ≤ m0 ∧ m0 ≤ 1099511627776) (b2 : -1 ≤ E ∧ E ≤ 2199023255552) (b3 : 0 ≤ ct ∧ ct ≤ 1099511627776) (b4 : 0 ≤ cr ∧ cr ≤ 1099511627776)
    (hQ : ∀ (ho : Bool) (x5 x12 x13 x17 x18 x19 x20 x21 x22 x23 x24 x25 x26 x27 x28 x29 x30 x31 x32 x33 x34 x35 x36 x37 x38 x39 x40 x41 x42 x43 x44 x45 x46 x47 x48 x49 x50 x51 x52 x53 x54 x55 x56 x57 x58 x59 x60 x61 x62 x63 x64 x65 x66 x67 x68 x69 x70 x71 x72 x73 x74 x75 x76 x77 x78 x79 x80 x81 x82 x83 x84 x85 x86 x87 x88 x89 x90 x91 : AV), ho = (if m0 > E then (if m1 then decide (m0 - max E ct ≤ d) else decide (cr - max E ct ≤ d) && decide (m0 - max E cr ≤ r)) else true) → Q (K .normal [.func (.yield 9) [] [], .ptr 8 0, .ptr 5 0, .ptr 6 0, .ptr 7 0, x5, .int .i64 ct, .int .i64 cr, .bool up, .bool ho, .int .i64 i, .ptr 10 0, x12, x13, l, .int .i64 (l.listOf.length : Int), .int .i64 i, x17, x18, x19, x20, x21, x22, x23, x24, x25, x26, x27, x28, x29, x30, x31, x32, x33, x34, x35, x36, x37, x38, x39, x40, x41, x42, x43, x44, x45, x46, x47, x48, x49, x50, x51, x52, x53, x54, x55, x56, x57, x58, x59, x60, x61, x62, x63, x64, x65, x66, x67, x68, x69, x70, x71, x72, x73, x74, x75, x76, x77, x78, x79, x80, x81, x82, x83, x84, x85, x86, x87, x88, x89, x90, x91] (gM c0 c1 c2 c3 c4 c5 c6 c7 c8 c9 c10 l d r n m0 m1 m2 m3 m4 m5 m6 m7 m8 m9 m10 m11 m12 m13))) : Q (denI Try.D (cP fuel) fuel (subC ltY4 [0]) [.func (.yield 9) [] [], .ptr 8 0, .ptr 5 0, .ptr 6 0, .ptr 7 0, x5, .int .i64 ct, .int .i64 cr, .bool up, .bool true, .int .i64 i, .ptr 10 0, x12, x13, l, .int .i64 (l.listOf.length : Int), .int .i64 i, x17, x18, x19, x20, x21, x22, x23, x24, x25, x26, x27, x28, x29, x30, x31, x32, x33, x34, x35, x36, x37, x38, x39, x40, x41, x42, x43, x44, x45, x46, x47, x48, x49, x50, x51, x52, x53, x54, x55, x56, x57, x58, x59, x60, x61, x62, x63, x64, x65, x66, x67, x68, x69, x70, x71, x72, x73, x74, x75, x76, x77, x78, x79, x80, x81, x82, x83, x84, x85, x86, x87, x88, x89, x90, x91] (gM c0 c1 c2 c3 c4 c5 c6 c7 c8 c9 c10 l d r n m0 m1 m2 m3 m4 m5 m6 m7 m8 m9 m10 m11 m12 m13) K) := by
  simp only [cfC, moC] at hk
  obtain ⟨x, hx, hs, hn⟩ := val_num hk
  rw [g_s3, hx]
  simp only [hs, br, if_true]
  generalize x.numOf = e at hn ⊢
  obtain rfl := hn.symm
  simp only [mx_eq]
  rw [wrapN (n := m0 - max E ct) (by omega) (by omega), wrapN (n := cr - max E ct) (by omega) (by omega), wrapN (n := m0 - max E cr) (by omega) (by omega)]
  by_cases h : m0 > E
  · rw [dec_yes h]
    cases m1 with
    | true => exact hQ _ _ _ _ _ _ _ _ _ _ _ _ _ _ _ _ _ _ _ _ _ _ _ _ _ _ _ _ _ _ _ _ _ _ _ _ _ _ _ _ _ _ _ _ _ _ _ _ _ _ _ _ _ _ _ _ _ _ _ _ _ _ _ _ _ _ _ _ _ _ _ _ _ _ _ _ _ _ _ (by rw [if_pos h]; rfl)
    | false =>
      cases h2 : decide (cr - max E ct ≤ d) with
      | true => exact hQ _ _ _ _ _ _ _ _ _ _ _ _ _ _ _ _ _ _ _ _ _ _ _ _ _ _ _ _ _ _ _ _ _ _ _ _ _ _ _ _ _ _ _ _ _ _ _ _ _ _ _ _ _ _ _ _ _ _ _ _ _ _ _ _ _ _ _ _ _ _ _ _ _ _ _ _ _ _ _ (by rw [if_pos h, h2]; rfl)
      | false => exact hQ _ _ _ _ _ _ _ _ _ _ _ _ _ _ _ _ _ _ _ _ _ _ _ _ _ _ _ _ _ _ _ _ _ _ _ _ _ _ _ _ _ _ _ _ _ _ _ _ _ _ _ _ _ _ _ _ _ _ _ _ _ _ _ _ _ _ _ _ _ _ _ _ _ _ _ _ _ _ _ (by rw [if_pos h, h2]; rfl)
  · rw [dec_no h]
    exact hQ _ _ _ _ _ _ _ _ _ _ _ _ _ _ _ _ _ _ _ _ _ _ _ _ _ _ _ _ _ _ _ _ _ _ _ _ _ _ _ _ _ _ _ _ _ _ _ _ _ _ _ _ _ _ _ _ _ _ _ _ _ _ _ _ _ _ _ _ _ _ _ _ _ _ _ _ _ _ _ (by rw [if_neg h])

-- DEFS
noncomputable def cQ (fuel : Nat) : CallI := callI Try.D tabF fuel 4
noncomputable def giB : Code := subC gY [0, 1, 1, 1, 0, 0]
noncomputable def yK (fuel : Nat) (H : AH) (K : AV × AH → Option AV) : Ex → List AV → AH → Option AV := fun e _ H2 => optK (setLoop H2 9 (exLeft e)) fun H3 => truncC H (.bool e.stays) H3 K
theorem g_y (fuel : Nat) (c0 c1 c2 c3 c4 c5 c6 c7 c8 c9 c10 : Int) (l : AV) (d r n : Int) (ho : Bool) (m0 : Int) (m1 m2 m3 : Bool) (m4 m5 m6 m7 : Int) (m8 m9 m10 : AV) (m11 : Int) (m12 m13 : AV) (K : AV × AH → Option AV) :
  yieldI Try.D (cQ fuel) fuel 9 [.agg (moC m0 m1 m2 m3 m4 m5 m6 m7 m8 m9 m10 m11 m12 m13), .bool ho] (gM c0 c1 c2 c3 c4 c5 c6 c7 c8 c9 c10 l d r n m0 m1 m2 m3 m4 m5 m6 m7 m8 m9 m10 m11 m12 m13) K =
  br (!ho)
    (fun _ => br (true &&
     belowO 11 0
      [AObj.cells
        [AV.int IntKind.i64 c0, AV.int IntKind.i64 c1, AV.int IntKind.i64 c2, AV.int IntKind.i64 c3,
         AV.int IntKind.i64 c4, AV.int IntKind.i64 c5, AV.int IntKind.i64 c6, AV.int IntKind.i64 c7,
         AV.int IntKind.i64 c8, AV.int IntKind.i64 c9, AV.int IntKind.i64 c10],
       AObj.cells [AV.int IntKind.i64 d], AObj.cells [AV.int IntKind.i64 r], AObj.cells [AV.bool false],
       AObj.cells [AV.int IntKind.i64 ((0 : Int))],
       AObj.cells
        [AV.int IntKind.i64 c0, AV.int IntKind.i64 c1, AV.int IntKind.i64 c2, AV.int IntKind.i64 c3,
         AV.int IntKind.i64 c4, AV.int IntKind.i64 c5, AV.int IntKind.i64 c6, AV.int IntKind.i64 c7,
         AV.int IntKind.i64 c8, AV.int IntKind.i64 c9, AV.int IntKind.i64 c10],
       AObj.cells [AV.int IntKind.i64 d], AObj.cells [AV.int IntKind.i64 r], AObj.cells [l],
       AObj.loop
        [AV.agg
          [AV.int IntKind.i64 c0, AV.int IntKind.i64 c1, AV.int IntKind.i64 c2, AV.int IntKind.i64 c3,
           AV.int IntKind.i64 c4, AV.int IntKind.i64 c5, AV.int IntKind.i64 c6, AV.int IntKind.i64 c7,
           AV.int IntKind.i64 c8, AV.int IntKind.i64 c9, AV.int IntKind.i64 c10],
         AV.int IntKind.i64 d, AV.int IntKind.i64 r, l, AV.ptr 0 0, AV.ptr 1 0, AV.ptr 2 0, AV.top, AV.ptr 3 0,
         AV.ptr 4 0, AV.int IntKind.i64 n, AV.top, AV.top, AV.top, AV.top,
         AV.agg
          [AV.int IntKind.i64 c0, AV.int IntKind.i64 c1, AV.int IntKind.i64 c2, AV.int IntKind.i64 c3,
           AV.int IntKind.i64 c4, AV.int IntKind.i64 c5, AV.int IntKind.i64 c6, AV.int IntKind.i64 c7,
           AV.int IntKind.i64 c8, AV.int IntKind.i64 c9, AV.int IntKind.i64 c10],
         AV.int IntKind.i64 d, AV.int IntKind.i64 r, l, AV.int IntKind.i64 n, AV.int IntKind.i64 n,
         AV.bool (n != (0 : Int)), AV.top,
         AV.agg
          [AV.int IntKind.i64 c0, AV.int IntKind.i64 c1, AV.int IntKind.i64 c2, AV.int IntKind.i64 c3,
           AV.int IntKind.i64 c4, AV.int IntKind.i64 c5, AV.int IntKind.i64 c6, AV.int IntKind.i64 c7,
           AV.int IntKind.i64 c8, AV.int IntKind.i64 c9, AV.int IntKind.i64 c10],
         AV.int IntKind.i64 d, AV.int IntKind.i64 r, l,
         AV.func (Fn.func 38) [] [AV.ptr 8 0, AV.ptr 5 0, AV.ptr 6 0, AV.ptr 7 0], AV.top, AV.top, AV.top, AV.top,
         AV.top, AV.top, AV.top, AV.top, AV.top, AV.top, AV.top, AV.top, AV.top, AV.top, AV.top, AV.top, AV.top,
         AV.top, AV.top, AV.top, AV.top, AV.top, AV.top, AV.top, AV.top, AV.top, AV.top, AV.top]
        [28, 29] gX gY (exLeft (Ex.exit 0)),
       AObj.cells
        [AV.int IntKind.i64 m0, AV.bool m1, AV.bool m2, AV.bool m3, AV.int IntKind.i64 m4, AV.int IntKind.i64 m5,
         AV.int IntKind.i64 m6, AV.int IntKind.i64 m7, m8, m9, m10, AV.int IntKind.i64 m11, m12, m13]])
     (fun _ => K
     (AV.bool false,
      {
       objs :=
        [AObj.cells
          [AV.int IntKind.i64 c0, AV.int IntKind.i64 c1, AV.int IntKind.i64 c2, AV.int IntKind.i64 c3,
           AV.int IntKind.i64 c4, AV.int IntKind.i64 c5, AV.int IntKind.i64 c6, AV.int IntKind.i64 c7,
           AV.int IntKind.i64 c8, AV.int IntKind.i64 c9, AV.int IntKind.i64 c10],
         AObj.cells [AV.int IntKind.i64 d], AObj.cells [AV.int IntKind.i64 r], AObj.cells [AV.bool false],
         AObj.cells [AV.int IntKind.i64 ((0 : Int))],
         AObj.cells
          [AV.int IntKind.i64 c0, AV.int IntKind.i64 c1, AV.int IntKind.i64 c2, AV.int IntKind.i64 c3,
           AV.int IntKind.i64 c4, AV.int IntKind.i64 c5, AV.int IntKind.i64 c6, AV.int IntKind.i64 c7,
           AV.int IntKind.i64 c8, AV.int IntKind.i64 c9, AV.int IntKind.i64 c10],
         AObj.cells [AV.int IntKind.i64 d], AObj.cells [AV.int IntKind.i64 r], AObj.cells [l],
         AObj.loop
          [AV.agg
            [AV.int IntKind.i64 c0, AV.int IntKind.i64 c1, AV.int IntKind.i64 c2, AV.int IntKind.i64 c3,
             AV.int IntKind.i64 c4, AV.int IntKind.i64 c5, AV.int IntKind.i64 c6, AV.int IntKind.i64 c7,
             AV.int IntKind.i64 c8, AV.int IntKind.i64 c9, AV.int IntKind.i64 c10],
           AV.int IntKind.i64 d, AV.int IntKind.i64 r, l, AV.ptr 0 0, AV.ptr 1 0, AV.ptr 2 0, AV.top, AV.ptr 3 0,
           AV.ptr 4 0, AV.int IntKind.i64 n, AV.top, AV.top, AV.top, AV.top,
           AV.agg
            [AV.int IntKind.i64 c0, AV.int IntKind.i64 c1, AV.int IntKind.i64 c2, AV.int IntKind.i64 c3,
             AV.int IntKind.i64 c4, AV.int IntKind.i64 c5, AV.int IntKind.i64 c6, AV.int IntKind.i64 c7,
             AV.int IntKind.i64 c8, AV.int IntKind.i64 c9, AV.int IntKind.i64 c10],
           AV.int IntKind.i64 d, AV.int IntKind.i64 r, l, AV.int IntKind.i64 n, AV.int IntKind.i64 n,
           AV.bool (n != (0 : Int)), AV.top,
           AV.agg
            [AV.int IntKind.i64 c0, AV.int IntKind.i64 c1, AV.int IntKind.i64 c2, AV.int IntKind.i64 c3,
             AV.int IntKind.i64 c4, AV.int IntKind.i64 c5, AV.int IntKind.i64 c6, AV.int IntKind.i64 c7,
             AV.int IntKind.i64 c8, AV.int IntKind.i64 c9, AV.int IntKind.i64 c10],
           AV.int IntKind.i64 d, AV.int IntKind.i64 r, l,
           AV.func (Fn.func 38) [] [AV.ptr 8 0, AV.ptr 5 0, AV.ptr 6 0, AV.ptr 7 0], AV.top, AV.top, AV.top, AV.top,
           AV.top, AV.top, AV.top, AV.top, AV.top, AV.top, AV.top, AV.top, AV.top, AV.top, AV.top, AV.top, AV.top,
           AV.top, AV.top, AV.top, AV.top, AV.top, AV.top, AV.top, AV.top, AV.top, AV.top, AV.top]
          [28, 29] gX gY (exLeft (Ex.exit 0)),
         AObj.cells
          [AV.int IntKind.i64 m0, AV.bool m1, AV.bool m2, AV.bool m3, AV.int IntKind.i64 m4, AV.int IntKind.i64 m5,
           AV.int IntKind.i64 m6, AV.int IntKind.i64 m7, m8, m9, m10, AV.int IntKind.i64 m11, m12, m13]],
       toks := [] }))
     (fun _ => none))
    (fun _ => (match valH Try.D 28
     [AV.agg
       [AV.int IntKind.i64 c0, AV.int IntKind.i64 c1, AV.int IntKind.i64 c2, AV.int IntKind.i64 c3,
        AV.int IntKind.i64 c4, AV.int IntKind.i64 c5, AV.int IntKind.i64 c6, AV.int IntKind.i64 c7,
        AV.int IntKind.i64 c8, AV.int IntKind.i64 c9, AV.int IntKind.i64 c10],
      AV.agg
       [AV.int IntKind.i64 m0, AV.bool m1, AV.bool m2, AV.bool m3, AV.int IntKind.i64 m4, AV.int IntKind.i64 m5,
        AV.int IntKind.i64 m6, AV.int IntKind.i64 m7, m8, m9, m10, AV.int IntKind.i64 m11, m12, m13]]
     {
      objs :=
       [AObj.cells
         [AV.int IntKind.i64 c0, AV.int IntKind.i64 c1, AV.int IntKind.i64 c2, AV.int IntKind.i64 c3,
          AV.int IntKind.i64 c4, AV.int IntKind.i64 c5, AV.int IntKind.i64 c6, AV.int IntKind.i64 c7,
          AV.int IntKind.i64 c8, AV.int IntKind.i64 c9, AV.int IntKind.i64 c10],
        AObj.cells [AV.int IntKind.i64 d], AObj.cells [AV.int IntKind.i64 r], AObj.cells [AV.bool false],
        AObj.cells [AV.int IntKind.i64 ((0 : Int))],
        AObj.cells
         [AV.int IntKind.i64 c0, AV.int IntKind.i64 c1, AV.int IntKind.i64 c2, AV.int IntKind.i64 c3,
          AV.int IntKind.i64 c4, AV.int IntKind.i64 c5, AV.int IntKind.i64 c6, AV.int IntKind.i64 c7,
          AV.int IntKind.i64 c8, AV.int IntKind.i64 c9, AV.int IntKind.i64 c10],
        AObj.cells [AV.int IntKind.i64 d], AObj.cells [AV.int IntKind.i64 r], AObj.cells [l],
        AObj.loop
         [AV.agg
           [AV.int IntKind.i64 c0, AV.int IntKind.i64 c1, AV.int IntKind.i64 c2, AV.int IntKind.i64 c3,
            AV.int IntKind.i64 c4, AV.int IntKind.i64 c5, AV.int IntKind.i64 c6, AV.int IntKind.i64 c7,
            AV.int IntKind.i64 c8, AV.int IntKind.i64 c9, AV.int IntKind.i64 c10],
          AV.int IntKind.i64 d, AV.int IntKind.i64 r, l, AV.ptr 0 0, AV.ptr 1 0, AV.ptr 2 0, AV.top, AV.ptr 3 0,
          AV.ptr 4 0, AV.int IntKind.i64 n, AV.top, AV.top, AV.top, AV.top,
          AV.agg
           [AV.int IntKind.i64 c0, AV.int IntKind.i64 c1, AV.int IntKind.i64 c2, AV.int IntKind.i64 c3,
            AV.int IntKind.i64 c4, AV.int IntKind.i64 c5, AV.int IntKind.i64 c6, AV.int IntKind.i64 c7,
            AV.int IntKind.i64 c8, AV.int IntKind.i64 c9, AV.int IntKind.i64 c10],
          AV.int IntKind.i64 d, AV.int IntKind.i64 r, l, AV.int IntKind.i64 n, AV.int IntKind.i64 n,
          AV.bool (n != (0 : Int)), AV.top,
          AV.agg
           [AV.int IntKind.i64 c0, AV.int IntKind.i64 c1, AV.int IntKind.i64 c2, AV.int IntKind.i64 c3,
            AV.int IntKind.i64 c4, AV.int IntKind.i64 c5, AV.int IntKind.i64 c6, AV.int IntKind.i64 c7,
            AV.int IntKind.i64 c8, AV.int IntKind.i64 c9, AV.int IntKind.i64 c10],
          AV.int IntKind.i64 d, AV.int IntKind.i64 r, l,
          AV.func (Fn.func 38) [] [AV.ptr 8 0, AV.ptr 5 0, AV.ptr 6 0, AV.ptr 7 0], AV.top, AV.top, AV.top, AV.top,
          AV.top, AV.top, AV.top, AV.top, AV.top, AV.top, AV.top, AV.top, AV.top, AV.top, AV.top, AV.top, AV.top,
          AV.top, AV.top, AV.top, AV.top, AV.top, AV.top, AV.top, AV.top, AV.top, AV.top, AV.top]
         [28, 29] gX gY LSt.busy,
        AObj.cells
         [AV.int IntKind.i64 m0, AV.bool m1, AV.bool m2, AV.bool m3, AV.int IntKind.i64 m4, AV.int IntKind.i64 m5,
          AV.int IntKind.i64 m6, AV.int IntKind.i64 m7, m8, m9, m10, AV.int IntKind.i64 m11, m12, m13],
        AObj.cells
         [AV.int IntKind.i64 m0, AV.bool m1, AV.bool m2, AV.bool m3, AV.int IntKind.i64 m4, AV.int IntKind.i64 m5,
          AV.int IntKind.i64 m6, AV.int IntKind.i64 m7, m8, m9, m10, AV.int IntKind.i64 m11, m12, m13]],
      toks := [] } with
     | some u1 => br (fitS (Sh.int IntKind.i64) u1)
      (fun _ => br (decide
     (m0 ≤ IntKind.i64.wrap (IntKind.i64.wrap (IntKind.i64.wrap (IntKind.i64.wrap (u1.numOf + c9) + d) + r) + (1 : Int))))
       (fun _ => br (true &&
     belowO 11 0
      [AObj.cells
        [AV.int IntKind.i64 c0, AV.int IntKind.i64 c1, AV.int IntKind.i64 c2, AV.int IntKind.i64 c3,
         AV.int IntKind.i64 c4, AV.int IntKind.i64 c5, AV.int IntKind.i64 c6, AV.int IntKind.i64 c7,
         AV.int IntKind.i64 c8, AV.int IntKind.i64 c9, AV.int IntKind.i64 c10],
       AObj.cells [AV.int IntKind.i64 d], AObj.cells [AV.int IntKind.i64 r], AObj.cells [AV.bool false],
       AObj.cells [AV.int IntKind.i64 ((0 : Int))],
       AObj.cells
        [AV.int IntKind.i64 c0, AV.int IntKind.i64 c1, AV.int IntKind.i64 c2, AV.int IntKind.i64 c3,
         AV.int IntKind.i64 c4, AV.int IntKind.i64 c5, AV.int IntKind.i64 c6, AV.int IntKind.i64 c7,
         AV.int IntKind.i64 c8, AV.int IntKind.i64 c9, AV.int IntKind.i64 c10],
       AObj.cells [AV.int IntKind.i64 d], AObj.cells [AV.int IntKind.i64 r], AObj.cells [l],
       AObj.loop
        [AV.agg
          [AV.int IntKind.i64 c0, AV.int IntKind.i64 c1, AV.int IntKind.i64 c2, AV.int IntKind.i64 c3,
           AV.int IntKind.i64 c4, AV.int IntKind.i64 c5, AV.int IntKind.i64 c6, AV.int IntKind.i64 c7,
           AV.int IntKind.i64 c8, AV.int IntKind.i64 c9, AV.int IntKind.i64 c10],
         AV.int IntKind.i64 d, AV.int IntKind.i64 r, l, AV.ptr 0 0, AV.ptr 1 0, AV.ptr 2 0, AV.top, AV.ptr 3 0,
         AV.ptr 4 0, AV.int IntKind.i64 n, AV.top, AV.top, AV.top, AV.top,
         AV.agg
          [AV.int IntKind.i64 c0, AV.int IntKind.i64 c1, AV.int IntKind.i64 c2, AV.int IntKind.i64 c3,
           AV.int IntKind.i64 c4, AV.int IntKind.i64 c5, AV.int IntKind.i64 c6, AV.int IntKind.i64 c7,
           AV.int IntKind.i64 c8, AV.int IntKind.i64 c9, AV.int IntKind.i64 c10],
         AV.int IntKind.i64 d, AV.int IntKind.i64 r, l, AV.int IntKind.i64 n, AV.int IntKind.i64 n,
         AV.bool (n != (0 : Int)), AV.top,
         AV.agg
          [AV.int IntKind.i64 c0, AV.int IntKind.i64 c1, AV.int IntKind.i64 c2, AV.int IntKind.i64 c3,
           AV.int IntKind.i64 c4, AV.int IntKind.i64 c5, AV.int IntKind.i64 c6, AV.int IntKind.i64 c7,
           AV.int IntKind.i64 c8, AV.int IntKind.i64 c9, AV.int IntKind.i64 c10],
         AV.int IntKind.i64 d, AV.int IntKind.i64 r, l,
         AV.func (Fn.func 38) [] [AV.ptr 8 0, AV.ptr 5 0, AV.ptr 6 0, AV.ptr 7 0], AV.top, AV.top, AV.top, AV.top,
         AV.top, AV.top, AV.top, AV.top, AV.top, AV.top, AV.top, AV.top, AV.top, AV.top, AV.top, AV.top, AV.top,
         AV.top, AV.top, AV.top, AV.top, AV.top, AV.top, AV.top, AV.top, AV.top, AV.top, AV.top]
        [28, 29] gX gY (exLeft Ex.normal),
       AObj.cells
        [AV.int IntKind.i64 m0, AV.bool m1, AV.bool m2, AV.bool m3, AV.int IntKind.i64 m4, AV.int IntKind.i64 m5,
         AV.int IntKind.i64 m6, AV.int IntKind.i64 m7, m8, m9, m10, AV.int IntKind.i64 m11, m12, m13]])
        (fun _ => K
     (AV.bool true,
      {
       objs :=
        [AObj.cells
          [AV.int IntKind.i64 c0, AV.int IntKind.i64 c1, AV.int IntKind.i64 c2, AV.int IntKind.i64 c3,
           AV.int IntKind.i64 c4, AV.int IntKind.i64 c5, AV.int IntKind.i64 c6, AV.int IntKind.i64 c7,
           AV.int IntKind.i64 c8, AV.int IntKind.i64 c9, AV.int IntKind.i64 c10],
         AObj.cells [AV.int IntKind.i64 d], AObj.cells [AV.int IntKind.i64 r], AObj.cells [AV.bool false],
         AObj.cells [AV.int IntKind.i64 ((0 : Int))],
         AObj.cells
          [AV.int IntKind.i64 c0, AV.int IntKind.i64 c1, AV.int IntKind.i64 c2, AV.int IntKind.i64 c3,
           AV.int IntKind.i64 c4, AV.int IntKind.i64 c5, AV.int IntKind.i64 c6, AV.int IntKind.i64 c7,
           AV.int IntKind.i64 c8, AV.int IntKind.i64 c9, AV.int IntKind.i64 c10],
         AObj.cells [AV.int IntKind.i64 d], AObj.cells [AV.int IntKind.i64 r], AObj.cells [l],
         AObj.loop
          [AV.agg
            [AV.int IntKind.i64 c0, AV.int IntKind.i64 c1, AV.int IntKind.i64 c2, AV.int IntKind.i64 c3,
             AV.int IntKind.i64 c4, AV.int IntKind.i64 c5, AV.int IntKind.i64 c6, AV.int IntKind.i64 c7,
             AV.int IntKind.i64 c8, AV.int IntKind.i64 c9, AV.int IntKind.i64 c10],
           AV.int IntKind.i64 d, AV.int IntKind.i64 r, l, AV.ptr 0 0, AV.ptr 1 0, AV.ptr 2 0, AV.top, AV.ptr 3 0,
           AV.ptr 4 0, AV.int IntKind.i64 n, AV.top, AV.top, AV.top, AV.top,
           AV.agg
            [AV.int IntKind.i64 c0, AV.int IntKind.i64 c1, AV.int IntKind.i64 c2, AV.int IntKind.i64 c3,
             AV.int IntKind.i64 c4, AV.int IntKind.i64 c5, AV.int IntKind.i64 c6, AV.int IntKind.i64 c7,
             AV.int IntKind.i64 c8, AV.int IntKind.i64 c9, AV.int IntKind.i64 c10],
           AV.int IntKind.i64 d, AV.int IntKind.i64 r, l, AV.int IntKind.i64 n, AV.int IntKind.i64 n,
           AV.bool (n != (0 : Int)), AV.top,
           AV.agg
            [AV.int IntKind.i64 c0, AV.int IntKind.i64 c1, AV.int IntKind.i64 c2, AV.int IntKind.i64 c3,
             AV.int IntKind.i64 c4, AV.int IntKind.i64 c5, AV.int IntKind.i64 c6, AV.int IntKind.i64 c7,
             AV.int IntKind.i64 c8, AV.int IntKind.i64 c9, AV.int IntKind.i64 c10],
           AV.int IntKind.i64 d, AV.int IntKind.i64 r, l,
           AV.func (Fn.func 38) [] [AV.ptr 8 0, AV.ptr 5 0, AV.ptr 6 0, AV.ptr 7 0], AV.top, AV.top, AV.top, AV.top,
           AV.top, AV.top, AV.top, AV.top, AV.top, AV.top, AV.top, AV.top, AV.top, AV.top, AV.top, AV.top, AV.top,
           AV.top, AV.top, AV.top, AV.top, AV.top, AV.top, AV.top, AV.top, AV.top, AV.top, AV.top]
          [28, 29] gX gY (exLeft Ex.normal),
         AObj.cells
          [AV.int IntKind.i64 m0, AV.bool m1, AV.bool m2, AV.bool m3, AV.int IntKind.i64 m4, AV.int IntKind.i64 m5,
           AV.int IntKind.i64 m6, AV.int IntKind.i64 m7, m8, m9, m10, AV.int IntKind.i64 m11, m12, m13]],
       toks := [] }))
        (fun _ => none))
       (fun _ => br (AV.listN 9 m9)
        (fun _ => loopC Try.D (cQ fuel) fuel giB fuel [AV.agg [AV.int IntKind.i64 c0, AV.int IntKind.i64 c1, AV.int IntKind.i64 c2, AV.int IntKind.i64 c3, AV.int IntKind.i64 c4, AV.int IntKind.i64 c5, AV.int IntKind.i64 c6, AV.int IntKind.i64 c7, AV.int IntKind.i64 c8, AV.int IntKind.i64 c9, AV.int IntKind.i64 c10], AV.int IntKind.i64 d, AV.int IntKind.i64 r, l, AV.ptr 0 0, AV.ptr 1 0, AV.ptr 2 0, AV.top, AV.ptr 3 0, AV.ptr 4 0, AV.int IntKind.i64 n, AV.ptr 11 0, AV.bool ho, AV.top, AV.top, AV.agg [AV.int IntKind.i64 c0, AV.int IntKind.i64 c1, AV.int IntKind.i64 c2, AV.int IntKind.i64 c3, AV.int IntKind.i64 c4, AV.int IntKind.i64 c5, AV.int IntKind.i64 c6, AV.int IntKind.i64 c7, AV.int IntKind.i64 c8, AV.int IntKind.i64 c9, AV.int IntKind.i64 c10], AV.int IntKind.i64 d, AV.int IntKind.i64 r, l, AV.int IntKind.i64 n, AV.int IntKind.i64 n, AV.bool (n != (0 : Int)), AV.top, AV.agg [AV.int IntKind.i64 c0, AV.int IntKind.i64 c1, AV.int IntKind.i64 c2, AV.int IntKind.i64 c3, AV.int IntKind.i64 c4, AV.int IntKind.i64 c5, AV.int IntKind.i64 c6, AV.int IntKind.i64 c7, AV.int IntKind.i64 c8, AV.int IntKind.i64 c9, AV.int IntKind.i64 c10], AV.int IntKind.i64 d, AV.int IntKind.i64 r, l, AV.func (Fn.func 38) [] [AV.ptr 8 0, AV.ptr 5 0, AV.ptr 6 0, AV.ptr 7 0], AV.agg [AV.int IntKind.i64 m0, AV.bool m1, AV.bool m2, AV.bool m3, AV.int IntKind.i64 m4, AV.int IntKind.i64 m5, AV.int IntKind.i64 m6, AV.int IntKind.i64 m7, m8, m9, m10, AV.int IntKind.i64 m11, m12, m13], AV.bool ho, AV.bool ho, AV.bool !ho, AV.ptr 11 0, AV.int IntKind.i64 m0, AV.agg [AV.int IntKind.i64 c0, AV.int IntKind.i64 c1, AV.int IntKind.i64 c2, AV.int IntKind.i64 c3, AV.int IntKind.i64 c4, AV.int IntKind.i64 c5, AV.int IntKind.i64 c6, AV.int IntKind.i64 c7, AV.int IntKind.i64 c8, AV.int IntKind.i64 c9, AV.int IntKind.i64 c10], AV.agg [AV.int IntKind.i64 m0, AV.bool m1, AV.bool m2, AV.bool m3, AV.int IntKind.i64 m4, AV.int IntKind.i64 m5, AV.int IntKind.i64 m6, AV.int IntKind.i64 m7, m8, m9, m10, AV.int IntKind.i64 m11, m12, m13], AV.int IntKind.i64 u1.numOf, AV.ptr 0 9, AV.int IntKind.i64 c9, AV.int IntKind.i64 (IntKind.i64.wrap (u1.numOf + c9)), AV.int IntKind.i64 d, AV.int IntKind.i64 (IntKind.i64.wrap (IntKind.i64.wrap (u1.numOf + c9) + d)), AV.int IntKind.i64 r, AV.int IntKind.i64 (IntKind.i64.wrap (IntKind.i64.wrap (IntKind.i64.wrap (u1.numOf + c9) + d) + r)), AV.int IntKind.i64 (IntKind.i64.wrap (IntKind.i64.wrap (IntKind.i64.wrap (IntKind.i64.wrap (u1.numOf + c9) + d) + r) + (1 : Int))), AV.bool (decide (m0 ≤ IntKind.i64.wrap (IntKind.i64.wrap (IntKind.i64.wrap (IntKind.i64.wrap (u1.numOf + c9) + d) + r) + (1 : Int)))), AV.ptr 11 9, m9, AV.int IntKind.i64 (↑m9.listOf.length : Int), AV.int IntKind.i64 ((0 : Int)), AV.top, AV.top, AV.top, AV.top, AV.top, AV.top] { objs := [AObj.cells [AV.int IntKind.i64 c0, AV.int IntKind.i64 c1, AV.int IntKind.i64 c2, AV.int IntKind.i64 c3, AV.int IntKind.i64 c4, AV.int IntKind.i64 c5, AV.int IntKind.i64 c6, AV.int IntKind.i64 c7, AV.int IntKind.i64 c8, AV.int IntKind.i64 c9, AV.int IntKind.i64 c10], AObj.cells [AV.int IntKind.i64 d], AObj.cells [AV.int IntKind.i64 r], AObj.cells [AV.bool false], AObj.cells [AV.int IntKind.i64 ((0 : Int))], AObj.cells [AV.int IntKind.i64 c0, AV.int IntKind.i64 c1, AV.int IntKind.i64 c2, AV.int IntKind.i64 c3, AV.int IntKind.i64 c4, AV.int IntKind.i64 c5, AV.int IntKind.i64 c6, AV.int IntKind.i64 c7, AV.int IntKind.i64 c8, AV.int IntKind.i64 c9, AV.int IntKind.i64 c10], AObj.cells [AV.int IntKind.i64 d], AObj.cells [AV.int IntKind.i64 r], AObj.cells [l], AObj.loop [AV.agg [AV.int IntKind.i64 c0, AV.int IntKind.i64 c1, AV.int IntKind.i64 c2, AV.int IntKind.i64 c3, AV.int IntKind.i64 c4, AV.int IntKind.i64 c5, AV.int IntKind.i64 c6, AV.int IntKind.i64 c7, AV.int IntKind.i64 c8, AV.int IntKind.i64 c9, AV.int IntKind.i64 c10], AV.int IntKind.i64 d, AV.int IntKind.i64 r, l, AV.ptr 0 0, AV.ptr 1 0, AV.ptr 2 0, AV.top, AV.ptr 3 0, AV.ptr 4 0, AV.int IntKind.i64 n, AV.top, AV.top, AV.top, AV.top, AV.agg [AV.int IntKind.i64 c0, AV.int IntKind.i64 c1, AV.int IntKind.i64 c2, AV.int IntKind.i64 c3, AV.int IntKind.i64 c4, AV.int IntKind.i64 c5, AV.int IntKind.i64 c6, AV.int IntKind.i64 c7, AV.int IntKind.i64 c8, AV.int IntKind.i64 c9, AV.int IntKind.i64 c10], AV.int IntKind.i64 d, AV.int IntKind.i64 r, l, AV.int IntKind.i64 n, AV.int IntKind.i64 n, AV.bool (n != (0 : Int)), AV.top, AV.agg [AV.int IntKind.i64 c0, AV.int IntKind.i64 c1, AV.int IntKind.i64 c2, AV.int IntKind.i64 c3, AV.int IntKind.i64 c4, AV.int IntKind.i64 c5, AV.int IntKind.i64 c6, AV.int IntKind.i64 c7, AV.int IntKind.i64 c8, AV.int IntKind.i64 c9, AV.int IntKind.i64 c10], AV.int IntKind.i64 d, AV.int IntKind.i64 r, l, AV.func (Fn.func 38) [] [AV.ptr 8 0, AV.ptr 5 0, AV.ptr 6 0, AV.ptr 7 0], AV.top, AV.top, AV.top, AV.top, AV.top, AV.top, AV.top, AV.top, AV.top, AV.top, AV.top, AV.top, AV.top, AV.top, AV.top, AV.top, AV.top, AV.top, AV.top, AV.top, AV.top, AV.top, AV.top, AV.top, AV.top, AV.top, AV.top, AV.top] [28, 29] gX gY LSt.busy, AObj.cells [AV.int IntKind.i64 m0, AV.bool m1, AV.bool m2, AV.bool m3, AV.int IntKind.i64 m4, AV.int IntKind.i64 m5, AV.int IntKind.i64 m6, AV.int IntKind.i64 m7, m8, m9, m10, AV.int IntKind.i64 m11, m12, m13], AObj.cells [AV.int IntKind.i64 m0, AV.bool m1, AV.bool m2, AV.bool m3, AV.int IntKind.i64 m4, AV.int IntKind.i64 m5, AV.int IntKind.i64 m6, AV.int IntKind.i64 m7, m8, m9, m10, AV.int IntKind.i64 m11, m12, m13]], toks := [] } (kontI Try.D (cQ fuel) fuel gY [0, 1, 1, 1, 0] (yK fuel (gM c0 c1 c2 c3 c4 c5 c6 c7 c8 c9 c10 l d r n m0 m1 m2 m3 m4 m5 m6 m7 m8 m9 m10 m11 m12 m13) K)))
        (fun _ => none)))
      (fun _ => none)
     | none => none)) := by kernel_rfl
theorem gi_step (fuel k : Nat) (c0 c1 c2 c3 c4 c5 c6 c7 c8 c9 c10 : Int) (l : AV) (d r n : Int) (m0 : Int) (m1 m2 m3 : Bool) (m4 m5 m6 m7 : Int) (m8 m9 m10 : AV) (m11 : Int) (m12 m13 : AV) (e e1 e2 e3 e4 i : Int) (b : Bool) (K : Ex → List AV → AH → Option AV) :
  loopC Try.D (cQ fuel) fuel giB (k + 1) [.agg (cfC c0 c1 c2 c3 c4 c5 c6 c7 c8 c9 c10), .int .i64 d, .int .i64 r, l, .ptr 0 0, .ptr 1 0, .ptr 2 0, .top, .ptr 3 0, .ptr 4 0, .int .i64 n, .ptr 11 0, .bool true, .top, .top, .agg (cfC c0 c1 c2 c3 c4 c5 c6 c7 c8 c9 c10), .int .i64 d, .int .i64 r, l, .int .i64 n, .int .i64 n, .bool (n != (0 : Int)), .top, .agg (cfC c0 c1 c2 c3 c4 c5 c6 c7 c8 c9 c10), .int .i64 d, .int .i64 r, l, .func (.func 38) [] [.ptr 8 0, .ptr 5 0, .ptr 6 0, .ptr 7 0], .agg (moC m0 m1 m2 m3 m4 m5 m6 m7 m8 m9 m10 m11 m12 m13), .bool true, .bool true, .bool false, .ptr 11 0, .int .i64 m0, .agg (cfC c0 c1 c2 c3 c4 c5 c6 c7 c8 c9 c10), .agg (moC m0 m1 m2 m3 m4 m5 m6 m7 m8 m9 m10 m11 m12 m13), .int .i64 e, .ptr 0 9, .int .i64 c9, .int .i64 e1, .int .i64 d, .int .i64 e2, .int .i64 r, .int .i64 e3, .int .i64 e4, .bool b, .ptr 11 9, m9, .int .i64 (m9.listOf.length : Int), .int .i64 i, .top, .top, .top, .top, .top, .top] ⟨[.cells (cfC c0 c1 c2 c3 c4 c5 c6 c7 c8 c9 c10), .cells [.int .i64 d], .cells [.int .i64 r], .cells [.bool false], .cells [.int .i64 0], .cells (cfC c0 c1 c2 c3 c4 c5 c6 c7 c8 c9 c10), .cells [.int .i64 d], .cells [.int .i64 r], .cells [l], .loop (gS c0 c1 c2 c3 c4 c5 c6 c7 c8 c9 c10 l d r n) [28, 29] gX gY .busy, .cells (moC m0 m1 m2 m3 m4 m5 m6 m7 m8 m9 m10 m11 m12 m13), .cells (moC m0 m1 m2 m3 m4 m5 m6 m7 m8 m9 m10 m11 m12 m13)], []⟩ K =
  br (decide (i < (↑m9.listOf.length : Int)))
    (fun _ => br (AV.listN 9 m9 && (decide ((0 : Int) ≤ i) && decide (i < (↑m9.listOf.length : Int))))
     (fun _ => (match m9.listOf[i.toNat]? with
      | some u2 => br (u2.isAgg &&
     fitL
      [Sh.int IntKind.i64, Sh.int IntKind.i64, Sh.int IntKind.i64, Sh.int IntKind.i64, Sh.int IntKind.i64, Sh.bool,
       Sh.bool, Sh.bool, Sh.int IntKind.i64]
      u2.aggOf)
       (fun _ => br ((hdV (tlV (tlV (tlV (tlV (tlV u2.aggOf)))))).boolOf)
        (fun _ => K Ex.ret
     [AV.agg
       [AV.int IntKind.i64 c0, AV.int IntKind.i64 c1, AV.int IntKind.i64 c2, AV.int IntKind.i64 c3,
        AV.int IntKind.i64 c4, AV.int IntKind.i64 c5, AV.int IntKind.i64 c6, AV.int IntKind.i64 c7,
        AV.int IntKind.i64 c8, AV.int IntKind.i64 c9, AV.int IntKind.i64 c10],
      AV.int IntKind.i64 d, AV.int IntKind.i64 r, resetV l l, AV.ptr 0 0, AV.ptr 1 0, AV.ptr 2 0, AV.top, AV.ptr 3 0,
      AV.ptr 4 0, AV.int IntKind.i64 n, AV.ptr 11 0, AV.bool true, AV.top, AV.top,
      AV.agg
       [AV.int IntKind.i64 c0, AV.int IntKind.i64 c1, AV.int IntKind.i64 c2, AV.int IntKind.i64 c3,
        AV.int IntKind.i64 c4, AV.int IntKind.i64 c5, AV.int IntKind.i64 c6, AV.int IntKind.i64 c7,
        AV.int IntKind.i64 c8, AV.int IntKind.i64 c9, AV.int IntKind.i64 c10],
      AV.int IntKind.i64 d, AV.int IntKind.i64 r, resetV l l, AV.int IntKind.i64 n, AV.int IntKind.i64 n,
      AV.bool (n != (0 : Int)), AV.top,
      AV.agg
       [AV.int IntKind.i64 c0, AV.int IntKind.i64 c1, AV.int IntKind.i64 c2, AV.int IntKind.i64 c3,
        AV.int IntKind.i64 c4, AV.int IntKind.i64 c5, AV.int IntKind.i64 c6, AV.int IntKind.i64 c7,
        AV.int IntKind.i64 c8, AV.int IntKind.i64 c9, AV.int IntKind.i64 c10],
      AV.int IntKind.i64 d, AV.int IntKind.i64 r, resetV l l,
      AV.func (Fn.func 38) [] [AV.ptr 8 0, AV.ptr 5 0, AV.ptr 6 0, AV.ptr 7 0],
      AV.agg
       [AV.int IntKind.i64 m0, AV.bool m1, AV.bool m2, AV.bool m3, AV.int IntKind.i64 m4, AV.int IntKind.i64 m5,
        AV.int IntKind.i64 m6, AV.int IntKind.i64 m7, m8, m9, m10, AV.int IntKind.i64 m11, m12, m13],
      AV.bool true, AV.bool true, AV.bool false, AV.ptr 11 0, AV.int IntKind.i64 m0,
      AV.agg
       [AV.int IntKind.i64 c0, AV.int IntKind.i64 c1, AV.int IntKind.i64 c2, AV.int IntKind.i64 c3,
        AV.int IntKind.i64 c4, AV.int IntKind.i64 c5, AV.int IntKind.i64 c6, AV.int IntKind.i64 c7,
        AV.int IntKind.i64 c8, AV.int IntKind.i64 c9, AV.int IntKind.i64 c10],
      AV.agg
       [AV.int IntKind.i64 m0, AV.bool m1, AV.bool m2, AV.bool m3, AV.int IntKind.i64 m4, AV.int IntKind.i64 m5,
        AV.int IntKind.i64 m6, AV.int IntKind.i64 m7, m8, m9, m10, AV.int IntKind.i64 m11, m12, m13],
      AV.int IntKind.i64 e, AV.ptr 0 9, AV.int IntKind.i64 c9, AV.int IntKind.i64 e1, AV.int IntKind.i64 d,
      AV.int IntKind.i64 e2, AV.int IntKind.i64 r, AV.int IntKind.i64 e3, AV.int IntKind.i64 e4, AV.bool b, AV.ptr 11 9,
      resetV m9 m9, AV.int IntKind.i64 (↑m9.listOf.length : Int), AV.int IntKind.i64 i, AV.top, AV.top, AV.top, AV.top,
      AV.top, AV.top]
     {
      objs :=
       [AObj.cells
         [AV.int IntKind.i64 c0, AV.int IntKind.i64 c1, AV.int IntKind.i64 c2, AV.int IntKind.i64 c3,
          AV.int IntKind.i64 c4, AV.int IntKind.i64 c5, AV.int IntKind.i64 c6, AV.int IntKind.i64 c7,
          AV.int IntKind.i64 c8, AV.int IntKind.i64 c9, AV.int IntKind.i64 c10],
        AObj.cells [AV.int IntKind.i64 d], AObj.cells [AV.int IntKind.i64 r], AObj.cells [AV.bool false],
        AObj.cells [AV.int IntKind.i64 ((0 : Int))],
        AObj.cells
         [AV.int IntKind.i64 c0, AV.int IntKind.i64 c1, AV.int IntKind.i64 c2, AV.int IntKind.i64 c3,
          AV.int IntKind.i64 c4, AV.int IntKind.i64 c5, AV.int IntKind.i64 c6, AV.int IntKind.i64 c7,
          AV.int IntKind.i64 c8, AV.int IntKind.i64 c9, AV.int IntKind.i64 c10],
        AObj.cells [AV.int IntKind.i64 d], AObj.cells [AV.int IntKind.i64 r], AObj.cells [l],
        AObj.loop
         [AV.agg
           [AV.int IntKind.i64 c0, AV.int IntKind.i64 c1, AV.int IntKind.i64 c2, AV.int IntKind.i64 c3,
            AV.int IntKind.i64 c4, AV.int IntKind.i64 c5, AV.int IntKind.i64 c6, AV.int IntKind.i64 c7,
            AV.int IntKind.i64 c8, AV.int IntKind.i64 c9, AV.int IntKind.i64 c10],
          AV.int IntKind.i64 d, AV.int IntKind.i64 r, l, AV.ptr 0 0, AV.ptr 1 0, AV.ptr 2 0, AV.top, AV.ptr 3 0,
          AV.ptr 4 0, AV.int IntKind.i64 n, AV.top, AV.top, AV.top, AV.top,
          AV.agg
           [AV.int IntKind.i64 c0, AV.int IntKind.i64 c1, AV.int IntKind.i64 c2, AV.int IntKind.i64 c3,
            AV.int IntKind.i64 c4, AV.int IntKind.i64 c5, AV.int IntKind.i64 c6, AV.int IntKind.i64 c7,
            AV.int IntKind.i64 c8, AV.int IntKind.i64 c9, AV.int IntKind.i64 c10],
          AV.int IntKind.i64 d, AV.int IntKind.i64 r, l, AV.int IntKind.i64 n, AV.int IntKind.i64 n,
          AV.bool (n != (0 : Int)), AV.top,
          AV.agg
           [AV.int IntKind.i64 c0, AV.int IntKind.i64 c1, AV.int IntKind.i64 c2, AV.int IntKind.i64 c3,
            AV.int IntKind.i64 c4, AV.int IntKind.i64 c5, AV.int IntKind.i64 c6, AV.int IntKind.i64 c7,
            AV.int IntKind.i64 c8, AV.int IntKind.i64 c9, AV.int IntKind.i64 c10],
          AV.int IntKind.i64 d, AV.int IntKind.i64 r, l,
          AV.func (Fn.func 38) [] [AV.ptr 8 0, AV.ptr 5 0, AV.ptr 6 0, AV.ptr 7 0], AV.top, AV.top, AV.top, AV.top,
          AV.top, AV.top, AV.top, AV.top, AV.top, AV.top, AV.top, AV.top, AV.top, AV.top, AV.top, AV.top, AV.top,
          AV.top, AV.top, AV.top, AV.top, AV.top, AV.top, AV.top, AV.top, AV.top, AV.top, AV.top]
         [28, 29] gX gY LSt.busy,
        AObj.cells
         [AV.int IntKind.i64 m0, AV.bool m1, AV.bool m2, AV.bool m3, AV.int IntKind.i64 m4, AV.int IntKind.i64 m5,
          AV.int IntKind.i64 m6, AV.int IntKind.i64 m7, m8, m9, m10, AV.int IntKind.i64 m11, m12, m13],
        AObj.cells
         [AV.int IntKind.i64 m0, AV.bool m1, AV.bool m2, AV.bool m3, AV.int IntKind.i64 m4, AV.int IntKind.i64 m5,
          AV.int IntKind.i64 m6, AV.int IntKind.i64 m7, m8, m9, m10, AV.int IntKind.i64 m11, m12, m13],
        AObj.cells
         [AV.int IntKind.i64 (hdV u2.aggOf).numOf, AV.int IntKind.i64 (hdV (tlV u2.aggOf)).numOf,
          AV.int IntKind.i64 (hdV (tlV (tlV u2.aggOf))).numOf,
          AV.int IntKind.i64 (hdV (tlV (tlV (tlV u2.aggOf)))).numOf,
          AV.int IntKind.i64 (hdV (tlV (tlV (tlV (tlV u2.aggOf))))).numOf,
          AV.bool (hdV (tlV (tlV (tlV (tlV (tlV u2.aggOf)))))).boolOf,
          AV.bool (hdV (tlV (tlV (tlV (tlV (tlV (tlV u2.aggOf))))))).boolOf,
          AV.bool (hdV (tlV (tlV (tlV (tlV (tlV (tlV (tlV u2.aggOf)))))))).boolOf,
          AV.int IntKind.i64 (hdV (tlV (tlV (tlV (tlV (tlV (tlV (tlV (tlV u2.aggOf))))))))).numOf]],
      toks := [] })
        (fun _ => br (belowO 12 0
     [AObj.cells
       [AV.int IntKind.i64 c0, AV.int IntKind.i64 c1, AV.int IntKind.i64 c2, AV.int IntKind.i64 c3,
        AV.int IntKind.i64 c4, AV.int IntKind.i64 c5, AV.int IntKind.i64 c6, AV.int IntKind.i64 c7,
        AV.int IntKind.i64 c8, AV.int IntKind.i64 c9, AV.int IntKind.i64 c10],
      AObj.cells [AV.int IntKind.i64 d], AObj.cells [AV.int IntKind.i64 r], AObj.cells [AV.bool false],
      AObj.cells [AV.int IntKind.i64 ((0 : Int))],
      AObj.cells
       [AV.int IntKind.i64 c0, AV.int IntKind.i64 c1, AV.int IntKind.i64 c2, AV.int IntKind.i64 c3,
        AV.int IntKind.i64 c4, AV.int IntKind.i64 c5, AV.int IntKind.i64 c6, AV.int IntKind.i64 c7,
        AV.int IntKind.i64 c8, AV.int IntKind.i64 c9, AV.int IntKind.i64 c10],
      AObj.cells [AV.int IntKind.i64 d], AObj.cells [AV.int IntKind.i64 r], AObj.cells [l],
      AObj.loop
       [AV.agg
         [AV.int IntKind.i64 c0, AV.int IntKind.i64 c1, AV.int IntKind.i64 c2, AV.int IntKind.i64 c3,
          AV.int IntKind.i64 c4, AV.int IntKind.i64 c5, AV.int IntKind.i64 c6, AV.int IntKind.i64 c7,
          AV.int IntKind.i64 c8, AV.int IntKind.i64 c9, AV.int IntKind.i64 c10],
        AV.int IntKind.i64 d, AV.int IntKind.i64 r, l, AV.ptr 0 0, AV.ptr 1 0, AV.ptr 2 0, AV.top, AV.ptr 3 0,
        AV.ptr 4 0, AV.int IntKind.i64 n, AV.top, AV.top, AV.top, AV.top,
        AV.agg
         [AV.int IntKind.i64 c0, AV.int IntKind.i64 c1, AV.int IntKind.i64 c2, AV.int IntKind.i64 c3,
          AV.int IntKind.i64 c4, AV.int IntKind.i64 c5, AV.int IntKind.i64 c6, AV.int IntKind.i64 c7,
          AV.int IntKind.i64 c8, AV.int IntKind.i64 c9, AV.int IntKind.i64 c10],
        AV.int IntKind.i64 d, AV.int IntKind.i64 r, l, AV.int IntKind.i64 n, AV.int IntKind.i64 n,
        AV.bool (n != (0 : Int)), AV.top,
        AV.agg
         [AV.int IntKind.i64 c0, AV.int IntKind.i64 c1, AV.int IntKind.i64 c2, AV.int IntKind.i64 c3,
          AV.int IntKind.i64 c4, AV.int IntKind.i64 c5, AV.int IntKind.i64 c6, AV.int IntKind.i64 c7,
          AV.int IntKind.i64 c8, AV.int IntKind.i64 c9, AV.int IntKind.i64 c10],
        AV.int IntKind.i64 d, AV.int IntKind.i64 r, l,
        AV.func (Fn.func 38) [] [AV.ptr 8 0, AV.ptr 5 0, AV.ptr 6 0, AV.ptr 7 0], AV.top, AV.top, AV.top, AV.top,
        AV.top, AV.top, AV.top, AV.top, AV.top, AV.top, AV.top, AV.top, AV.top, AV.top, AV.top, AV.top, AV.top, AV.top,
        AV.top, AV.top, AV.top, AV.top, AV.top, AV.top, AV.top, AV.top, AV.top, AV.top]
       [28, 29] gX gY LSt.busy,
      AObj.cells
       [AV.int IntKind.i64 m0, AV.bool m1, AV.bool m2, AV.bool m3, AV.int IntKind.i64 m4, AV.int IntKind.i64 m5,
        AV.int IntKind.i64 m6, AV.int IntKind.i64 m7, m8, m9, m10, AV.int IntKind.i64 m11, m12, m13],
      AObj.cells
       [AV.int IntKind.i64 m0, AV.bool m1, AV.bool m2, AV.bool m3, AV.int IntKind.i64 m4, AV.int IntKind.i64 m5,
        AV.int IntKind.i64 m6, AV.int IntKind.i64 m7, m8, m9, m10, AV.int IntKind.i64 m11, m12, m13]])
         (fun _ => loopC Try.D (cQ fuel) fuel giB k [AV.agg [AV.int IntKind.i64 c0, AV.int IntKind.i64 c1, AV.int IntKind.i64 c2, AV.int IntKind.i64 c3, AV.int IntKind.i64 c4, AV.int IntKind.i64 c5, AV.int IntKind.i64 c6, AV.int IntKind.i64 c7, AV.int IntKind.i64 c8, AV.int IntKind.i64 c9, AV.int IntKind.i64 c10], AV.int IntKind.i64 d, AV.int IntKind.i64 r, cutV 12 0 (resetV l l), AV.ptr 0 0, AV.ptr 1 0, AV.ptr 2 0, AV.top, AV.ptr 3 0, AV.ptr 4 0, AV.int IntKind.i64 n, AV.ptr 11 0, AV.bool true, AV.top, AV.top, AV.agg [AV.int IntKind.i64 c0, AV.int IntKind.i64 c1, AV.int IntKind.i64 c2, AV.int IntKind.i64 c3, AV.int IntKind.i64 c4, AV.int IntKind.i64 c5, AV.int IntKind.i64 c6, AV.int IntKind.i64 c7, AV.int IntKind.i64 c8, AV.int IntKind.i64 c9, AV.int IntKind.i64 c10], AV.int IntKind.i64 d, AV.int IntKind.i64 r, cutV 12 0 (resetV l l), AV.int IntKind.i64 n, AV.int IntKind.i64 n, AV.bool (n != (0 : Int)), AV.top, AV.agg [AV.int IntKind.i64 c0, AV.int IntKind.i64 c1, AV.int IntKind.i64 c2, AV.int IntKind.i64 c3, AV.int IntKind.i64 c4, AV.int IntKind.i64 c5, AV.int IntKind.i64 c6, AV.int IntKind.i64 c7, AV.int IntKind.i64 c8, AV.int IntKind.i64 c9, AV.int IntKind.i64 c10], AV.int IntKind.i64 d, AV.int IntKind.i64 r, cutV 12 0 (resetV l l), AV.func (Fn.func 38) [] [AV.ptr 8 0, AV.ptr 5 0, AV.ptr 6 0, AV.ptr 7 0], cutV 12 0 (AV.agg [AV.int IntKind.i64 m0, AV.bool m1, AV.bool m2, AV.bool m3, AV.int IntKind.i64 m4, AV.int IntKind.i64 m5, AV.int IntKind.i64 m6, AV.int IntKind.i64 m7, m8, m9, m10, AV.int IntKind.i64 m11, m12, m13]), AV.bool true, AV.bool true, AV.bool false, AV.ptr 11 0, AV.int IntKind.i64 m0, AV.agg [AV.int IntKind.i64 c0, AV.int IntKind.i64 c1, AV.int IntKind.i64 c2, AV.int IntKind.i64 c3, AV.int IntKind.i64 c4, AV.int IntKind.i64 c5, AV.int IntKind.i64 c6, AV.int IntKind.i64 c7, AV.int IntKind.i64 c8, AV.int IntKind.i64 c9, AV.int IntKind.i64 c10], cutV 12 0 (AV.agg [AV.int IntKind.i64 m0, AV.bool m1, AV.bool m2, AV.bool m3, AV.int IntKind.i64 m4, AV.int IntKind.i64 m5, AV.int IntKind.i64 m6, AV.int IntKind.i64 m7, m8, m9, m10, AV.int IntKind.i64 m11, m12, m13]), AV.int IntKind.i64 e, AV.ptr 0 9, AV.int IntKind.i64 c9, AV.int IntKind.i64 e1, AV.int IntKind.i64 d, AV.int IntKind.i64 e2, AV.int IntKind.i64 r, AV.int IntKind.i64 e3, AV.int IntKind.i64 e4, AV.bool b, AV.ptr 11 9, cutV 12 0 (resetV m9 m9), AV.int IntKind.i64 (↑m9.listOf.length : Int), AV.int IntKind.i64 (IntKind.i64.wrap (i + (1 : Int))), AV.top, AV.top, AV.top, AV.top, AV.top, AV.top] { objs := [AObj.cells [AV.int IntKind.i64 c0, AV.int IntKind.i64 c1, AV.int IntKind.i64 c2, AV.int IntKind.i64 c3, AV.int IntKind.i64 c4, AV.int IntKind.i64 c5, AV.int IntKind.i64 c6, AV.int IntKind.i64 c7, AV.int IntKind.i64 c8, AV.int IntKind.i64 c9, AV.int IntKind.i64 c10], AObj.cells [AV.int IntKind.i64 d], AObj.cells [AV.int IntKind.i64 r], AObj.cells [AV.bool false], AObj.cells [AV.int IntKind.i64 ((0 : Int))], AObj.cells [AV.int IntKind.i64 c0, AV.int IntKind.i64 c1, AV.int IntKind.i64 c2, AV.int IntKind.i64 c3, AV.int IntKind.i64 c4, AV.int IntKind.i64 c5, AV.int IntKind.i64 c6, AV.int IntKind.i64 c7, AV.int IntKind.i64 c8, AV.int IntKind.i64 c9, AV.int IntKind.i64 c10], AObj.cells [AV.int IntKind.i64 d], AObj.cells [AV.int IntKind.i64 r], AObj.cells [l], AObj.loop [AV.agg [AV.int IntKind.i64 c0, AV.int IntKind.i64 c1, AV.int IntKind.i64 c2, AV.int IntKind.i64 c3, AV.int IntKind.i64 c4, AV.int IntKind.i64 c5, AV.int IntKind.i64 c6, AV.int IntKind.i64 c7, AV.int IntKind.i64 c8, AV.int IntKind.i64 c9, AV.int IntKind.i64 c10], AV.int IntKind.i64 d, AV.int IntKind.i64 r, l, AV.ptr 0 0, AV.ptr 1 0, AV.ptr 2 0, AV.top, AV.ptr 3 0, AV.ptr 4 0, AV.int IntKind.i64 n, AV.top, AV.top, AV.top, AV.top, AV.agg [AV.int IntKind.i64 c0, AV.int IntKind.i64 c1, AV.int IntKind.i64 c2, AV.int IntKind.i64 c3, AV.int IntKind.i64 c4, AV.int IntKind.i64 c5, AV.int IntKind.i64 c6, AV.int IntKind.i64 c7, AV.int IntKind.i64 c8, AV.int IntKind.i64 c9, AV.int IntKind.i64 c10], AV.int IntKind.i64 d, AV.int IntKind.i64 r, l, AV.int IntKind.i64 n, AV.int IntKind.i64 n, AV.bool (n != (0 : Int)), AV.top, AV.agg [AV.int IntKind.i64 c0, AV.int IntKind.i64 c1, AV.int IntKind.i64 c2, AV.int IntKind.i64 c3, AV.int IntKind.i64 c4, AV.int IntKind.i64 c5, AV.int IntKind.i64 c6, AV.int IntKind.i64 c7, AV.int IntKind.i64 c8, AV.int IntKind.i64 c9, AV.int IntKind.i64 c10], AV.int IntKind.i64 d, AV.int IntKind.i64 r, l, AV.func (Fn.func 38) [] [AV.ptr 8 0, AV.ptr 5 0, AV.ptr 6 0, AV.ptr 7 0], AV.top, AV.top, AV.top, AV.top, AV.top, AV.top, AV.top, AV.top, AV.top, AV.top, AV.top, AV.top, AV.top, AV.top, AV.top, AV.top, AV.top, AV.top, AV.top, AV.top, AV.top, AV.top, AV.top, AV.top, AV.top, AV.top, AV.top, AV.top] [28, 29] gX gY LSt.busy, AObj.cells [AV.int IntKind.i64 m0, AV.bool m1, AV.bool m2, AV.bool m3, AV.int IntKind.i64 m4, AV.int IntKind.i64 m5, AV.int IntKind.i64 m6, AV.int IntKind.i64 m7, m8, m9, m10, AV.int IntKind.i64 m11, m12, m13], AObj.cells [AV.int IntKind.i64 m0, AV.bool m1, AV.bool m2, AV.bool m3, AV.int IntKind.i64 m4, AV.int IntKind.i64 m5, AV.int IntKind.i64 m6, AV.int IntKind.i64 m7, m8, m9, m10, AV.int IntKind.i64 m11, m12, m13]], toks := [] } K)
         (fun _ => none)))
       (fun _ => none)
      | none => none))
     (fun _ => none))
    (fun _ => K (Ex.exit 2)
     [AV.agg
       [AV.int IntKind.i64 c0, AV.int IntKind.i64 c1, AV.int IntKind.i64 c2, AV.int IntKind.i64 c3,
        AV.int IntKind.i64 c4, AV.int IntKind.i64 c5, AV.int IntKind.i64 c6, AV.int IntKind.i64 c7,
        AV.int IntKind.i64 c8, AV.int IntKind.i64 c9, AV.int IntKind.i64 c10],
      AV.int IntKind.i64 d, AV.int IntKind.i64 r, resetV l l, AV.ptr 0 0, AV.ptr 1 0, AV.ptr 2 0, AV.top, AV.ptr 3 0,
      AV.ptr 4 0, AV.int IntKind.i64 n, AV.ptr 11 0, AV.bool true, AV.top, AV.top,
      AV.agg
       [AV.int IntKind.i64 c0, AV.int IntKind.i64 c1, AV.int IntKind.i64 c2, AV.int IntKind.i64 c3,
        AV.int IntKind.i64 c4, AV.int IntKind.i64 c5, AV.int IntKind.i64 c6, AV.int IntKind.i64 c7,
        AV.int IntKind.i64 c8, AV.int IntKind.i64 c9, AV.int IntKind.i64 c10],
      AV.int IntKind.i64 d, AV.int IntKind.i64 r, resetV l l, AV.int IntKind.i64 n, AV.int IntKind.i64 n,
      AV.bool (n != (0 : Int)), AV.top,
      AV.agg
       [AV.int IntKind.i64 c0, AV.int IntKind.i64 c1, AV.int IntKind.i64 c2, AV.int IntKind.i64 c3,
        AV.int IntKind.i64 c4, AV.int IntKind.i64 c5, AV.int IntKind.i64 c6, AV.int IntKind.i64 c7,
        AV.int IntKind.i64 c8, AV.int IntKind.i64 c9, AV.int IntKind.i64 c10],
      AV.int IntKind.i64 d, AV.int IntKind.i64 r, resetV l l,
      AV.func (Fn.func 38) [] [AV.ptr 8 0, AV.ptr 5 0, AV.ptr 6 0, AV.ptr 7 0],
      AV.agg
       [AV.int IntKind.i64 m0, AV.bool m1, AV.bool m2, AV.bool m3, AV.int IntKind.i64 m4, AV.int IntKind.i64 m5,
        AV.int IntKind.i64 m6, AV.int IntKind.i64 m7, m8, m9, m10, AV.int IntKind.i64 m11, m12, m13],
      AV.bool true, AV.bool true, AV.bool false, AV.ptr 11 0, AV.int IntKind.i64 m0,
      AV.agg
       [AV.int IntKind.i64 c0, AV.int IntKind.i64 c1, AV.int IntKind.i64 c2, AV.int IntKind.i64 c3,
        AV.int IntKind.i64 c4, AV.int IntKind.i64 c5, AV.int IntKind.i64 c6, AV.int IntKind.i64 c7,
        AV.int IntKind.i64 c8, AV.int IntKind.i64 c9, AV.int IntKind.i64 c10],
      AV.agg
       [AV.int IntKind.i64 m0, AV.bool m1, AV.bool m2, AV.bool m3, AV.int IntKind.i64 m4, AV.int IntKind.i64 m5,
        AV.int IntKind.i64 m6, AV.int IntKind.i64 m7, m8, m9, m10, AV.int IntKind.i64 m11, m12, m13],
      AV.int IntKind.i64 e, AV.ptr 0 9, AV.int IntKind.i64 c9, AV.int IntKind.i64 e1, AV.int IntKind.i64 d,
      AV.int IntKind.i64 e2, AV.int IntKind.i64 r, AV.int IntKind.i64 e3, AV.int IntKind.i64 e4, AV.bool b, AV.ptr 11 9,
      resetV m9 m9, AV.int IntKind.i64 (↑m9.listOf.length : Int), AV.int IntKind.i64 i, AV.top, AV.top, AV.top, AV.top,
      AV.top, AV.top]
     {
      objs :=
       [AObj.cells
         [AV.int IntKind.i64 c0, AV.int IntKind.i64 c1, AV.int IntKind.i64 c2, AV.int IntKind.i64 c3,
          AV.int IntKind.i64 c4, AV.int IntKind.i64 c5, AV.int IntKind.i64 c6, AV.int IntKind.i64 c7,
          AV.int IntKind.i64 c8, AV.int IntKind.i64 c9, AV.int IntKind.i64 c10],
        AObj.cells [AV.int IntKind.i64 d], AObj.cells [AV.int IntKind.i64 r], AObj.cells [AV.bool false],
        AObj.cells [AV.int IntKind.i64 ((0 : Int))],
        AObj.cells
         [AV.int IntKind.i64 c0, AV.int IntKind.i64 c1, AV.int IntKind.i64 c2, AV.int IntKind.i64 c3,
          AV.int IntKind.i64 c4, AV.int IntKind.i64 c5, AV.int IntKind.i64 c6, AV.int IntKind.i64 c7,
          AV.int IntKind.i64 c8, AV.int IntKind.i64 c9, AV.int IntKind.i64 c10],
        AObj.cells [AV.int IntKind.i64 d], AObj.cells [AV.int IntKind.i64 r], AObj.cells [l],
        AObj.loop
         [AV.agg
           [AV.int IntKind.i64 c0, AV.int IntKind.i64 c1, AV.int IntKind.i64 c2, AV.int IntKind.i64 c3,
            AV.int IntKind.i64 c4, AV.int IntKind.i64 c5, AV.int IntKind.i64 c6, AV.int IntKind.i64 c7,
            AV.int IntKind.i64 c8, AV.int IntKind.i64 c9, AV.int IntKind.i64 c10],
          AV.int IntKind.i64 d, AV.int IntKind.i64 r, l, AV.ptr 0 0, AV.ptr 1 0, AV.ptr 2 0, AV.top, AV.ptr 3 0,
          AV.ptr 4 0, AV.int IntKind.i64 n, AV.top, AV.top, AV.top, AV.top,
          AV.agg
           [AV.int IntKind.i64 c0, AV.int IntKind.i64 c1, AV.int IntKind.i64 c2, AV.int IntKind.i64 c3,
            AV.int IntKind.i64 c4, AV.int IntKind.i64 c5, AV.int IntKind.i64 c6, AV.int IntKind.i64 c7,
            AV.int IntKind.i64 c8, AV.int IntKind.i64 c9, AV.int IntKind.i64 c10],
          AV.int IntKind.i64 d, AV.int IntKind.i64 r, l, AV.int IntKind.i64 n, AV.int IntKind.i64 n,
          AV.bool (n != (0 : Int)), AV.top,
          AV.agg
           [AV.int IntKind.i64 c0, AV.int IntKind.i64 c1, AV.int IntKind.i64 c2, AV.int IntKind.i64 c3,
            AV.int IntKind.i64 c4, AV.int IntKind.i64 c5, AV.int IntKind.i64 c6, AV.int IntKind.i64 c7,
            AV.int IntKind.i64 c8, AV.int IntKind.i64 c9, AV.int IntKind.i64 c10],
          AV.int IntKind.i64 d, AV.int IntKind.i64 r, l,
          AV.func (Fn.func 38) [] [AV.ptr 8 0, AV.ptr 5 0, AV.ptr 6 0, AV.ptr 7 0], AV.top, AV.top, AV.top, AV.top,
          AV.top, AV.top, AV.top, AV.top, AV.top, AV.top, AV.top, AV.top, AV.top, AV.top, AV.top, AV.top, AV.top,
          AV.top, AV.top, AV.top, AV.top, AV.top, AV.top, AV.top, AV.top, AV.top, AV.top, AV.top]
         [28, 29] gX gY LSt.busy,
        AObj.cells
         [AV.int IntKind.i64 m0, AV.bool m1, AV.bool m2, AV.bool m3, AV.int IntKind.i64 m4, AV.int IntKind.i64 m5,
          AV.int IntKind.i64 m6, AV.int IntKind.i64 m7, m8, m9, m10, AV.int IntKind.i64 m11, m12, m13],
        AObj.cells
         [AV.int IntKind.i64 m0, AV.bool m1, AV.bool m2, AV.bool m3, AV.int IntKind.i64 m4, AV.int IntKind.i64 m5,
          AV.int IntKind.i64 m6, AV.int IntKind.i64 m7, m8, m9, m10, AV.int IntKind.i64 m11, m12, m13]],
      toks := [] }) := by kernel_rfl
theorem gi_end (fuel : Nat) (c0 c1 c2 c3 c4 c5 c6 c7 c8 c9 c10 : Int) (l : AV) (d r n : Int) (m0 : Int) (m1 m2 m3 : Bool) (m4 m5 m6 m7 : Int) (m8 m9 m10 : AV) (m11 : Int) (m12 m13 : AV) (x0 x1 x2 x3 x4 x5 x6 x7 x8 x9 x10 x11 x12 x13 x14 x15 x16 x17 x18 x19 x20 x21 x22 x23 x24 x25 x26 x27 x28 x29 x30 x31 x32 x33 x34 x35 x36 x37 x38 x39 x40 x41 x42 x43 x44 x45 x46 x47 x48 x49 x50 x51 x52 x53 x54 x55 : AV) (K : AV × AH → Option AV) :
  kontI Try.D (cQ fuel) fuel gY [0, 1, 1, 1, 0] (yK fuel (gM c0 c1 c2 c3 c4 c5 c6 c7 c8 c9 c10 l d r n m0 m1 m2 m3 m4 m5 m6 m7 m8 m9 m10 m11 m12 m13) K) (.exit 2) [x0, x1, x2, x3, x4, x5, x6, x7, x8, x9, x10, x11, x12, x13, x14, x15, x16, x17, x18, x19, x20, x21, x22, x23, x24, x25, x26, x27, x28, x29, x30, x31, x32, x33, x34, x35, x36, x37, x38, x39, x40, x41, x42, x43, x44, x45, x46, x47, x48, x49, x50, x51, x52, x53, x54, x55] ⟨[.cells (cfC c0 c1 c2 c3 c4 c5 c6 c7 c8 c9 c10), .cells [.int .i64 d], .cells [.int .i64 r], .cells [.bool false], .cells [.int .i64 0], .cells (cfC c0 c1 c2 c3 c4 c5 c6 c7 c8 c9 c10), .cells [.int .i64 d], .cells [.int .i64 r], .cells [l], .loop (gS c0 c1 c2 c3 c4 c5 c6 c7 c8 c9 c10 l d r n) [28, 29] gX gY .busy, .cells (moC m0 m1 m2 m3 m4 m5 m6 m7 m8 m9 m10 m11 m12 m13), .cells (moC m0 m1 m2 m3 m4 m5 m6 m7 m8 m9 m10 m11 m12 m13)], []⟩ =
  br (true &&
     belowO 11 0
      [AObj.cells
        [AV.int IntKind.i64 c0, AV.int IntKind.i64 c1, AV.int IntKind.i64 c2, AV.int IntKind.i64 c3,
         AV.int IntKind.i64 c4, AV.int IntKind.i64 c5, AV.int IntKind.i64 c6, AV.int IntKind.i64 c7,
         AV.int IntKind.i64 c8, AV.int IntKind.i64 c9, AV.int IntKind.i64 c10],
       AObj.cells [AV.int IntKind.i64 d], AObj.cells [AV.int IntKind.i64 r], AObj.cells [AV.bool false],
       AObj.cells [AV.int IntKind.i64 ((0 : Int))],
       AObj.cells
        [AV.int IntKind.i64 c0, AV.int IntKind.i64 c1, AV.int IntKind.i64 c2, AV.int IntKind.i64 c3,
         AV.int IntKind.i64 c4, AV.int IntKind.i64 c5, AV.int IntKind.i64 c6, AV.int IntKind.i64 c7,
         AV.int IntKind.i64 c8, AV.int IntKind.i64 c9, AV.int IntKind.i64 c10],
       AObj.cells [AV.int IntKind.i64 d], AObj.cells [AV.int IntKind.i64 r], AObj.cells [l],
       AObj.loop
        [AV.agg
          [AV.int IntKind.i64 c0, AV.int IntKind.i64 c1, AV.int IntKind.i64 c2, AV.int IntKind.i64 c3,
           AV.int IntKind.i64 c4, AV.int IntKind.i64 c5, AV.int IntKind.i64 c6, AV.int IntKind.i64 c7,
           AV.int IntKind.i64 c8, AV.int IntKind.i64 c9, AV.int IntKind.i64 c10],
         AV.int IntKind.i64 d, AV.int IntKind.i64 r, l, AV.ptr 0 0, AV.ptr 1 0, AV.ptr 2 0, AV.top, AV.ptr 3 0,
         AV.ptr 4 0, AV.int IntKind.i64 n, AV.top, AV.top, AV.top, AV.top,
         AV.agg
          [AV.int IntKind.i64 c0, AV.int IntKind.i64 c1, AV.int IntKind.i64 c2, AV.int IntKind.i64 c3,
           AV.int IntKind.i64 c4, AV.int IntKind.i64 c5, AV.int IntKind.i64 c6, AV.int IntKind.i64 c7,
           AV.int IntKind.i64 c8, AV.int IntKind.i64 c9, AV.int IntKind.i64 c10],
         AV.int IntKind.i64 d, AV.int IntKind.i64 r, l, AV.int IntKind.i64 n, AV.int IntKind.i64 n,
         AV.bool (n != (0 : Int)), AV.top,
         AV.agg
          [AV.int IntKind.i64 c0, AV.int IntKind.i64 c1, AV.int IntKind.i64 c2, AV.int IntKind.i64 c3,
           AV.int IntKind.i64 c4, AV.int IntKind.i64 c5, AV.int IntKind.i64 c6, AV.int IntKind.i64 c7,
           AV.int IntKind.i64 c8, AV.int IntKind.i64 c9, AV.int IntKind.i64 c10],
         AV.int IntKind.i64 d, AV.int IntKind.i64 r, l,
         AV.func (Fn.func 38) [] [AV.ptr 8 0, AV.ptr 5 0, AV.ptr 6 0, AV.ptr 7 0], AV.top, AV.top, AV.top, AV.top,
         AV.top, AV.top, AV.top, AV.top, AV.top, AV.top, AV.top, AV.top, AV.top, AV.top, AV.top, AV.top, AV.top,
         AV.top, AV.top, AV.top, AV.top, AV.top, AV.top, AV.top, AV.top, AV.top, AV.top, AV.top]
        [28, 29] gX gY (exLeft Ex.normal),
       AObj.cells
        [AV.int IntKind.i64 m0, AV.bool m1, AV.bool m2, AV.bool m3, AV.int IntKind.i64 m4, AV.int IntKind.i64 m5,
         AV.int IntKind.i64 m6, AV.int IntKind.i64 m7, m8, m9, m10, AV.int IntKind.i64 m11, m12, m13]])
    (fun _ => K
     (AV.bool true,
      {
       objs :=
        [AObj.cells
          [AV.int IntKind.i64 c0, AV.int IntKind.i64 c1, AV.int IntKind.i64 c2, AV.int IntKind.i64 c3,
           AV.int IntKind.i64 c4, AV.int IntKind.i64 c5, AV.int IntKind.i64 c6, AV.int IntKind.i64 c7,
           AV.int IntKind.i64 c8, AV.int IntKind.i64 c9, AV.int IntKind.i64 c10],
         AObj.cells [AV.int IntKind.i64 d], AObj.cells [AV.int IntKind.i64 r], AObj.cells [AV.bool false],
         AObj.cells [AV.int IntKind.i64 ((0 : Int))],
         AObj.cells
          [AV.int IntKind.i64 c0, AV.int IntKind.i64 c1, AV.int IntKind.i64 c2, AV.int IntKind.i64 c3,
           AV.int IntKind.i64 c4, AV.int IntKind.i64 c5, AV.int IntKind.i64 c6, AV.int IntKind.i64 c7,
           AV.int IntKind.i64 c8, AV.int IntKind.i64 c9, AV.int IntKind.i64 c10],
         AObj.cells [AV.int IntKind.i64 d], AObj.cells [AV.int IntKind.i64 r], AObj.cells [l],
         AObj.loop
          [AV.agg
            [AV.int IntKind.i64 c0, AV.int IntKind.i64 c1, AV.int IntKind.i64 c2, AV.int IntKind.i64 c3,
             AV.int IntKind.i64 c4, AV.int IntKind.i64 c5, AV.int IntKind.i64 c6, AV.int IntKind.i64 c7,
             AV.int IntKind.i64 c8, AV.int IntKind.i64 c9, AV.int IntKind.i64 c10],
           AV.int IntKind.i64 d, AV.int IntKind.i64 r, l, AV.ptr 0 0, AV.ptr 1 0, AV.ptr 2 0, AV.top, AV.ptr 3 0,
           AV.ptr 4 0, AV.int IntKind.i64 n, AV.top, AV.top, AV.top, AV.top,
           AV.agg
            [AV.int IntKind.i64 c0, AV.int IntKind.i64 c1, AV.int IntKind.i64 c2, AV.int IntKind.i64 c3,
             AV.int IntKind.i64 c4, AV.int IntKind.i64 c5, AV.int IntKind.i64 c6, AV.int IntKind.i64 c7,
             AV.int IntKind.i64 c8, AV.int IntKind.i64 c9, AV.int IntKind.i64 c10],
           AV.int IntKind.i64 d, AV.int IntKind.i64 r, l, AV.int IntKind.i64 n, AV.int IntKind.i64 n,
           AV.bool (n != (0 : Int)), AV.top,
           AV.agg
            [AV.int IntKind.i64 c0, AV.int IntKind.i64 c1, AV.int IntKind.i64 c2, AV.int IntKind.i64 c3,
             AV.int IntKind.i64 c4, AV.int IntKind.i64 c5, AV.int IntKind.i64 c6, AV.int IntKind.i64 c7,
             AV.int IntKind.i64 c8, AV.int IntKind.i64 c9, AV.int IntKind.i64 c10],
           AV.int IntKind.i64 d, AV.int IntKind.i64 r, l,
           AV.func (Fn.func 38) [] [AV.ptr 8 0, AV.ptr 5 0, AV.ptr 6 0, AV.ptr 7 0], AV.top, AV.top, AV.top, AV.top,
           AV.top, AV.top, AV.top, AV.top, AV.top, AV.top, AV.top, AV.top, AV.top, AV.top, AV.top, AV.top, AV.top,
           AV.top, AV.top, AV.top, AV.top, AV.top, AV.top, AV.top, AV.top, AV.top, AV.top, AV.top]
          [28, 29] gX gY (exLeft Ex.normal),
         AObj.cells
          [AV.int IntKind.i64 m0, AV.bool m1, AV.bool m2, AV.bool m3, AV.int IntKind.i64 m4, AV.int IntKind.i64 m5,
           AV.int IntKind.i64 m6, AV.int IntKind.i64 m7, m8, m9, m10, AV.int IntKind.i64 m11, m12, m13]],
       toks := [] }))
    (fun _ => none) := by kernel_rfl
theorem gi_ret (fuel : Nat) (c0 c1 c2 c3 c4 c5 c6 c7 c8 c9 c10 : Int) (l : AV) (d r n : Int) (m0 : Int) (m1 m2 m3 : Bool) (m4 m5 m6 m7 : Int) (m8 m9 m10 : AV) (m11 : Int) (m12 m13 : AV) (pc : List AV) (x0 x1 x2 x3 x4 x5 x6 x7 x8 x9 x10 x11 x12 x13 x14 x15 x16 x17 x18 x19 x20 x21 x22 x23 x24 x25 x26 x27 x28 x29 x30 x31 x32 x33 x34 x35 x36 x37 x38 x39 x40 x41 x42 x43 x44 x45 x46 x47 x48 x49 x50 x51 x52 x53 x54 x55 : AV) (K : AV × AH → Option AV) :
  kontI Try.D (cQ fuel) fuel gY [0, 1, 1, 1, 0] (yK fuel (gM c0 c1 c2 c3 c4 c5 c6 c7 c8 c9 c10 l d r n m0 m1 m2 m3 m4 m5 m6 m7 m8 m9 m10 m11 m12 m13) K) .ret [x0, x1, x2, x3, x4, x5, x6, x7, x8, x9, x10, x11, x12, x13, x14, x15, x16, x17, x18, x19, x20, x21, x22, x23, x24, x25, x26, x27, x28, x29, x30, x31, x32, x33, x34, x35, x36, x37, x38, x39, x40, x41, x42, x43, x44, x45, x46, x47, x48, x49, x50, x51, x52, x53, x54, x55] ⟨[.cells (cfC c0 c1 c2 c3 c4 c5 c6 c7 c8 c9 c10), .cells [.int .i64 d], .cells [.int .i64 r], .cells [.bool false], .cells [.int .i64 0], .cells (cfC c0 c1 c2 c3 c4 c5 c6 c7 c8 c9 c10), .cells [.int .i64 d], .cells [.int .i64 r], .cells [l], .loop (gS c0 c1 c2 c3 c4 c5 c6 c7 c8 c9 c10 l d r n) [28, 29] gX gY .busy, .cells (moC m0 m1 m2 m3 m4 m5 m6 m7 m8 m9 m10 m11 m12 m13), .cells (moC m0 m1 m2 m3 m4 m5 m6 m7 m8 m9 m10 m11 m12 m13), .cells pc], []⟩ =
  br (true &&
     belowO 11 0
      [AObj.cells
        [AV.int IntKind.i64 c0, AV.int IntKind.i64 c1, AV.int IntKind.i64 c2, AV.int IntKind.i64 c3,
         AV.int IntKind.i64 c4, AV.int IntKind.i64 c5, AV.int IntKind.i64 c6, AV.int IntKind.i64 c7,
         AV.int IntKind.i64 c8, AV.int IntKind.i64 c9, AV.int IntKind.i64 c10],
       AObj.cells [AV.int IntKind.i64 d], AObj.cells [AV.int IntKind.i64 r], AObj.cells [AV.bool false],
       AObj.cells [AV.int IntKind.i64 ((0 : Int))],
       AObj.cells
        [AV.int IntKind.i64 c0, AV.int IntKind.i64 c1, AV.int IntKind.i64 c2, AV.int IntKind.i64 c3,
         AV.int IntKind.i64 c4, AV.int IntKind.i64 c5, AV.int IntKind.i64 c6, AV.int IntKind.i64 c7,
         AV.int IntKind.i64 c8, AV.int IntKind.i64 c9, AV.int IntKind.i64 c10],
       AObj.cells [AV.int IntKind.i64 d], AObj.cells [AV.int IntKind.i64 r], AObj.cells [l],
       AObj.loop
        [AV.agg
          [AV.int IntKind.i64 c0, AV.int IntKind.i64 c1, AV.int IntKind.i64 c2, AV.int IntKind.i64 c3,
           AV.int IntKind.i64 c4, AV.int IntKind.i64 c5, AV.int IntKind.i64 c6, AV.int IntKind.i64 c7,
           AV.int IntKind.i64 c8, AV.int IntKind.i64 c9, AV.int IntKind.i64 c10],
         AV.int IntKind.i64 d, AV.int IntKind.i64 r, l, AV.ptr 0 0, AV.ptr 1 0, AV.ptr 2 0, AV.top, AV.ptr 3 0,
         AV.ptr 4 0, AV.int IntKind.i64 n, AV.top, AV.top, AV.top, AV.top,
         AV.agg
          [AV.int IntKind.i64 c0, AV.int IntKind.i64 c1, AV.int IntKind.i64 c2, AV.int IntKind.i64 c3,
           AV.int IntKind.i64 c4, AV.int IntKind.i64 c5, AV.int IntKind.i64 c6, AV.int IntKind.i64 c7,
           AV.int IntKind.i64 c8, AV.int IntKind.i64 c9, AV.int IntKind.i64 c10],
         AV.int IntKind.i64 d, AV.int IntKind.i64 r, l, AV.int IntKind.i64 n, AV.int IntKind.i64 n,
         AV.bool (n != (0 : Int)), AV.top,
         AV.agg
          [AV.int IntKind.i64 c0, AV.int IntKind.i64 c1, AV.int IntKind.i64 c2, AV.int IntKind.i64 c3,
           AV.int IntKind.i64 c4, AV.int IntKind.i64 c5, AV.int IntKind.i64 c6, AV.int IntKind.i64 c7,
           AV.int IntKind.i64 c8, AV.int IntKind.i64 c9, AV.int IntKind.i64 c10],
         AV.int IntKind.i64 d, AV.int IntKind.i64 r, l,
         AV.func (Fn.func 38) [] [AV.ptr 8 0, AV.ptr 5 0, AV.ptr 6 0, AV.ptr 7 0], AV.top, AV.top, AV.top, AV.top,
         AV.top, AV.top, AV.top, AV.top, AV.top, AV.top, AV.top, AV.top, AV.top, AV.top, AV.top, AV.top, AV.top,
         AV.top, AV.top, AV.top, AV.top, AV.top, AV.top, AV.top, AV.top, AV.top, AV.top, AV.top]
        [28, 29] gX gY (exLeft Ex.ret),
       AObj.cells
        [AV.int IntKind.i64 m0, AV.bool m1, AV.bool m2, AV.bool m3, AV.int IntKind.i64 m4, AV.int IntKind.i64 m5,
         AV.int IntKind.i64 m6, AV.int IntKind.i64 m7, m8, m9, m10, AV.int IntKind.i64 m11, m12, m13]])
    (fun _ => K
     (AV.bool false,
      {
       objs :=
        [AObj.cells
          [AV.int IntKind.i64 c0, AV.int IntKind.i64 c1, AV.int IntKind.i64 c2, AV.int IntKind.i64 c3,
           AV.int IntKind.i64 c4, AV.int IntKind.i64 c5, AV.int IntKind.i64 c6, AV.int IntKind.i64 c7,
           AV.int IntKind.i64 c8, AV.int IntKind.i64 c9, AV.int IntKind.i64 c10],
         AObj.cells [AV.int IntKind.i64 d], AObj.cells [AV.int IntKind.i64 r], AObj.cells [AV.bool false],
         AObj.cells [AV.int IntKind.i64 ((0 : Int))],
         AObj.cells
          [AV.int IntKind.i64 c0, AV.int IntKind.i64 c1, AV.int IntKind.i64 c2, AV.int IntKind.i64 c3,
           AV.int IntKind.i64 c4, AV.int IntKind.i64 c5, AV.int IntKind.i64 c6, AV.int IntKind.i64 c7,
           AV.int IntKind.i64 c8, AV.int IntKind.i64 c9, AV.int IntKind.i64 c10],
         AObj.cells [AV.int IntKind.i64 d], AObj.cells [AV.int IntKind.i64 r], AObj.cells [l],
         AObj.loop
          [AV.agg
            [AV.int IntKind.i64 c0, AV.int IntKind.i64 c1, AV.int IntKind.i64 c2, AV.int IntKind.i64 c3,
             AV.int IntKind.i64 c4, AV.int IntKind.i64 c5, AV.int IntKind.i64 c6, AV.int IntKind.i64 c7,
             AV.int IntKind.i64 c8, AV.int IntKind.i64 c9, AV.int IntKind.i64 c10],
           AV.int IntKind.i64 d, AV.int IntKind.i64 r, l, AV.ptr 0 0, AV.ptr 1 0, AV.ptr 2 0, AV.top, AV.ptr 3 0,
           AV.ptr 4 0, AV.int IntKind.i64 n, AV.top, AV.top, AV.top, AV.top,
           AV.agg
            [AV.int IntKind.i64 c0, AV.int IntKind.i64 c1, AV.int IntKind.i64 c2, AV.int IntKind.i64 c3,
             AV.int IntKind.i64 c4, AV.int IntKind.i64 c5, AV.int IntKind.i64 c6, AV.int IntKind.i64 c7,
             AV.int IntKind.i64 c8, AV.int IntKind.i64 c9, AV.int IntKind.i64 c10],
           AV.int IntKind.i64 d, AV.int IntKind.i64 r, l, AV.int IntKind.i64 n, AV.int IntKind.i64 n,
           AV.bool (n != (0 : Int)), AV.top,
           AV.agg
            [AV.int IntKind.i64 c0, AV.int IntKind.i64 c1, AV.int IntKind.i64 c2, AV.int IntKind.i64 c3,
             AV.int IntKind.i64 c4, AV.int IntKind.i64 c5, AV.int IntKind.i64 c6, AV.int IntKind.i64 c7,
             AV.int IntKind.i64 c8, AV.int IntKind.i64 c9, AV.int IntKind.i64 c10],
           AV.int IntKind.i64 d, AV.int IntKind.i64 r, l,
           AV.func (Fn.func 38) [] [AV.ptr 8 0, AV.ptr 5 0, AV.ptr 6 0, AV.ptr 7 0], AV.top, AV.top, AV.top, AV.top,
           AV.top, AV.top, AV.top, AV.top, AV.top, AV.top, AV.top, AV.top, AV.top, AV.top, AV.top, AV.top, AV.top,
           AV.top, AV.top, AV.top, AV.top, AV.top, AV.top, AV.top, AV.top, AV.top, AV.top, AV.top]
          [28, 29] gX gY (exLeft Ex.ret),
         AObj.cells
          [AV.int IntKind.i64 m0, AV.bool m1, AV.bool m2, AV.bool m3, AV.int IntKind.i64 m4, AV.int IntKind.i64 m5,
           AV.int IntKind.i64 m6, AV.int IntKind.i64 m7, m8, m9, m10, AV.int IntKind.i64 m11, m12, m13]],
       toks := [] }))
    (fun _ => none) := by kernel_rfl
theorem g_t (fuel k : Nat) (c0 c1 c2 c3 c4 c5 c6 c7 c8 c9 c10 : Int) (l : AV) (d r n : Int) (ct0 cr0 ct cr i : Int) (up0 up ho : Bool) (m0 : Int) (m1 m2 m3 : Bool) (m4 m5 m6 m7 : Int) (m8 m9 m10 : AV) (m11 : Int) (m12 m13 : AV) (x5 x12 x13 x17 x18 x19 x20 x21 x22 x23 x24 x25 x26 x27 x28 x29 x30 x31 x32 x33 x34 x35 x36 x37 x38 x39 x40 x41 x42 x43 x44 x45 x46 x47 x48 x49 x50 x51 x52 x53 x54 x55 x56 x57 x58 x59 x60 x61 x62 x63 x64 x65 x66 x67 x68 x69 x70 x71 x72 x73 x74 x75 x76 x77 x78 x79 x80 x81 x82 x83 x84 x85 x86 x87 x88 x89 x90 x91 : AV) (K : Ex → List AV → AH → Option AV) :
  blkK 1 (seqK Try.D (cP fuel) fuel (subC ltB2 [1]) (stepK Try.D (cP fuel) fuel ltB k [.func (.yield 9) [] [], .ptr 8 0, .ptr 5 0, .ptr 6 0, .ptr 7 0, .top, .int .i64 ct0, .int .i64 cr0, .bool up0, .bool true, .top, .top, .top, .top, l, .int .i64 (l.listOf.length : Int), .int .i64 i, .top, .top, .top, .top, .top, .top, .top, .top, .top, .top, .top, .top, .top, .top, .top, .top, .top, .top, .top, .top, .top, .top, .top, .top, .top, .top, .top, .top, .top, .top, .top, .top, .top, .top, .top, .top, .top, .top, .top, .top, .top, .top, .top, .top, .top, .top, .top, .top, .top, .top, .top, .top, .top, .top, .top, .top, .top, .top, .top, .top, .top, .top, .top, .top, .top, .top, .top, .top, .top, .top, .top, .top, .top, .top, .top] (gH c0 c1 c2 c3 c4 c5 c6 c7 c8 c9 c10 l d r n) K)) .normal [.func (.yield 9) [] [], .ptr 8 0, .ptr 5 0, .ptr 6 0, .ptr 7 0, x5, .int .i64 ct, .int .i64 cr, .bool up, .bool ho, .int .i64 i, .ptr 10 0, x12, x13, l, .int .i64 (l.listOf.length : Int), .int .i64 i, x17, x18, x19, x20, x21, x22, x23, x24, x25, x26, x27, x28, x29, x30, x31, x32, x33, x34, x35, x36, x37, x38, x39, x40, x41, x42, x43, x44, x45, x46, x47, x48, x49, x50, x51, x52, x53, x54, x55, x56, x57, x58, x59, x60, x61, x62, x63, x64, x65, x66, x67, x68, x69, x70, x71, x72, x73, x74, x75, x76, x77, x78, x79, x80, x81, x82, x83, x84, x85, x86, x87, x88, x89, x90, x91] (gM c0 c1 c2 c3 c4 c5 c6 c7 c8 c9 c10 l d r n m0 m1 m2 m3 m4 m5 m6 m7 m8 m9 m10 m11 m12 m13) =
  br (belowO 10 0
     [AObj.cells
       [AV.int IntKind.i64 c0, AV.int IntKind.i64 c1, AV.int IntKind.i64 c2, AV.int IntKind.i64 c3,
        AV.int IntKind.i64 c4, AV.int IntKind.i64 c5, AV.int IntKind.i64 c6, AV.int IntKind.i64 c7,
        AV.int IntKind.i64 c8, AV.int IntKind.i64 c9, AV.int IntKind.i64 c10],
      AObj.cells [AV.int IntKind.i64 d], AObj.cells [AV.int IntKind.i64 r], AObj.cells [AV.bool false],
      AObj.cells [AV.int IntKind.i64 ((0 : Int))],
      AObj.cells
       [AV.int IntKind.i64 c0, AV.int IntKind.i64 c1, AV.int IntKind.i64 c2, AV.int IntKind.i64 c3,
        AV.int IntKind.i64 c4, AV.int IntKind.i64 c5, AV.int IntKind.i64 c6, AV.int IntKind.i64 c7,
        AV.int IntKind.i64 c8, AV.int IntKind.i64 c9, AV.int IntKind.i64 c10],
      AObj.cells [AV.int IntKind.i64 d], AObj.cells [AV.int IntKind.i64 r], AObj.cells [l],
      AObj.loop
       [AV.agg
         [AV.int IntKind.i64 c0, AV.int IntKind.i64 c1, AV.int IntKind.i64 c2, AV.int IntKind.i64 c3,
          AV.int IntKind.i64 c4, AV.int IntKind.i64 c5, AV.int IntKind.i64 c6, AV.int IntKind.i64 c7,
          AV.int IntKind.i64 c8, AV.int IntKind.i64 c9, AV.int IntKind.i64 c10],
        AV.int IntKind.i64 d, AV.int IntKind.i64 r, l, AV.ptr 0 0, AV.ptr 1 0, AV.ptr 2 0, AV.top, AV.ptr 3 0,
        AV.ptr 4 0, AV.int IntKind.i64 n, AV.top, AV.top, AV.top, AV.top,
        AV.agg
         [AV.int IntKind.i64 c0, AV.int IntKind.i64 c1, AV.int IntKind.i64 c2, AV.int IntKind.i64 c3,
          AV.int IntKind.i64 c4, AV.int IntKind.i64 c5, AV.int IntKind.i64 c6, AV.int IntKind.i64 c7,
          AV.int IntKind.i64 c8, AV.int IntKind.i64 c9, AV.int IntKind.i64 c10],
        AV.int IntKind.i64 d, AV.int IntKind.i64 r, l, AV.int IntKind.i64 n, AV.int IntKind.i64 n,
        AV.bool (n != (0 : Int)), AV.top,
        AV.agg
         [AV.int IntKind.i64 c0, AV.int IntKind.i64 c1, AV.int IntKind.i64 c2, AV.int IntKind.i64 c3,
          AV.int IntKind.i64 c4, AV.int IntKind.i64 c5, AV.int IntKind.i64 c6, AV.int IntKind.i64 c7,
          AV.int IntKind.i64 c8, AV.int IntKind.i64 c9, AV.int IntKind.i64 c10],
        AV.int IntKind.i64 d, AV.int IntKind.i64 r, l,
        AV.func (Fn.func 38) [] [AV.ptr 8 0, AV.ptr 5 0, AV.ptr 6 0, AV.ptr 7 0], AV.top, AV.top, AV.top, AV.top,
        AV.top, AV.top, AV.top, AV.top, AV.top, AV.top, AV.top, AV.top, AV.top, AV.top, AV.top, AV.top, AV.top, AV.top,
        AV.top, AV.top, AV.top, AV.top, AV.top, AV.top, AV.top, AV.top, AV.top, AV.top]
       [28, 29] gX gY LSt.ready])
    (fun _ => loopC Try.D (cP fuel) fuel ltB k [AV.func (Fn.yield 9) [] [], AV.ptr 8 0, AV.ptr 5 0, AV.ptr 6 0, AV.ptr 7 0, AV.top, AV.int IntKind.i64 ct, AV.int IntKind.i64 cr, AV.bool up, AV.bool ho, AV.top, AV.top, AV.top, AV.top, cutV 10 0 (resetV l l), AV.int IntKind.i64 (↑l.listOf.length : Int), AV.int IntKind.i64 (IntKind.i64.wrap (i + (1 : Int))), AV.top, AV.top, AV.top, AV.top, AV.top, AV.top, AV.top, AV.top, AV.top, AV.top, AV.top, AV.top, AV.top, AV.top, AV.top, AV.top, AV.top, AV.top, AV.top, AV.top, AV.top, AV.top, AV.top, AV.top, AV.top, AV.top, AV.top, AV.top, AV.top, AV.top, AV.top, AV.top, AV.top, AV.top, AV.top, AV.top, AV.top, AV.top, AV.top, AV.top, AV.top, AV.top, AV.top, AV.top, AV.top, AV.top, AV.top, AV.top, AV.top, AV.top, AV.top, AV.top, AV.top, AV.top, AV.top, AV.top, AV.top, AV.top, AV.top, AV.top, AV.top, AV.top, AV.top, AV.top, AV.top, AV.top, AV.top, AV.top, AV.top, AV.top, AV.top, AV.top, AV.top, AV.top, AV.top] { objs := [AObj.cells [AV.int IntKind.i64 c0, AV.int IntKind.i64 c1, AV.int IntKind.i64 c2, AV.int IntKind.i64 c3, AV.int IntKind.i64 c4, AV.int IntKind.i64 c5, AV.int IntKind.i64 c6, AV.int IntKind.i64 c7, AV.int IntKind.i64 c8, AV.int IntKind.i64 c9, AV.int IntKind.i64 c10], AObj.cells [AV.int IntKind.i64 d], AObj.cells [AV.int IntKind.i64 r], AObj.cells [AV.bool false], AObj.cells [AV.int IntKind.i64 ((0 : Int))], AObj.cells [AV.int IntKind.i64 c0, AV.int IntKind.i64 c1, AV.int IntKind.i64 c2, AV.int IntKind.i64 c3, AV.int IntKind.i64 c4, AV.int IntKind.i64 c5, AV.int IntKind.i64 c6, AV.int IntKind.i64 c7, AV.int IntKind.i64 c8, AV.int IntKind.i64 c9, AV.int IntKind.i64 c10], AObj.cells [AV.int IntKind.i64 d], AObj.cells [AV.int IntKind.i64 r], AObj.cells [l], AObj.loop [AV.agg [AV.int IntKind.i64 c0, AV.int IntKind.i64 c1, AV.int IntKind.i64 c2, AV.int IntKind.i64 c3, AV.int IntKind.i64 c4, AV.int IntKind.i64 c5, AV.int IntKind.i64 c6, AV.int IntKind.i64 c7, AV.int IntKind.i64 c8, AV.int IntKind.i64 c9, AV.int IntKind.i64 c10], AV.int IntKind.i64 d, AV.int IntKind.i64 r, l, AV.ptr 0 0, AV.ptr 1 0, AV.ptr 2 0, AV.top, AV.ptr 3 0, AV.ptr 4 0, AV.int IntKind.i64 n, AV.top, AV.top, AV.top, AV.top, AV.agg [AV.int IntKind.i64 c0, AV.int IntKind.i64 c1, AV.int IntKind.i64 c2, AV.int IntKind.i64 c3, AV.int IntKind.i64 c4, AV.int IntKind.i64 c5, AV.int IntKind.i64 c6, AV.int IntKind.i64 c7, AV.int IntKind.i64 c8, AV.int IntKind.i64 c9, AV.int IntKind.i64 c10], AV.int IntKind.i64 d, AV.int IntKind.i64 r, l, AV.int IntKind.i64 n, AV.int IntKind.i64 n, AV.bool (n != (0 : Int)), AV.top, AV.agg [AV.int IntKind.i64 c0, AV.int IntKind.i64 c1, AV.int IntKind.i64 c2, AV.int IntKind.i64 c3, AV.int IntKind.i64 c4, AV.int IntKind.i64 c5, AV.int IntKind.i64 c6, AV.int IntKind.i64 c7, AV.int IntKind.i64 c8, AV.int IntKind.i64 c9, AV.int IntKind.i64 c10], AV.int IntKind.i64 d, AV.int IntKind.i64 r, l, AV.func (Fn.func 38) [] [AV.ptr 8 0, AV.ptr 5 0, AV.ptr 6 0, AV.ptr 7 0], AV.top, AV.top, AV.top, AV.top, AV.top, AV.top, AV.top, AV.top, AV.top, AV.top, AV.top, AV.top, AV.top, AV.top, AV.top, AV.top, AV.top, AV.top, AV.top, AV.top, AV.top, AV.top, AV.top, AV.top, AV.top, AV.top, AV.top, AV.top] [28, 29] gX gY LSt.ready], toks := [] } K)
    (fun _ => none) := by kernel_rfl
theorem g_e0 (fuel : Nat) (c0 c1 c2 c3 c4 c5 c6 c7 c8 c9 c10 : Int) (l : AV) (d r n : Int) (x5 x6 x7 x8 x9 x10 x11 x12 x13 x14 x15 x16 x17 x18 x19 x20 x21 x22 x23 x24 x25 x26 x27 x28 x29 x30 x31 x32 x33 x34 x35 x36 x37 x38 x39 x40 x41 x42 x43 x44 x45 x46 x47 x48 x49 x50 x51 x52 x53 x54 x55 x56 x57 x58 x59 x60 x61 x62 x63 x64 x65 x66 x67 x68 x69 x70 x71 x72 x73 x74 x75 x76 x77 x78 x79 x80 x81 x82 x83 x84 x85 x86 x87 x88 x89 x90 x91 : AV) :
  gK fuel c0 c1 c2 c3 c4 c5 c6 c7 c8 c9 c10 l d r n (.exit 0) [.func (.yield 9) [] [], .ptr 8 0, .ptr 5 0, .ptr 6 0, .ptr 7 0, x5, x6, x7, x8, x9, x10, x11, x12, x13, x14, x15, x16, x17, x18, x19, x20, x21, x22, x23, x24, x25, x26, x27, x28, x29, x30, x31, x32, x33, x34, x35, x36, x37, x38, x39, x40, x41, x42, x43, x44, x45, x46, x47, x48, x49, x50, x51, x52, x53, x54, x55, x56, x57, x58, x59, x60, x61, x62, x63, x64, x65, x66, x67, x68, x69, x70, x71, x72, x73, x74, x75, x76, x77, x78, x79, x80, x81, x82, x83, x84, x85, x86, x87, x88, x89, x90, x91] (gH c0 c1 c2 c3 c4 c5 c6 c7 c8 c9 c10 l d r n) =
  some (AV.tuple [AV.bool true, AV.int IntKind.i64 ((0 : Int))]) := by kernel_rfl
theorem g_e1 (fuel : Nat) (c0 c1 c2 c3 c4 c5 c6 c7 c8 c9 c10 : Int) (l : AV) (d r n : Int) (m0 : Int) (m1 m2 m3 : Bool) (m4 m5 m6 m7 : Int) (m8 m9 m10 : AV) (m11 : Int) (m12 m13 : AV) (x5 x6 x7 x8 x9 x10 x11 x12 x13 x14 x15 x16 x17 x18 x19 x20 x21 x22 x23 x24 x25 x26 x27 x28 x29 x30 x31 x32 x33 x34 x35 x36 x37 x38 x39 x40 x41 x42 x43 x44 x45 x46 x47 x48 x49 x50 x51 x52 x53 x54 x55 x56 x57 x58 x59 x60 x61 x62 x63 x64 x65 x66 x67 x68 x69 x70 x71 x72 x73 x74 x75 x76 x77 x78 x79 x80 x81 x82 x83 x84 x85 x86 x87 x88 x89 x90 x91 : AV) :
  gK fuel c0 c1 c2 c3 c4 c5 c6 c7 c8 c9 c10 l d r n .ret [.func (.yield 9) [] [], .ptr 8 0, .ptr 5 0, .ptr 6 0, .ptr 7 0, x5, x6, x7, x8, x9, x10, x11, x12, x13, x14, x15, x16, x17, x18, x19, x20, x21, x22, x23, x24, x25, x26, x27, x28, x29, x30, x31, x32, x33, x34, x35, x36, x37, x38, x39, x40, x41, x42, x43, x44, x45, x46, x47, x48, x49, x50, x51, x52, x53, x54, x55, x56, x57, x58, x59, x60, x61, x62, x63, x64, x65, x66, x67, x68, x69, x70, x71, x72, x73, x74, x75, x76, x77, x78, x79, x80, x81, x82, x83, x84, x85, x86, x87, x88, x89, x90, x91] ⟨[.cells (cfC c0 c1 c2 c3 c4 c5 c6 c7 c8 c9 c10), .cells [.int .i64 d], .cells [.int .i64 r], .cells [.bool false], .cells [.int .i64 0], .cells (cfC c0 c1 c2 c3 c4 c5 c6 c7 c8 c9 c10), .cells [.int .i64 d], .cells [.int .i64 r], .cells [l], .loop (gS c0 c1 c2 c3 c4 c5 c6 c7 c8 c9 c10 l d r n) [28, 29] gX gY (.left none), .cells (moC m0 m1 m2 m3 m4 m5 m6 m7 m8 m9 m10 m11 m12 m13)], []⟩ =
  br (true &&
     belowO 10 0
      [AObj.cells
        [AV.int IntKind.i64 c0, AV.int IntKind.i64 c1, AV.int IntKind.i64 c2, AV.int IntKind.i64 c3,
         AV.int IntKind.i64 c4, AV.int IntKind.i64 c5, AV.int IntKind.i64 c6, AV.int IntKind.i64 c7,
         AV.int IntKind.i64 c8, AV.int IntKind.i64 c9, AV.int IntKind.i64 c10],
       AObj.cells [AV.int IntKind.i64 d], AObj.cells [AV.int IntKind.i64 r], AObj.cells [AV.bool false],
       AObj.cells [AV.int IntKind.i64 ((0 : Int))],
       AObj.cells
        [AV.int IntKind.i64 c0, AV.int IntKind.i64 c1, AV.int IntKind.i64 c2, AV.int IntKind.i64 c3,
         AV.int IntKind.i64 c4, AV.int IntKind.i64 c5, AV.int IntKind.i64 c6, AV.int IntKind.i64 c7,
         AV.int IntKind.i64 c8, AV.int IntKind.i64 c9, AV.int IntKind.i64 c10],
       AObj.cells [AV.int IntKind.i64 d], AObj.cells [AV.int IntKind.i64 r], AObj.cells [l],
       AObj.loop
        [AV.agg
          [AV.int IntKind.i64 c0, AV.int IntKind.i64 c1, AV.int IntKind.i64 c2, AV.int IntKind.i64 c3,
           AV.int IntKind.i64 c4, AV.int IntKind.i64 c5, AV.int IntKind.i64 c6, AV.int IntKind.i64 c7,
           AV.int IntKind.i64 c8, AV.int IntKind.i64 c9, AV.int IntKind.i64 c10],
         AV.int IntKind.i64 d, AV.int IntKind.i64 r, l, AV.ptr 0 0, AV.ptr 1 0, AV.ptr 2 0, AV.top, AV.ptr 3 0,
         AV.ptr 4 0, AV.int IntKind.i64 n, AV.top, AV.top, AV.top, AV.top,
         AV.agg
          [AV.int IntKind.i64 c0, AV.int IntKind.i64 c1, AV.int IntKind.i64 c2, AV.int IntKind.i64 c3,
           AV.int IntKind.i64 c4, AV.int IntKind.i64 c5, AV.int IntKind.i64 c6, AV.int IntKind.i64 c7,
           AV.int IntKind.i64 c8, AV.int IntKind.i64 c9, AV.int IntKind.i64 c10],
         AV.int IntKind.i64 d, AV.int IntKind.i64 r, l, AV.int IntKind.i64 n, AV.int IntKind.i64 n,
         AV.bool (n != (0 : Int)), AV.top,
         AV.agg
          [AV.int IntKind.i64 c0, AV.int IntKind.i64 c1, AV.int IntKind.i64 c2, AV.int IntKind.i64 c3,
           AV.int IntKind.i64 c4, AV.int IntKind.i64 c5, AV.int IntKind.i64 c6, AV.int IntKind.i64 c7,
           AV.int IntKind.i64 c8, AV.int IntKind.i64 c9, AV.int IntKind.i64 c10],
         AV.int IntKind.i64 d, AV.int IntKind.i64 r, l,
         AV.func (Fn.func 38) [] [AV.ptr 8 0, AV.ptr 5 0, AV.ptr 6 0, AV.ptr 7 0], AV.top, AV.top, AV.top, AV.top,
         AV.top, AV.top, AV.top, AV.top, AV.top, AV.top, AV.top, AV.top, AV.top, AV.top, AV.top, AV.top, AV.top,
         AV.top, AV.top, AV.top, AV.top, AV.top, AV.top, AV.top, AV.top, AV.top, AV.top, AV.top]
        [28, 29] gX gY (LSt.left none)])
    (fun _ => some (AV.tuple [AV.bool false, AV.int IntKind.i64 ((0 : Int))]))
    (fun _ => none) := by kernel_rfl
theorem g_e2 (fuel : Nat) (c0 c1 c2 c3 c4 c5 c6 c7 c8 c9 c10 : Int) (l : AV) (d r n : Int) (m0 : Int) (m1 m2 m3 : Bool) (m4 m5 m6 m7 : Int) (m8 m9 m10 : AV) (m11 : Int) (m12 m13 : AV) (x5 x6 x7 x8 x9 x10 x11 x12 x13 x14 x15 x16 x17 x18 x19 x20 x21 x22 x23 x24 x25 x26 x27 x28 x29 x30 x31 x32 x33 x34 x35 x36 x37 x38 x39 x40 x41 x42 x43 x44 x45 x46 x47 x48 x49 x50 x51 x52 x53 x54 x55 x56 x57 x58 x59 x60 x61 x62 x63 x64 x65 x66 x67 x68 x69 x70 x71 x72 x73 x74 x75 x76 x77 x78 x79 x80 x81 x82 x83 x84 x85 x86 x87 x88 x89 x90 x91 : AV) :
  gK fuel c0 c1 c2 c3 c4 c5 c6 c7 c8 c9 c10 l d r n .ret [.func (.yield 9) [] [], .ptr 8 0, .ptr 5 0, .ptr 6 0, .ptr 7 0, x5, x6, x7, x8, x9, x10, x11, x12, x13, x14, x15, x16, x17, x18, x19, x20, x21, x22, x23, x24, x25, x26, x27, x28, x29, x30, x31, x32, x33, x34, x35, x36, x37, x38, x39, x40, x41, x42, x43, x44, x45, x46, x47, x48, x49, x50, x51, x52, x53, x54, x55, x56, x57, x58, x59, x60, x61, x62, x63, x64, x65, x66, x67, x68, x69, x70, x71, x72, x73, x74, x75, x76, x77, x78, x79, x80, x81, x82, x83, x84, x85, x86, x87, x88, x89, x90, x91] ⟨[.cells (cfC c0 c1 c2 c3 c4 c5 c6 c7 c8 c9 c10), .cells [.int .i64 d], .cells [.int .i64 r], .cells [.bool false], .cells [.int .i64 0], .cells (cfC c0 c1 c2 c3 c4 c5 c6 c7 c8 c9 c10), .cells [.int .i64 d], .cells [.int .i64 r], .cells [l], .loop (gS c0 c1 c2 c3 c4 c5 c6 c7 c8 c9 c10 l d r n) [28, 29] gX gY (.left (some 0)), .cells (moC m0 m1 m2 m3 m4 m5 m6 m7 m8 m9 m10 m11 m12 m13)], []⟩ =
  br (true &&
     belowO 10 0
      [AObj.cells
        [AV.int IntKind.i64 c0, AV.int IntKind.i64 c1, AV.int IntKind.i64 c2, AV.int IntKind.i64 c3,
         AV.int IntKind.i64 c4, AV.int IntKind.i64 c5, AV.int IntKind.i64 c6, AV.int IntKind.i64 c7,
         AV.int IntKind.i64 c8, AV.int IntKind.i64 c9, AV.int IntKind.i64 c10],
       AObj.cells [AV.int IntKind.i64 d], AObj.cells [AV.int IntKind.i64 r], AObj.cells [AV.bool false],
       AObj.cells [AV.int IntKind.i64 ((0 : Int))],
       AObj.cells
        [AV.int IntKind.i64 c0, AV.int IntKind.i64 c1, AV.int IntKind.i64 c2, AV.int IntKind.i64 c3,
         AV.int IntKind.i64 c4, AV.int IntKind.i64 c5, AV.int IntKind.i64 c6, AV.int IntKind.i64 c7,
         AV.int IntKind.i64 c8, AV.int IntKind.i64 c9, AV.int IntKind.i64 c10],
       AObj.cells [AV.int IntKind.i64 d], AObj.cells [AV.int IntKind.i64 r], AObj.cells [l],
       AObj.loop
        [AV.agg
          [AV.int IntKind.i64 c0, AV.int IntKind.i64 c1, AV.int IntKind.i64 c2, AV.int IntKind.i64 c3,
           AV.int IntKind.i64 c4, AV.int IntKind.i64 c5, AV.int IntKind.i64 c6, AV.int IntKind.i64 c7,
           AV.int IntKind.i64 c8, AV.int IntKind.i64 c9, AV.int IntKind.i64 c10],
         AV.int IntKind.i64 d, AV.int IntKind.i64 r, l, AV.ptr 0 0, AV.ptr 1 0, AV.ptr 2 0, AV.top, AV.ptr 3 0,
         AV.ptr 4 0, AV.int IntKind.i64 n, AV.top, AV.top, AV.top, AV.top,
         AV.agg
          [AV.int IntKind.i64 c0, AV.int IntKind.i64 c1, AV.int IntKind.i64 c2, AV.int IntKind.i64 c3,
           AV.int IntKind.i64 c4, AV.int IntKind.i64 c5, AV.int IntKind.i64 c6, AV.int IntKind.i64 c7,
           AV.int IntKind.i64 c8, AV.int IntKind.i64 c9, AV.int IntKind.i64 c10],
         AV.int IntKind.i64 d, AV.int IntKind.i64 r, l, AV.int IntKind.i64 n, AV.int IntKind.i64 n,
         AV.bool (n != (0 : Int)), AV.top,
         AV.agg
          [AV.int IntKind.i64 c0, AV.int IntKind.i64 c1, AV.int IntKind.i64 c2, AV.int IntKind.i64 c3,
           AV.int IntKind.i64 c4, AV.int IntKind.i64 c5, AV.int IntKind.i64 c6, AV.int IntKind.i64 c7,
           AV.int IntKind.i64 c8, AV.int IntKind.i64 c9, AV.int IntKind.i64 c10],
         AV.int IntKind.i64 d, AV.int IntKind.i64 r, l,
         AV.func (Fn.func 38) [] [AV.ptr 8 0, AV.ptr 5 0, AV.ptr 6 0, AV.ptr 7 0], AV.top, AV.top, AV.top, AV.top,
         AV.top, AV.top, AV.top, AV.top, AV.top, AV.top, AV.top, AV.top, AV.top, AV.top, AV.top, AV.top, AV.top,
         AV.top, AV.top, AV.top, AV.top, AV.top, AV.top, AV.top, AV.top, AV.top, AV.top, AV.top]
        [28, 29] gX gY (LSt.left (some 0))])
    (fun _ => some (AV.tuple [AV.bool true, AV.int IntKind.i64 ((0 : Int))]))
    (fun _ => none) := by kernel_rfl
noncomputable def opsY : Array Oper := match subC ltY5 [0] with | .region _ ops _ => ops | _ => #[]
noncomputable def aftY (fuel : Nat) (s : List AV) (K : Ex → List AV → AH → Option AV) : AV × AH → Option AV := fun p => opsI noBorn Try.D (cP fuel) opsY (opsY.toList.drop 4) (s.set 89 p.1) p.2 fun s H => denI Try.D (cP fuel) fuel (subC ltY5 [1]) s H K
-- PROOFS
theorem g_s4 (fuel : Nat) (c0 c1 c2 c3 c4 c5 c6 c7 c8 c9 c10 : Int) (l : AV) (d r n : Int) (ct cr i : Int) (up ho : Bool) (m0 : Int) (m1 m2 m3 : Bool) (m4 m5 m6 m7 : Int) (m8 m9 m10 : AV) (m11 : Int) (m12 m13 : AV) (x5 x12 x13 x17 x18 x19 x20 x21 x22 x23 x24 x25 x26 x27 x28 x29 x30 x31 x32 x33 x34 x35 x36 x37 x38 x39 x40 x41 x42 x43 x44 x45 x46 x47 x48 x49 x50 x51 x52 x53 x54 x55 x56 x57 x58 x59 x60 x61 x62 x63 x64 x65 x66 x67 x68 x69 x70 x71 x72 x73 x74 x75 x76 x77 x78 x79 x80 x81 x82 x83 x84 x85 x86 x87 x88 x89 x90 x91 : AV) (K : Ex → List AV → AH → Option AV) :
  denI Try.D (cP fuel) fuel ltY5 [.func (.yield 9) [] [], .ptr 8 0, .ptr 5 0, .ptr 6 0, .ptr 7 0, x5, .int .i64 ct, .int .i64 cr, .bool up, .bool ho, .int .i64 i, .ptr 10 0, x12, x13, l, .int .i64 (l.listOf.length : Int), .int .i64 i, x17, x18, x19, x20, x21, x22, x23, x24, x25, x26, x27, x28, x29, x30, x31, x32, x33, x34, x35, x36, x37, x38, x39, x40, x41, x42, x43, x44, x45, x46, x47, x48, x49, x50, x51, x52, x53, x54, x55, x56, x57, x58, x59, x60, x61, x62, x63, x64, x65, x66, x67, x68, x69, x70, x71, x72, x73, x74, x75, x76, x77, x78, x79, x80, x81, x82, x83, x84, x85, x86, x87, x88, x89, x90, x91] (gM c0 c1 c2 c3 c4 c5 c6 c7 c8 c9 c10 l d r n m0 m1 m2 m3 m4 m5 m6 m7 m8 m9 m10 m11 m12 m13) K = yieldI Try.D (cQ fuel) fuel 9 [.agg (moC m0 m1 m2 m3 m4 m5 m6 m7 m8 m9 m10 m11 m12 m13), .bool ho] (gM c0 c1 c2 c3 c4 c5 c6 c7 c8 c9 c10 l d r n m0 m1 m2 m3 m4 m5 m6 m7 m8 m9 m10 m11 m12 m13) (aftY fuel [.func (.yield 9) [] [], .ptr 8 0, .ptr 5 0, .ptr 6 0, .ptr 7 0, x5, .int .i64 ct, .int .i64 cr, .bool up, .bool ho, .int .i64 i, .ptr 10 0, x12, x13, l, .int .i64 (l.listOf.length : Int), .int .i64 i, x17, x18, x19, x20, x21, x22, x23, x24, x25, x26, x27, x28, x29, x30, x31, x32, x33, x34, x35, x36, x37, x38, x39, x40, x41, x42, x43, x44, x45, x46, x47, x48, x49, x50, x51, x52, x53, x54, x55, x56, x57, x58, x59, x60, x61, x62, x63, x64, x65, x66, x67, x68, x69, x70, x71, x72, x73, x74, x75, x76, x77, x78, x79, x80, x81, x82, x83, x84, x85, .func (.yield 9) [] [], .agg (moC m0 m1 m2 m3 m4 m5 m6 m7 m8 m9 m10 m11 m12 m13), .bool ho, x89, x90, x91] K) := by kernel_rfl
-- DEFS
theorem g_aft (fuel : Nat) (c0 c1 c2 c3 c4 c5 c6 c7 c8 c9 c10 : Int) (l : AV) (ct cr i : Int) (up ho b : Bool) (m0 : Int) (m1 m2 m3 : Bool) (m4 m5 m6 m7 : Int) (m8 m9 m10 : AV) (m11 : Int) (m12 m13 : AV) (x5 x12 x13 x17 x18 x19 x20 x21 x22 x23 x24 x25 x26 x27 x28 x29 x30 x31 x32 x33 x34 x35 x36 x37 x38 x39 x40 x41 x42 x43 x44 x45 x46 x47 x48 x49 x50 x51 x52 x53 x54 x55 x56 x57 x58 x59 x60 x61 x62 x63 x64 x65 x66 x67 x68 x69 x70 x71 x72 x73 x74 x75 x76 x77 x78 x79 x80 x81 x82 x83 x84 x85 x89 x90 x91 : AV) (H : AH) (K : Ex → List AV → AH → Option AV) :
  aftY fuel [.func (.yield 9) [] [], .ptr 8 0, .ptr 5 0, .ptr 6 0, .ptr 7 0, x5, .int .i64 ct, .int .i64 cr, .bool up, .bool ho, .int .i64 i, .ptr 10 0, x12, x13, l, .int .i64 (l.listOf.length : Int), .int .i64 i, x17, x18, x19, x20, x21, x22, x23, x24, x25, x26, x27, x28, x29, x30, x31, x32, x33, x34, x35, x36, x37, x38, x39, x40, x41, x42, x43, x44, x45, x46, x47, x48, x49, x50, x51, x52, x53, x54, x55, x56, x57, x58, x59, x60, x61, x62, x63, x64, x65, x66, x67, x68, x69, x70, x71, x72, x73, x74, x75, x76, x77, x78, x79, x80, x81, x82, x83, x84, x85, .func (.yield 9) [] [], .agg (moC m0 m1 m2 m3 m4 m5 m6 m7 m8 m9 m10 m11 m12 m13), .bool ho, x89, x90, x91] K (.bool b, H) =
  br (!b)
    (fun _ => K Ex.ret
     [AV.func (Fn.yield 9) [] [], AV.ptr 8 0, AV.ptr 5 0, AV.ptr 6 0, AV.ptr 7 0, x5, AV.int IntKind.i64 ct,
      AV.int IntKind.i64 cr, AV.bool up, AV.bool ho, AV.int IntKind.i64 i, AV.ptr 10 0, x12, x13, l,
      AV.int IntKind.i64 (↑l.listOf.length : Int), AV.int IntKind.i64 i, x17, x18, x19, x20, x21, x22, x23, x24, x25, x26,
      x27, x28, x29, x30, x31, x32, x33, x34, x35, x36, x37, x38, x39, x40, x41, x42, x43, x44, x45, x46, x47, x48, x49,
      x50, x51, x52, x53, x54, x55, x56, x57, x58, x59, x60, x61, x62, x63, x64, x65, x66, x67, x68, x69, x70, x71, x72,
      x73, x74, x75, x76, x77, x78, x79, x80, x81, x82, x83, x84, x85, AV.func (Fn.yield 9) [] [],
      AV.agg
       [AV.int IntKind.i64 m0, AV.bool m1, AV.bool m2, AV.bool m3, AV.int IntKind.i64 m4, AV.int IntKind.i64 m5,
        AV.int IntKind.i64 m6, AV.int IntKind.i64 m7, m8, m9, m10, AV.int IntKind.i64 m11, m12, m13],
      AV.bool ho, AV.bool b, AV.bool !b, x91]
     H)
    (fun _ => K Ex.normal
     [AV.func (Fn.yield 9) [] [], AV.ptr 8 0, AV.ptr 5 0, AV.ptr 6 0, AV.ptr 7 0, x5, AV.int IntKind.i64 ct,
      AV.int IntKind.i64 cr, AV.bool up, AV.bool ho, AV.int IntKind.i64 i, AV.ptr 10 0, x12, x13, l,
      AV.int IntKind.i64 (↑l.listOf.length : Int), AV.int IntKind.i64 i, x17, x18, x19, x20, x21, x22, x23, x24, x25, x26,
      x27, x28, x29, x30, x31, x32, x33, x34, x35, x36, x37, x38, x39, x40, x41, x42, x43, x44, x45, x46, x47, x48, x49,
      x50, x51, x52, x53, x54, x55, x56, x57, x58, x59, x60, x61, x62, x63, x64, x65, x66, x67, x68, x69, x70, x71, x72,
      x73, x74, x75, x76, x77, x78, x79, x80, x81, x82, x83, x84, x85, AV.func (Fn.yield 9) [] [],
      AV.agg
       [AV.int IntKind.i64 m0, AV.bool m1, AV.bool m2, AV.bool m3, AV.int IntKind.i64 m4, AV.int IntKind.i64 m5,
        AV.int IntKind.i64 m6, AV.int IntKind.i64 m7, m8, m9, m10, AV.int IntKind.i64 m11, m12, m13],
      AV.bool ho, AV.bool b, AV.bool !b, x91]
     H) := by kernel_rfl
end Go.Proofs.Ytoagnbpmoihojaa

/- Few: a state is small. -/
import Derived.Test.YtoagnbpmoihojaaFenLaw
set_option maxRecDepth 100000
set_option linter.unusedSimpArgs false
set_option linter.unusedVariables false
namespace Go.Proofs.Ytoagnbpmoihojaa
open Go.Sx

noncomputable def fewO : Code := subC (bodyOf Try.f22) [1, 1, 0, 1, 0, 0]
def fewR : List Nat := [1, 0, 0, 1, 1, 1, 0]
noncomputable def fewI : Code := subC fewO [1, 0, 0, 1, 1, 1, 0, 0]
noncomputable def fewH (a0 a1 a2 a3 : Int) (a4 : AV) : AH := ⟨[.cells [.int .i64 a0, .int .i64 a1, .int .i64 a2, .int .i64 a3, a4]], []⟩
noncomputable def fewHI (a0 a1 a2 a3 : Int) (a4 : AV) (b0 b1 b2 b3 : Int) (b4 b5 : AV) (b6 b7 : Int) (b8 : Bool) (b9 : AV) : AH := ⟨[.cells [.int .i64 a0, .int .i64 a1, .int .i64 a2, .int .i64 a3, a4], .cells [.int .i64 b0, .int .i64 b1, .int .i64 b2, .int .i64 b3, b4, b5, .int .i64 b6, .int .i64 b7, .bool b8, b9]], []⟩
theorem few_in {R : Type} (fuel k : Nat) (a0 a1 a2 a3 : Int) (a4 : AV) (b0 b1 b2 b3 : Int) (b4 b5 : AV) (b6 b7 : Int) (b8 : Bool) (b9 : AV) (i j : Int) (b : Bool) (x10 x11 x12 x13 x14 x15 x16 x17 x18 x19 x20 x21 x22 x23 x24 x25 x26 x27 x28 x29 x30 x31 x32 x33 x34 x35 x36 x37 x38 x39 x40 x41 x42 x43 x44 x45 x46 x47 x48 x49 x50 x51 x52 x53 x54 : AV) (K : Ex → List AV → AH → Option R) :
  loopC Try.D (cF fuel) fuel fewI (k + 1) [.agg [.int .i64 a0, .int .i64 a1, .int .i64 a2, .int .i64 a3, a4], .ptr 0 0, .bool false, .int .i64 i, .ptr 1 0, .int .i64 j, .ptr 0 4, a4, .int .i64 (a4.listOf.length : Int), .bool b, x10, x11, x12, x13, x14, x15, x16, x17, x18, x19, x20, x21, x22, x23, x24, x25, x26, x27, x28, x29, x30, x31, x32, x33, x34, x35, x36, x37, x38, x39, x40, x41, x42, x43, x44, x45, x46, x47, x48, x49, x50, x51, x52, x53, x54] (fewHI a0 a1 a2 a3 a4 b0 b1 b2 b3 b4 b5 b6 b7 b8 b9) K =
  br (AV.listN 8 b9)
    (fun _ => br (decide (j < (↑b9.listOf.length : Int)))
     (fun _ => br (AV.listN 8 b9 && (decide ((0 : Int) ≤ j) && decide (j < (↑b9.listOf.length : Int))))
      (fun _ => (match b9.listOf[j.toNat]? with
       | some u3 => br (u3.isAgg &&
     fitL
      [Sh.int IntKind.u8, Sh.int IntKind.i64, Sh.int IntKind.i64, Sh.int IntKind.i64, Sh.int IntKind.i64,
       Sh.int IntKind.i64, Sh.int IntKind.i64, Sh.any]
      u3.aggOf)
        (fun _ => br ((shS Sh.any (hdV (tlV (tlV (tlV (tlV (tlV (tlV (tlV u3.aggOf))))))))).isOne)
         (fun _ => br (AV.listN 1 (shS Sh.any (hdV (tlV (tlV (tlV (tlV (tlV (tlV (tlV u3.aggOf))))))))))
          (fun _ => br (decide ((↑(shS Sh.any (hdV (tlV (tlV (tlV (tlV (tlV (tlV (tlV u3.aggOf))))))))).listOf.length : Int) > (20 : Int)))
           (fun _ => K Ex.ret
     [AV.agg [AV.int IntKind.i64 a0, AV.int IntKind.i64 a1, AV.int IntKind.i64 a2, AV.int IntKind.i64 a3, a4], AV.ptr 0 0,
      AV.bool false, AV.int IntKind.i64 i, AV.ptr 1 0, AV.int IntKind.i64 j, AV.ptr 0 4, resetV a4 a4,
      AV.int IntKind.i64 (↑a4.listOf.length : Int), AV.bool b, resetV x10 x10, resetV x11 x11, resetV x12 x12,
      resetV x13 x13, resetV x14 x14, resetV x15 x15, resetV x16 x16, resetV x17 x17, resetV x18 x18, resetV x19 x19,
      resetV x20 x20, resetV x21 x21, resetV x22 x22, resetV x23 x23, resetV x24 x24, resetV x25 x25, resetV x26 x26,
      resetV x27 x27, resetV x28 x28, resetV x29 x29, resetV x30 x30, resetV x31 x31, resetV x32 x32, resetV x33 x33,
      resetV x34 x34, resetV x35 x35, resetV x36 x36, resetV x37 x37, resetV x38 x38, resetV x39 x39,
      resetV x40 (AV.int IntKind.i64 j), resetV x41 (AV.ptr 1 9), resetV x42 b9,
      resetV x43 (AV.int IntKind.i64 (↑b9.listOf.length : Int)),
      resetV x44 (AV.bool (decide (j < (↑b9.listOf.length : Int)))), resetV x45 x45, resetV x46 x46,
      resetV x47 (AV.ptr 1 9), resetV x48 b9, resetV x49 (AV.int IntKind.i64 j),
      resetV x50
       (AV.agg
         (shL
          [Sh.int IntKind.u8, Sh.int IntKind.i64, Sh.int IntKind.i64, Sh.int IntKind.i64, Sh.int IntKind.i64,
           Sh.int IntKind.i64, Sh.int IntKind.i64, Sh.any]
          u3.aggOf)).rop,
      resetV x51 (shS Sh.any (hdV (tlV (tlV (tlV (tlV (tlV (tlV (tlV u3.aggOf))))))))).rop,
      resetV x52 (shS Sh.any (hdV (tlV (tlV (tlV (tlV (tlV (tlV (tlV u3.aggOf))))))))),
      resetV x53
       (AV.int IntKind.i64 (↑(shS Sh.any (hdV (tlV (tlV (tlV (tlV (tlV (tlV (tlV u3.aggOf))))))))).listOf.length : Int)),
      resetV x54
       (AV.bool
        (decide
         ((↑(shS Sh.any (hdV (tlV (tlV (tlV (tlV (tlV (tlV (tlV u3.aggOf))))))))).listOf.length : Int) >
          (20 : Int))))]
     {
      objs :=
       [AObj.cells [AV.int IntKind.i64 a0, AV.int IntKind.i64 a1, AV.int IntKind.i64 a2, AV.int IntKind.i64 a3, a4],
        AObj.cells
         [AV.int IntKind.i64 b0, AV.int IntKind.i64 b1, AV.int IntKind.i64 b2, AV.int IntKind.i64 b3, b4, b5,
          AV.int IntKind.i64 b6, AV.int IntKind.i64 b7, AV.bool b8, b9]],
      toks := [] })
           (fun _ => loopC Try.D (cF fuel) fuel fewI k [AV.agg [AV.int IntKind.i64 a0, AV.int IntKind.i64 a1, AV.int IntKind.i64 a2, AV.int IntKind.i64 a3, a4], AV.ptr 0 0, AV.bool false, AV.int IntKind.i64 i, AV.ptr 1 0, AV.int IntKind.i64 (IntKind.i64.wrap (j + (1 : Int))), AV.ptr 0 4, resetV a4 a4, AV.int IntKind.i64 (↑a4.listOf.length : Int), AV.bool b, resetV x10 x10, resetV x11 x11, resetV x12 x12, resetV x13 x13, resetV x14 x14, resetV x15 x15, resetV x16 x16, resetV x17 x17, resetV x18 x18, resetV x19 x19, resetV x20 x20, resetV x21 x21, resetV x22 x22, resetV x23 x23, resetV x24 x24, resetV x25 x25, resetV x26 x26, resetV x27 x27, resetV x28 x28, resetV x29 x29, resetV x30 x30, resetV x31 x31, resetV x32 x32, resetV x33 x33, resetV x34 x34, resetV x35 x35, resetV x36 x36, resetV x37 x37, resetV x38 x38, resetV x39 x39, resetV x40 (AV.int IntKind.i64 j), resetV x41 (AV.ptr 1 9), resetV x42 b9, resetV x43 (AV.int IntKind.i64 (↑b9.listOf.length : Int)), resetV x44 (AV.bool (decide (j < (↑b9.listOf.length : Int)))), resetV x45 (AV.int IntKind.i64 j), resetV x46 (AV.int IntKind.i64 (IntKind.i64.wrap (j + (1 : Int)))), resetV x47 (AV.ptr 1 9), resetV x48 b9, resetV x49 (AV.int IntKind.i64 j), resetV x50 (AV.agg (shL [Sh.int IntKind.u8, Sh.int IntKind.i64, Sh.int IntKind.i64, Sh.int IntKind.i64, Sh.int IntKind.i64, Sh.int IntKind.i64, Sh.int IntKind.i64, Sh.any] u3.aggOf)).rop, resetV x51 (shS Sh.any (hdV (tlV (tlV (tlV (tlV (tlV (tlV (tlV u3.aggOf))))))))).rop, resetV x52 (shS Sh.any (hdV (tlV (tlV (tlV (tlV (tlV (tlV (tlV u3.aggOf))))))))), resetV x53 (AV.int IntKind.i64 (↑(shS Sh.any (hdV (tlV (tlV (tlV (tlV (tlV (tlV (tlV u3.aggOf))))))))).listOf.length : Int)), resetV x54 (AV.bool (decide ((↑(shS Sh.any (hdV (tlV (tlV (tlV (tlV (tlV (tlV (tlV u3.aggOf))))))))).listOf.length : Int) > (20 : Int))))] { objs := [AObj.cells [AV.int IntKind.i64 a0, AV.int IntKind.i64 a1, AV.int IntKind.i64 a2, AV.int IntKind.i64 a3, a4], AObj.cells [AV.int IntKind.i64 b0, AV.int IntKind.i64 b1, AV.int IntKind.i64 b2, AV.int IntKind.i64 b3, b4, b5, AV.int IntKind.i64 b6, AV.int IntKind.i64 b7, AV.bool b8, b9]], toks := [] } K))
          (fun _ => none))
         (fun _ => none))
        (fun _ => none)
       | none => none))
      (fun _ => none))
     (fun _ => K (Ex.exit 2)
     [AV.agg [AV.int IntKind.i64 a0, AV.int IntKind.i64 a1, AV.int IntKind.i64 a2, AV.int IntKind.i64 a3, a4], AV.ptr 0 0,
      AV.bool false, AV.int IntKind.i64 i, AV.ptr 1 0, AV.int IntKind.i64 j, AV.ptr 0 4, resetV a4 a4,
      AV.int IntKind.i64 (↑a4.listOf.length : Int), AV.bool b, resetV x10 x10, resetV x11 x11, resetV x12 x12,
      resetV x13 x13, resetV x14 x14, resetV x15 x15, resetV x16 x16, resetV x17 x17, resetV x18 x18, resetV x19 x19,
      resetV x20 x20, resetV x21 x21, resetV x22 x22, resetV x23 x23, resetV x24 x24, resetV x25 x25, resetV x26 x26,
      resetV x27 x27, resetV x28 x28, resetV x29 x29, resetV x30 x30, resetV x31 x31, resetV x32 x32, resetV x33 x33,
      resetV x34 x34, resetV x35 x35, resetV x36 x36, resetV x37 x37, resetV x38 x38, resetV x39 x39,
      resetV x40 (AV.int IntKind.i64 j), resetV x41 (AV.ptr 1 9), resetV x42 b9,
      resetV x43 (AV.int IntKind.i64 (↑b9.listOf.length : Int)),
      resetV x44 (AV.bool (decide (j < (↑b9.listOf.length : Int)))), resetV x45 x45, resetV x46 x46, resetV x47 x47,
      resetV x48 x48, resetV x49 x49, resetV x50 x50, resetV x51 x51, resetV x52 x52, resetV x53 x53, resetV x54 x54]
     {
      objs :=
       [AObj.cells [AV.int IntKind.i64 a0, AV.int IntKind.i64 a1, AV.int IntKind.i64 a2, AV.int IntKind.i64 a3, a4],
        AObj.cells
         [AV.int IntKind.i64 b0, AV.int IntKind.i64 b1, AV.int IntKind.i64 b2, AV.int IntKind.i64 b3, b4, b5,
          AV.int IntKind.i64 b6, AV.int IntKind.i64 b7, AV.bool b8, b9]],
      toks := [] }))
    (fun _ => none) := by kernel_rfl
theorem few_out {R : Type} (fuel k : Nat) (a0 a1 a2 a3 : Int) (a4 : AV) (i : Int) (b : Bool) (K : Ex → List AV → AH → Option R) :
  loopC Try.D (cF fuel) fuel fewO (k + 1) [.agg [.int .i64 a0, .int .i64 a1, .int .i64 a2, .int .i64 a3, a4], .ptr 0 0, .bool false, .int .i64 i, .top, .top, .ptr 0 4, a4, .int .i64 (a4.listOf.length : Int), .bool b, .top, .top, .top, .top, .top, .top, .top, .top, .top, .top, .top, .top, .top, .top, .top, .top, .top, .top, .top, .top, .top, .top, .top, .top, .top, .top, .top, .top, .top, .top, .top, .top, .top, .top, .top, .top, .top, .top, .top, .top, .top, .top, .top, .top, .top] (fewH a0 a1 a2 a3 a4) K =
  br (AV.listN 10 a4)
    (fun _ => br (decide (i < (↑a4.listOf.length : Int)))
     (fun _ => br (AV.listN 10 a4 && (decide ((0 : Int) ≤ i) && decide (i < (↑a4.listOf.length : Int))))
      (fun _ => (match a4.listOf[i.toNat]? with
       | some u3 => br (u3.isAgg &&
     fitL
      [Sh.int IntKind.i64, Sh.int IntKind.i64, Sh.int IntKind.i64, Sh.int IntKind.i64, Sh.any, Sh.any, Sh.int IntKind.i64,
       Sh.int IntKind.i64, Sh.bool, Sh.any]
      u3.aggOf)
        (fun _ => br (AV.listN 8 (shS Sh.any (hdV (tlV (tlV (tlV (tlV (tlV (tlV (tlV (tlV (tlV u3.aggOf))))))))))))
         (fun _ => br (decide
     ((↑(shS Sh.any (hdV (tlV (tlV (tlV (tlV (tlV (tlV (tlV (tlV (tlV u3.aggOf))))))))))).listOf.length : Int) >
      (5 : Int)))
          (fun _ => K Ex.ret
     [AV.agg [AV.int IntKind.i64 a0, AV.int IntKind.i64 a1, AV.int IntKind.i64 a2, AV.int IntKind.i64 a3, a4], AV.ptr 0 0,
      AV.bool false, AV.int IntKind.i64 i, AV.top, AV.top, AV.ptr 0 4, resetV a4 a4,
      AV.int IntKind.i64 (↑a4.listOf.length : Int), AV.bool b, AV.top, AV.top, AV.top, AV.top, AV.top, AV.top, AV.top,
      AV.top, AV.top, AV.top, AV.top, AV.top, AV.top, AV.top, AV.top, AV.top, AV.top, AV.top, AV.top, AV.top, AV.top,
      AV.top, AV.top, AV.top, AV.top, AV.top, AV.top, AV.top, AV.top, AV.top, AV.top, AV.top, AV.top, AV.top, AV.top,
      AV.top, AV.top, AV.top, AV.top, AV.top, AV.top, AV.top, AV.top, AV.top, AV.top]
     {
      objs :=
       [AObj.cells [AV.int IntKind.i64 a0, AV.int IntKind.i64 a1, AV.int IntKind.i64 a2, AV.int IntKind.i64 a3, a4],
        AObj.cells
         [AV.int IntKind.i64 (hdV u3.aggOf).numOf, AV.int IntKind.i64 (hdV (tlV u3.aggOf)).numOf,
          AV.int IntKind.i64 (hdV (tlV (tlV u3.aggOf))).numOf,
          AV.int IntKind.i64 (hdV (tlV (tlV (tlV u3.aggOf)))).numOf,
          shS Sh.any (hdV (tlV (tlV (tlV (tlV u3.aggOf))))), shS Sh.any (hdV (tlV (tlV (tlV (tlV (tlV u3.aggOf)))))),
          AV.int IntKind.i64 (hdV (tlV (tlV (tlV (tlV (tlV (tlV u3.aggOf))))))).numOf,
          AV.int IntKind.i64 (hdV (tlV (tlV (tlV (tlV (tlV (tlV (tlV u3.aggOf)))))))).numOf,
          AV.bool (hdV (tlV (tlV (tlV (tlV (tlV (tlV (tlV (tlV u3.aggOf))))))))).boolOf,
          shS Sh.any (hdV (tlV (tlV (tlV (tlV (tlV (tlV (tlV (tlV (tlV u3.aggOf))))))))))]],
      toks := [] })
          (fun _ => br (AV.listN 6 (shS Sh.any (hdV (tlV (tlV (tlV (tlV (tlV u3.aggOf))))))))
           (fun _ => br (decide ((↑(shS Sh.any (hdV (tlV (tlV (tlV (tlV (tlV u3.aggOf))))))).listOf.length : Int) > (5 : Int)))
            (fun _ => K Ex.ret
     [AV.agg [AV.int IntKind.i64 a0, AV.int IntKind.i64 a1, AV.int IntKind.i64 a2, AV.int IntKind.i64 a3, a4], AV.ptr 0 0,
      AV.bool false, AV.int IntKind.i64 i, AV.top, AV.top, AV.ptr 0 4, resetV a4 a4,
      AV.int IntKind.i64 (↑a4.listOf.length : Int), AV.bool b, AV.top, AV.top, AV.top, AV.top, AV.top, AV.top, AV.top,
      AV.top, AV.top, AV.top, AV.top, AV.top, AV.top, AV.top, AV.top, AV.top, AV.top, AV.top, AV.top, AV.top, AV.top,
      AV.top, AV.top, AV.top, AV.top, AV.top, AV.top, AV.top, AV.top, AV.top, AV.top, AV.top, AV.top, AV.top, AV.top,
      AV.top, AV.top, AV.top, AV.top, AV.top, AV.top, AV.top, AV.top, AV.top, AV.top]
     {
      objs :=
       [AObj.cells [AV.int IntKind.i64 a0, AV.int IntKind.i64 a1, AV.int IntKind.i64 a2, AV.int IntKind.i64 a3, a4],
        AObj.cells
         [AV.int IntKind.i64 (hdV u3.aggOf).numOf, AV.int IntKind.i64 (hdV (tlV u3.aggOf)).numOf,
          AV.int IntKind.i64 (hdV (tlV (tlV u3.aggOf))).numOf,
          AV.int IntKind.i64 (hdV (tlV (tlV (tlV u3.aggOf)))).numOf,
          shS Sh.any (hdV (tlV (tlV (tlV (tlV u3.aggOf))))), shS Sh.any (hdV (tlV (tlV (tlV (tlV (tlV u3.aggOf)))))),
          AV.int IntKind.i64 (hdV (tlV (tlV (tlV (tlV (tlV (tlV u3.aggOf))))))).numOf,
          AV.int IntKind.i64 (hdV (tlV (tlV (tlV (tlV (tlV (tlV (tlV u3.aggOf)))))))).numOf,
          AV.bool (hdV (tlV (tlV (tlV (tlV (tlV (tlV (tlV (tlV u3.aggOf))))))))).boolOf,
          shS Sh.any (hdV (tlV (tlV (tlV (tlV (tlV (tlV (tlV (tlV (tlV u3.aggOf))))))))))]],
      toks := [] })
            (fun _ => br (AV.listN 1 (shS Sh.any (hdV (tlV (tlV (tlV (tlV u3.aggOf)))))))
             (fun _ => br (decide ((↑(shS Sh.any (hdV (tlV (tlV (tlV (tlV u3.aggOf)))))).listOf.length : Int) > (9 : Int)))
              (fun _ => K Ex.ret
     [AV.agg [AV.int IntKind.i64 a0, AV.int IntKind.i64 a1, AV.int IntKind.i64 a2, AV.int IntKind.i64 a3, a4], AV.ptr 0 0,
      AV.bool false, AV.int IntKind.i64 i, AV.top, AV.top, AV.ptr 0 4, resetV a4 a4,
      AV.int IntKind.i64 (↑a4.listOf.length : Int), AV.bool b, AV.top, AV.top, AV.top, AV.top, AV.top, AV.top, AV.top,
      AV.top, AV.top, AV.top, AV.top, AV.top, AV.top, AV.top, AV.top, AV.top, AV.top, AV.top, AV.top, AV.top, AV.top,
      AV.top, AV.top, AV.top, AV.top, AV.top, AV.top, AV.top, AV.top, AV.top, AV.top, AV.top, AV.top, AV.top, AV.top,
      AV.top, AV.top, AV.top, AV.top, AV.top, AV.top, AV.top, AV.top, AV.top, AV.top]
     {
      objs :=
       [AObj.cells [AV.int IntKind.i64 a0, AV.int IntKind.i64 a1, AV.int IntKind.i64 a2, AV.int IntKind.i64 a3, a4],
        AObj.cells
         [AV.int IntKind.i64 (hdV u3.aggOf).numOf, AV.int IntKind.i64 (hdV (tlV u3.aggOf)).numOf,
          AV.int IntKind.i64 (hdV (tlV (tlV u3.aggOf))).numOf,
          AV.int IntKind.i64 (hdV (tlV (tlV (tlV u3.aggOf)))).numOf,
          shS Sh.any (hdV (tlV (tlV (tlV (tlV u3.aggOf))))), shS Sh.any (hdV (tlV (tlV (tlV (tlV (tlV u3.aggOf)))))),
          AV.int IntKind.i64 (hdV (tlV (tlV (tlV (tlV (tlV (tlV u3.aggOf))))))).numOf,
          AV.int IntKind.i64 (hdV (tlV (tlV (tlV (tlV (tlV (tlV (tlV u3.aggOf)))))))).numOf,
          AV.bool (hdV (tlV (tlV (tlV (tlV (tlV (tlV (tlV (tlV u3.aggOf))))))))).boolOf,
          shS Sh.any (hdV (tlV (tlV (tlV (tlV (tlV (tlV (tlV (tlV (tlV u3.aggOf))))))))))]],
      toks := [] })
              (fun _ => loopC Try.D (cF fuel) fuel fewI fuel [AV.agg [AV.int IntKind.i64 a0, AV.int IntKind.i64 a1, AV.int IntKind.i64 a2, AV.int IntKind.i64 a3, a4], AV.ptr 0 0, AV.bool false, AV.int IntKind.i64 i, AV.ptr 1 0, AV.int IntKind.i64 ((0 : Int)), AV.ptr 0 4, a4, AV.int IntKind.i64 (↑a4.listOf.length : Int), AV.bool b, AV.int IntKind.i64 i, AV.ptr 0 4, a4, AV.int IntKind.i64 (↑a4.listOf.length : Int), AV.bool (decide (i < (↑a4.listOf.length : Int))), AV.top, AV.top, AV.ptr 0 4, a4, AV.int IntKind.i64 i, (AV.agg (shL [Sh.int IntKind.i64, Sh.int IntKind.i64, Sh.int IntKind.i64, Sh.int IntKind.i64, Sh.any, Sh.any, Sh.int IntKind.i64, Sh.int IntKind.i64, Sh.bool, Sh.any] u3.aggOf)).rop, AV.agg (shL [Sh.int IntKind.i64, Sh.int IntKind.i64, Sh.int IntKind.i64, Sh.int IntKind.i64, Sh.any, Sh.any, Sh.int IntKind.i64, Sh.int IntKind.i64, Sh.bool, Sh.any] u3.aggOf), AV.ptr 1 9, shS Sh.any (hdV (tlV (tlV (tlV (tlV (tlV (tlV (tlV (tlV (tlV u3.aggOf)))))))))), AV.int IntKind.i64 (↑(shS Sh.any (hdV (tlV (tlV (tlV (tlV (tlV (tlV (tlV (tlV (tlV u3.aggOf))))))))))).listOf.length : Int), AV.bool (decide ((↑(shS Sh.any (hdV (tlV (tlV (tlV (tlV (tlV (tlV (tlV (tlV (tlV u3.aggOf))))))))))).listOf.length : Int) > (5 : Int))), AV.bool false, AV.ptr 1 0, AV.ptr 1 5, shS Sh.any (hdV (tlV (tlV (tlV (tlV (tlV u3.aggOf)))))), AV.int IntKind.i64 (↑(shS Sh.any (hdV (tlV (tlV (tlV (tlV (tlV u3.aggOf))))))).listOf.length : Int), AV.bool (decide ((↑(shS Sh.any (hdV (tlV (tlV (tlV (tlV (tlV u3.aggOf))))))).listOf.length : Int) > (5 : Int))), AV.bool (decide ((↑(shS Sh.any (hdV (tlV (tlV (tlV (tlV (tlV u3.aggOf))))))).listOf.length : Int) > (5 : Int))), AV.bool false, AV.ptr 1 0, AV.ptr 1 4, shS Sh.any (hdV (tlV (tlV (tlV (tlV u3.aggOf))))), AV.int IntKind.i64 (↑(shS Sh.any (hdV (tlV (tlV (tlV (tlV u3.aggOf)))))).listOf.length : Int), AV.bool (decide ((↑(shS Sh.any (hdV (tlV (tlV (tlV (tlV u3.aggOf)))))).listOf.length : Int) > (9 : Int))), AV.bool (decide ((↑(shS Sh.any (hdV (tlV (tlV (tlV (tlV u3.aggOf)))))).listOf.length : Int) > (9 : Int))), AV.top, AV.top, AV.top, AV.top, AV.top, AV.top, AV.top, AV.top, AV.top, AV.top, AV.top, AV.top, AV.top, AV.top, AV.top] { objs := [AObj.cells [AV.int IntKind.i64 a0, AV.int IntKind.i64 a1, AV.int IntKind.i64 a2, AV.int IntKind.i64 a3, a4], AObj.cells [AV.int IntKind.i64 (hdV u3.aggOf).numOf, AV.int IntKind.i64 (hdV (tlV u3.aggOf)).numOf, AV.int IntKind.i64 (hdV (tlV (tlV u3.aggOf))).numOf, AV.int IntKind.i64 (hdV (tlV (tlV (tlV u3.aggOf)))).numOf, shS Sh.any (hdV (tlV (tlV (tlV (tlV u3.aggOf))))), shS Sh.any (hdV (tlV (tlV (tlV (tlV (tlV u3.aggOf)))))), AV.int IntKind.i64 (hdV (tlV (tlV (tlV (tlV (tlV (tlV u3.aggOf))))))).numOf, AV.int IntKind.i64 (hdV (tlV (tlV (tlV (tlV (tlV (tlV (tlV u3.aggOf)))))))).numOf, AV.bool (hdV (tlV (tlV (tlV (tlV (tlV (tlV (tlV (tlV u3.aggOf))))))))).boolOf, shS Sh.any (hdV (tlV (tlV (tlV (tlV (tlV (tlV (tlV (tlV (tlV u3.aggOf))))))))))]], toks := [] } (kontI Try.D (cF fuel) fuel fewO fewR (stepK Try.D (cF fuel) fuel fewO k [.agg [.int .i64 a0, .int .i64 a1, .int .i64 a2, .int .i64 a3, a4], .ptr 0 0, .bool false, .int .i64 i, .top, .top, .ptr 0 4, a4, .int .i64 (a4.listOf.length : Int), .bool b, .top, .top, .top, .top, .top, .top, .top, .top, .top, .top, .top, .top, .top, .top, .top, .top, .top, .top, .top, .top, .top, .top, .top, .top, .top, .top, .top, .top, .top, .top, .top, .top, .top, .top, .top, .top, .top, .top, .top, .top, .top, .top, .top, .top, .top] (fewH a0 a1 a2 a3 a4) K))))
             (fun _ => none)))
           (fun _ => none)))
         (fun _ => none))
        (fun _ => none)
       | none => none))
      (fun _ => none))
     (fun _ => K (Ex.exit 0)
     [AV.agg [AV.int IntKind.i64 a0, AV.int IntKind.i64 a1, AV.int IntKind.i64 a2, AV.int IntKind.i64 a3, a4], AV.ptr 0 0,
      AV.bool false, AV.int IntKind.i64 i, AV.top, AV.top, AV.ptr 0 4, resetV a4 a4,
      AV.int IntKind.i64 (↑a4.listOf.length : Int), AV.bool b, AV.top, AV.top, AV.top, AV.top, AV.top, AV.top, AV.top,
      AV.top, AV.top, AV.top, AV.top, AV.top, AV.top, AV.top, AV.top, AV.top, AV.top, AV.top, AV.top, AV.top, AV.top,
      AV.top, AV.top, AV.top, AV.top, AV.top, AV.top, AV.top, AV.top, AV.top, AV.top, AV.top, AV.top, AV.top, AV.top,
      AV.top, AV.top, AV.top, AV.top, AV.top, AV.top, AV.top, AV.top, AV.top, AV.top]
     {
      objs :=
       [AObj.cells [AV.int IntKind.i64 a0, AV.int IntKind.i64 a1, AV.int IntKind.i64 a2, AV.int IntKind.i64 a3, a4]],
      toks := [] }))
    (fun _ => none) := by kernel_rfl
theorem few_post {R : Type} (fuel k : Nat) (a0 a1 a2 a3 : Int) (a4 : AV) (b0 b1 b2 b3 : Int) (b4 b5 : AV) (b6 b7 : Int) (b8 : Bool) (b9 : AV) (i j : Int) (b : Bool) (x10 x11 x12 x13 x14 x15 x16 x17 x18 x19 x20 x21 x22 x23 x24 x25 x26 x27 x28 x29 x30 x31 x32 x33 x34 x35 x36 x37 x38 x39 x40 x41 x42 x43 x44 x45 x46 x47 x48 x49 x50 x51 x52 x53 x54 : AV) (K : Ex → List AV → AH → Option R) :
  kontI Try.D (cF fuel) fuel fewO fewR (stepK Try.D (cF fuel) fuel fewO k [.agg [.int .i64 a0, .int .i64 a1, .int .i64 a2, .int .i64 a3, a4], .ptr 0 0, .bool false, .int .i64 i, .top, .top, .ptr 0 4, a4, .int .i64 (a4.listOf.length : Int), .bool b, .top, .top, .top, .top, .top, .top, .top, .top, .top, .top, .top, .top, .top, .top, .top, .top, .top, .top, .top, .top, .top, .top, .top, .top, .top, .top, .top, .top, .top, .top, .top, .top, .top, .top, .top, .top, .top, .top, .top, .top, .top, .top, .top, .top, .top] (fewH a0 a1 a2 a3 a4) K) (.exit 2) [.agg [.int .i64 a0, .int .i64 a1, .int .i64 a2, .int .i64 a3, a4], .ptr 0 0, .bool false, .int .i64 i, .ptr 1 0, .int .i64 j, .ptr 0 4, a4, .int .i64 (a4.listOf.length : Int), .bool b, x10, x11, x12, x13, x14, x15, x16, x17, x18, x19, x20, x21, x22, x23, x24, x25, x26, x27, x28, x29, x30, x31, x32, x33, x34, x35, x36, x37, x38, x39, x40, x41, x42, x43, x44, x45, x46, x47, x48, x49, x50, x51, x52, x53, x54] (fewHI a0 a1 a2 a3 a4 b0 b1 b2 b3 b4 b5 b6 b7 b8 b9) =
  br (belowO 1 0 [AObj.cells [AV.int IntKind.i64 a0, AV.int IntKind.i64 a1, AV.int IntKind.i64 a2, AV.int IntKind.i64 a3, a4]])
    (fun _ => loopC Try.D (cF fuel) fuel fewO k [cutV 1 0 (AV.agg [AV.int IntKind.i64 a0, AV.int IntKind.i64 a1, AV.int IntKind.i64 a2, AV.int IntKind.i64 a3, a4]), AV.ptr 0 0, AV.bool false, AV.int IntKind.i64 (IntKind.i64.wrap (i + (1 : Int))), AV.top, AV.top, AV.ptr 0 4, cutV 1 0 (resetV a4 a4), AV.int IntKind.i64 (↑a4.listOf.length : Int), AV.bool b, AV.top, AV.top, AV.top, AV.top, AV.top, AV.top, AV.top, AV.top, AV.top, AV.top, AV.top, AV.top, AV.top, AV.top, AV.top, AV.top, AV.top, AV.top, AV.top, AV.top, AV.top, AV.top, AV.top, AV.top, AV.top, AV.top, AV.top, AV.top, AV.top, AV.top, AV.top, AV.top, AV.top, AV.top, AV.top, AV.top, AV.top, AV.top, AV.top, AV.top, AV.top, AV.top, AV.top, AV.top, AV.top] { objs := [AObj.cells [AV.int IntKind.i64 a0, AV.int IntKind.i64 a1, AV.int IntKind.i64 a2, AV.int IntKind.i64 a3, a4]], toks := [] } K)
    (fun _ => none) := by kernel_rfl
theorem few_pre {R : Type} (fuel : Nat) (a0 a1 a2 a3 : Int) (a4 : AV) (K : AV → AH → Option R) :
  runI Try.D (cF fuel) fuel Try.f22 [.agg [.int .i64 a0, .int .i64 a1, .int .i64 a2, .int .i64 a3, a4]] ⟨[], []⟩ K =
  br (AV.listN 10 a4)
    (fun _ => br (decide ((↑a4.listOf.length : Int) > (9 : Int)))
     (fun _ => K (AV.bool false)
     {
      objs :=
       [AObj.cells [AV.int IntKind.i64 a0, AV.int IntKind.i64 a1, AV.int IntKind.i64 a2, AV.int IntKind.i64 a3, a4]],
      toks := [] })
     (fun _ => loopC Try.D (cF fuel) fuel fewO fuel [AV.agg [AV.int IntKind.i64 a0, AV.int IntKind.i64 a1, AV.int IntKind.i64 a2, AV.int IntKind.i64 a3, a4], AV.ptr 0 0, AV.bool false, AV.int IntKind.i64 ((0 : Int)), AV.top, AV.top, AV.ptr 0 4, a4, AV.int IntKind.i64 (↑a4.listOf.length : Int), AV.bool (decide ((↑a4.listOf.length : Int) > (9 : Int))), AV.top, AV.top, AV.top, AV.top, AV.top, AV.top, AV.top, AV.top, AV.top, AV.top, AV.top, AV.top, AV.top, AV.top, AV.top, AV.top, AV.top, AV.top, AV.top, AV.top, AV.top, AV.top, AV.top, AV.top, AV.top, AV.top, AV.top, AV.top, AV.top, AV.top, AV.top, AV.top, AV.top, AV.top, AV.top, AV.top, AV.top, AV.top, AV.top, AV.top, AV.top, AV.top, AV.top, AV.top, AV.top] { objs := [AObj.cells [AV.int IntKind.i64 a0, AV.int IntKind.i64 a1, AV.int IntKind.i64 a2, AV.int IntKind.i64 a3, a4]], toks := [] } (kontI Try.D (cF fuel) fuel (bodyOf Try.f22) [1, 1, 0, 1, 0] (endI Try.D Try.f22 K))))
    (fun _ => none) := by kernel_rfl
theorem few_end {R : Type} (fuel : Nat) (H : AH) (x0 x1 x2 x3 x4 x5 x6 x7 x8 x9 x10 x11 x12 x13 x14 x15 x16 x17 x18 x19 x20 x21 x22 x23 x24 x25 x26 x27 x28 x29 x30 x31 x32 x33 x34 x35 x36 x37 x38 x39 x40 x41 x42 x43 x44 x45 x46 x47 x48 x49 x50 x51 x52 x53 x54 : AV) (K : AV → AH → Option R) :
  kontI Try.D (cF fuel) fuel (bodyOf Try.f22) [1, 1, 0, 1, 0] (endI Try.D Try.f22 K) (.exit 0) [x0, x1, x2, x3, x4, x5, x6, x7, x8, x9, x10, x11, x12, x13, x14, x15, x16, x17, x18, x19, x20, x21, x22, x23, x24, x25, x26, x27, x28, x29, x30, x31, x32, x33, x34, x35, x36, x37, x38, x39, x40, x41, x42, x43, x44, x45, x46, x47, x48, x49, x50, x51, x52, x53, x54] H =
  K (AV.bool true) H := by kernel_rfl
theorem few_ret {R : Type} (fuel : Nat) (H : AH) (x0 x1 x2 x3 x4 x5 x6 x7 x8 x9 x10 x11 x12 x13 x14 x15 x16 x17 x18 x19 x20 x21 x22 x23 x24 x25 x26 x27 x28 x29 x30 x31 x32 x33 x34 x35 x36 x37 x38 x39 x40 x41 x42 x43 x44 x45 x46 x47 x48 x49 x50 x51 x52 x53 x54 : AV) (K : AV → AH → Option R) :
  kontI Try.D (cF fuel) fuel (bodyOf Try.f22) [1, 1, 0, 1, 0] (endI Try.D Try.f22 K) .ret [x0, x1, x2, x3, x4, x5, x6, x7, x8, x9, x10, x11, x12, x13, x14, x15, x16, x17, x18, x19, x20, x21, x22, x23, x24, x25, x26, x27, x28, x29, x30, x31, x32, x33, x34, x35, x36, x37, x38, x39, x40, x41, x42, x43, x44, x45, x46, x47, x48, x49, x50, x51, x52, x53, x54] H =
  K x2 H := by kernel_rfl
theorem few_iret {R : Type} (fuel k : Nat) (s0 : List AV) (H0 H : AH) (x0 x1 x2 x3 x4 x5 x6 x7 x8 x9 x10 x11 x12 x13 x14 x15 x16 x17 x18 x19 x20 x21 x22 x23 x24 x25 x26 x27 x28 x29 x30 x31 x32 x33 x34 x35 x36 x37 x38 x39 x40 x41 x42 x43 x44 x45 x46 x47 x48 x49 x50 x51 x52 x53 x54 : AV) (K : Ex → List AV → AH → Option R) :
  kontI Try.D (cF fuel) fuel fewO fewR (stepK Try.D (cF fuel) fuel fewO k s0 H0 K) .ret [x0, x1, x2, x3, x4, x5, x6, x7, x8, x9, x10, x11, x12, x13, x14, x15, x16, x17, x18, x19, x20, x21, x22, x23, x24, x25, x26, x27, x28, x29, x30, x31, x32, x33, x34, x35, x36, x37, x38, x39, x40, x41, x42, x43, x44, x45, x46, x47, x48, x49, x50, x51, x52, x53, x54] H =
  K Ex.ret
     (outS 2 s0
      [x0, x1, x2, x3, x4, x5, x6, x7, x8, x9, x10, x11, x12, x13, x14, x15, x16, x17, x18, x19, x20, x21, x22, x23, x24,
       x25, x26, x27, x28, x29, x30, x31, x32, x33, x34, x35, x36, x37, x38, x39, x40, x41, x42, x43, x44, x45, x46, x47,
       x48, x49, x50, x51, x52, x53, x54])
     H := by kernel_rfl
-- PROOFS
/-- It answers a bool; true says something. -/
def Good (o : Option AV) (P : Prop) : Prop := ∃ b, o = some (.bool b) ∧ (b = true → P)

theorem gt_true {a b : Nat} (h : a > b) : decide ((a : Int) > (b : Int)) = true := by simp; omega
theorem gt_false {a b : Nat} (h : ¬ a > b) : decide ((a : Int) > (b : Int)) = false := by simp; omega

theorem few_loopI (fuel : Nat) (a0 a1 a2 a3 : Int) {a4 : AV} (ha4 : tyV (.sl 10 dtAlloc) a4) (b : Bool) (b0 b1 b2 b3 : Int) (b4 b5 : AV) (b6 b7 : Int) (b8 : Bool) {b9 : AV} (hb : tyV (.sl 8 dtTask) b9) (i : Int) (K : Ex → List AV → AH → Option AV) (P : Prop)
    (hret : ∀ (j : Int) (x10 x11 x12 x13 x14 x15 x16 x17 x18 x19 x20 x21 x22 x23 x24 x25 x26 x27 x28 x29 x30 x31 x32 x33 x34 x35 x36 x37 x38 x39 x40 x41 x42 x43 x44 x45 x46 x47 x48 x49 x50 x51 x52 x53 x54 : AV), Good (K .ret [.agg [.int .i64 a0, .int .i64 a1, .int .i64 a2, .int .i64 a3, a4], .ptr 0 0, .bool false, .int .i64 i, .ptr 1 0, .int .i64 j, .ptr 0 4, a4, .int .i64 (a4.listOf.length : Int), .bool b, x10, x11, x12, x13, x14, x15, x16, x17, x18, x19, x20, x21, x22, x23, x24, x25, x26, x27, x28, x29, x30, x31, x32, x33, x34, x35, x36, x37, x38, x39, x40, x41, x42, x43, x44, x45, x46, x47, x48, x49, x50, x51, x52, x53, x54] (fewHI a0 a1 a2 a3 a4 b0 b1 b2 b3 b4 b5 b6 b7 b8 b9)) P)
    (hexit : (∀ u ∈ b9.listOf, bnd 100 u = true) → ∀ (j : Int) (x10 x11 x12 x13 x14 x15 x16 x17 x18 x19 x20 x21 x22 x23 x24 x25 x26 x27 x28 x29 x30 x31 x32 x33 x34 x35 x36 x37 x38 x39 x40 x41 x42 x43 x44 x45 x46 x47 x48 x49 x50 x51 x52 x53 x54 : AV), Good (K (.exit 2) [.agg [.int .i64 a0, .int .i64 a1, .int .i64 a2, .int .i64 a3, a4], .ptr 0 0, .bool false, .int .i64 i, .ptr 1 0, .int .i64 j, .ptr 0 4, a4, .int .i64 (a4.listOf.length : Int), .bool b, x10, x11, x12, x13, x14, x15, x16, x17, x18, x19, x20, x21, x22, x23, x24, x25, x26, x27, x28, x29, x30, x31, x32, x33, x34, x35, x36, x37, x38, x39, x40, x41, x42, x43, x44, x45, x46, x47, x48, x49, x50, x51, x52, x53, x54] (fewHI a0 a1 a2 a3 a4 b0 b1 b2 b3 b4 b5 b6 b7 b8 b9)) P) :
    ∀ (r jn k : Nat) (j : Int) (x10 x11 x12 x13 x14 x15 x16 x17 x18 x19 x20 x21 x22 x23 x24 x25 x26 x27 x28 x29 x30 x31 x32 x33 x34 x35 x36 x37 x38 x39 x40 x41 x42 x43 x44 x45 x46 x47 x48 x49 x50 x51 x52 x53 x54 : AV), j = (jn : Int) → jn + r = b9.listOf.length → r < k → (∀ u ∈ b9.listOf.take jn, bnd 100 u = true) → Good (loopC Try.D (cF fuel) fuel fewI k [.agg [.int .i64 a0, .int .i64 a1, .int .i64 a2, .int .i64 a3, a4], .ptr 0 0, .bool false, .int .i64 i, .ptr 1 0, .int .i64 j, .ptr 0 4, a4, .int .i64 (a4.listOf.length : Int), .bool b, x10, x11, x12, x13, x14, x15, x16, x17, x18, x19, x20, x21, x22, x23, x24, x25, x26, x27, x28, x29, x30, x31, x32, x33, x34, x35, x36, x37, x38, x39, x40, x41, x42, x43, x44, x45, x46, x47, x48, x49, x50, x51, x52, x53, x54] (fewHI a0 a1 a2 a3 a4 b0 b1 b2 b3 b4 b5 b6 b7 b8 b9) K) P
  | r, jn, 0, j, _, _, _, _, _, _, _, _, _, _, _, _, _, _, _, _, _, _, _, _, _, _, _, _, _, _, _, _, _, _, _, _, _, _, _, _, _, _, _, _, _, _, _, _, _, hj, h, hk, hp => by omega
  | 0, jn, k + 1, j, x10, x11, x12, x13, x14, x15, x16, x17, x18, x19, x20, x21, x22, x23, x24, x25, x26, x27, x28, x29, x30, x31, x32, x33, x34, x35, x36, x37, x38, x39, x40, x41, x42, x43, x44, x45, x46, x47, x48, x49, x50, x51, x52, x53, x54, hj, h, hk, hp => by
    subst hj
    rw [few_in, (sl_facts hb).1, lt_false (by omega : ¬ jn < b9.listOf.length)]
    simp only [br, resetV_self]
    refine hexit ?_ _ _ _ _ _ _ _ _ _ _ _ _ _ _ _ _ _ _ _ _ _ _ _ _ _ _ _ _ _ _ _ _ _ _ _ _ _ _ _ _ _ _ _ _ _ _
    rwa [List.take_of_length_le (by omega)] at hp
  | r + 1, jn, k + 1, j, x10, x11, x12, x13, x14, x15, x16, x17, x18, x19, x20, x21, x22, x23, x24, x25, x26, x27, x28, x29, x30, x31, x32, x33, x34, x35, x36, x37, x38, x39, x40, x41, x42, x43, x44, x45, x46, x47, x48, x49, x50, x51, x52, x53, x54, hj, h, hk, hp => by
    subst hj
    obtain ⟨hB, hmax, hT, -, -⟩ := sl_facts hb
    have hi : jn < b9.listOf.length := by omega
    obtain ⟨u, hu⟩ : ∃ u, b9.listOf[jn]? = some u := ⟨_, List.getElem?_eq_getElem hi⟩
    have tu := hT u (List.mem_of_getElem? hu)
    rw [few_in, hB, lt_true hi, ge_true, Int.toNat_natCast, hu]
    have w7 := pj_dtTask_7 tu
    obtain ⟨g1, -, g3, -, g5⟩ := sl_facts w7
    simp only [br, resetV_self, Bool.and_self, fit_dtTask tu, g1, g5]
    by_cases hc : (shS Sh.any (hdV (tlV (tlV (tlV (tlV (tlV (tlV (tlV u.aggOf))))))))).listOf.length > 20
    · rw [dec_t (p := ((shS Sh.any (hdV (tlV (tlV (tlV (tlV (tlV (tlV (tlV u.aggOf))))))))).listOf.length : Int) > 20) (by omega)]
      exact hret _ _ _ _ _ _ _ _ _ _ _ _ _ _ _ _ _ _ _ _ _ _ _ _ _ _ _ _ _ _ _ _ _ _ _ _ _ _ _ _ _ _ _ _ _ _
    · rw [dec_f (p := ((shS Sh.any (hdV (tlV (tlV (tlV (tlV (tlV (tlV (tlV u.aggOf))))))))).listOf.length : Int) > 20) (by omega)]
      simp only
      rw [wrap_next hi hmax]
      try simp only [resetV_self, cut_ty ha4]
      refine few_loopI fuel a0 a1 a2 a3 ha4 b b0 b1 b2 b3 b4 b5 b6 b7 b8 hb i K P hret hexit r (jn + 1) k _ _ _ _ _ _ _ _ _ _ _ _ _ _ _ _ _ _ _ _ _ _ _ _ _ _ _ _ _ _ _ _ _ _ _ _ _ _ _ _ _ _ _ _ _ _ rfl (by omega) (by omega) ?_
      intro v hv
      rw [List.take_add_one, hu] at hv
      rcases List.mem_append.1 hv with hv | hv
      · exact hp v hv
      · simp only [Option.toList_some, List.mem_singleton] at hv
        subst hv
        exact bj_dtTask tu (bnd_sl (B := 100) w7 (by omega) (fun x hx => bnd_flat rfl (g3 x hx)))
-- DEFS
-- PROOFS
theorem few_loopO (fuel : Nat) (a0 a1 a2 a3 : Int) {a4 : AV} (ha : tyV (.sl 10 dtAlloc) a4) (hs : tyV dtState (.agg [.int .i64 a0, .int .i64 a1, .int .i64 a2, .int .i64 a3, a4])) (b : Bool) (hF : ∀ u ∈ a4.listOf, (shS Sh.any (hdV (tlV (tlV (tlV (tlV (tlV (tlV (tlV (tlV (tlV u.aggOf))))))))))).listOf.length < fuel) (K : Ex → List AV → AH → Option AV) (P : Prop)
    (hret : ∀ (H : AH) (x0 x1 x3 : AV) (x4 x5 x6 x7 x8 x9 x10 x11 x12 x13 x14 x15 x16 x17 x18 x19 x20 x21 x22 x23 x24 x25 x26 x27 x28 x29 x30 x31 x32 x33 x34 x35 x36 x37 x38 x39 x40 x41 x42 x43 x44 x45 x46 x47 x48 x49 x50 x51 x52 x53 x54 : AV), Good (K .ret [x0, x1, .bool false, x3, x4, x5, x6, x7, x8, x9, x10, x11, x12, x13, x14, x15, x16, x17, x18, x19, x20, x21, x22, x23, x24, x25, x26, x27, x28, x29, x30, x31, x32, x33, x34, x35, x36, x37, x38, x39, x40, x41, x42, x43, x44, x45, x46, x47, x48, x49, x50, x51, x52, x53, x54] H) P)
    (hexit : (∀ u ∈ a4.listOf, bnd 100 u = true) → ∀ (x0 x1 x2 x3 x4 x5 x6 x7 x8 x9 x10 x11 x12 x13 x14 x15 x16 x17 x18 x19 x20 x21 x22 x23 x24 x25 x26 x27 x28 x29 x30 x31 x32 x33 x34 x35 x36 x37 x38 x39 x40 x41 x42 x43 x44 x45 x46 x47 x48 x49 x50 x51 x52 x53 x54 : AV), Good (K (.exit 0) [x0, x1, x2, x3, x4, x5, x6, x7, x8, x9, x10, x11, x12, x13, x14, x15, x16, x17, x18, x19, x20, x21, x22, x23, x24, x25, x26, x27, x28, x29, x30, x31, x32, x33, x34, x35, x36, x37, x38, x39, x40, x41, x42, x43, x44, x45, x46, x47, x48, x49, x50, x51, x52, x53, x54] (fewH a0 a1 a2 a3 a4)) P) :
    ∀ (r jn k : Nat) (i : Int), i = (jn : Int) → jn + r = a4.listOf.length → r < k → (∀ u ∈ a4.listOf.take jn, bnd 100 u = true) → Good (loopC Try.D (cF fuel) fuel fewO k [.agg [.int .i64 a0, .int .i64 a1, .int .i64 a2, .int .i64 a3, a4], .ptr 0 0, .bool false, .int .i64 i, .top, .top, .ptr 0 4, a4, .int .i64 (a4.listOf.length : Int), .bool b, .top, .top, .top, .top, .top, .top, .top, .top, .top, .top, .top, .top, .top, .top, .top, .top, .top, .top, .top, .top, .top, .top, .top, .top, .top, .top, .top, .top, .top, .top, .top, .top, .top, .top, .top, .top, .top, .top, .top, .top, .top, .top, .top, .top, .top] (fewH a0 a1 a2 a3 a4) K) P
  | r, jn, 0, i, hj, h, hk, hp => by omega
  | 0, jn, k + 1, i, hj, h, hk, hp => by
    subst hj
    rw [few_out, (sl_facts ha).1, lt_false (by omega : ¬ jn < a4.listOf.length)]
    simp only [br, resetV_self]
    refine hexit ?_ _ _ _ _ _ _ _ _ _ _ _ _ _ _ _ _ _ _ _ _ _ _ _ _ _ _ _ _ _ _ _ _ _ _ _ _ _ _ _ _ _ _ _ _ _ _ _ _ _ _ _ _ _ _ _
    rwa [List.take_of_length_le (by omega)] at hp
  | r + 1, jn, k + 1, i, hj, h, hk, hp => by
    subst hj
    obtain ⟨hB, hmax, hT, -, -⟩ := sl_facts ha
    have hi : jn < a4.listOf.length := by omega
    obtain ⟨u, hu⟩ : ∃ u, a4.listOf[jn]? = some u := ⟨_, List.getElem?_eq_getElem hi⟩
    have hmem := List.mem_of_getElem? hu
    have tu := hT u hmem
    rw [few_out, hB, lt_true hi, ge_true, Int.toNat_natCast, hu]
    have hf := hF u hmem
    have w9 := pj_dtAlloc_9 tu
    have w5 := pj_dtAlloc_5 tu
    have w4 := pj_dtAlloc_4 tu
    obtain ⟨g1, -, g3, -, g5⟩ := sl_facts w9
    obtain ⟨g1', -, g3', -, g5'⟩ := sl_facts w5
    obtain ⟨g1'', -, g3'', -, g5''⟩ := sl_facts w4
    simp only [br, resetV_self, Bool.and_self, fit_dtAlloc tu, g1, g5, g1', g5', g1'', g5'']
    by_cases hc : (shS Sh.any (hdV (tlV (tlV (tlV (tlV (tlV (tlV (tlV (tlV (tlV u.aggOf))))))))))).listOf.length > 5
    · rw [dec_t (p := ((shS Sh.any (hdV (tlV (tlV (tlV (tlV (tlV (tlV (tlV (tlV (tlV u.aggOf))))))))))).listOf.length : Int) > 5) (by omega)]
      exact hret _ _ _ _ _ _ _ _ _ _ _ _ _ _ _ _ _ _ _ _ _ _ _ _ _ _ _ _ _ _ _ _ _ _ _ _ _ _ _ _ _ _ _ _ _ _ _ _ _ _ _ _ _ _ _
    rw [dec_f (p := ((shS Sh.any (hdV (tlV (tlV (tlV (tlV (tlV (tlV (tlV (tlV (tlV u.aggOf))))))))))).listOf.length : Int) > 5) (by omega)]
    simp only
    by_cases hc' : (shS Sh.any (hdV (tlV (tlV (tlV (tlV (tlV u.aggOf))))))).listOf.length > 5
    · rw [dec_t (p := ((shS Sh.any (hdV (tlV (tlV (tlV (tlV (tlV u.aggOf))))))).listOf.length : Int) > 5) (by omega)]
      exact hret _ _ _ _ _ _ _ _ _ _ _ _ _ _ _ _ _ _ _ _ _ _ _ _ _ _ _ _ _ _ _ _ _ _ _ _ _ _ _ _ _ _ _ _ _ _ _ _ _ _ _ _ _ _ _
    rw [dec_f (p := ((shS Sh.any (hdV (tlV (tlV (tlV (tlV (tlV u.aggOf))))))).listOf.length : Int) > 5) (by omega)]
    simp only
    by_cases hc'' : (shS Sh.any (hdV (tlV (tlV (tlV (tlV u.aggOf)))))).listOf.length > 9
    · rw [dec_t (p := ((shS Sh.any (hdV (tlV (tlV (tlV (tlV u.aggOf)))))).listOf.length : Int) > 9) (by omega)]
      exact hret _ _ _ _ _ _ _ _ _ _ _ _ _ _ _ _ _ _ _ _ _ _ _ _ _ _ _ _ _ _ _ _ _ _ _ _ _ _ _ _ _ _ _ _ _ _ _ _ _ _ _ _ _ _ _
    rw [dec_f (p := ((shS Sh.any (hdV (tlV (tlV (tlV (tlV u.aggOf)))))).listOf.length : Int) > 9) (by omega)]
    simp only
    refine few_loopI fuel a0 a1 a2 a3 ha b _ _ _ _ _ _ _ _ _ w9 _ _ P ?_ ?_ (shS Sh.any (hdV (tlV (tlV (tlV (tlV (tlV (tlV (tlV (tlV (tlV u.aggOf))))))))))).listOf.length 0 fuel _ _ _ _ _ _ _ _ _ _ _ _ _ _ _ _ _ _ _ _ _ _ _ _ _ _ _ _ _ _ _ _ _ _ _ _ _ _ _ _ _ _ _ _ _ _ rfl (by omega) hf (by simp)
    · intro j x10 x11 x12 x13 x14 x15 x16 x17 x18 x19 x20 x21 x22 x23 x24 x25 x26 x27 x28 x29 x30 x31 x32 x33 x34 x35 x36 x37 x38 x39 x40 x41 x42 x43 x44 x45 x46 x47 x48 x49 x50 x51 x52 x53 x54
      rw [few_iret]
      exact hret _ _ _ _ _ _ _ _ _ _ _ _ _ _ _ _ _ _ _ _ _ _ _ _ _ _ _ _ _ _ _ _ _ _ _ _ _ _ _ _ _ _ _ _ _ _ _ _ _ _ _ _ _ _ _
    · intro hall j x10 x11 x12 x13 x14 x15 x16 x17 x18 x19 x20 x21 x22 x23 x24 x25 x26 x27 x28 x29 x30 x31 x32 x33 x34 x35 x36 x37 x38 x39 x40 x41 x42 x43 x44 x45 x46 x47 x48 x49 x50 x51 x52 x53 x54
      have hbo : belowO 1 0 [AObj.cells [AV.int IntKind.i64 a0, AV.int IntKind.i64 a1, AV.int IntKind.i64 a2, AV.int IntKind.i64 a3, a4]] = true := by
        simp only [belowO, AObj.below, belowL, below, tyV_below ha, Bool.and_self]
      rw [few_post, hbo]
      simp only [br, resetV_self, cut_ty ha, cut_ty hs]
      rw [wrap_next hi hmax]
      refine few_loopO fuel a0 a1 a2 a3 ha hs b hF K P hret hexit r (jn + 1) k _ rfl (by omega) (by omega) ?_
      intro v hv
      rw [List.take_add_one, hu] at hv
      rcases List.mem_append.1 hv with hv | hv
      · exact hp v hv
      · simp only [Option.toList_some, List.mem_singleton] at hv
        subst hv
        have h9 := bnd_sl (B := 100) w9 (by omega) hall
        have h5 := bnd_sl (B := 100) w5 (by omega) (fun x hx => bnd_flat rfl (g3' x hx))
        have h4 := bnd_sl (B := 100) w4 (by omega) (fun x hx => bnd_flat rfl (g3'' x hx))
        exact bj_dtAlloc tu h4 h5 h9
-- DEFS
-- PROOFS
theorem few22 {s : AV} (hs : tyV dtState s) : ∃ b, (∀ H : AH, callL Try.D 22 [s] H = some (.bool b, H)) ∧ (b = true → bnd 100 s = true) := by
  have key : Good (runI Try.D (cF 9223372036854775808) 9223372036854775808 Try.f22 [erase s] ⟨[], []⟩ (fun v _ => some v)) (bnd 100 (erase s) = true) := by
    have hs' := tyV_erase hs
    generalize erase s = s at hs' ⊢
    obtain ⟨a0, a1, a2, a3, a4, rfl, w0, w1, w2, w3, w4⟩ := un_dtState hs'
    obtain ⟨g1, gm, g3, -, g5⟩ := sl_facts w4
    have emax : maxLen = 9223372036854775807 := by decide
    rw [few_pre, g1]
    simp only [br, resetV_self]
    by_cases hc : a4.listOf.length > 9
    · rw [dec_t (p := (a4.listOf.length : Int) > 9) (by omega)]
      exact ⟨false, rfl, by simp⟩
    rw [dec_f (p := (a4.listOf.length : Int) > 9) (by omega)]
    simp only
    refine few_loopO _ a0 a1 a2 a3 w4 hs' _ ?_ _ _ ?_ ?_ a4.listOf.length 0 _ _ rfl (by omega) (by omega) (by simp)
    · intro u hu
      have := (sl_facts (pj_dtAlloc_9 (g3 u hu))).2.1
      omega
    · intro H x0 x1 x3 x4 x5 x6 x7 x8 x9 x10 x11 x12 x13 x14 x15 x16 x17 x18 x19 x20 x21 x22 x23 x24 x25 x26 x27 x28 x29 x30 x31 x32 x33 x34 x35 x36 x37 x38 x39 x40 x41 x42 x43 x44 x45 x46 x47 x48 x49 x50 x51 x52 x53 x54
      rw [few_ret]
      exact ⟨false, rfl, by simp⟩
    · intro hall x0 x1 x2 x3 x4 x5 x6 x7 x8 x9 x10 x11 x12 x13 x14 x15 x16 x17 x18 x19 x20 x21 x22 x23 x24 x25 x26 x27 x28 x29 x30 x31 x32 x33 x34 x35 x36 x37 x38 x39 x40 x41 x42 x43 x44 x45 x46 x47 x48 x49 x50 x51 x52 x53 x54
      rw [few_end]
      refine ⟨true, rfl, fun _ => ?_⟩
      have h4 := bnd_sl (B := 100) w4 (by omega) hall
      simp only [bnd, bndL, h4]
      rfl
  obtain ⟨b, h1, h2⟩ := key
  refine ⟨b, fun H => ?_, fun hb => bnd_same (tyV_nrm hs).symm (h2 hb)⟩
  exact callL_D (tabF_ok) (fuel := 9223372036854775808) (n := 6) (fn := Try.f22) (ds := [dtState]) (v := .bool b) (by kernel_rfl) (by kernel_rfl) (by kernel_rfl) ⟨hs, trivial⟩ h1 rfl
-- DEFS
end Go.Proofs.Ytoagnbpmoihojaa

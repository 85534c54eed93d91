/- Few: a state is small. -/
import Derived.Test.YtoagnbpmoihojaaDoorRepStruct
set_option maxRecDepth 100000
set_option linter.unusedSimpArgs false
set_option linter.unusedVariables false
namespace Go.Proofs.YtoagnbpmoihojaaDoor
open Go.Sx

noncomputable def fewO : Code := subC (bodyOf Tryd.f20) [1, 1, 0, 1, 0, 0]
def fewR : List Nat := [1, 0, 0, 1, 1, 1, 0]
noncomputable def fewI : Code := subC fewO [1, 0, 0, 1, 1, 1, 0, 0]
noncomputable def fewH (a0 a1 a2 a3 : Int) (a4 : AV) : AH := ⟨[.cells [.int .i64 a0, .int .i64 a1, .int .i64 a2, .int .i64 a3, a4]], []⟩
noncomputable def fewHI (a0 a1 a2 a3 : Int) (a4 : AV) (b0 b1 b2 b3 : Int) (b4 b5 : AV) (b6 b7 : Int) (b8 : Bool) (b9 : AV) : AH := ⟨[.cells [.int .i64 a0, .int .i64 a1, .int .i64 a2, .int .i64 a3, a4], .cells [.int .i64 b0, .int .i64 b1, .int .i64 b2, .int .i64 b3, b4, b5, .int .i64 b6, .int .i64 b7, .bool b8, b9]], []⟩
theorem few_in (m : Array Value) {R : Type} (fuel k : Nat) (a0 a1 a2 a3 : Int) (a4 : AV) (b0 b1 b2 b3 : Int) (b4 b5 : AV) (b6 b7 : Int) (b8 : Bool) (b9 : AV) (i j : Int) (x0 x6 x7 x8 x9 x10 x11 x12 x13 x14 x15 x16 x17 x18 x19 x20 x21 x22 x23 x24 x25 x26 x27 x28 x29 x30 x31 x32 x33 x34 x35 x36 x37 x38 x39 x40 x41 x42 x43 x44 x45 x46 x47 x48 x49 x50 x51 x52 x53 x54 : AV) (K : Ex → List AV → AH → Option R) :
  loopC (Rep.D m) (cD m fuel) fuel fewI (k + 1) [x0, .ptr 0 0, .bool false, .int .i64 i, .ptr 1 0, .int .i64 j, x6, x7, x8, x9, x10, x11, x12, x13, x14, x15, x16, x17, x18, x19, x20, x21, x22, x23, x24, x25, x26, x27, x28, x29, x30, x31, x32, x33, x34, x35, x36, x37, x38, x39, x40, x41, x42, x43, x44, x45, x46, x47, x48, x49, x50, x51, x52, x53, x54] (fewHI a0 a1 a2 a3 a4 b0 b1 b2 b3 b4 b5 b6 b7 b8 b9) K =
  br (AV.listN 8 b9)
    (fun _ => br (decide (j < (↑b9.listOf.length : Int)))
      (fun _ => br (AV.listN 8 b9 && (decide ((0 : Int) ≤ j) && decide (j < (↑b9.listOf.length : Int))))
        (fun _ => (match b9.listOf[j.toNat]? with
          | some u3 => br (u3.isAgg &&
      fitL
        [Sh.int IntKind.u8, Sh.int IntKind.i64, Sh.int IntKind.i64, Sh.int IntKind.i64, Sh.int IntKind.i64,
          Sh.int IntKind.i64, Sh.int IntKind.i64, Sh.any]
        u3.aggOf)
            (fun _ => br ((shS Sh.any (hdV (tlV (tlV (tlV (tlV (tlV (tlV (tlV u3.aggOf))))))))).isOne)
              (fun _ => br (AV.listN 1 (shS Sh.any (hdV (tlV (tlV (tlV (tlV (tlV (tlV (tlV u3.aggOf))))))))))
                (fun _ => br (decide ((↑(shS Sh.any (hdV (tlV (tlV (tlV (tlV (tlV (tlV (tlV u3.aggOf))))))))).listOf.length : Int) > (20 : Int)))
                  (fun _ => K Ex.ret
      [x0, AV.ptr 0 0, AV.bool false, AV.int IntKind.i64 i, AV.ptr 1 0, AV.int IntKind.i64 j, x6, x7, x8, x9, x10, x11, x12,
        x13, x14, x15, x16, x17, x18, x19, x20, x21, x22, x23, x24, x25, x26, x27, x28, x29, x30, x31, x32, x33, x34, x35,
        x36, x37, x38, x39, AV.int IntKind.i64 j, AV.ptr 1 9, b9, AV.int IntKind.i64 (↑b9.listOf.length : Int),
        AV.bool (decide (j < (↑b9.listOf.length : Int))), x45, x46, AV.ptr 1 9, b9, AV.int IntKind.i64 j,
        (AV.agg
            (shL
              [Sh.int IntKind.u8, Sh.int IntKind.i64, Sh.int IntKind.i64, Sh.int IntKind.i64, Sh.int IntKind.i64,
                Sh.int IntKind.i64, Sh.int IntKind.i64, Sh.any]
              u3.aggOf)).rop,
        (shS Sh.any (hdV (tlV (tlV (tlV (tlV (tlV (tlV (tlV u3.aggOf))))))))).rop,
        shS Sh.any (hdV (tlV (tlV (tlV (tlV (tlV (tlV (tlV u3.aggOf)))))))),
        AV.int IntKind.i64 (↑(shS Sh.any (hdV (tlV (tlV (tlV (tlV (tlV (tlV (tlV u3.aggOf))))))))).listOf.length : Int),
        AV.bool
          (decide
            ((↑(shS Sh.any (hdV (tlV (tlV (tlV (tlV (tlV (tlV (tlV u3.aggOf))))))))).listOf.length : Int) > (20 : Int)))]
      {
        objs :=
          [AObj.cells [AV.int IntKind.i64 a0, AV.int IntKind.i64 a1, AV.int IntKind.i64 a2, AV.int IntKind.i64 a3, a4],
            AObj.cells
              [AV.int IntKind.i64 b0, AV.int IntKind.i64 b1, AV.int IntKind.i64 b2, AV.int IntKind.i64 b3, b4, b5,
                AV.int IntKind.i64 b6, AV.int IntKind.i64 b7, AV.bool b8, b9]],
        toks := [] })
                  (fun _ => loopC (Rep.D m) (cD m fuel) fuel fewI k [x0, AV.ptr 0 0, AV.bool false, AV.int IntKind.i64 i, AV.ptr 1 0, AV.int IntKind.i64 (IntKind.i64.wrap (j + (1 : Int))), x6, x7, x8, x9, x10, x11, x12, x13, x14, x15, x16, x17, x18, x19, x20, x21, x22, x23, x24, x25, x26, x27, x28, x29, x30, x31, x32, x33, x34, x35, x36, x37, x38, x39, AV.int IntKind.i64 j, AV.ptr 1 9, b9, AV.int IntKind.i64 (↑b9.listOf.length : Int), AV.bool (decide (j < (↑b9.listOf.length : Int))), AV.int IntKind.i64 j, AV.int IntKind.i64 (IntKind.i64.wrap (j + (1 : Int))), AV.ptr 1 9, b9, AV.int IntKind.i64 j, (AV.agg (shL [Sh.int IntKind.u8, Sh.int IntKind.i64, Sh.int IntKind.i64, Sh.int IntKind.i64, Sh.int IntKind.i64, Sh.int IntKind.i64, Sh.int IntKind.i64, Sh.any] u3.aggOf)).rop, (shS Sh.any (hdV (tlV (tlV (tlV (tlV (tlV (tlV (tlV u3.aggOf))))))))).rop, shS Sh.any (hdV (tlV (tlV (tlV (tlV (tlV (tlV (tlV u3.aggOf)))))))), AV.int IntKind.i64 (↑(shS Sh.any (hdV (tlV (tlV (tlV (tlV (tlV (tlV (tlV u3.aggOf))))))))).listOf.length : Int), AV.bool (decide ((↑(shS Sh.any (hdV (tlV (tlV (tlV (tlV (tlV (tlV (tlV u3.aggOf))))))))).listOf.length : Int) > (20 : Int)))] { objs := [AObj.cells [AV.int IntKind.i64 a0, AV.int IntKind.i64 a1, AV.int IntKind.i64 a2, AV.int IntKind.i64 a3, a4], AObj.cells [AV.int IntKind.i64 b0, AV.int IntKind.i64 b1, AV.int IntKind.i64 b2, AV.int IntKind.i64 b3, b4, b5, AV.int IntKind.i64 b6, AV.int IntKind.i64 b7, AV.bool b8, b9]], toks := [] } K))
                (fun _ => none))
              (fun _ => none))
            (fun _ => none)
          | none => none))
        (fun _ => none))
      (fun _ => K (Ex.exit 2)
      [x0, AV.ptr 0 0, AV.bool false, AV.int IntKind.i64 i, AV.ptr 1 0, AV.int IntKind.i64 j, x6, x7, x8, x9, x10, x11, x12,
        x13, x14, x15, x16, x17, x18, x19, x20, x21, x22, x23, x24, x25, x26, x27, x28, x29, x30, x31, x32, x33, x34, x35,
        x36, x37, x38, x39, AV.int IntKind.i64 j, AV.ptr 1 9, b9, AV.int IntKind.i64 (↑b9.listOf.length : Int),
        AV.bool (decide (j < (↑b9.listOf.length : Int))), x45, x46, x47, x48, x49, x50, x51, x52, x53, x54]
      {
        objs :=
          [AObj.cells [AV.int IntKind.i64 a0, AV.int IntKind.i64 a1, AV.int IntKind.i64 a2, AV.int IntKind.i64 a3, a4],
            AObj.cells
              [AV.int IntKind.i64 b0, AV.int IntKind.i64 b1, AV.int IntKind.i64 b2, AV.int IntKind.i64 b3, b4, b5,
                AV.int IntKind.i64 b6, AV.int IntKind.i64 b7, AV.bool b8, b9]],
        toks := [] }))
    (fun _ => none) := by kernel_rfl
theorem few_out (m : Array Value) {R : Type} (fuel k : Nat) (a0 a1 a2 a3 : Int) (a4 : AV) (i : Int) (x0 x4 x5 x6 x7 x8 x9 x10 x11 x12 x13 x14 x15 x16 x17 x18 x19 x20 x21 x22 x23 x24 x25 x26 x27 x28 x29 x30 x31 x32 x33 x34 x35 x36 x37 x38 x39 x40 x41 x42 x43 x44 x45 x46 x47 x48 x49 x50 x51 x52 x53 x54 : AV) (K : Ex → List AV → AH → Option R) :
  loopC (Rep.D m) (cD m fuel) fuel fewO (k + 1) [x0, .ptr 0 0, .bool false, .int .i64 i, x4, x5, x6, x7, x8, x9, x10, x11, x12, x13, x14, x15, x16, x17, x18, x19, x20, x21, x22, x23, x24, x25, x26, x27, x28, x29, x30, x31, x32, x33, x34, x35, x36, x37, x38, x39, x40, x41, x42, x43, x44, x45, x46, x47, x48, x49, x50, x51, x52, x53, x54] (fewH a0 a1 a2 a3 a4) K =
  br (AV.listN 10 a4)
    (fun _ => br (decide (i < (↑a4.listOf.length : Int)))
      (fun _ => br (AV.listN 10 a4 && (decide ((0 : Int) ≤ i) && decide (i < (↑a4.listOf.length : Int))))
        (fun _ => (match a4.listOf[i.toNat]? with
          | some u3 => br (u3.isAgg &&
      fitL
        [Sh.int IntKind.i64, Sh.int IntKind.i64, Sh.int IntKind.i64, Sh.int IntKind.i64, Sh.any, Sh.any, Sh.int IntKind.i64,
          Sh.int IntKind.i64, Sh.bool, Sh.any]
        u3.aggOf)
            (fun _ => br (AV.listN 8 (shS Sh.any (hdV (tlV (tlV (tlV (tlV (tlV (tlV (tlV (tlV (tlV u3.aggOf))))))))))))
              (fun _ => br (decide
      ((↑(shS Sh.any (hdV (tlV (tlV (tlV (tlV (tlV (tlV (tlV (tlV (tlV u3.aggOf))))))))))).listOf.length : Int) >
        (5 : Int)))
                (fun _ => K Ex.ret
      [x0, AV.ptr 0 0, AV.bool false, AV.int IntKind.i64 i, AV.ptr 1 0, x5, x6, x7, x8, x9, AV.int IntKind.i64 i,
        AV.ptr 0 4, a4, AV.int IntKind.i64 (↑a4.listOf.length : Int), AV.bool (decide (i < (↑a4.listOf.length : Int))), x15,
        x16, AV.ptr 0 4, a4, AV.int IntKind.i64 i,
        (AV.agg
            (shL
              [Sh.int IntKind.i64, Sh.int IntKind.i64, Sh.int IntKind.i64, Sh.int IntKind.i64, Sh.any, Sh.any,
                Sh.int IntKind.i64, Sh.int IntKind.i64, Sh.bool, Sh.any]
              u3.aggOf)).rop,
        AV.agg
          (shL
            [Sh.int IntKind.i64, Sh.int IntKind.i64, Sh.int IntKind.i64, Sh.int IntKind.i64, Sh.any, Sh.any,
              Sh.int IntKind.i64, Sh.int IntKind.i64, Sh.bool, Sh.any]
            u3.aggOf),
        AV.ptr 1 9, shS Sh.any (hdV (tlV (tlV (tlV (tlV (tlV (tlV (tlV (tlV (tlV u3.aggOf)))))))))),
        AV.int IntKind.i64
          (↑(shS Sh.any (hdV (tlV (tlV (tlV (tlV (tlV (tlV (tlV (tlV (tlV u3.aggOf))))))))))).listOf.length : Int),
        AV.bool
          (decide
            ((↑(shS Sh.any (hdV (tlV (tlV (tlV (tlV (tlV (tlV (tlV (tlV (tlV u3.aggOf))))))))))).listOf.length : Int) >
              (5 : Int))),
        AV.bool true, AV.tuple [], AV.tuple [], AV.tuple [], AV.tuple [], AV.tuple [], AV.bool true, AV.bool true,
        AV.tuple [], AV.tuple [], AV.tuple [], AV.tuple [], AV.tuple [], AV.bool true, x40, x41, x42, x43, x44, x45, x46,
        x47, x48, x49, x50, x51, x52, x53, x54]
      {
        objs :=
          [AObj.cells [AV.int IntKind.i64 a0, AV.int IntKind.i64 a1, AV.int IntKind.i64 a2, AV.int IntKind.i64 a3, a4],
            AObj.cells
              [AV.int IntKind.i64 (hdV u3.aggOf).numOf, AV.int IntKind.i64 (hdV (tlV u3.aggOf)).numOf,
                AV.int IntKind.i64 (hdV (tlV (tlV u3.aggOf))).numOf,
                AV.int IntKind.i64 (hdV (tlV (tlV (tlV u3.aggOf)))).numOf,
                shS Sh.any (hdV (tlV (tlV (tlV (tlV u3.aggOf))))), shS Sh.any (hdV (tlV (tlV (tlV (tlV (tlV u3.aggOf)))))),
                AV.int IntKind.i64 (hdV (tlV (tlV (tlV (tlV (tlV (tlV u3.aggOf))))))).numOf,
                AV.int IntKind.i64 (hdV (tlV (tlV (tlV (tlV (tlV (tlV (tlV u3.aggOf)))))))).numOf,
                AV.bool (hdV (tlV (tlV (tlV (tlV (tlV (tlV (tlV (tlV u3.aggOf))))))))).boolOf,
                shS Sh.any (hdV (tlV (tlV (tlV (tlV (tlV (tlV (tlV (tlV (tlV u3.aggOf))))))))))]],
        toks := [] })
                (fun _ => br (AV.listN 6 (shS Sh.any (hdV (tlV (tlV (tlV (tlV (tlV u3.aggOf))))))))
                  (fun _ => br (decide ((↑(shS Sh.any (hdV (tlV (tlV (tlV (tlV (tlV u3.aggOf))))))).listOf.length : Int) > (5 : Int)))
                    (fun _ => K Ex.ret
      [x0, AV.ptr 0 0, AV.bool false, AV.int IntKind.i64 i, AV.ptr 1 0, x5, x6, x7, x8, x9, AV.int IntKind.i64 i,
        AV.ptr 0 4, a4, AV.int IntKind.i64 (↑a4.listOf.length : Int), AV.bool (decide (i < (↑a4.listOf.length : Int))), x15,
        x16, AV.ptr 0 4, a4, AV.int IntKind.i64 i,
        (AV.agg
            (shL
              [Sh.int IntKind.i64, Sh.int IntKind.i64, Sh.int IntKind.i64, Sh.int IntKind.i64, Sh.any, Sh.any,
                Sh.int IntKind.i64, Sh.int IntKind.i64, Sh.bool, Sh.any]
              u3.aggOf)).rop,
        AV.agg
          (shL
            [Sh.int IntKind.i64, Sh.int IntKind.i64, Sh.int IntKind.i64, Sh.int IntKind.i64, Sh.any, Sh.any,
              Sh.int IntKind.i64, Sh.int IntKind.i64, Sh.bool, Sh.any]
            u3.aggOf),
        AV.ptr 1 9, shS Sh.any (hdV (tlV (tlV (tlV (tlV (tlV (tlV (tlV (tlV (tlV u3.aggOf)))))))))),
        AV.int IntKind.i64
          (↑(shS Sh.any (hdV (tlV (tlV (tlV (tlV (tlV (tlV (tlV (tlV (tlV u3.aggOf))))))))))).listOf.length : Int),
        AV.bool
          (decide
            ((↑(shS Sh.any (hdV (tlV (tlV (tlV (tlV (tlV (tlV (tlV (tlV (tlV u3.aggOf))))))))))).listOf.length : Int) >
              (5 : Int))),
        AV.bool false, AV.ptr 1 0, AV.ptr 1 5, shS Sh.any (hdV (tlV (tlV (tlV (tlV (tlV u3.aggOf)))))),
        AV.int IntKind.i64 (↑(shS Sh.any (hdV (tlV (tlV (tlV (tlV (tlV u3.aggOf))))))).listOf.length : Int),
        AV.bool (decide ((↑(shS Sh.any (hdV (tlV (tlV (tlV (tlV (tlV u3.aggOf))))))).listOf.length : Int) > (5 : Int))),
        AV.bool (decide ((↑(shS Sh.any (hdV (tlV (tlV (tlV (tlV (tlV u3.aggOf))))))).listOf.length : Int) > (5 : Int))),
        AV.bool true, AV.tuple [], AV.tuple [], AV.tuple [], AV.tuple [], AV.tuple [], AV.bool true, x40, x41, x42, x43,
        x44, x45, x46, x47, x48, x49, x50, x51, x52, x53, x54]
      {
        objs :=
          [AObj.cells [AV.int IntKind.i64 a0, AV.int IntKind.i64 a1, AV.int IntKind.i64 a2, AV.int IntKind.i64 a3, a4],
            AObj.cells
              [AV.int IntKind.i64 (hdV u3.aggOf).numOf, AV.int IntKind.i64 (hdV (tlV u3.aggOf)).numOf,
                AV.int IntKind.i64 (hdV (tlV (tlV u3.aggOf))).numOf,
                AV.int IntKind.i64 (hdV (tlV (tlV (tlV u3.aggOf)))).numOf,
                shS Sh.any (hdV (tlV (tlV (tlV (tlV u3.aggOf))))), shS Sh.any (hdV (tlV (tlV (tlV (tlV (tlV u3.aggOf)))))),
                AV.int IntKind.i64 (hdV (tlV (tlV (tlV (tlV (tlV (tlV u3.aggOf))))))).numOf,
                AV.int IntKind.i64 (hdV (tlV (tlV (tlV (tlV (tlV (tlV (tlV u3.aggOf)))))))).numOf,
                AV.bool (hdV (tlV (tlV (tlV (tlV (tlV (tlV (tlV (tlV u3.aggOf))))))))).boolOf,
                shS Sh.any (hdV (tlV (tlV (tlV (tlV (tlV (tlV (tlV (tlV (tlV u3.aggOf))))))))))]],
        toks := [] })
                    (fun _ => br (AV.listN 1 (shS Sh.any (hdV (tlV (tlV (tlV (tlV u3.aggOf)))))))
                      (fun _ => br (decide ((↑(shS Sh.any (hdV (tlV (tlV (tlV (tlV u3.aggOf)))))).listOf.length : Int) > (9 : Int)))
                        (fun _ => K Ex.ret
      [x0, AV.ptr 0 0, AV.bool false, AV.int IntKind.i64 i, AV.ptr 1 0, x5, x6, x7, x8, x9, AV.int IntKind.i64 i,
        AV.ptr 0 4, a4, AV.int IntKind.i64 (↑a4.listOf.length : Int), AV.bool (decide (i < (↑a4.listOf.length : Int))), x15,
        x16, AV.ptr 0 4, a4, AV.int IntKind.i64 i,
        (AV.agg
            (shL
              [Sh.int IntKind.i64, Sh.int IntKind.i64, Sh.int IntKind.i64, Sh.int IntKind.i64, Sh.any, Sh.any,
                Sh.int IntKind.i64, Sh.int IntKind.i64, Sh.bool, Sh.any]
              u3.aggOf)).rop,
        AV.agg
          (shL
            [Sh.int IntKind.i64, Sh.int IntKind.i64, Sh.int IntKind.i64, Sh.int IntKind.i64, Sh.any, Sh.any,
              Sh.int IntKind.i64, Sh.int IntKind.i64, Sh.bool, Sh.any]
            u3.aggOf),
        AV.ptr 1 9, shS Sh.any (hdV (tlV (tlV (tlV (tlV (tlV (tlV (tlV (tlV (tlV u3.aggOf)))))))))),
        AV.int IntKind.i64
          (↑(shS Sh.any (hdV (tlV (tlV (tlV (tlV (tlV (tlV (tlV (tlV (tlV u3.aggOf))))))))))).listOf.length : Int),
        AV.bool
          (decide
            ((↑(shS Sh.any (hdV (tlV (tlV (tlV (tlV (tlV (tlV (tlV (tlV (tlV u3.aggOf))))))))))).listOf.length : Int) >
              (5 : Int))),
        AV.bool false, AV.ptr 1 0, AV.ptr 1 5, shS Sh.any (hdV (tlV (tlV (tlV (tlV (tlV u3.aggOf)))))),
        AV.int IntKind.i64 (↑(shS Sh.any (hdV (tlV (tlV (tlV (tlV (tlV u3.aggOf))))))).listOf.length : Int),
        AV.bool (decide ((↑(shS Sh.any (hdV (tlV (tlV (tlV (tlV (tlV u3.aggOf))))))).listOf.length : Int) > (5 : Int))),
        AV.bool (decide ((↑(shS Sh.any (hdV (tlV (tlV (tlV (tlV (tlV u3.aggOf))))))).listOf.length : Int) > (5 : Int))),
        AV.bool false, AV.ptr 1 0, AV.ptr 1 4, shS Sh.any (hdV (tlV (tlV (tlV (tlV u3.aggOf))))),
        AV.int IntKind.i64 (↑(shS Sh.any (hdV (tlV (tlV (tlV (tlV u3.aggOf)))))).listOf.length : Int),
        AV.bool (decide ((↑(shS Sh.any (hdV (tlV (tlV (tlV (tlV u3.aggOf)))))).listOf.length : Int) > (9 : Int))),
        AV.bool (decide ((↑(shS Sh.any (hdV (tlV (tlV (tlV (tlV u3.aggOf)))))).listOf.length : Int) > (9 : Int))), x40,
        x41, x42, x43, x44, x45, x46, x47, x48, x49, x50, x51, x52, x53, x54]
      {
        objs :=
          [AObj.cells [AV.int IntKind.i64 a0, AV.int IntKind.i64 a1, AV.int IntKind.i64 a2, AV.int IntKind.i64 a3, a4],
            AObj.cells
              [AV.int IntKind.i64 (hdV u3.aggOf).numOf, AV.int IntKind.i64 (hdV (tlV u3.aggOf)).numOf,
                AV.int IntKind.i64 (hdV (tlV (tlV u3.aggOf))).numOf,
                AV.int IntKind.i64 (hdV (tlV (tlV (tlV u3.aggOf)))).numOf,
                shS Sh.any (hdV (tlV (tlV (tlV (tlV u3.aggOf))))), shS Sh.any (hdV (tlV (tlV (tlV (tlV (tlV u3.aggOf)))))),
                AV.int IntKind.i64 (hdV (tlV (tlV (tlV (tlV (tlV (tlV u3.aggOf))))))).numOf,
                AV.int IntKind.i64 (hdV (tlV (tlV (tlV (tlV (tlV (tlV (tlV u3.aggOf)))))))).numOf,
                AV.bool (hdV (tlV (tlV (tlV (tlV (tlV (tlV (tlV (tlV u3.aggOf))))))))).boolOf,
                shS Sh.any (hdV (tlV (tlV (tlV (tlV (tlV (tlV (tlV (tlV (tlV u3.aggOf))))))))))]],
        toks := [] })
                        (fun _ => loopC (Rep.D m) (cD m fuel) fuel fewI fuel [x0, AV.ptr 0 0, AV.bool false, AV.int IntKind.i64 i, AV.ptr 1 0, AV.int IntKind.i64 ((0 : Int)), x6, x7, x8, x9, AV.int IntKind.i64 i, AV.ptr 0 4, a4, AV.int IntKind.i64 (↑a4.listOf.length : Int), AV.bool (decide (i < (↑a4.listOf.length : Int))), x15, x16, AV.ptr 0 4, a4, AV.int IntKind.i64 i, (AV.agg (shL [Sh.int IntKind.i64, Sh.int IntKind.i64, Sh.int IntKind.i64, Sh.int IntKind.i64, Sh.any, Sh.any, Sh.int IntKind.i64, Sh.int IntKind.i64, Sh.bool, Sh.any] u3.aggOf)).rop, AV.agg (shL [Sh.int IntKind.i64, Sh.int IntKind.i64, Sh.int IntKind.i64, Sh.int IntKind.i64, Sh.any, Sh.any, Sh.int IntKind.i64, Sh.int IntKind.i64, Sh.bool, Sh.any] u3.aggOf), AV.ptr 1 9, shS Sh.any (hdV (tlV (tlV (tlV (tlV (tlV (tlV (tlV (tlV (tlV u3.aggOf)))))))))), AV.int IntKind.i64 (↑(shS Sh.any (hdV (tlV (tlV (tlV (tlV (tlV (tlV (tlV (tlV (tlV u3.aggOf))))))))))).listOf.length : Int), AV.bool (decide ((↑(shS Sh.any (hdV (tlV (tlV (tlV (tlV (tlV (tlV (tlV (tlV (tlV u3.aggOf))))))))))).listOf.length : Int) > (5 : Int))), AV.bool false, AV.ptr 1 0, AV.ptr 1 5, shS Sh.any (hdV (tlV (tlV (tlV (tlV (tlV u3.aggOf)))))), AV.int IntKind.i64 (↑(shS Sh.any (hdV (tlV (tlV (tlV (tlV (tlV u3.aggOf))))))).listOf.length : Int), AV.bool (decide ((↑(shS Sh.any (hdV (tlV (tlV (tlV (tlV (tlV u3.aggOf))))))).listOf.length : Int) > (5 : Int))), AV.bool (decide ((↑(shS Sh.any (hdV (tlV (tlV (tlV (tlV (tlV u3.aggOf))))))).listOf.length : Int) > (5 : Int))), AV.bool false, AV.ptr 1 0, AV.ptr 1 4, shS Sh.any (hdV (tlV (tlV (tlV (tlV u3.aggOf))))), AV.int IntKind.i64 (↑(shS Sh.any (hdV (tlV (tlV (tlV (tlV u3.aggOf)))))).listOf.length : Int), AV.bool (decide ((↑(shS Sh.any (hdV (tlV (tlV (tlV (tlV u3.aggOf)))))).listOf.length : Int) > (9 : Int))), AV.bool (decide ((↑(shS Sh.any (hdV (tlV (tlV (tlV (tlV u3.aggOf)))))).listOf.length : Int) > (9 : Int))), x40, x41, x42, x43, x44, x45, x46, x47, x48, x49, x50, x51, x52, x53, x54] { objs := [AObj.cells [AV.int IntKind.i64 a0, AV.int IntKind.i64 a1, AV.int IntKind.i64 a2, AV.int IntKind.i64 a3, a4], AObj.cells [AV.int IntKind.i64 (hdV u3.aggOf).numOf, AV.int IntKind.i64 (hdV (tlV u3.aggOf)).numOf, AV.int IntKind.i64 (hdV (tlV (tlV u3.aggOf))).numOf, AV.int IntKind.i64 (hdV (tlV (tlV (tlV u3.aggOf)))).numOf, shS Sh.any (hdV (tlV (tlV (tlV (tlV u3.aggOf))))), shS Sh.any (hdV (tlV (tlV (tlV (tlV (tlV u3.aggOf)))))), AV.int IntKind.i64 (hdV (tlV (tlV (tlV (tlV (tlV (tlV u3.aggOf))))))).numOf, AV.int IntKind.i64 (hdV (tlV (tlV (tlV (tlV (tlV (tlV (tlV u3.aggOf)))))))).numOf, AV.bool (hdV (tlV (tlV (tlV (tlV (tlV (tlV (tlV (tlV u3.aggOf))))))))).boolOf, shS Sh.any (hdV (tlV (tlV (tlV (tlV (tlV (tlV (tlV (tlV (tlV u3.aggOf))))))))))]], toks := [] } (kontI (Rep.D m) (cD m fuel) fuel fewO fewR (stepK (Rep.D m) (cD m fuel) fuel fewO k [x0, .ptr 0 0, .bool false, .int .i64 i, x4, x5, x6, x7, x8, x9, x10, x11, x12, x13, x14, x15, x16, x17, x18, x19, x20, x21, x22, x23, x24, x25, x26, x27, x28, x29, x30, x31, x32, x33, x34, x35, x36, x37, x38, x39, x40, x41, x42, x43, x44, x45, x46, x47, x48, x49, x50, x51, x52, x53, x54] (fewH a0 a1 a2 a3 a4) K))))
                      (fun _ => none)))
                  (fun _ => none)))
              (fun _ => none))
            (fun _ => none)
          | none => none))
        (fun _ => none))
      (fun _ => K (Ex.exit 0)
      [x0, AV.ptr 0 0, AV.bool false, AV.int IntKind.i64 i, x4, x5, x6, x7, x8, x9, AV.int IntKind.i64 i, AV.ptr 0 4, a4,
        AV.int IntKind.i64 (↑a4.listOf.length : Int), AV.bool (decide (i < (↑a4.listOf.length : Int))), x15, x16, x17, x18,
        x19, x20, x21, x22, x23, x24, x25, x26, x27, x28, x29, x30, x31, x32, x33, x34, x35, x36, x37, x38, x39, x40, x41,
        x42, x43, x44, x45, x46, x47, x48, x49, x50, x51, x52, x53, x54]
      {
        objs :=
          [AObj.cells [AV.int IntKind.i64 a0, AV.int IntKind.i64 a1, AV.int IntKind.i64 a2, AV.int IntKind.i64 a3, a4]],
        toks := [] }))
    (fun _ => none) := by kernel_rfl
theorem few_post (m : Array Value) {R : Type} (fuel k : Nat) (a0 a1 a2 a3 : Int) (a4 : AV) (b0 b1 b2 b3 : Int) (b4 b5 : AV) (b6 b7 : Int) (b8 : Bool) (b9 : AV) (i j : Int) (s0 : List AV) (x0 x6 x7 x8 x9 x10 x11 x12 x13 x14 x15 x16 x17 x18 x19 x20 x21 x22 x23 x24 x25 x26 x27 x28 x29 x30 x31 x32 x33 x34 x35 x36 x37 x38 x39 x40 x41 x42 x43 x44 x45 x46 x47 x48 x49 x50 x51 x52 x53 x54 : AV) (K : Ex → List AV → AH → Option R) :
  kontI (Rep.D m) (cD m fuel) fuel fewO fewR (stepK (Rep.D m) (cD m fuel) fuel fewO k s0 (fewH a0 a1 a2 a3 a4) K) (.exit 2) [x0, .ptr 0 0, .bool false, .int .i64 i, .ptr 1 0, .int .i64 j, x6, x7, x8, x9, x10, x11, x12, x13, x14, x15, x16, x17, x18, x19, x20, x21, x22, x23, x24, x25, x26, x27, x28, x29, x30, x31, x32, x33, x34, x35, x36, x37, x38, x39, x40, x41, x42, x43, x44, x45, x46, x47, x48, x49, x50, x51, x52, x53, x54] (fewHI a0 a1 a2 a3 a4 b0 b1 b2 b3 b4 b5 b6 b7 b8 b9) =
  br (belowO 1 0 [AObj.cells [AV.int IntKind.i64 a0, AV.int IntKind.i64 a1, AV.int IntKind.i64 a2, AV.int IntKind.i64 a3, a4]])
    (fun _ => loopC (Rep.D m) (cD m fuel) fuel fewO k [cutV 1 0 x0, AV.ptr 0 0, AV.bool false, AV.int IntKind.i64 (IntKind.i64.wrap (i + (1 : Int))), AV.top, AV.int IntKind.i64 j, cutV 1 0 x6, cutV 1 0 x7, cutV 1 0 x8, cutV 1 0 x9, cutV 1 0 x10, cutV 1 0 x11, cutV 1 0 x12, cutV 1 0 x13, cutV 1 0 x14, AV.int IntKind.i64 i, AV.int IntKind.i64 (IntKind.i64.wrap (i + (1 : Int))), cutV 1 0 x17, cutV 1 0 x18, cutV 1 0 x19, cutV 1 0 x20, cutV 1 0 x21, cutV 1 0 x22, cutV 1 0 x23, cutV 1 0 x24, cutV 1 0 x25, cutV 1 0 x26, cutV 1 0 x27, cutV 1 0 x28, cutV 1 0 x29, cutV 1 0 x30, cutV 1 0 x31, cutV 1 0 x32, cutV 1 0 x33, cutV 1 0 x34, cutV 1 0 x35, cutV 1 0 x36, cutV 1 0 x37, cutV 1 0 x38, cutV 1 0 x39, cutV 1 0 x40, cutV 1 0 x41, cutV 1 0 x42, cutV 1 0 x43, cutV 1 0 x44, cutV 1 0 x45, cutV 1 0 x46, cutV 1 0 x47, cutV 1 0 x48, cutV 1 0 x49, cutV 1 0 x50, cutV 1 0 x51, cutV 1 0 x52, cutV 1 0 x53, cutV 1 0 x54] { objs := [AObj.cells [AV.int IntKind.i64 a0, AV.int IntKind.i64 a1, AV.int IntKind.i64 a2, AV.int IntKind.i64 a3, a4]], toks := [] } K)
    (fun _ => none) := by kernel_rfl
theorem few_pre (m : Array Value) {R : Type} (fuel : Nat) (a0 a1 a2 a3 : Int) (a4 : AV) (K : AV → AH → Option R) :
  runI (Rep.D m) (cD m fuel) fuel Tryd.f20 [.agg [.int .i64 a0, .int .i64 a1, .int .i64 a2, .int .i64 a3, a4]] ⟨[], []⟩ K =
  br (AV.listN 10 a4)
    (fun _ => br (decide ((↑a4.listOf.length : Int) > (9 : Int)))
      (fun _ => K (AV.bool false)
      {
        objs :=
          [AObj.cells [AV.int IntKind.i64 a0, AV.int IntKind.i64 a1, AV.int IntKind.i64 a2, AV.int IntKind.i64 a3, a4]],
        toks := [] })
      (fun _ => loopC (Rep.D m) (cD m fuel) fuel fewO fuel [AV.agg [AV.int IntKind.i64 a0, AV.int IntKind.i64 a1, AV.int IntKind.i64 a2, AV.int IntKind.i64 a3, a4], AV.ptr 0 0, AV.bool false, AV.int IntKind.i64 ((0 : Int)), AV.top, AV.top, AV.ptr 0 4, a4, AV.int IntKind.i64 (↑a4.listOf.length : Int), AV.bool (decide ((↑a4.listOf.length : Int) > (9 : Int))), AV.top, AV.top, AV.top, AV.top, AV.top, AV.top, AV.top, AV.top, AV.top, AV.top, AV.top, AV.top, AV.top, AV.top, AV.top, AV.top, AV.top, AV.top, AV.top, AV.top, AV.top, AV.top, AV.top, AV.top, AV.top, AV.top, AV.top, AV.top, AV.top, AV.top, AV.top, AV.top, AV.top, AV.top, AV.top, AV.top, AV.top, AV.top, AV.top, AV.top, AV.top, AV.top, AV.top, AV.top, AV.top] { objs := [AObj.cells [AV.int IntKind.i64 a0, AV.int IntKind.i64 a1, AV.int IntKind.i64 a2, AV.int IntKind.i64 a3, a4]], toks := [] } (kontI (Rep.D m) (cD m fuel) fuel (bodyOf Tryd.f20) [1, 1, 0, 1, 0] (endI (Rep.D m) Tryd.f20 K))))
    (fun _ => none) := by kernel_rfl
theorem few_end (m : Array Value) {R : Type} (fuel : Nat) (H : AH) (x0 x1 x2 x3 x4 x5 x6 x7 x8 x9 x10 x11 x12 x13 x14 x15 x16 x17 x18 x19 x20 x21 x22 x23 x24 x25 x26 x27 x28 x29 x30 x31 x32 x33 x34 x35 x36 x37 x38 x39 x40 x41 x42 x43 x44 x45 x46 x47 x48 x49 x50 x51 x52 x53 x54 : AV) (K : AV → AH → Option R) :
  kontI (Rep.D m) (cD m fuel) fuel (bodyOf Tryd.f20) [1, 1, 0, 1, 0] (endI (Rep.D m) Tryd.f20 K) (.exit 0) [x0, x1, x2, x3, x4, x5, x6, x7, x8, x9, x10, x11, x12, x13, x14, x15, x16, x17, x18, x19, x20, x21, x22, x23, x24, x25, x26, x27, x28, x29, x30, x31, x32, x33, x34, x35, x36, x37, x38, x39, x40, x41, x42, x43, x44, x45, x46, x47, x48, x49, x50, x51, x52, x53, x54] H =
  K (AV.bool true) H := by kernel_rfl
theorem few_ret (m : Array Value) {R : Type} (fuel : Nat) (H : AH) (x0 x1 x2 x3 x4 x5 x6 x7 x8 x9 x10 x11 x12 x13 x14 x15 x16 x17 x18 x19 x20 x21 x22 x23 x24 x25 x26 x27 x28 x29 x30 x31 x32 x33 x34 x35 x36 x37 x38 x39 x40 x41 x42 x43 x44 x45 x46 x47 x48 x49 x50 x51 x52 x53 x54 : AV) (K : AV → AH → Option R) :
  kontI (Rep.D m) (cD m fuel) fuel (bodyOf Tryd.f20) [1, 1, 0, 1, 0] (endI (Rep.D m) Tryd.f20 K) .ret [x0, x1, x2, x3, x4, x5, x6, x7, x8, x9, x10, x11, x12, x13, x14, x15, x16, x17, x18, x19, x20, x21, x22, x23, x24, x25, x26, x27, x28, x29, x30, x31, x32, x33, x34, x35, x36, x37, x38, x39, x40, x41, x42, x43, x44, x45, x46, x47, x48, x49, x50, x51, x52, x53, x54] H =
  K x2 H := by kernel_rfl
theorem few_iret (m : Array Value) {R : Type} (fuel k : Nat) (s0 : List AV) (H0 H : AH) (x0 x1 x2 x3 x4 x5 x6 x7 x8 x9 x10 x11 x12 x13 x14 x15 x16 x17 x18 x19 x20 x21 x22 x23 x24 x25 x26 x27 x28 x29 x30 x31 x32 x33 x34 x35 x36 x37 x38 x39 x40 x41 x42 x43 x44 x45 x46 x47 x48 x49 x50 x51 x52 x53 x54 : AV) (K : Ex → List AV → AH → Option R) :
  kontI (Rep.D m) (cD m fuel) fuel fewO fewR (stepK (Rep.D m) (cD m fuel) fuel fewO k s0 H0 K) .ret [x0, x1, x2, x3, x4, x5, x6, x7, x8, x9, x10, x11, x12, x13, x14, x15, x16, x17, x18, x19, x20, x21, x22, x23, x24, x25, x26, x27, x28, x29, x30, x31, x32, x33, x34, x35, x36, x37, x38, x39, x40, x41, x42, x43, x44, x45, x46, x47, x48, x49, x50, x51, x52, x53, x54] H =
  K Ex.ret
      [x0, x1, x2, x3, x4, x5, x6, x7, x8, x9, x10, x11, x12, x13, x14, x15, x16, x17, x18, x19, x20, x21, x22, x23, x24,
        x25, x26, x27, x28, x29, x30, x31, x32, x33, x34, x35, x36, x37, x38, x39, x40, x41, x42, x43, x44, x45, x46, x47,
        x48, x49, x50, x51, x52, x53, x54]
      H := by kernel_rfl
-- PROOFS
/-- It answers a bool; true says something. -/
def Good (o : Option AV) (P : Prop) : Prop := ∃ b, o = some (.bool b) ∧ (b = true → P)

theorem dec_t {p : Prop} {i : Decidable p} (h : p) : @decide p i = true := by simpa using h
theorem dec_f {p : Prop} {i : Decidable p} (h : ¬ p) : @decide p i = false := by simpa using h
theorem gt_true {a b : Nat} (h : a > b) : decide ((a : Int) > (b : Int)) = true := by simp; omega
theorem gt_false {a b : Nat} (h : ¬ a > b) : decide ((a : Int) > (b : Int)) = false := by simp; omega

theorem few_loopI (m : Array Value) (fuel : Nat) (a0 a1 a2 a3 : Int) (a4 : AV) (b0 b1 b2 b3 : Int) (b4 b5 : AV) (b6 b7 : Int) (b8 : Bool) {b9 : AV} (hb : tyV (.sl 8 dtTask) b9) (i : Int) (K : Ex → List AV → AH → Option AV) (P : Prop)
    (hret : ∀ (j : Int) (x0 x6 x7 x8 x9 x10 x11 x12 x13 x14 x15 x16 x17 x18 x19 x20 x21 x22 x23 x24 x25 x26 x27 x28 x29 x30 x31 x32 x33 x34 x35 x36 x37 x38 x39 x40 x41 x42 x43 x44 x45 x46 x47 x48 x49 x50 x51 x52 x53 x54 : AV), Good (K .ret [x0, .ptr 0 0, .bool false, .int .i64 i, .ptr 1 0, .int .i64 j, x6, x7, x8, x9, x10, x11, x12, x13, x14, x15, x16, x17, x18, x19, x20, x21, x22, x23, x24, x25, x26, x27, x28, x29, x30, x31, x32, x33, x34, x35, x36, x37, x38, x39, x40, x41, x42, x43, x44, x45, x46, x47, x48, x49, x50, x51, x52, x53, x54] (fewHI a0 a1 a2 a3 a4 b0 b1 b2 b3 b4 b5 b6 b7 b8 b9)) P)
    (hexit : (∀ u ∈ b9.listOf, bnd 100 u = true) → ∀ (j : Int) (x0 x6 x7 x8 x9 x10 x11 x12 x13 x14 x15 x16 x17 x18 x19 x20 x21 x22 x23 x24 x25 x26 x27 x28 x29 x30 x31 x32 x33 x34 x35 x36 x37 x38 x39 x40 x41 x42 x43 x44 x45 x46 x47 x48 x49 x50 x51 x52 x53 x54 : AV), Good (K (.exit 2) [x0, .ptr 0 0, .bool false, .int .i64 i, .ptr 1 0, .int .i64 j, x6, x7, x8, x9, x10, x11, x12, x13, x14, x15, x16, x17, x18, x19, x20, x21, x22, x23, x24, x25, x26, x27, x28, x29, x30, x31, x32, x33, x34, x35, x36, x37, x38, x39, x40, x41, x42, x43, x44, x45, x46, x47, x48, x49, x50, x51, x52, x53, x54] (fewHI a0 a1 a2 a3 a4 b0 b1 b2 b3 b4 b5 b6 b7 b8 b9)) P) :
    ∀ (r jn k : Nat) (j : Int) (x0 x6 x7 x8 x9 x10 x11 x12 x13 x14 x15 x16 x17 x18 x19 x20 x21 x22 x23 x24 x25 x26 x27 x28 x29 x30 x31 x32 x33 x34 x35 x36 x37 x38 x39 x40 x41 x42 x43 x44 x45 x46 x47 x48 x49 x50 x51 x52 x53 x54 : AV), j = (jn : Int) → jn + r = b9.listOf.length → r < k → (∀ u ∈ b9.listOf.take jn, bnd 100 u = true) → Good (loopC (Rep.D m) (cD m fuel) fuel fewI k [x0, .ptr 0 0, .bool false, .int .i64 i, .ptr 1 0, .int .i64 j, x6, x7, x8, x9, x10, x11, x12, x13, x14, x15, x16, x17, x18, x19, x20, x21, x22, x23, x24, x25, x26, x27, x28, x29, x30, x31, x32, x33, x34, x35, x36, x37, x38, x39, x40, x41, x42, x43, x44, x45, x46, x47, x48, x49, x50, x51, x52, x53, x54] (fewHI a0 a1 a2 a3 a4 b0 b1 b2 b3 b4 b5 b6 b7 b8 b9) K) P
  | r, jn, 0, j, _, _, _, _, _, _, _, _, _, _, _, _, _, _, _, _, _, _, _, _, _, _, _, _, _, _, _, _, _, _, _, _, _, _, _, _, _, _, _, _, _, _, _, _, _, _, _, _, _, _, hj, h, hk, hp => by omega
  | 0, jn, k + 1, j, x0, x6, x7, x8, x9, x10, x11, x12, x13, x14, x15, x16, x17, x18, x19, x20, x21, x22, x23, x24, x25, x26, x27, x28, x29, x30, x31, x32, x33, x34, x35, x36, x37, x38, x39, x40, x41, x42, x43, x44, x45, x46, x47, x48, x49, x50, x51, x52, x53, x54, hj, h, hk, hp => by
    subst hj
    rw [few_in, (sl_facts hb).1, lt_false (by omega : ¬ jn < b9.listOf.length)]
    simp only [br]
    refine hexit ?_ _ _ _ _ _ _ _ _ _ _ _ _ _ _ _ _ _ _ _ _ _ _ _ _ _ _ _ _ _ _ _ _ _ _ _ _ _ _ _ _ _ _ _ _ _ _ _ _ _ _ _
    rwa [List.take_of_length_le (by omega)] at hp
  | r + 1, jn, k + 1, j, x0, x6, x7, x8, x9, x10, x11, x12, x13, x14, x15, x16, x17, x18, x19, x20, x21, x22, x23, x24, x25, x26, x27, x28, x29, x30, x31, x32, x33, x34, x35, x36, x37, x38, x39, x40, x41, x42, x43, x44, x45, x46, x47, x48, x49, x50, x51, x52, x53, x54, hj, h, hk, hp => by
    subst hj
    obtain ⟨hB, hmax, hT, -, -⟩ := sl_facts hb
    have hi : jn < b9.listOf.length := by omega
    obtain ⟨u, hu⟩ : ∃ u, b9.listOf[jn]? = some u := ⟨_, List.getElem?_eq_getElem hi⟩
    have tu := hT u (List.mem_of_getElem? hu)
    rw [few_in, hB, lt_true hi, ge_true, Int.toNat_natCast, hu]
    have w7 := pj_dtTask_7 tu
    obtain ⟨g1, -, g3, -, g5⟩ := sl_facts w7
    simp only [br, Bool.and_self, fit_dtTask tu, g1, g5]
    by_cases hc : (shS Sh.any (hdV (tlV (tlV (tlV (tlV (tlV (tlV (tlV u.aggOf))))))))).listOf.length > 20
    · rw [dec_t (p := ((shS Sh.any (hdV (tlV (tlV (tlV (tlV (tlV (tlV (tlV u.aggOf))))))))).listOf.length : Int) > 20) (by omega)]
      exact hret _ _ _ _ _ _ _ _ _ _ _ _ _ _ _ _ _ _ _ _ _ _ _ _ _ _ _ _ _ _ _ _ _ _ _ _ _ _ _ _ _ _ _ _ _ _ _ _ _ _ _
    · rw [dec_f (p := ((shS Sh.any (hdV (tlV (tlV (tlV (tlV (tlV (tlV (tlV u.aggOf))))))))).listOf.length : Int) > 20) (by omega)]
      simp only
      rw [wrap_next hi hmax]
      refine few_loopI m fuel a0 a1 a2 a3 a4 b0 b1 b2 b3 b4 b5 b6 b7 b8 hb i K P hret hexit r (jn + 1) k _ _ _ _ _ _ _ _ _ _ _ _ _ _ _ _ _ _ _ _ _ _ _ _ _ _ _ _ _ _ _ _ _ _ _ _ _ _ _ _ _ _ _ _ _ _ _ _ _ _ _ rfl (by omega) (by omega) ?_
      intro v hv
      rw [List.take_add_one, hu] at hv
      rcases List.mem_append.1 hv with hv | hv
      · exact hp v hv
      · simp only [Option.toList_some, List.mem_singleton] at hv
        subst hv
        exact bj_dtTask tu (bnd_sl (B := 100) w7 (by omega) (fun x hx => bnd_flat rfl (g3 x hx)))
-- DEFS
-- PROOFS
theorem few_loopO (m : Array Value) (fuel : Nat) (a0 a1 a2 a3 : Int) {a4 : AV} (ha : tyV (.sl 10 dtAlloc) a4) (hF : ∀ u ∈ a4.listOf, (shS Sh.any (hdV (tlV (tlV (tlV (tlV (tlV (tlV (tlV (tlV (tlV u.aggOf))))))))))).listOf.length < fuel) (K : Ex → List AV → AH → Option AV) (P : Prop)
    (hret : ∀ (H : AH) (x0 x1 x3 : AV) (x4 x5 x6 x7 x8 x9 x10 x11 x12 x13 x14 x15 x16 x17 x18 x19 x20 x21 x22 x23 x24 x25 x26 x27 x28 x29 x30 x31 x32 x33 x34 x35 x36 x37 x38 x39 x40 x41 x42 x43 x44 x45 x46 x47 x48 x49 x50 x51 x52 x53 x54 : AV), Good (K .ret [x0, x1, .bool false, x3, x4, x5, x6, x7, x8, x9, x10, x11, x12, x13, x14, x15, x16, x17, x18, x19, x20, x21, x22, x23, x24, x25, x26, x27, x28, x29, x30, x31, x32, x33, x34, x35, x36, x37, x38, x39, x40, x41, x42, x43, x44, x45, x46, x47, x48, x49, x50, x51, x52, x53, x54] H) P)
    (hexit : (∀ u ∈ a4.listOf, bnd 100 u = true) → ∀ (i : Int) (x0 x4 x5 x6 x7 x8 x9 x10 x11 x12 x13 x14 x15 x16 x17 x18 x19 x20 x21 x22 x23 x24 x25 x26 x27 x28 x29 x30 x31 x32 x33 x34 x35 x36 x37 x38 x39 x40 x41 x42 x43 x44 x45 x46 x47 x48 x49 x50 x51 x52 x53 x54 : AV), Good (K (.exit 0) [x0, .ptr 0 0, .bool false, .int .i64 i, x4, x5, x6, x7, x8, x9, x10, x11, x12, x13, x14, x15, x16, x17, x18, x19, x20, x21, x22, x23, x24, x25, x26, x27, x28, x29, x30, x31, x32, x33, x34, x35, x36, x37, x38, x39, x40, x41, x42, x43, x44, x45, x46, x47, x48, x49, x50, x51, x52, x53, x54] (fewH a0 a1 a2 a3 a4)) P) :
    ∀ (r jn k : Nat) (i : Int) (x0 x4 x5 x6 x7 x8 x9 x10 x11 x12 x13 x14 x15 x16 x17 x18 x19 x20 x21 x22 x23 x24 x25 x26 x27 x28 x29 x30 x31 x32 x33 x34 x35 x36 x37 x38 x39 x40 x41 x42 x43 x44 x45 x46 x47 x48 x49 x50 x51 x52 x53 x54 : AV), i = (jn : Int) → jn + r = a4.listOf.length → r < k → (∀ u ∈ a4.listOf.take jn, bnd 100 u = true) → Good (loopC (Rep.D m) (cD m fuel) fuel fewO k [x0, .ptr 0 0, .bool false, .int .i64 i, x4, x5, x6, x7, x8, x9, x10, x11, x12, x13, x14, x15, x16, x17, x18, x19, x20, x21, x22, x23, x24, x25, x26, x27, x28, x29, x30, x31, x32, x33, x34, x35, x36, x37, x38, x39, x40, x41, x42, x43, x44, x45, x46, x47, x48, x49, x50, x51, x52, x53, x54] (fewH a0 a1 a2 a3 a4) K) P
  | r, jn, 0, i, _, _, _, _, _, _, _, _, _, _, _, _, _, _, _, _, _, _, _, _, _, _, _, _, _, _, _, _, _, _, _, _, _, _, _, _, _, _, _, _, _, _, _, _, _, _, _, _, _, _, _, _, hj, h, hk, hp => by omega
  | 0, jn, k + 1, i, x0, x4, x5, x6, x7, x8, x9, x10, x11, x12, x13, x14, x15, x16, x17, x18, x19, x20, x21, x22, x23, x24, x25, x26, x27, x28, x29, x30, x31, x32, x33, x34, x35, x36, x37, x38, x39, x40, x41, x42, x43, x44, x45, x46, x47, x48, x49, x50, x51, x52, x53, x54, hj, h, hk, hp => by
    subst hj
    rw [few_out, (sl_facts ha).1, lt_false (by omega : ¬ jn < a4.listOf.length)]
    simp only [br]
    refine hexit ?_ _ _ _ _ _ _ _ _ _ _ _ _ _ _ _ _ _ _ _ _ _ _ _ _ _ _ _ _ _ _ _ _ _ _ _ _ _ _ _ _ _ _ _ _ _ _ _ _ _ _ _ _ _
    rwa [List.take_of_length_le (by omega)] at hp
  | r + 1, jn, k + 1, i, x0, x4, x5, x6, x7, x8, x9, x10, x11, x12, x13, x14, x15, x16, x17, x18, x19, x20, x21, x22, x23, x24, x25, x26, x27, x28, x29, x30, x31, x32, x33, x34, x35, x36, x37, x38, x39, x40, x41, x42, x43, x44, x45, x46, x47, x48, x49, x50, x51, x52, x53, x54, hj, h, hk, hp => by
    subst hj
    obtain ⟨hB, hmax, hT, -, -⟩ := sl_facts ha
    have hi : jn < a4.listOf.length := by omega
    obtain ⟨u, hu⟩ : ∃ u, a4.listOf[jn]? = some u := ⟨_, List.getElem?_eq_getElem hi⟩
    have hmem := List.mem_of_getElem? hu
    have tu := hT u hmem
    rw [few_out, hB, lt_true hi, ge_true, Int.toNat_natCast, hu]
    have hf := hF u hmem
    have w9 := pj_dtAlloc_9 tu
    have w5 := pj_dtAlloc_5 tu
    have w4 := pj_dtAlloc_4 tu
    obtain ⟨g1, -, g3, -, g5⟩ := sl_facts w9
    obtain ⟨g1', -, g3', -, g5'⟩ := sl_facts w5
    obtain ⟨g1'', -, g3'', -, g5''⟩ := sl_facts w4
    simp only [br, Bool.and_self, fit_dtAlloc tu, g1, g5, g1', g5', g1'', g5'']
    by_cases hc : (shS Sh.any (hdV (tlV (tlV (tlV (tlV (tlV (tlV (tlV (tlV (tlV u.aggOf))))))))))).listOf.length > 5
    · rw [dec_t (p := ((shS Sh.any (hdV (tlV (tlV (tlV (tlV (tlV (tlV (tlV (tlV (tlV u.aggOf))))))))))).listOf.length : Int) > 5) (by omega)]
      exact hret _ _ _ _ _ _ _ _ _ _ _ _ _ _ _ _ _ _ _ _ _ _ _ _ _ _ _ _ _ _ _ _ _ _ _ _ _ _ _ _ _ _ _ _ _ _ _ _ _ _ _ _ _ _ _
    rw [dec_f (p := ((shS Sh.any (hdV (tlV (tlV (tlV (tlV (tlV (tlV (tlV (tlV (tlV u.aggOf))))))))))).listOf.length : Int) > 5) (by omega)]
    simp only
    by_cases hc' : (shS Sh.any (hdV (tlV (tlV (tlV (tlV (tlV u.aggOf))))))).listOf.length > 5
    · rw [dec_t (p := ((shS Sh.any (hdV (tlV (tlV (tlV (tlV (tlV u.aggOf))))))).listOf.length : Int) > 5) (by omega)]
      exact hret _ _ _ _ _ _ _ _ _ _ _ _ _ _ _ _ _ _ _ _ _ _ _ _ _ _ _ _ _ _ _ _ _ _ _ _ _ _ _ _ _ _ _ _ _ _ _ _ _ _ _ _ _ _ _
    rw [dec_f (p := ((shS Sh.any (hdV (tlV (tlV (tlV (tlV (tlV u.aggOf))))))).listOf.length : Int) > 5) (by omega)]
    simp only
    by_cases hc'' : (shS Sh.any (hdV (tlV (tlV (tlV (tlV u.aggOf)))))).listOf.length > 9
    · rw [dec_t (p := ((shS Sh.any (hdV (tlV (tlV (tlV (tlV u.aggOf)))))).listOf.length : Int) > 9) (by omega)]
      exact hret _ _ _ _ _ _ _ _ _ _ _ _ _ _ _ _ _ _ _ _ _ _ _ _ _ _ _ _ _ _ _ _ _ _ _ _ _ _ _ _ _ _ _ _ _ _ _ _ _ _ _ _ _ _ _
    rw [dec_f (p := ((shS Sh.any (hdV (tlV (tlV (tlV (tlV u.aggOf)))))).listOf.length : Int) > 9) (by omega)]
    simp only
    refine few_loopI m fuel a0 a1 a2 a3 a4 _ _ _ _ _ _ _ _ _ w9 _ _ P ?_ ?_ (shS Sh.any (hdV (tlV (tlV (tlV (tlV (tlV (tlV (tlV (tlV (tlV u.aggOf))))))))))).listOf.length 0 fuel _ _ _ _ _ _ _ _ _ _ _ _ _ _ _ _ _ _ _ _ _ _ _ _ _ _ _ _ _ _ _ _ _ _ _ _ _ _ _ _ _ _ _ _ _ _ _ _ _ _ _ rfl (by omega) hf (by simp)
    · intro j x0 x6 x7 x8 x9 x10 x11 x12 x13 x14 x15 x16 x17 x18 x19 x20 x21 x22 x23 x24 x25 x26 x27 x28 x29 x30 x31 x32 x33 x34 x35 x36 x37 x38 x39 x40 x41 x42 x43 x44 x45 x46 x47 x48 x49 x50 x51 x52 x53 x54
      rw [few_iret]
      exact hret _ _ _ _ _ _ _ _ _ _ _ _ _ _ _ _ _ _ _ _ _ _ _ _ _ _ _ _ _ _ _ _ _ _ _ _ _ _ _ _ _ _ _ _ _ _ _ _ _ _ _ _ _ _ _
    · intro hall j x0 x6 x7 x8 x9 x10 x11 x12 x13 x14 x15 x16 x17 x18 x19 x20 x21 x22 x23 x24 x25 x26 x27 x28 x29 x30 x31 x32 x33 x34 x35 x36 x37 x38 x39 x40 x41 x42 x43 x44 x45 x46 x47 x48 x49 x50 x51 x52 x53 x54
      have hbo : belowO 1 0 [AObj.cells [AV.int IntKind.i64 a0, AV.int IntKind.i64 a1, AV.int IntKind.i64 a2, AV.int IntKind.i64 a3, a4]] = true := by
        simp only [belowO, AObj.below, belowL, below, tyV_below ha, Bool.and_self]
      rw [few_post, hbo]
      simp only [br]
      rw [wrap_next hi hmax]
      refine few_loopO m fuel a0 a1 a2 a3 ha hF K P hret hexit r (jn + 1) k _ _ _ _ _ _ _ _ _ _ _ _ _ _ _ _ _ _ _ _ _ _ _ _ _ _ _ _ _ _ _ _ _ _ _ _ _ _ _ _ _ _ _ _ _ _ _ _ _ _ _ _ _ rfl (by omega) (by omega) ?_
      intro v hv
      rw [List.take_add_one, hu] at hv
      rcases List.mem_append.1 hv with hv | hv
      · exact hp v hv
      · simp only [Option.toList_some, List.mem_singleton] at hv
        subst hv
        have h9 := bnd_sl (B := 100) w9 (by omega) hall
        have h5 := bnd_sl (B := 100) w5 (by omega) (fun x hx => bnd_flat rfl (g3' x hx))
        have h4 := bnd_sl (B := 100) w4 (by omega) (fun x hx => bnd_flat rfl (g3'' x hx))
        exact bj_dtAlloc tu h4 h5 h9
-- DEFS
-- PROOFS
theorem few20 (m : Array Value) {s : AV} (hs : tyV dtState s) : ∃ b, (∀ H : AH, callL (Rep.D m) 20 [s] H = some (.bool b, H)) ∧ (b = true → bnd 100 s = true) := by
  have key : Good (runI (Rep.D m) (cD m 9223372036854775808) 9223372036854775808 Tryd.f20 [erase s] ⟨[], []⟩ (fun v _ => some v)) (bnd 100 (erase s) = true) := by
    have hs' := tyV_erase hs
    generalize erase s = s at hs' ⊢
    obtain ⟨a0, a1, a2, a3, a4, rfl, w0, w1, w2, w3, w4⟩ := un_dtState hs'
    obtain ⟨g1, gm, g3, -, g5⟩ := sl_facts w4
    have emax : maxLen = 9223372036854775807 := by decide
    rw [few_pre, g1]
    simp only [br]
    by_cases hc : a4.listOf.length > 9
    · rw [dec_t (p := (a4.listOf.length : Int) > 9) (by omega)]
      exact ⟨false, rfl, by simp⟩
    rw [dec_f (p := (a4.listOf.length : Int) > 9) (by omega)]
    simp only
    refine few_loopO m _ a0 a1 a2 a3 w4 ?_ _ _ ?_ ?_ a4.listOf.length 0 _ _ _ _ _ _ _ _ _ _ _ _ _ _ _ _ _ _ _ _ _ _ _ _ _ _ _ _ _ _ _ _ _ _ _ _ _ _ _ _ _ _ _ _ _ _ _ _ _ _ _ _ _ _ rfl (by omega) (by omega) (by simp)
    · intro u hu
      have := (sl_facts (pj_dtAlloc_9 (g3 u hu))).2.1
      omega
    · intro H x0 x1 x3 x4 x5 x6 x7 x8 x9 x10 x11 x12 x13 x14 x15 x16 x17 x18 x19 x20 x21 x22 x23 x24 x25 x26 x27 x28 x29 x30 x31 x32 x33 x34 x35 x36 x37 x38 x39 x40 x41 x42 x43 x44 x45 x46 x47 x48 x49 x50 x51 x52 x53 x54
      rw [few_ret]
      exact ⟨false, rfl, by simp⟩
    · intro hall i x0 x4 x5 x6 x7 x8 x9 x10 x11 x12 x13 x14 x15 x16 x17 x18 x19 x20 x21 x22 x23 x24 x25 x26 x27 x28 x29 x30 x31 x32 x33 x34 x35 x36 x37 x38 x39 x40 x41 x42 x43 x44 x45 x46 x47 x48 x49 x50 x51 x52 x53 x54
      rw [few_end]
      refine ⟨true, rfl, fun _ => ?_⟩
      have h4 := bnd_sl (B := 100) w4 (by omega) hall
      simp only [bnd, bndL, h4]
      rfl
  obtain ⟨b, h1, h2⟩ := key
  refine ⟨b, fun H => ?_, fun hb => bnd_same (tyV_nrm hs).symm (h2 hb)⟩
  exact callL_D (tabD0_ok m) (fuel := 9223372036854775808) (n := 2) (fn := Tryd.f20) (ds := [dtState]) (v := .bool b) (by kernel_rfl) (by kernel_rfl) (by kernel_rfl) ⟨hs, trivial⟩ h1 rfl
-- DEFS
end Go.Proofs.YtoagnbpmoihojaaDoor

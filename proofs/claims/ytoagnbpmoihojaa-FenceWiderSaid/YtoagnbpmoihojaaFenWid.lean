/- The law of FenceWider. -/
import Derived.Test.YtoagnbpmoihojaaFenShort
set_option maxRecDepth 100000
set_option linter.unusedSimpArgs false
set_option linter.unusedVariables false
namespace Go.Proofs.Ytoagnbpmoihojaa
open Go.Sx
theorem wid_nil (c0 c1 c2 c3 c4 c5 c6 c7 c8 c9 c10 : Int) (d r mo cu : Int) :
  runI Try.D (cF 12) 12 Try.f3 [.agg (cfC c0 c1 c2 c3 c4 c5 c6 c7 c8 c9 c10), .int .u16 d, .int .u16 r, .int .u8 mo, .int .u8 cu, .nils] ⟨[], []⟩ (fun v _ => some v) =
  (match valH Try.D 6 [AV.nils]
     {
      objs :=
       [AObj.cells
         [AV.int IntKind.i64 c0, AV.int IntKind.i64 c1, AV.int IntKind.i64 c2, AV.int IntKind.i64 c3,
          AV.int IntKind.i64 c4, AV.int IntKind.i64 c5, AV.int IntKind.i64 c6, AV.int IntKind.i64 c7,
          AV.int IntKind.i64 c8, AV.int IntKind.i64 c9, AV.int IntKind.i64 c10]],
      toks := [] } with
    | some u0 => br (fitS Sh.bool u0)
     (fun _ => br (!u0.boolOf)
      (fun _ => some (AV.bool true))
      (fun _ => (match valH Try.D 7
     [AV.agg
       [AV.int IntKind.i64 c0, AV.int IntKind.i64 c1, AV.int IntKind.i64 c2, AV.int IntKind.i64 c3,
        AV.int IntKind.i64 c4, AV.int IntKind.i64 c5, AV.int IntKind.i64 c6, AV.int IntKind.i64 c7,
        AV.int IntKind.i64 c8, AV.int IntKind.i64 c9, AV.int IntKind.i64 c10]]
     {
      objs :=
       [AObj.cells
         [AV.int IntKind.i64 c0, AV.int IntKind.i64 c1, AV.int IntKind.i64 c2, AV.int IntKind.i64 c3,
          AV.int IntKind.i64 c4, AV.int IntKind.i64 c5, AV.int IntKind.i64 c6, AV.int IntKind.i64 c7,
          AV.int IntKind.i64 c8, AV.int IntKind.i64 c9, AV.int IntKind.i64 c10]],
      toks := [] } with
       | some u3 => br (fitS (Sh.int IntKind.i64) u3)
        (fun _ => br (u3.numOf != (0 : Int))
         (fun _ => some (AV.bool true))
         (fun _ => some (AV.bool true)))
        (fun _ => none)
       | none => none)))
     (fun _ => none)
    | none => none) := by kernel_rfl
theorem wid_form (c0 c1 c2 c3 c4 c5 c6 c7 c8 c9 c10 : Int) (d r mo cu : Int) (xs : List AV) :
  runI Try.D (cF 12) 12 Try.f3 [.agg (cfC c0 c1 c2 c3 c4 c5 c6 c7 c8 c9 c10), .int .u16 d, .int .u16 r, .int .u8 mo, .int .u8 cu, .inl false .unk 14 xs] ⟨[], []⟩ (fun v _ => some v) =
  (match valH Try.D 6 [AV.inl false Spare.unk 14 xs]
     {
      objs :=
       [AObj.cells
         [AV.int IntKind.i64 c0, AV.int IntKind.i64 c1, AV.int IntKind.i64 c2, AV.int IntKind.i64 c3,
          AV.int IntKind.i64 c4, AV.int IntKind.i64 c5, AV.int IntKind.i64 c6, AV.int IntKind.i64 c7,
          AV.int IntKind.i64 c8, AV.int IntKind.i64 c9, AV.int IntKind.i64 c10]],
      toks := [] } with
    | some u0 => br (fitS Sh.bool u0)
     (fun _ => br (!u0.boolOf)
      (fun _ => some (AV.bool true))
      (fun _ => (match valH Try.D 7
     [AV.agg
       [AV.int IntKind.i64 c0, AV.int IntKind.i64 c1, AV.int IntKind.i64 c2, AV.int IntKind.i64 c3,
        AV.int IntKind.i64 c4, AV.int IntKind.i64 c5, AV.int IntKind.i64 c6, AV.int IntKind.i64 c7,
        AV.int IntKind.i64 c8, AV.int IntKind.i64 c9, AV.int IntKind.i64 c10]]
     {
      objs :=
       [AObj.cells
         [AV.int IntKind.i64 c0, AV.int IntKind.i64 c1, AV.int IntKind.i64 c2, AV.int IntKind.i64 c3,
          AV.int IntKind.i64 c4, AV.int IntKind.i64 c5, AV.int IntKind.i64 c6, AV.int IntKind.i64 c7,
          AV.int IntKind.i64 c8, AV.int IntKind.i64 c9, AV.int IntKind.i64 c10]],
      toks := [] } with
       | some u3 => br (fitS (Sh.int IntKind.i64) u3)
        (fun _ => br (u3.numOf != (0 : Int))
         (fun _ => some (AV.bool true))
         (fun _ => br ((↑xs.length : Int) == (0 : Int))
          (fun _ => some (AV.bool true))
          (fun _ => (match valH Try.D 8
     [AV.agg
       [AV.int IntKind.i64 c0, AV.int IntKind.i64 c1, AV.int IntKind.i64 c2, AV.int IntKind.i64 c3,
        AV.int IntKind.i64 c4, AV.int IntKind.i64 c5, AV.int IntKind.i64 c6, AV.int IntKind.i64 c7,
        AV.int IntKind.i64 c8, AV.int IntKind.i64 c9, AV.int IntKind.i64 c10],
      AV.int IntKind.i64 (IntKind.i64.wrap d), AV.int IntKind.i64 (IntKind.i64.wrap r), AV.inl false Spare.unk 14 xs]
     {
      objs :=
       [AObj.cells
         [AV.int IntKind.i64 c0, AV.int IntKind.i64 c1, AV.int IntKind.i64 c2, AV.int IntKind.i64 c3,
          AV.int IntKind.i64 c4, AV.int IntKind.i64 c5, AV.int IntKind.i64 c6, AV.int IntKind.i64 c7,
          AV.int IntKind.i64 c8, AV.int IntKind.i64 c9, AV.int IntKind.i64 c10]],
      toks := [] } with
           | some u7 => br (AV.isTup 2 u7)
            (fun _ => br (fitS Sh.bool (hdV u7.tupOf))
             (fun _ => br (fitS (Sh.int IntKind.i64) (hdV (tlV u7.tupOf)))
              (fun _ => br ((hdV (tlV u7.tupOf)).numOf == (13 : Int))
               (fun _ => (match valH Try.D 9 []
     {
      objs :=
       [AObj.cells
         [AV.int IntKind.i64 c0, AV.int IntKind.i64 c1, AV.int IntKind.i64 c2, AV.int IntKind.i64 c3,
          AV.int IntKind.i64 c4, AV.int IntKind.i64 c5, AV.int IntKind.i64 c6, AV.int IntKind.i64 c7,
          AV.int IntKind.i64 c8, AV.int IntKind.i64 c9, AV.int IntKind.i64 c10]],
      toks := [] } with
                | some u12 => br (fitS Sh.bool u12)
                 (fun _ => some (AV.bool u12.boolOf))
                 (fun _ => none)
                | none => none))
               (fun _ => br ((hdV (tlV u7.tupOf)).numOf == (3 : Int))
                (fun _ => (match valH Try.D 9 []
     {
      objs :=
       [AObj.cells
         [AV.int IntKind.i64 c0, AV.int IntKind.i64 c1, AV.int IntKind.i64 c2, AV.int IntKind.i64 c3,
          AV.int IntKind.i64 c4, AV.int IntKind.i64 c5, AV.int IntKind.i64 c6, AV.int IntKind.i64 c7,
          AV.int IntKind.i64 c8, AV.int IntKind.i64 c9, AV.int IntKind.i64 c10]],
      toks := [] } with
                 | some u13 => br (fitS Sh.bool u13)
                  (fun _ => some (AV.bool u13.boolOf))
                  (fun _ => none)
                 | none => none))
                (fun _ => (match valH Try.D 8
     [AV.agg
       [AV.int IntKind.i64 c0, AV.int IntKind.i64 c1, AV.int IntKind.i64 c2, AV.int IntKind.i64 c3,
        AV.int IntKind.i64 c4, AV.int IntKind.i64 c5, AV.int IntKind.i64 c6, AV.int IntKind.i64 c7,
        AV.int IntKind.i64 c8, AV.int IntKind.i64 c9, AV.int IntKind.i64 c10],
      AV.int IntKind.i64 (IntKind.i64.wrap (IntKind.i64.wrap d + IntKind.i64.wrap mo)),
      AV.int IntKind.i64
       (IntKind.i64.wrap (IntKind.i64.wrap r + IntKind.i64.wrap ((IntKind.i64.wrap mo).tdiv ((2 : Int))))),
      AV.inl false Spare.unk 14 xs]
     {
      objs :=
       [AObj.cells
         [AV.int IntKind.i64 c0, AV.int IntKind.i64 c1, AV.int IntKind.i64 c2, AV.int IntKind.i64 c3,
          AV.int IntKind.i64 c4, AV.int IntKind.i64 c5, AV.int IntKind.i64 c6, AV.int IntKind.i64 c7,
          AV.int IntKind.i64 c8, AV.int IntKind.i64 c9, AV.int IntKind.i64 c10]],
      toks := [] } with
                 | some u13 => br (AV.isTup 2 u13)
                  (fun _ => br (fitS Sh.bool (hdV u13.tupOf))
                   (fun _ => br (fitS (Sh.int IntKind.i64) (hdV (tlV u13.tupOf)))
                    (fun _ => (if (↑xs.length : Int) = (0 : Int) then none
                     else (if (0 : Int) ≤ IntKind.i64.wrap ((1 : Int) + (IntKind.i64.wrap cu).tmod (↑xs.length : Int)) ∧
     IntKind.i64.wrap ((1 : Int) + (IntKind.i64.wrap cu).tmod (↑xs.length : Int)) ≤ (↑xs.length : Int) then (if 0 = 0 ∧ (IntKind.i64.wrap ((1 : Int) + (IntKind.i64.wrap cu).tmod (↑xs.length : Int))).toNat = xs.length then (match valH Try.D 8
     [AV.agg
       [AV.int IntKind.i64 c0, AV.int IntKind.i64 c1, AV.int IntKind.i64 c2, AV.int IntKind.i64 c3,
        AV.int IntKind.i64 c4, AV.int IntKind.i64 c5, AV.int IntKind.i64 c6, AV.int IntKind.i64 c7,
        AV.int IntKind.i64 c8, AV.int IntKind.i64 c9, AV.int IntKind.i64 c10],
      AV.int IntKind.i64 (IntKind.i64.wrap d), AV.int IntKind.i64 (IntKind.i64.wrap r), AV.inl false Spare.unk 14 xs]
     {
      objs :=
       [AObj.cells
         [AV.int IntKind.i64 c0, AV.int IntKind.i64 c1, AV.int IntKind.i64 c2, AV.int IntKind.i64 c3,
          AV.int IntKind.i64 c4, AV.int IntKind.i64 c5, AV.int IntKind.i64 c6, AV.int IntKind.i64 c7,
          AV.int IntKind.i64 c8, AV.int IntKind.i64 c9, AV.int IntKind.i64 c10]],
      toks := [] } with
                        | some u20 => br (AV.isTup 2 u20)
                         (fun _ => br (fitS Sh.bool (hdV u20.tupOf))
                          (fun _ => br (fitS (Sh.int IntKind.i64) (hdV (tlV u20.tupOf)))
                           (fun _ => (match valH Try.D 10
     [AV.agg
       [AV.int IntKind.i64 c0, AV.int IntKind.i64 c1, AV.int IntKind.i64 c2, AV.int IntKind.i64 c3,
        AV.int IntKind.i64 c4, AV.int IntKind.i64 c5, AV.int IntKind.i64 c6, AV.int IntKind.i64 c7,
        AV.int IntKind.i64 c8, AV.int IntKind.i64 c9, AV.int IntKind.i64 c10],
      AV.int IntKind.i64 (IntKind.i64.wrap d), AV.int IntKind.i64 (IntKind.i64.wrap r), AV.inl false Spare.unk 14 xs]
     {
      objs :=
       [AObj.cells
         [AV.int IntKind.i64 c0, AV.int IntKind.i64 c1, AV.int IntKind.i64 c2, AV.int IntKind.i64 c3,
          AV.int IntKind.i64 c4, AV.int IntKind.i64 c5, AV.int IntKind.i64 c6, AV.int IntKind.i64 c7,
          AV.int IntKind.i64 c8, AV.int IntKind.i64 c9, AV.int IntKind.i64 c10]],
      toks := [] } with
                            | some u24 => br (AV.isTup 2 u24)
                             (fun _ => br (fitS Sh.bool (hdV u24.tupOf))
                              (fun _ => br (fitS (Sh.int IntKind.i64) (hdV (tlV u24.tupOf)))
                               (fun _ => (if (0 : Int) ≤ IntKind.i64.wrap ((1 : Int) + (IntKind.i64.wrap cu).tmod (↑xs.length : Int)) ∧
     IntKind.i64.wrap ((1 : Int) + (IntKind.i64.wrap cu).tmod (↑xs.length : Int)) ≤ (↑xs.length : Int) then (if 0 = 0 ∧ (IntKind.i64.wrap ((1 : Int) + (IntKind.i64.wrap cu).tmod (↑xs.length : Int))).toNat = xs.length then (match valH Try.D 10
     [AV.agg
       [AV.int IntKind.i64 c0, AV.int IntKind.i64 c1, AV.int IntKind.i64 c2, AV.int IntKind.i64 c3,
        AV.int IntKind.i64 c4, AV.int IntKind.i64 c5, AV.int IntKind.i64 c6, AV.int IntKind.i64 c7,
        AV.int IntKind.i64 c8, AV.int IntKind.i64 c9, AV.int IntKind.i64 c10],
      AV.int IntKind.i64 (IntKind.i64.wrap d), AV.int IntKind.i64 (IntKind.i64.wrap r), AV.inl false Spare.unk 14 xs]
     {
      objs :=
       [AObj.cells
         [AV.int IntKind.i64 c0, AV.int IntKind.i64 c1, AV.int IntKind.i64 c2, AV.int IntKind.i64 c3,
          AV.int IntKind.i64 c4, AV.int IntKind.i64 c5, AV.int IntKind.i64 c6, AV.int IntKind.i64 c7,
          AV.int IntKind.i64 c8, AV.int IntKind.i64 c9, AV.int IntKind.i64 c10]],
      toks := [] } with
                                  | some u30 => br (AV.isTup 2 u30)
                                   (fun _ => br (fitS Sh.bool (hdV u30.tupOf))
                                    (fun _ => br (fitS (Sh.int IntKind.i64) (hdV (tlV u30.tupOf)))
                                     (fun _ => br ((hdV (tlV u7.tupOf)).numOf != (0 : Int))
                                      (fun _ => some (AV.bool false))
                                      (fun _ => br ((hdV (tlV u13.tupOf)).numOf != (0 : Int))
                                       (fun _ => some (AV.bool false))
                                       (fun _ => br ((hdV (tlV u20.tupOf)).numOf != (0 : Int))
                                        (fun _ => some (AV.bool false))
                                        (fun _ => br ((hdV (tlV u24.tupOf)).numOf != (0 : Int))
                                         (fun _ => some (AV.bool false))
                                         (fun _ => br ((hdV (tlV u30.tupOf)).numOf != (0 : Int))
                                          (fun _ => some (AV.bool false))
                                          (fun _ => br ((hdV u7.tupOf).boolOf)
                                           (fun _ => br (!(hdV u13.tupOf).boolOf)
                                            (fun _ => some (AV.bool false))
                                            (fun _ => br (!(hdV u20.tupOf).boolOf)
                                             (fun _ => some (AV.bool false))
                                             (fun _ => br ((hdV u24.tupOf).boolOf)
                                              (fun _ => br (!(hdV u30.tupOf).boolOf)
                                               (fun _ => some (AV.bool false))
                                               (fun _ => (match valH Try.D 9 []
     {
      objs :=
       [AObj.cells
         [AV.int IntKind.i64 c0, AV.int IntKind.i64 c1, AV.int IntKind.i64 c2, AV.int IntKind.i64 c3,
          AV.int IntKind.i64 c4, AV.int IntKind.i64 c5, AV.int IntKind.i64 c6, AV.int IntKind.i64 c7,
          AV.int IntKind.i64 c8, AV.int IntKind.i64 c9, AV.int IntKind.i64 c10]],
      toks := [] } with
                                                | some u44 => br (fitS Sh.bool u44)
                                                 (fun _ => some (AV.bool u44.boolOf))
                                                 (fun _ => none)
                                                | none => none)))
                                              (fun _ => (match valH Try.D 9 []
     {
      objs :=
       [AObj.cells
         [AV.int IntKind.i64 c0, AV.int IntKind.i64 c1, AV.int IntKind.i64 c2, AV.int IntKind.i64 c3,
          AV.int IntKind.i64 c4, AV.int IntKind.i64 c5, AV.int IntKind.i64 c6, AV.int IntKind.i64 c7,
          AV.int IntKind.i64 c8, AV.int IntKind.i64 c9, AV.int IntKind.i64 c10]],
      toks := [] } with
                                               | some u43 => br (fitS Sh.bool u43)
                                                (fun _ => some (AV.bool u43.boolOf))
                                                (fun _ => none)
                                               | none => none)))))
                                           (fun _ => br ((hdV u24.tupOf).boolOf)
                                            (fun _ => br (!(hdV u30.tupOf).boolOf)
                                             (fun _ => some (AV.bool false))
                                             (fun _ => (match valH Try.D 9 []
     {
      objs :=
       [AObj.cells
         [AV.int IntKind.i64 c0, AV.int IntKind.i64 c1, AV.int IntKind.i64 c2, AV.int IntKind.i64 c3,
          AV.int IntKind.i64 c4, AV.int IntKind.i64 c5, AV.int IntKind.i64 c6, AV.int IntKind.i64 c7,
          AV.int IntKind.i64 c8, AV.int IntKind.i64 c9, AV.int IntKind.i64 c10]],
      toks := [] } with
                                              | some u42 => br (fitS Sh.bool u42)
                                               (fun _ => some (AV.bool u42.boolOf))
                                               (fun _ => none)
                                              | none => none)))
                                            (fun _ => (match valH Try.D 9 []
     {
      objs :=
       [AObj.cells
         [AV.int IntKind.i64 c0, AV.int IntKind.i64 c1, AV.int IntKind.i64 c2, AV.int IntKind.i64 c3,
          AV.int IntKind.i64 c4, AV.int IntKind.i64 c5, AV.int IntKind.i64 c6, AV.int IntKind.i64 c7,
          AV.int IntKind.i64 c8, AV.int IntKind.i64 c9, AV.int IntKind.i64 c10]],
      toks := [] } with
                                             | some u41 => br (fitS Sh.bool u41)
                                              (fun _ => some (AV.bool u41.boolOf))
                                              (fun _ => none)
                                             | none => none)))))))))
                                     (fun _ => none))
                                    (fun _ => none))
                                   (fun _ => none)
                                  | none => none)
                                 else (match valH Try.D 10
     [AV.agg
       [AV.int IntKind.i64 c0, AV.int IntKind.i64 c1, AV.int IntKind.i64 c2, AV.int IntKind.i64 c3,
        AV.int IntKind.i64 c4, AV.int IntKind.i64 c5, AV.int IntKind.i64 c6, AV.int IntKind.i64 c7,
        AV.int IntKind.i64 c8, AV.int IntKind.i64 c9, AV.int IntKind.i64 c10],
      AV.int IntKind.i64 (IntKind.i64.wrap d), AV.int IntKind.i64 (IntKind.i64.wrap r),
      AV.inl false Spare.unk 14
       (List.take ((IntKind.i64.wrap ((1 : Int) + (IntKind.i64.wrap cu).tmod (↑xs.length : Int))).toNat - 0) xs)]
     {
      objs :=
       [AObj.cells
         [AV.int IntKind.i64 c0, AV.int IntKind.i64 c1, AV.int IntKind.i64 c2, AV.int IntKind.i64 c3,
          AV.int IntKind.i64 c4, AV.int IntKind.i64 c5, AV.int IntKind.i64 c6, AV.int IntKind.i64 c7,
          AV.int IntKind.i64 c8, AV.int IntKind.i64 c9, AV.int IntKind.i64 c10]],
      toks := [] } with
                                  | some u30 => br (AV.isTup 2 u30)
                                   (fun _ => br (fitS Sh.bool (hdV u30.tupOf))
                                    (fun _ => br (fitS (Sh.int IntKind.i64) (hdV (tlV u30.tupOf)))
                                     (fun _ => br ((hdV (tlV u7.tupOf)).numOf != (0 : Int))
                                      (fun _ => some (AV.bool false))
                                      (fun _ => br ((hdV (tlV u13.tupOf)).numOf != (0 : Int))
                                       (fun _ => some (AV.bool false))
                                       (fun _ => br ((hdV (tlV u20.tupOf)).numOf != (0 : Int))
                                        (fun _ => some (AV.bool false))
                                        (fun _ => br ((hdV (tlV u24.tupOf)).numOf != (0 : Int))
                                         (fun _ => some (AV.bool false))
                                         (fun _ => br ((hdV (tlV u30.tupOf)).numOf != (0 : Int))
                                          (fun _ => some (AV.bool false))
                                          (fun _ => br ((hdV u7.tupOf).boolOf)
                                           (fun _ => br (!(hdV u13.tupOf).boolOf)
                                            (fun _ => some (AV.bool false))
                                            (fun _ => br (!(hdV u20.tupOf).boolOf)
                                             (fun _ => some (AV.bool false))
                                             (fun _ => br ((hdV u24.tupOf).boolOf)
                                              (fun _ => br (!(hdV u30.tupOf).boolOf)
                                               (fun _ => some (AV.bool false))
                                               (fun _ => (match valH Try.D 9 []
     {
      objs :=
       [AObj.cells
         [AV.int IntKind.i64 c0, AV.int IntKind.i64 c1, AV.int IntKind.i64 c2, AV.int IntKind.i64 c3,
          AV.int IntKind.i64 c4, AV.int IntKind.i64 c5, AV.int IntKind.i64 c6, AV.int IntKind.i64 c7,
          AV.int IntKind.i64 c8, AV.int IntKind.i64 c9, AV.int IntKind.i64 c10]],
      toks := [] } with
                                                | some u44 => br (fitS Sh.bool u44)
                                                 (fun _ => some (AV.bool u44.boolOf))
                                                 (fun _ => none)
                                                | none => none)))
                                              (fun _ => (match valH Try.D 9 []
     {
      objs :=
       [AObj.cells
         [AV.int IntKind.i64 c0, AV.int IntKind.i64 c1, AV.int IntKind.i64 c2, AV.int IntKind.i64 c3,
          AV.int IntKind.i64 c4, AV.int IntKind.i64 c5, AV.int IntKind.i64 c6, AV.int IntKind.i64 c7,
          AV.int IntKind.i64 c8, AV.int IntKind.i64 c9, AV.int IntKind.i64 c10]],
      toks := [] } with
                                               | some u43 => br (fitS Sh.bool u43)
                                                (fun _ => some (AV.bool u43.boolOf))
                                                (fun _ => none)
                                               | none => none)))))
                                           (fun _ => br ((hdV u24.tupOf).boolOf)
                                            (fun _ => br (!(hdV u30.tupOf).boolOf)
                                             (fun _ => some (AV.bool false))
                                             (fun _ => (match valH Try.D 9 []
     {
      objs :=
       [AObj.cells
         [AV.int IntKind.i64 c0, AV.int IntKind.i64 c1, AV.int IntKind.i64 c2, AV.int IntKind.i64 c3,
          AV.int IntKind.i64 c4, AV.int IntKind.i64 c5, AV.int IntKind.i64 c6, AV.int IntKind.i64 c7,
          AV.int IntKind.i64 c8, AV.int IntKind.i64 c9, AV.int IntKind.i64 c10]],
      toks := [] } with
                                              | some u42 => br (fitS Sh.bool u42)
                                               (fun _ => some (AV.bool u42.boolOf))
                                               (fun _ => none)
                                              | none => none)))
                                            (fun _ => (match valH Try.D 9 []
     {
      objs :=
       [AObj.cells
         [AV.int IntKind.i64 c0, AV.int IntKind.i64 c1, AV.int IntKind.i64 c2, AV.int IntKind.i64 c3,
          AV.int IntKind.i64 c4, AV.int IntKind.i64 c5, AV.int IntKind.i64 c6, AV.int IntKind.i64 c7,
          AV.int IntKind.i64 c8, AV.int IntKind.i64 c9, AV.int IntKind.i64 c10]],
      toks := [] } with
                                             | some u41 => br (fitS Sh.bool u41)
                                              (fun _ => some (AV.bool u41.boolOf))
                                              (fun _ => none)
                                             | none => none)))))))))
                                     (fun _ => none))
                                    (fun _ => none))
                                   (fun _ => none)
                                  | none => none))
                                else none))
                               (fun _ => none))
                              (fun _ => none))
                             (fun _ => none)
                            | none => none))
                           (fun _ => none))
                          (fun _ => none))
                         (fun _ => none)
                        | none => none)
                       else (match valH Try.D 8
     [AV.agg
       [AV.int IntKind.i64 c0, AV.int IntKind.i64 c1, AV.int IntKind.i64 c2, AV.int IntKind.i64 c3,
        AV.int IntKind.i64 c4, AV.int IntKind.i64 c5, AV.int IntKind.i64 c6, AV.int IntKind.i64 c7,
        AV.int IntKind.i64 c8, AV.int IntKind.i64 c9, AV.int IntKind.i64 c10],
      AV.int IntKind.i64 (IntKind.i64.wrap d), AV.int IntKind.i64 (IntKind.i64.wrap r),
      AV.inl false Spare.unk 14
       (List.take ((IntKind.i64.wrap ((1 : Int) + (IntKind.i64.wrap cu).tmod (↑xs.length : Int))).toNat - 0) xs)]
     {
      objs :=
       [AObj.cells
         [AV.int IntKind.i64 c0, AV.int IntKind.i64 c1, AV.int IntKind.i64 c2, AV.int IntKind.i64 c3,
          AV.int IntKind.i64 c4, AV.int IntKind.i64 c5, AV.int IntKind.i64 c6, AV.int IntKind.i64 c7,
          AV.int IntKind.i64 c8, AV.int IntKind.i64 c9, AV.int IntKind.i64 c10]],
      toks := [] } with
                        | some u20 => br (AV.isTup 2 u20)
                         (fun _ => br (fitS Sh.bool (hdV u20.tupOf))
                          (fun _ => br (fitS (Sh.int IntKind.i64) (hdV (tlV u20.tupOf)))
                           (fun _ => (match valH Try.D 10
     [AV.agg
       [AV.int IntKind.i64 c0, AV.int IntKind.i64 c1, AV.int IntKind.i64 c2, AV.int IntKind.i64 c3,
        AV.int IntKind.i64 c4, AV.int IntKind.i64 c5, AV.int IntKind.i64 c6, AV.int IntKind.i64 c7,
        AV.int IntKind.i64 c8, AV.int IntKind.i64 c9, AV.int IntKind.i64 c10],
      AV.int IntKind.i64 (IntKind.i64.wrap d), AV.int IntKind.i64 (IntKind.i64.wrap r), AV.inl false Spare.unk 14 xs]
     {
      objs :=
       [AObj.cells
         [AV.int IntKind.i64 c0, AV.int IntKind.i64 c1, AV.int IntKind.i64 c2, AV.int IntKind.i64 c3,
          AV.int IntKind.i64 c4, AV.int IntKind.i64 c5, AV.int IntKind.i64 c6, AV.int IntKind.i64 c7,
          AV.int IntKind.i64 c8, AV.int IntKind.i64 c9, AV.int IntKind.i64 c10]],
      toks := [] } with
                            | some u24 => br (AV.isTup 2 u24)
                             (fun _ => br (fitS Sh.bool (hdV u24.tupOf))
                              (fun _ => br (fitS (Sh.int IntKind.i64) (hdV (tlV u24.tupOf)))
                               (fun _ => (if (0 : Int) ≤ IntKind.i64.wrap ((1 : Int) + (IntKind.i64.wrap cu).tmod (↑xs.length : Int)) ∧
     IntKind.i64.wrap ((1 : Int) + (IntKind.i64.wrap cu).tmod (↑xs.length : Int)) ≤ (↑xs.length : Int) then (if 0 = 0 ∧ (IntKind.i64.wrap ((1 : Int) + (IntKind.i64.wrap cu).tmod (↑xs.length : Int))).toNat = xs.length then (match valH Try.D 10
     [AV.agg
       [AV.int IntKind.i64 c0, AV.int IntKind.i64 c1, AV.int IntKind.i64 c2, AV.int IntKind.i64 c3,
        AV.int IntKind.i64 c4, AV.int IntKind.i64 c5, AV.int IntKind.i64 c6, AV.int IntKind.i64 c7,
        AV.int IntKind.i64 c8, AV.int IntKind.i64 c9, AV.int IntKind.i64 c10],
      AV.int IntKind.i64 (IntKind.i64.wrap d), AV.int IntKind.i64 (IntKind.i64.wrap r), AV.inl false Spare.unk 14 xs]
     {
      objs :=
       [AObj.cells
         [AV.int IntKind.i64 c0, AV.int IntKind.i64 c1, AV.int IntKind.i64 c2, AV.int IntKind.i64 c3,
          AV.int IntKind.i64 c4, AV.int IntKind.i64 c5, AV.int IntKind.i64 c6, AV.int IntKind.i64 c7,
          AV.int IntKind.i64 c8, AV.int IntKind.i64 c9, AV.int IntKind.i64 c10]],
      toks := [] } with
                                  | some u30 => br (AV.isTup 2 u30)
                                   (fun _ => br (fitS Sh.bool (hdV u30.tupOf))
                                    (fun _ => br (fitS (Sh.int IntKind.i64) (hdV (tlV u30.tupOf)))
                                     (fun _ => br ((hdV (tlV u7.tupOf)).numOf != (0 : Int))
                                      (fun _ => some (AV.bool false))
                                      (fun _ => br ((hdV (tlV u13.tupOf)).numOf != (0 : Int))
                                       (fun _ => some (AV.bool false))
                                       (fun _ => br ((hdV (tlV u20.tupOf)).numOf != (0 : Int))
                                        (fun _ => some (AV.bool false))
                                        (fun _ => br ((hdV (tlV u24.tupOf)).numOf != (0 : Int))
                                         (fun _ => some (AV.bool false))
                                         (fun _ => br ((hdV (tlV u30.tupOf)).numOf != (0 : Int))
                                          (fun _ => some (AV.bool false))
                                          (fun _ => br ((hdV u7.tupOf).boolOf)
                                           (fun _ => br (!(hdV u13.tupOf).boolOf)
                                            (fun _ => some (AV.bool false))
                                            (fun _ => br (!(hdV u20.tupOf).boolOf)
                                             (fun _ => some (AV.bool false))
                                             (fun _ => br ((hdV u24.tupOf).boolOf)
                                              (fun _ => br (!(hdV u30.tupOf).boolOf)
                                               (fun _ => some (AV.bool false))
                                               (fun _ => (match valH Try.D 9 []
     {
      objs :=
       [AObj.cells
         [AV.int IntKind.i64 c0, AV.int IntKind.i64 c1, AV.int IntKind.i64 c2, AV.int IntKind.i64 c3,
          AV.int IntKind.i64 c4, AV.int IntKind.i64 c5, AV.int IntKind.i64 c6, AV.int IntKind.i64 c7,
          AV.int IntKind.i64 c8, AV.int IntKind.i64 c9, AV.int IntKind.i64 c10]],
      toks := [] } with
                                                | some u44 => br (fitS Sh.bool u44)
                                                 (fun _ => some (AV.bool u44.boolOf))
                                                 (fun _ => none)
                                                | none => none)))
                                              (fun _ => (match valH Try.D 9 []
     {
      objs :=
       [AObj.cells
         [AV.int IntKind.i64 c0, AV.int IntKind.i64 c1, AV.int IntKind.i64 c2, AV.int IntKind.i64 c3,
          AV.int IntKind.i64 c4, AV.int IntKind.i64 c5, AV.int IntKind.i64 c6, AV.int IntKind.i64 c7,
          AV.int IntKind.i64 c8, AV.int IntKind.i64 c9, AV.int IntKind.i64 c10]],
      toks := [] } with
                                               | some u43 => br (fitS Sh.bool u43)
                                                (fun _ => some (AV.bool u43.boolOf))
                                                (fun _ => none)
                                               | none => none)))))
                                           (fun _ => br ((hdV u24.tupOf).boolOf)
                                            (fun _ => br (!(hdV u30.tupOf).boolOf)
                                             (fun _ => some (AV.bool false))
                                             (fun _ => (match valH Try.D 9 []
     {
      objs :=
       [AObj.cells
         [AV.int IntKind.i64 c0, AV.int IntKind.i64 c1, AV.int IntKind.i64 c2, AV.int IntKind.i64 c3,
          AV.int IntKind.i64 c4, AV.int IntKind.i64 c5, AV.int IntKind.i64 c6, AV.int IntKind.i64 c7,
          AV.int IntKind.i64 c8, AV.int IntKind.i64 c9, AV.int IntKind.i64 c10]],
      toks := [] } with
                                              | some u42 => br (fitS Sh.bool u42)
                                               (fun _ => some (AV.bool u42.boolOf))
                                               (fun _ => none)
                                              | none => none)))
                                            (fun _ => (match valH Try.D 9 []
     {
      objs :=
       [AObj.cells
         [AV.int IntKind.i64 c0, AV.int IntKind.i64 c1, AV.int IntKind.i64 c2, AV.int IntKind.i64 c3,
          AV.int IntKind.i64 c4, AV.int IntKind.i64 c5, AV.int IntKind.i64 c6, AV.int IntKind.i64 c7,
          AV.int IntKind.i64 c8, AV.int IntKind.i64 c9, AV.int IntKind.i64 c10]],
      toks := [] } with
                                             | some u41 => br (fitS Sh.bool u41)
                                              (fun _ => some (AV.bool u41.boolOf))
                                              (fun _ => none)
                                             | none => none)))))))))
                                     (fun _ => none))
                                    (fun _ => none))
                                   (fun _ => none)
                                  | none => none)
                                 else (match valH Try.D 10
     [AV.agg
       [AV.int IntKind.i64 c0, AV.int IntKind.i64 c1, AV.int IntKind.i64 c2, AV.int IntKind.i64 c3,
        AV.int IntKind.i64 c4, AV.int IntKind.i64 c5, AV.int IntKind.i64 c6, AV.int IntKind.i64 c7,
        AV.int IntKind.i64 c8, AV.int IntKind.i64 c9, AV.int IntKind.i64 c10],
      AV.int IntKind.i64 (IntKind.i64.wrap d), AV.int IntKind.i64 (IntKind.i64.wrap r),
      AV.inl false Spare.unk 14
       (List.take ((IntKind.i64.wrap ((1 : Int) + (IntKind.i64.wrap cu).tmod (↑xs.length : Int))).toNat - 0) xs)]
     {
      objs :=
       [AObj.cells
         [AV.int IntKind.i64 c0, AV.int IntKind.i64 c1, AV.int IntKind.i64 c2, AV.int IntKind.i64 c3,
          AV.int IntKind.i64 c4, AV.int IntKind.i64 c5, AV.int IntKind.i64 c6, AV.int IntKind.i64 c7,
          AV.int IntKind.i64 c8, AV.int IntKind.i64 c9, AV.int IntKind.i64 c10]],
      toks := [] } with
                                  | some u30 => br (AV.isTup 2 u30)
                                   (fun _ => br (fitS Sh.bool (hdV u30.tupOf))
                                    (fun _ => br (fitS (Sh.int IntKind.i64) (hdV (tlV u30.tupOf)))
                                     (fun _ => br ((hdV (tlV u7.tupOf)).numOf != (0 : Int))
                                      (fun _ => some (AV.bool false))
                                      (fun _ => br ((hdV (tlV u13.tupOf)).numOf != (0 : Int))
                                       (fun _ => some (AV.bool false))
                                       (fun _ => br ((hdV (tlV u20.tupOf)).numOf != (0 : Int))
                                        (fun _ => some (AV.bool false))
                                        (fun _ => br ((hdV (tlV u24.tupOf)).numOf != (0 : Int))
                                         (fun _ => some (AV.bool false))
                                         (fun _ => br ((hdV (tlV u30.tupOf)).numOf != (0 : Int))
                                          (fun _ => some (AV.bool false))
                                          (fun _ => br ((hdV u7.tupOf).boolOf)
                                           (fun _ => br (!(hdV u13.tupOf).boolOf)
                                            (fun _ => some (AV.bool false))
                                            (fun _ => br (!(hdV u20.tupOf).boolOf)
                                             (fun _ => some (AV.bool false))
                                             (fun _ => br ((hdV u24.tupOf).boolOf)
                                              (fun _ => br (!(hdV u30.tupOf).boolOf)
                                               (fun _ => some (AV.bool false))
                                               (fun _ => (match valH Try.D 9 []
     {
      objs :=
       [AObj.cells
         [AV.int IntKind.i64 c0, AV.int IntKind.i64 c1, AV.int IntKind.i64 c2, AV.int IntKind.i64 c3,
          AV.int IntKind.i64 c4, AV.int IntKind.i64 c5, AV.int IntKind.i64 c6, AV.int IntKind.i64 c7,
          AV.int IntKind.i64 c8, AV.int IntKind.i64 c9, AV.int IntKind.i64 c10]],
      toks := [] } with
                                                | some u44 => br (fitS Sh.bool u44)
                                                 (fun _ => some (AV.bool u44.boolOf))
                                                 (fun _ => none)
                                                | none => none)))
                                              (fun _ => (match valH Try.D 9 []
     {
      objs :=
       [AObj.cells
         [AV.int IntKind.i64 c0, AV.int IntKind.i64 c1, AV.int IntKind.i64 c2, AV.int IntKind.i64 c3,
          AV.int IntKind.i64 c4, AV.int IntKind.i64 c5, AV.int IntKind.i64 c6, AV.int IntKind.i64 c7,
          AV.int IntKind.i64 c8, AV.int IntKind.i64 c9, AV.int IntKind.i64 c10]],
      toks := [] } with
                                               | some u43 => br (fitS Sh.bool u43)
                                                (fun _ => some (AV.bool u43.boolOf))
                                                (fun _ => none)
                                               | none => none)))))
                                           (fun _ => br ((hdV u24.tupOf).boolOf)
                                            (fun _ => br (!(hdV u30.tupOf).boolOf)
                                             (fun _ => some (AV.bool false))
                                             (fun _ => (match valH Try.D 9 []
     {
      objs :=
       [AObj.cells
         [AV.int IntKind.i64 c0, AV.int IntKind.i64 c1, AV.int IntKind.i64 c2, AV.int IntKind.i64 c3,
          AV.int IntKind.i64 c4, AV.int IntKind.i64 c5, AV.int IntKind.i64 c6, AV.int IntKind.i64 c7,
          AV.int IntKind.i64 c8, AV.int IntKind.i64 c9, AV.int IntKind.i64 c10]],
      toks := [] } with
                                              | some u42 => br (fitS Sh.bool u42)
                                               (fun _ => some (AV.bool u42.boolOf))
                                               (fun _ => none)
                                              | none => none)))
                                            (fun _ => (match valH Try.D 9 []
     {
      objs :=
       [AObj.cells
         [AV.int IntKind.i64 c0, AV.int IntKind.i64 c1, AV.int IntKind.i64 c2, AV.int IntKind.i64 c3,
          AV.int IntKind.i64 c4, AV.int IntKind.i64 c5, AV.int IntKind.i64 c6, AV.int IntKind.i64 c7,
          AV.int IntKind.i64 c8, AV.int IntKind.i64 c9, AV.int IntKind.i64 c10]],
      toks := [] } with
                                             | some u41 => br (fitS Sh.bool u41)
                                              (fun _ => some (AV.bool u41.boolOf))
                                              (fun _ => none)
                                             | none => none)))))))))
                                     (fun _ => none))
                                    (fun _ => none))
                                   (fun _ => none)
                                  | none => none))
                                else none))
                               (fun _ => none))
                              (fun _ => none))
                             (fun _ => none)
                            | none => none))
                           (fun _ => none))
                          (fun _ => none))
                         (fun _ => none)
                        | none => none))
                      else none)))
                    (fun _ => none))
                   (fun _ => none))
                  (fun _ => none)
                 | none => none))))
              (fun _ => none))
             (fun _ => none))
            (fun _ => none)
           | none => none))))
        (fun _ => none)
       | none => none)))
     (fun _ => none)
    | none => none) := by kernel_rfl
-- PROOFS
theorem len_erase {n : Nat} {e : DT} {a : AV} (h : tyV (.sl n e) a) : (erase a).listOf.length = a.listOf.length := by rw [listOf_erase h, List.length_map]
theorem smallU_erase {u : AV} (h : tyV dtMom u) (hs : smallU (erase u)) : smallU u := by
  have h9 := len_erase (pj_dtMom_9 h)
  have h10 := len_erase (pj_dtMom_10 h)
  have h12 := len_erase (pj_dtMom_12 h)
  have h13 := len_erase (pj_dtMom_13 h)
  have h8 := tyV_nrm (pj_dtMom_8 h)
  obtain ⟨m0, m1, m2, m3, m4, m5, m6, m7, m8, m9, m10, m11, m12, m13, rfl, w⟩ := un_dtMom h
  simp only [smallU, erase, eraseL, AV.aggOf, hdV, tlV, shS] at hs h9 h10 h12 h13 h8 ⊢
  exact ⟨by omega, by omega, by omega, by omega, bnd_same h8.symm hs.2.2.2.2⟩
theorem smallL_erase {l : AV} (hl : tyV (.sl 14 dtMom) l) (hs : smallL (erase l)) : smallL l := by
  refine ⟨by rw [← len_erase hl]; exact hs.1, fun u hu => smallU_erase ((sl_facts hl).2.2.1 u hu) (hs.2 _ ?_)⟩
  rw [listOf_erase hl]
  exact List.mem_map_of_mem hu

theorem k6 {l : AV} (hl : tyV (.sl 14 dtMom) l) : ∃ b, (∀ H : AH, callL Try.D 6 [l] H = some (.bool b, H)) ∧ (b = true → smallL l) := by
  have key : Good (runI Try.D (cF (fuelF (erase l))) (fuelF (erase l)) Try.f6 [erase l] ⟨[], []⟩ (fun v _ => some v)) (smallL (erase l)) := by
    have hl' := tyV_erase hl
    generalize erase l = l at hl' ⊢
    rw [sh_pre, (sl_facts hl').1]
    simp only [br]
    by_cases hc : l.listOf.length > 40
    · rw [dec_t (p := (l.listOf.length : Int) > 40) (by omega)]
      exact ⟨false, rfl, by simp⟩
    rw [dec_f (p := (l.listOf.length : Int) > 40) (by omega)]
    exact sh_loop (fuelF l) hl' false (smallL l) (fun h => ⟨by omega, h⟩) l.listOf.length 0 (fuelF l) 0 rfl (by omega) (by unfold fuelF; omega) (by simp)
  obtain ⟨b, h1, h2⟩ := key
  refine ⟨b, fun H => ?_, fun hb => smallL_erase hl (h2 hb)⟩
  exact callL_D tabF_ok (fuel := fuelF (erase l)) (n := 6) (fn := Try.f6) (ds := [.sl 14 dtMom]) (v := .bool b) (by kernel_rfl) (by kernel_rfl) (by kernel_rfl) ⟨hl, trivial⟩ h1 rfl
-- DEFS
end Go.Proofs.Ytoagnbpmoihojaa

/- Configurations: the program's check and the reference's. -/
import Derived.Test.YtoagnbpmoihojaaFenDat
set_option maxRecDepth 100000
set_option linter.unusedSimpArgs false
set_option linter.unusedVariables false
namespace Go.Proofs.Ytoagnbpmoihojaa
open Go.Sx

def cfC (c0 c1 c2 c3 c4 c5 c6 c7 c8 c9 c10 : Int) : List AV := [.int .i64 c0, .int .i64 c1, .int .i64 c2, .int .i64 c3, .int .i64 c4, .int .i64 c5, .int .i64 c6, .int .i64 c7, .int .i64 c8, .int .i64 c9, .int .i64 c10]
def noTab : TabT := fun _ => none
theorem noTab_ok (S : Go.Sx.Sys) : TabOK S noTab := by intro f g h; cases h
noncomputable def cN : CallI := callI Try.D noTab 12 8
def cfgOK (c0 c1 c2 c3 c4 c5 c6 c7 c8 c9 c10 : Int) : Prop := (0 ≤ c0 ∧ c0 ≤ 1099511627776) ∧ (0 ≤ c1 ∧ c1 ≤ 1099511627776) ∧ (0 ≤ c2 ∧ c2 ≤ 1099511627776) ∧ (1 ≤ c3 ∧ c3 ≤ 8) ∧ (16 * (c3 + 1) ≤ c4 ∧ c4 ≤ 1024) ∧ (2 ≤ c5 ∧ c5 ≤ 16) ∧ (1 ≤ c6 ∧ c6 ≤ 64) ∧ (1 ≤ c7 ∧ c7 ≤ 1099511627776) ∧ (1 ≤ c8 ∧ c8 ≤ 1099511627776) ∧ (0 ≤ c9 ∧ c9 ≤ 1099511627776) ∧ (0 ≤ c10 ∧ c10 ≤ 1099511627776)
instance (c0 c1 c2 c3 c4 c5 c6 c7 c8 c9 c10 : Int) : Decidable (cfgOK c0 c1 c2 c3 c4 c5 c6 c7 c8 c9 c10) := by unfold cfgOK; infer_instance
theorem form51 (a b c : Int) :
  runI Try.D cN 12 Try.f51 [.agg [.int .i64 a, .int .i64 b, .int .i64 c]] ⟨[], []⟩ (fun v _ => some v) =
  br (decide (a < (0 : Int)))
    (fun _ => some (AV.int IntKind.i64 ((3 : Int))))
    (fun _ => br (decide (a > (1099511627776 : Int)))
     (fun _ => some (AV.int IntKind.i64 ((3 : Int))))
     (fun _ => br (decide (b < (0 : Int)))
      (fun _ => some (AV.int IntKind.i64 ((3 : Int))))
      (fun _ => br (decide (b > (1099511627776 : Int)))
       (fun _ => some (AV.int IntKind.i64 ((3 : Int))))
       (fun _ => br (decide (c < (0 : Int)))
        (fun _ => some (AV.int IntKind.i64 ((3 : Int))))
        (fun _ => br (decide (c > (1099511627776 : Int)))
         (fun _ => some (AV.int IntKind.i64 ((3 : Int))))
         (fun _ => some (AV.int IntKind.i64 ((0 : Int))))))))) := by kernel_rfl
theorem form23 (a b c : Int) :
  runI Try.D cN 12 Try.f23 [.agg [.int .i64 a, .int .i64 b, .int .i64 c]] ⟨[], []⟩ (fun v _ => some v) =
  br (decide (a < (0 : Int)))
    (fun _ => some (AV.int IntKind.i64 ((3 : Int))))
    (fun _ => br (decide (a > (1099511627776 : Int)))
     (fun _ => some (AV.int IntKind.i64 ((3 : Int))))
     (fun _ => br (decide (b < (0 : Int)))
      (fun _ => some (AV.int IntKind.i64 ((3 : Int))))
      (fun _ => br (decide (b > (1099511627776 : Int)))
       (fun _ => some (AV.int IntKind.i64 ((3 : Int))))
       (fun _ => br (decide (c < (0 : Int)))
        (fun _ => some (AV.int IntKind.i64 ((3 : Int))))
        (fun _ => br (decide (c > (1099511627776 : Int)))
         (fun _ => some (AV.int IntKind.i64 ((3 : Int))))
         (fun _ => some (AV.int IntKind.i64 ((0 : Int))))))))) := by kernel_rfl
theorem form53 (n lo hi : Int) :
  runI Try.D cN 12 Try.f53 [.int .i64 n, .int .i64 lo, .int .i64 hi] ⟨[], []⟩ (fun v _ => some v) =
  br (decide (n < lo))
    (fun _ => some (AV.int IntKind.i64 ((3 : Int))))
    (fun _ => br (decide (n > hi))
     (fun _ => some (AV.int IntKind.i64 ((3 : Int))))
     (fun _ => some (AV.int IntKind.i64 ((0 : Int))))) := by kernel_rfl
theorem form24 (n lo hi : Int) :
  runI Try.D cN 12 Try.f24 [.int .i64 n, .int .i64 lo, .int .i64 hi] ⟨[], []⟩ (fun v _ => some v) =
  br (decide (n ≥ lo))
    (fun _ => some (AV.bool (decide (n ≤ hi))))
    (fun _ => some (AV.bool false)) := by kernel_rfl
theorem form55 (n : Int) :
  runI Try.D cN 12 Try.f55 [.int .i64 n] ⟨[], []⟩ (fun v _ => some v) =
  br (decide (n < (1 : Int)))
    (fun _ => some (AV.int IntKind.i64 ((0 : Int))))
    (fun _ => br (decide (n > (8 : Int)))
     (fun _ => some (AV.int IntKind.i64 ((0 : Int))))
     (fun _ => some (AV.int IntKind.i64 (IntKind.i64.wrap ((16 : Int) * IntKind.i64.wrap (n + (1 : Int))))))) := by kernel_rfl
theorem form25 (n : Int) :
  runI Try.D cN 12 Try.f25 [.int .i64 n] ⟨[], []⟩ (fun v _ => some v) =
  br (decide (n ≥ (1 : Int)))
    (fun _ => br (!(AV.bool (decide (n ≤ (8 : Int)))).boolOf)
     (fun _ => some (AV.int IntKind.i64 ((0 : Int))))
     (fun _ => some (AV.int IntKind.i64 (IntKind.i64.wrap ((16 : Int) * IntKind.i64.wrap (n + (1 : Int)))))))
    (fun _ => some (AV.int IntKind.i64 ((0 : Int)))) := by kernel_rfl
theorem form43 (c0 c1 c2 c3 c4 c5 c6 c7 c8 c9 c10 : Int) :
  runI Try.D (cF 12) 12 Try.f43 [.agg (cfC c0 c1 c2 c3 c4 c5 c6 c7 c8 c9 c10)] ⟨[], []⟩ (fun v _ => some v) =
  (match valH Try.D 51 [AV.agg [AV.int IntKind.i64 c0, AV.int IntKind.i64 c1, AV.int IntKind.i64 c2]]
     {
      objs :=
       [AObj.cells
         [AV.int IntKind.i64 c0, AV.int IntKind.i64 c1, AV.int IntKind.i64 c2, AV.int IntKind.i64 c3,
          AV.int IntKind.i64 c4, AV.int IntKind.i64 c5, AV.int IntKind.i64 c6, AV.int IntKind.i64 c7,
          AV.int IntKind.i64 c8, AV.int IntKind.i64 c9, AV.int IntKind.i64 c10]],
      toks := [] } with
    | some u0 => br (fitS (Sh.int IntKind.i64) u0)
     (fun _ => br ((AV.int IntKind.i64 u0.numOf).numOf != (0 : Int))
      (fun _ => some (AV.int IntKind.i64 (AV.int IntKind.i64 (AV.int IntKind.i64 u0.numOf).numOf).numOf))
      (fun _ => (match valH Try.D 53 [AV.int IntKind.i64 c3, AV.int IntKind.i64 ((1 : Int)), AV.int IntKind.i64 ((8 : Int))]
     {
      objs :=
       [AObj.cells
         [AV.int IntKind.i64 c0, AV.int IntKind.i64 c1, AV.int IntKind.i64 c2, AV.int IntKind.i64 c3,
          AV.int IntKind.i64 c4, AV.int IntKind.i64 c5, AV.int IntKind.i64 c6, AV.int IntKind.i64 c7,
          AV.int IntKind.i64 c8, AV.int IntKind.i64 c9, AV.int IntKind.i64 c10]],
      toks := [] } with
       | some u3 => br (fitS (Sh.int IntKind.i64) u3)
        (fun _ => br ((AV.int IntKind.i64 u3.numOf).numOf != (0 : Int))
         (fun _ => some (AV.int IntKind.i64 (AV.int IntKind.i64 (AV.int IntKind.i64 u3.numOf).numOf).numOf))
         (fun _ => (match valH Try.D 55 [AV.int IntKind.i64 c3]
     {
      objs :=
       [AObj.cells
         [AV.int IntKind.i64 c0, AV.int IntKind.i64 c1, AV.int IntKind.i64 c2, AV.int IntKind.i64 c3,
          AV.int IntKind.i64 c4, AV.int IntKind.i64 c5, AV.int IntKind.i64 c6, AV.int IntKind.i64 c7,
          AV.int IntKind.i64 c8, AV.int IntKind.i64 c9, AV.int IntKind.i64 c10]],
      toks := [] } with
          | some u6 => br (fitS (Sh.int IntKind.i64) u6)
           (fun _ => (match valH Try.D 53 [AV.int IntKind.i64 c4, AV.int IntKind.i64 u6.numOf, AV.int IntKind.i64 ((1024 : Int))]
     {
      objs :=
       [AObj.cells
         [AV.int IntKind.i64 c0, AV.int IntKind.i64 c1, AV.int IntKind.i64 c2, AV.int IntKind.i64 c3,
          AV.int IntKind.i64 c4, AV.int IntKind.i64 c5, AV.int IntKind.i64 c6, AV.int IntKind.i64 c7,
          AV.int IntKind.i64 c8, AV.int IntKind.i64 c9, AV.int IntKind.i64 c10]],
      toks := [] } with
            | some u8 => br (fitS (Sh.int IntKind.i64) u8)
             (fun _ => br ((AV.int IntKind.i64 u8.numOf).numOf != (0 : Int))
              (fun _ => some (AV.int IntKind.i64 (AV.int IntKind.i64 (AV.int IntKind.i64 u8.numOf).numOf).numOf))
              (fun _ => (match valH Try.D 53 [AV.int IntKind.i64 c5, AV.int IntKind.i64 ((2 : Int)), AV.int IntKind.i64 ((16 : Int))]
     {
      objs :=
       [AObj.cells
         [AV.int IntKind.i64 c0, AV.int IntKind.i64 c1, AV.int IntKind.i64 c2, AV.int IntKind.i64 c3,
          AV.int IntKind.i64 c4, AV.int IntKind.i64 c5, AV.int IntKind.i64 c6, AV.int IntKind.i64 c7,
          AV.int IntKind.i64 c8, AV.int IntKind.i64 c9, AV.int IntKind.i64 c10]],
      toks := [] } with
               | some u11 => br (fitS (Sh.int IntKind.i64) u11)
                (fun _ => br ((AV.int IntKind.i64 u11.numOf).numOf != (0 : Int))
                 (fun _ => some (AV.int IntKind.i64 (AV.int IntKind.i64 (AV.int IntKind.i64 u11.numOf).numOf).numOf))
                 (fun _ => (match valH Try.D 53 [AV.int IntKind.i64 c6, AV.int IntKind.i64 ((1 : Int)), AV.int IntKind.i64 ((64 : Int))]
     {
      objs :=
       [AObj.cells
         [AV.int IntKind.i64 c0, AV.int IntKind.i64 c1, AV.int IntKind.i64 c2, AV.int IntKind.i64 c3,
          AV.int IntKind.i64 c4, AV.int IntKind.i64 c5, AV.int IntKind.i64 c6, AV.int IntKind.i64 c7,
          AV.int IntKind.i64 c8, AV.int IntKind.i64 c9, AV.int IntKind.i64 c10]],
      toks := [] } with
                  | some u14 => br (fitS (Sh.int IntKind.i64) u14)
                   (fun _ => br ((AV.int IntKind.i64 u14.numOf).numOf != (0 : Int))
                    (fun _ => some (AV.int IntKind.i64 (AV.int IntKind.i64 (AV.int IntKind.i64 u14.numOf).numOf).numOf))
                    (fun _ => (match valH Try.D 53 [AV.int IntKind.i64 c7, AV.int IntKind.i64 ((1 : Int)), AV.int IntKind.i64 ((1099511627776 : Int))]
     {
      objs :=
       [AObj.cells
         [AV.int IntKind.i64 c0, AV.int IntKind.i64 c1, AV.int IntKind.i64 c2, AV.int IntKind.i64 c3,
          AV.int IntKind.i64 c4, AV.int IntKind.i64 c5, AV.int IntKind.i64 c6, AV.int IntKind.i64 c7,
          AV.int IntKind.i64 c8, AV.int IntKind.i64 c9, AV.int IntKind.i64 c10]],
      toks := [] } with
                     | some u17 => br (fitS (Sh.int IntKind.i64) u17)
                      (fun _ => br ((AV.int IntKind.i64 u17.numOf).numOf != (0 : Int))
                       (fun _ => some (AV.int IntKind.i64 (AV.int IntKind.i64 (AV.int IntKind.i64 u17.numOf).numOf).numOf))
                       (fun _ => (match valH Try.D 53 [AV.int IntKind.i64 c8, AV.int IntKind.i64 ((1 : Int)), AV.int IntKind.i64 ((1099511627776 : Int))]
     {
      objs :=
       [AObj.cells
         [AV.int IntKind.i64 c0, AV.int IntKind.i64 c1, AV.int IntKind.i64 c2, AV.int IntKind.i64 c3,
          AV.int IntKind.i64 c4, AV.int IntKind.i64 c5, AV.int IntKind.i64 c6, AV.int IntKind.i64 c7,
          AV.int IntKind.i64 c8, AV.int IntKind.i64 c9, AV.int IntKind.i64 c10]],
      toks := [] } with
                        | some u20 => br (fitS (Sh.int IntKind.i64) u20)
                         (fun _ => br ((AV.int IntKind.i64 u20.numOf).numOf != (0 : Int))
                          (fun _ => some (AV.int IntKind.i64 (AV.int IntKind.i64 (AV.int IntKind.i64 u20.numOf).numOf).numOf))
                          (fun _ => (match valH Try.D 53 [AV.int IntKind.i64 c9, AV.int IntKind.i64 ((0 : Int)), AV.int IntKind.i64 ((1099511627776 : Int))]
     {
      objs :=
       [AObj.cells
         [AV.int IntKind.i64 c0, AV.int IntKind.i64 c1, AV.int IntKind.i64 c2, AV.int IntKind.i64 c3,
          AV.int IntKind.i64 c4, AV.int IntKind.i64 c5, AV.int IntKind.i64 c6, AV.int IntKind.i64 c7,
          AV.int IntKind.i64 c8, AV.int IntKind.i64 c9, AV.int IntKind.i64 c10]],
      toks := [] } with
                           | some u23 => br (fitS (Sh.int IntKind.i64) u23)
                            (fun _ => br ((AV.int IntKind.i64 u23.numOf).numOf != (0 : Int))
                             (fun _ => some (AV.int IntKind.i64 (AV.int IntKind.i64 (AV.int IntKind.i64 u23.numOf).numOf).numOf))
                             (fun _ => (match valH Try.D 53 [AV.int IntKind.i64 c10, AV.int IntKind.i64 ((0 : Int)), AV.int IntKind.i64 ((1099511627776 : Int))]
     {
      objs :=
       [AObj.cells
         [AV.int IntKind.i64 c0, AV.int IntKind.i64 c1, AV.int IntKind.i64 c2, AV.int IntKind.i64 c3,
          AV.int IntKind.i64 c4, AV.int IntKind.i64 c5, AV.int IntKind.i64 c6, AV.int IntKind.i64 c7,
          AV.int IntKind.i64 c8, AV.int IntKind.i64 c9, AV.int IntKind.i64 c10]],
      toks := [] } with
                              | some u26 => br (fitS (Sh.int IntKind.i64) u26)
                               (fun _ => br ((AV.int IntKind.i64 u26.numOf).numOf != (0 : Int))
                                (fun _ => some (AV.int IntKind.i64 (AV.int IntKind.i64 (AV.int IntKind.i64 u26.numOf).numOf).numOf))
                                (fun _ => some (AV.int IntKind.i64 ((0 : Int)))))
                               (fun _ => none)
                              | none => none)))
                            (fun _ => none)
                           | none => none)))
                         (fun _ => none)
                        | none => none)))
                      (fun _ => none)
                     | none => none)))
                   (fun _ => none)
                  | none => none)))
                (fun _ => none)
               | none => none)))
             (fun _ => none)
            | none => none))
           (fun _ => none)
          | none => none)))
        (fun _ => none)
       | none => none)))
     (fun _ => none)
    | none => none) := by kernel_rfl
theorem form7 (c0 c1 c2 c3 c4 c5 c6 c7 c8 c9 c10 : Int) :
  runI Try.D (cF 12) 12 Try.f7 [.agg (cfC c0 c1 c2 c3 c4 c5 c6 c7 c8 c9 c10)] ⟨[], []⟩ (fun v _ => some v) =
  (match valH Try.D 23 [AV.agg [AV.int IntKind.i64 c0, AV.int IntKind.i64 c1, AV.int IntKind.i64 c2]]
     {
      objs :=
       [AObj.cells
         [AV.int IntKind.i64 c0, AV.int IntKind.i64 c1, AV.int IntKind.i64 c2, AV.int IntKind.i64 c3,
          AV.int IntKind.i64 c4, AV.int IntKind.i64 c5, AV.int IntKind.i64 c6, AV.int IntKind.i64 c7,
          AV.int IntKind.i64 c8, AV.int IntKind.i64 c9, AV.int IntKind.i64 c10]],
      toks := [] } with
    | some u0 => br (fitS (Sh.int IntKind.i64) u0)
     (fun _ => br (u0.numOf != (0 : Int))
      (fun _ => some (AV.int IntKind.i64 u0.numOf))
      (fun _ => (match valH Try.D 24 [AV.int IntKind.i64 c3, AV.int IntKind.i64 ((1 : Int)), AV.int IntKind.i64 ((8 : Int))]
     {
      objs :=
       [AObj.cells
         [AV.int IntKind.i64 c0, AV.int IntKind.i64 c1, AV.int IntKind.i64 c2, AV.int IntKind.i64 c3,
          AV.int IntKind.i64 c4, AV.int IntKind.i64 c5, AV.int IntKind.i64 c6, AV.int IntKind.i64 c7,
          AV.int IntKind.i64 c8, AV.int IntKind.i64 c9, AV.int IntKind.i64 c10]],
      toks := [] } with
       | some u3 => br (fitS Sh.bool u3)
        (fun _ => br (!u3.boolOf)
         (fun _ => some (AV.int IntKind.i64 ((3 : Int))))
         (fun _ => (match valH Try.D 25 [AV.int IntKind.i64 c3]
     {
      objs :=
       [AObj.cells
         [AV.int IntKind.i64 c0, AV.int IntKind.i64 c1, AV.int IntKind.i64 c2, AV.int IntKind.i64 c3,
          AV.int IntKind.i64 c4, AV.int IntKind.i64 c5, AV.int IntKind.i64 c6, AV.int IntKind.i64 c7,
          AV.int IntKind.i64 c8, AV.int IntKind.i64 c9, AV.int IntKind.i64 c10]],
      toks := [] } with
          | some u6 => br (fitS (Sh.int IntKind.i64) u6)
           (fun _ => (match valH Try.D 24 [AV.int IntKind.i64 c4, AV.int IntKind.i64 u6.numOf, AV.int IntKind.i64 ((1024 : Int))]
     {
      objs :=
       [AObj.cells
         [AV.int IntKind.i64 c0, AV.int IntKind.i64 c1, AV.int IntKind.i64 c2, AV.int IntKind.i64 c3,
          AV.int IntKind.i64 c4, AV.int IntKind.i64 c5, AV.int IntKind.i64 c6, AV.int IntKind.i64 c7,
          AV.int IntKind.i64 c8, AV.int IntKind.i64 c9, AV.int IntKind.i64 c10]],
      toks := [] } with
            | some u8 => br (fitS Sh.bool u8)
             (fun _ => br (!u8.boolOf)
              (fun _ => some (AV.int IntKind.i64 ((3 : Int))))
              (fun _ => (match valH Try.D 24 [AV.int IntKind.i64 c5, AV.int IntKind.i64 ((2 : Int)), AV.int IntKind.i64 ((16 : Int))]
     {
      objs :=
       [AObj.cells
         [AV.int IntKind.i64 c0, AV.int IntKind.i64 c1, AV.int IntKind.i64 c2, AV.int IntKind.i64 c3,
          AV.int IntKind.i64 c4, AV.int IntKind.i64 c5, AV.int IntKind.i64 c6, AV.int IntKind.i64 c7,
          AV.int IntKind.i64 c8, AV.int IntKind.i64 c9, AV.int IntKind.i64 c10]],
      toks := [] } with
               | some u11 => br (fitS Sh.bool u11)
                (fun _ => br (!u11.boolOf)
                 (fun _ => some (AV.int IntKind.i64 ((3 : Int))))
                 (fun _ => (match valH Try.D 24 [AV.int IntKind.i64 c6, AV.int IntKind.i64 ((1 : Int)), AV.int IntKind.i64 ((64 : Int))]
     {
      objs :=
       [AObj.cells
         [AV.int IntKind.i64 c0, AV.int IntKind.i64 c1, AV.int IntKind.i64 c2, AV.int IntKind.i64 c3,
          AV.int IntKind.i64 c4, AV.int IntKind.i64 c5, AV.int IntKind.i64 c6, AV.int IntKind.i64 c7,
          AV.int IntKind.i64 c8, AV.int IntKind.i64 c9, AV.int IntKind.i64 c10]],
      toks := [] } with
                  | some u14 => br (fitS Sh.bool u14)
                   (fun _ => br (!u14.boolOf)
                    (fun _ => some (AV.int IntKind.i64 ((3 : Int))))
                    (fun _ => (match valH Try.D 24 [AV.int IntKind.i64 c7, AV.int IntKind.i64 ((1 : Int)), AV.int IntKind.i64 ((1099511627776 : Int))]
     {
      objs :=
       [AObj.cells
         [AV.int IntKind.i64 c0, AV.int IntKind.i64 c1, AV.int IntKind.i64 c2, AV.int IntKind.i64 c3,
          AV.int IntKind.i64 c4, AV.int IntKind.i64 c5, AV.int IntKind.i64 c6, AV.int IntKind.i64 c7,
          AV.int IntKind.i64 c8, AV.int IntKind.i64 c9, AV.int IntKind.i64 c10]],
      toks := [] } with
                     | some u17 => br (fitS Sh.bool u17)
                      (fun _ => br (!u17.boolOf)
                       (fun _ => some (AV.int IntKind.i64 ((3 : Int))))
                       (fun _ => (match valH Try.D 24 [AV.int IntKind.i64 c8, AV.int IntKind.i64 ((1 : Int)), AV.int IntKind.i64 ((1099511627776 : Int))]
     {
      objs :=
       [AObj.cells
         [AV.int IntKind.i64 c0, AV.int IntKind.i64 c1, AV.int IntKind.i64 c2, AV.int IntKind.i64 c3,
          AV.int IntKind.i64 c4, AV.int IntKind.i64 c5, AV.int IntKind.i64 c6, AV.int IntKind.i64 c7,
          AV.int IntKind.i64 c8, AV.int IntKind.i64 c9, AV.int IntKind.i64 c10]],
      toks := [] } with
                        | some u20 => br (fitS Sh.bool u20)
                         (fun _ => br (!u20.boolOf)
                          (fun _ => some (AV.int IntKind.i64 ((3 : Int))))
                          (fun _ => (match valH Try.D 24 [AV.int IntKind.i64 c9, AV.int IntKind.i64 ((0 : Int)), AV.int IntKind.i64 ((1099511627776 : Int))]
     {
      objs :=
       [AObj.cells
         [AV.int IntKind.i64 c0, AV.int IntKind.i64 c1, AV.int IntKind.i64 c2, AV.int IntKind.i64 c3,
          AV.int IntKind.i64 c4, AV.int IntKind.i64 c5, AV.int IntKind.i64 c6, AV.int IntKind.i64 c7,
          AV.int IntKind.i64 c8, AV.int IntKind.i64 c9, AV.int IntKind.i64 c10]],
      toks := [] } with
                           | some u23 => br (fitS Sh.bool u23)
                            (fun _ => br (!u23.boolOf)
                             (fun _ => some (AV.int IntKind.i64 ((3 : Int))))
                             (fun _ => (match valH Try.D 24 [AV.int IntKind.i64 c10, AV.int IntKind.i64 ((0 : Int)), AV.int IntKind.i64 ((1099511627776 : Int))]
     {
      objs :=
       [AObj.cells
         [AV.int IntKind.i64 c0, AV.int IntKind.i64 c1, AV.int IntKind.i64 c2, AV.int IntKind.i64 c3,
          AV.int IntKind.i64 c4, AV.int IntKind.i64 c5, AV.int IntKind.i64 c6, AV.int IntKind.i64 c7,
          AV.int IntKind.i64 c8, AV.int IntKind.i64 c9, AV.int IntKind.i64 c10]],
      toks := [] } with
                              | some u26 => br (fitS Sh.bool u26)
                               (fun _ => br (!u26.boolOf)
                                (fun _ => some (AV.int IntKind.i64 ((3 : Int))))
                                (fun _ => some (AV.int IntKind.i64 ((0 : Int)))))
                               (fun _ => none)
                              | none => none)))
                            (fun _ => none)
                           | none => none)))
                         (fun _ => none)
                        | none => none)))
                      (fun _ => none)
                     | none => none)))
                   (fun _ => none)
                  | none => none)))
                (fun _ => none)
               | none => none)))
             (fun _ => none)
            | none => none))
           (fun _ => none)
          | none => none)))
        (fun _ => none)
       | none => none)))
     (fun _ => none)
    | none => none) := by kernel_rfl
theorem form28 (c0 c1 c2 c3 c4 c5 c6 c7 c8 c9 c10 : Int) (m0 : Int) (m1 m2 m3 : Bool) (m4 m5 m6 m7 : Int) (m8 m9 m10 : AV) (m11 : Int) (m12 m13 : AV) :
  runI Try.D cN 12 Try.f28 [.agg (cfC c0 c1 c2 c3 c4 c5 c6 c7 c8 c9 c10), .agg [.int .i64 m0, .bool m1, .bool m2, .bool m3, .int .i64 m4, .int .i64 m5, .int .i64 m6, .int .i64 m7, m8, m9, m10, .int .i64 m11, m12, m13]] ⟨[], []⟩ (fun v _ => some v) =
  br (decide (m11 < (0 : Int)))
    (fun _ => some (AV.int IntKind.i64 ((-1 : Int))))
    (fun _ => some (AV.int IntKind.i64 (IntKind.i64.wrap (m11 + c8)))) := by kernel_rfl
-- PROOFS
theorem br_ite {R : Type} (b : Bool) (f g : Unit → Option R) : br b f g = if b = true then f () else g () := by cases b <;> rfl

/-- Until when a lease is good. -/
def untilE (lease acked : Int) : Int := if acked < 0 then -1 else IntKind.i64.wrap (acked + lease)

theorem run28 (c0 c1 c2 c3 c4 c5 c6 c7 c8 c9 c10 : Int) (m0 : Int) (m1 m2 m3 : Bool) (m4 m5 m6 m7 : Int) (m8 m9 m10 : AV) (m11 : Int) (m12 m13 : AV) : runI Try.D cN 12 Try.f28 [.agg (cfC c0 c1 c2 c3 c4 c5 c6 c7 c8 c9 c10), .agg [.int .i64 m0, .bool m1, .bool m2, .bool m3, .int .i64 m4, .int .i64 m5, .int .i64 m6, .int .i64 m7, m8, m9, m10, .int .i64 m11, m12, m13]] ⟨[], []⟩ (fun v _ => some v) = some (.int .i64 (untilE c8 m11)) := by
  rw [form28]
  unfold untilE
  simp only [br_ite, decide_eq_true_eq]
  split <;> rfl
-- DEFS
end Go.Proofs.Ytoagnbpmoihojaa

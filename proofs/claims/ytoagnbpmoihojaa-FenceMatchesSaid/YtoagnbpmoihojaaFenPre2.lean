/- Premise: what its loop computes. -/
import Derived.Test.YtoagnbpmoihojaaFenPrem
set_option maxRecDepth 100000
set_option linter.unusedSimpArgs false
set_option linter.unusedVariables false
namespace Go.Proofs.Ytoagnbpmoihojaa
open Go.Sx
theorem mx_eq (a b : Int) {i : Decidable (a > b)} : @ite _ (a > b) i a b = max b a := by split <;> omega

theorem p_s1q {R : Type} (fuel : Nat) (c0 c1 c2 c3 c4 c5 c6 c7 c8 c9 c10 : Int) (l : AV) (d r n : Int) (ct cr i : Int) (up : Bool) (m0 : Int) (m1 m2 m3 : Bool) (m4 m5 m6 m7 : Int) (m8 m9 m10 : AV) (m11 : Int) (m12 m13 : AV) (x5 x12 x13 x17 x18 x19 x20 x21 x22 x23 x24 x25 x26 x27 x28 x29 x30 x31 x32 x33 x34 x35 x36 x37 x38 x39 x40 x41 x42 x43 x44 x45 x46 x47 x48 x49 x50 x51 x52 x53 x54 x55 x56 x57 x58 x59 x60 x61 x62 x63 x64 x65 x66 x67 x68 x69 x70 x71 x72 x73 x74 x75 x76 x77 x78 x79 x80 x81 x82 x83 x84 x85 x86 x87 x88 x89 x90 x91 : AV) (K : Ex → List AV → AH → Option R) (Q : Option R → Prop)
    (hQ : ∀ (ct' : Int) (x5 x12 x13 x17 x18 x19 x20 x21 x22 x23 x24 x25 x26 x27 x28 x29 x30 x31 x32 x33 x34 x35 x36 x37 x38 x39 x40 x41 x42 x43 x44 x45 x46 x47 x48 x49 x50 x51 x52 x53 x54 x55 x56 x57 x58 x59 x60 x61 x62 x63 x64 x65 x66 x67 x68 x69 x70 x71 x72 x73 x74 x75 x76 x77 x78 x79 x80 x81 x82 x83 x84 x85 x86 x87 x88 x89 x90 x91 : AV), ct' = (if i == 0 || m2 || m3 then m0 else ct) → (fun ct => Q (K .normal [.func (.yield 7) [] [], .ptr 6 0, .ptr 3 0, .ptr 4 0, .ptr 5 0, x5, .int .i64 ct, .int .i64 cr, .bool up, .bool true, .int .i64 i, .ptr 8 0, x12, x13, l, .int .i64 (l.listOf.length : Int), .int .i64 i, x17, x18, x19, x20, x21, x22, x23, x24, x25, x26, x27, x28, x29, x30, x31, x32, x33, x34, x35, x36, x37, x38, x39, x40, x41, x42, x43, x44, x45, x46, x47, x48, x49, x50, x51, x52, x53, x54, x55, x56, x57, x58, x59, x60, x61, x62, x63, x64, x65, x66, x67, x68, x69, x70, x71, x72, x73, x74, x75, x76, x77, x78, x79, x80, x81, x82, x83, x84, x85, x86, x87, x88, x89, x90, x91] (pM c0 c1 c2 c3 c4 c5 c6 c7 c8 c9 c10 l d r n m0 m1 m2 m3 m4 m5 m6 m7 m8 m9 m10 m11 m12 m13))) ct') : Q (denI Try.D (cP fuel) fuel (subC ltY1 [0]) [.func (.yield 7) [] [], .ptr 6 0, .ptr 3 0, .ptr 4 0, .ptr 5 0, x5, .int .i64 ct, .int .i64 cr, .bool up, .bool true, .int .i64 i, .ptr 8 0, x12, x13, l, .int .i64 (l.listOf.length : Int), .int .i64 i, x17, x18, x19, x20, x21, x22, x23, x24, x25, x26, x27, x28, x29, x30, x31, x32, x33, x34, x35, x36, x37, x38, x39, x40, x41, x42, x43, x44, x45, x46, x47, x48, x49, x50, x51, x52, x53, x54, x55, x56, x57, x58, x59, x60, x61, x62, x63, x64, x65, x66, x67, x68, x69, x70, x71, x72, x73, x74, x75, x76, x77, x78, x79, x80, x81, x82, x83, x84, x85, x86, x87, x88, x89, x90, x91] (pM c0 c1 c2 c3 c4 c5 c6 c7 c8 c9 c10 l d r n m0 m1 m2 m3 m4 m5 m6 m7 m8 m9 m10 m11 m12 m13) K) := by
  rw [p_s1]
  cases h : (i == 0) with
  | true => exact hQ _ _ _ _ _ _ _ _ _ _ _ _ _ _ _ _ _ _ _ _ _ _ _ _ _ _ _ _ _ _ _ _ _ _ _ _ _ _ _ _ _ _ _ _ _ _ _ _ _ _ _ _ _ _ _ _ _ _ _ _ _ _ _ _ _ _ _ _ _ _ _ _ _ _ _ _ _ _ _ (by rw [h]; rfl)
  | false =>
    cases m2 with
    | true => exact hQ _ _ _ _ _ _ _ _ _ _ _ _ _ _ _ _ _ _ _ _ _ _ _ _ _ _ _ _ _ _ _ _ _ _ _ _ _ _ _ _ _ _ _ _ _ _ _ _ _ _ _ _ _ _ _ _ _ _ _ _ _ _ _ _ _ _ _ _ _ _ _ _ _ _ _ _ _ _ _ (by rw [h]; rfl)
    | false =>
      cases m3 with
      | true => exact hQ _ _ _ _ _ _ _ _ _ _ _ _ _ _ _ _ _ _ _ _ _ _ _ _ _ _ _ _ _ _ _ _ _ _ _ _ _ _ _ _ _ _ _ _ _ _ _ _ _ _ _ _ _ _ _ _ _ _ _ _ _ _ _ _ _ _ _ _ _ _ _ _ _ _ _ _ _ _ _ (by rw [h]; rfl)
      | false => exact hQ _ _ _ _ _ _ _ _ _ _ _ _ _ _ _ _ _ _ _ _ _ _ _ _ _ _ _ _ _ _ _ _ _ _ _ _ _ _ _ _ _ _ _ _ _ _ _ _ _ _ _ _ _ _ _ _ _ _ _ _ _ _ _ _ _ _ _ _ _ _ _ _ _ _ _ _ _ _ _ (by rw [h]; rfl)

theorem p_s2q {R : Type} (fuel : Nat) (c0 c1 c2 c3 c4 c5 c6 c7 c8 c9 c10 : Int) (l : AV) (d r n : Int) (ct cr i : Int) (up : Bool) (m0 : Int) (m1 m2 m3 : Bool) (m4 m5 m6 m7 : Int) (m8 m9 m10 : AV) (m11 : Int) (m12 m13 : AV) (x5 x12 x13 x17 x18 x19 x20 x21 x22 x23 x24 x25 x26 x27 x28 x29 x30 x31 x32 x33 x34 x35 x36 x37 x38 x39 x40 x41 x42 x43 x44 x45 x46 x47 x48 x49 x50 x51 x52 x53 x54 x55 x56 x57 x58 x59 x60 x61 x62 x63 x64 x65 x66 x67 x68 x69 x70 x71 x72 x73 x74 x75 x76 x77 x78 x79 x80 x81 x82 x83 x84 x85 x86 x87 x88 x89 x90 x91 : AV) (K : Ex → List AV → AH → Option R) (Q : Option R → Prop)
    (hQ : ∀ (cr' : Int) (x5 x12 x13 x17 x18 x19 x20 x21 x22 x23 x24 x25 x26 x27 x28 x29 x30 x31 x32 x33 x34 x35 x36 x37 x38 x39 x40 x41 x42 x43 x44 x45 x46 x47 x48 x49 x50 x51 x52 x53 x54 x55 x56 x57 x58 x59 x60 x61 x62 x63 x64 x65 x66 x67 x68 x69 x70 x71 x72 x73 x74 x75 x76 x77 x78 x79 x80 x81 x82 x83 x84 x85 x86 x87 x88 x89 x90 x91 : AV), cr' = (if !m1 && (up || i == 0) then m0 else cr) → (fun cr => Q (K .normal [.func (.yield 7) [] [], .ptr 6 0, .ptr 3 0, .ptr 4 0, .ptr 5 0, x5, .int .i64 ct, .int .i64 cr, .bool up, .bool true, .int .i64 i, .ptr 8 0, x12, x13, l, .int .i64 (l.listOf.length : Int), .int .i64 i, x17, x18, x19, x20, x21, x22, x23, x24, x25, x26, x27, x28, x29, x30, x31, x32, x33, x34, x35, x36, x37, x38, x39, x40, x41, x42, x43, x44, x45, x46, x47, x48, x49, x50, x51, x52, x53, x54, x55, x56, x57, x58, x59, x60, x61, x62, x63, x64, x65, x66, x67, x68, x69, x70, x71, x72, x73, x74, x75, x76, x77, x78, x79, x80, x81, x82, x83, x84, x85, x86, x87, x88, x89, x90, x91] (pM c0 c1 c2 c3 c4 c5 c6 c7 c8 c9 c10 l d r n m0 m1 m2 m3 m4 m5 m6 m7 m8 m9 m10 m11 m12 m13))) cr') : Q (denI Try.D (cP fuel) fuel (subC ltY2 [0]) [.func (.yield 7) [] [], .ptr 6 0, .ptr 3 0, .ptr 4 0, .ptr 5 0, x5, .int .i64 ct, .int .i64 cr, .bool up, .bool true, .int .i64 i, .ptr 8 0, x12, x13, l, .int .i64 (l.listOf.length : Int), .int .i64 i, x17, x18, x19, x20, x21, x22, x23, x24, x25, x26, x27, x28, x29, x30, x31, x32, x33, x34, x35, x36, x37, x38, x39, x40, x41, x42, x43, x44, x45, x46, x47, x48, x49, x50, x51, x52, x53, x54, x55, x56, x57, x58, x59, x60, x61, x62, x63, x64, x65, x66, x67, x68, x69, x70, x71, x72, x73, x74, x75, x76, x77, x78, x79, x80, x81, x82, x83, x84, x85, x86, x87, x88, x89, x90, x91] (pM c0 c1 c2 c3 c4 c5 c6 c7 c8 c9 c10 l d r n m0 m1 m2 m3 m4 m5 m6 m7 m8 m9 m10 m11 m12 m13) K) := by
  rw [p_s2]
  cases m1 with
  | true => exact hQ _ _ _ _ _ _ _ _ _ _ _ _ _ _ _ _ _ _ _ _ _ _ _ _ _ _ _ _ _ _ _ _ _ _ _ _ _ _ _ _ _ _ _ _ _ _ _ _ _ _ _ _ _ _ _ _ _ _ _ _ _ _ _ _ _ _ _ _ _ _ _ _ _ _ _ _ _ _ _ rfl
  | false =>
    cases up with
    | true => exact hQ _ _ _ _ _ _ _ _ _ _ _ _ _ _ _ _ _ _ _ _ _ _ _ _ _ _ _ _ _ _ _ _ _ _ _ _ _ _ _ _ _ _ _ _ _ _ _ _ _ _ _ _ _ _ _ _ _ _ _ _ _ _ _ _ _ _ _ _ _ _ _ _ _ _ _ _ _ _ _ rfl
    | false =>
      cases h : (i == 0) with
      | true => exact hQ _ _ _ _ _ _ _ _ _ _ _ _ _ _ _ _ _ _ _ _ _ _ _ _ _ _ _ _ _ _ _ _ _ _ _ _ _ _ _ _ _ _ _ _ _ _ _ _ _ _ _ _ _ _ _ _ _ _ _ _ _ _ _ _ _ _ _ _ _ _ _ _ _ _ _ _ _ _ _ (by rw [h]; rfl)
      | false => exact hQ _ _ _ _ _ _ _ _ _ _ _ _ _ _ _ _ _ _ _ _ _ _ _ _ _ _ _ _ _ _ _ _ _ _ _ _ _ _ _ _ _ _ _ _ _ _ _ _ _ _ _ _ _ _ _ _ _ _ _ _ _ _ _ _ _ _ _ _ _ _ _ _ _ _ _ _ _ _ _ (by rw [h]; rfl)

theorem p_s3q {R : Type} (fuel : Nat) (c0 c1 c2 c3 c4 c5 c6 c7 c8 c9 c10 : Int) (l : AV) (d r n : Int) (ct cr i : Int) (up : Bool) (m0 : Int) (m1 m2 m3 : Bool) (m4 m5 m6 m7 : Int) (m8 m9 m10 : AV) (m11 : Int) (m12 m13 : AV) (x5 x12 x13 x17 x18 x19 x20 x21 x22 x23 x24 x25 x26 x27 x28 x29 x30 x31 x32 x33 x34 x35 x36 x37 x38 x39 x40 x41 x42 x43 x44 x45 x46 x47 x48 x49 x50 x51 x52 x53 x54 x55 x56 x57 x58 x59 x60 x61 x62 x63 x64 x65 x66 x67 x68 x69 x70 x71 x72 x73 x74 x75 x76 x77 x78 x79 x80 x81 x82 x83 x84 x85 x86 x87 x88 x89 x90 x91 : AV) (K : Ex → List AV → AH → Option R) (Q : Option R → Prop) (E : Int)
    (hk : ∀ H, valH Try.D 28 [.agg (cfC c0 c1 c2 c3 c4 c5 c6 c7 c8 c9 c10), .agg (moC m0 m1 m2 m3 m4 m5 m6 m7 m8 m9 m10 m11 m12 m13)] H = some (.int .i64 E)) (b1 : 0 ≤ m0 ∧ m0 ≤ 1099511627776) (b2 : -1 ≤ E ∧ E ≤ 2199023255552) (b3 : 0 ≤ ct ∧ ct ≤ 1099511627776) (b4 : 0 ≤ cr ∧ cr ≤ 1099511627776)
    (hQ : ∀ (ho : Bool) (x5 x12 x13 x17 x18 x19 x20 x21 x22 x23 x24 x25 x26 x27 x28 x29 x30 x31 x32 x33 x34 x35 x36 x37 x38 x39 x40 x41 x42 x43 x44 x45 x46 x47 x48 x49 x50 x51 x52 x53 x54 x55 x56 x57 x58 x59 x60 x61 x62 x63 x64 x65 x66 x67 x68 x69 x70 x71 x72 x73 x74 x75 x76 x77 x78 x79 x80 x81 x82 x83 x84 x85 x86 x87 x88 x89 x90 x91 : AV), ho = (if m0 > E then (if m1 then decide (m0 - max E ct ≤ d) else decide (cr - max E ct ≤ d) && decide (m0 - max E cr ≤ r)) else true) → Q (K .normal [.func (.yield 7) [] [], .ptr 6 0, .ptr 3 0, .ptr 4 0, .ptr 5 0, x5, .int .i64 ct, .int .i64 cr, .bool up, .bool ho, .int .i64 i, .ptr 8 0, x12, x13, l, .int .i64 (l.listOf.length : Int), .int .i64 i, x17, x18, x19, x20, x21, x22, x23, x24, x25, x26, x27, x28, x29, x30, x31, x32, x33, x34, x35, x36, x37, x38, x39, x40, x41, x42, x43, x44, x45, x46, x47, x48, x49, x50, x51, x52, x53, x54, x55, x56, x57, x58, x59, x60, x61, x62, x63, x64, x65, x66, x67, x68, x69, x70, x71, x72, x73, x74, x75, x76, x77, x78, x79, x80, x81, x82, x83, x84, x85, x86, x87, x88, x89, x90, x91] (pM c0 c1 c2 c3 c4 c5 c6 c7 c8 c9 c10 l d r n m0 m1 m2 m3 m4 m5 m6 m7 m8 m9 m10 m11 m12 m13))) : Q (denI Try.D (cP fuel) fuel (subC ltY4 [0]) [.func (.yield 7) [] [], .ptr 6 0, .ptr 3 0, .ptr 4 0, .ptr 5 0, x5, .int .i64 ct, .int .i64 cr, .bool up, .bool true, .int .i64 i, .ptr 8 0, x12, x13, l, .int .i64 (l.listOf.length : Int), .int .i64 i, x17, x18, x19, x20, x21, x22, x23, x24, x25, x26, x27, x28, x29, x30, x31, x32, x33, x34, x35, x36, x37, x38, x39, x40, x41, x42, x43, x44, x45, x46, x47, x48, x49, x50, x51, x52, x53, x54, x55, x56, x57, x58, x59, x60, x61, x62, x63, x64, x65, x66, x67, x68, x69, x70, x71, x72, x73, x74, x75, x76, x77, x78, x79, x80, x81, x82, x83, x84, x85, x86, x87, x88, x89, x90, x91] (pM c0 c1 c2 c3 c4 c5 c6 c7 c8 c9 c10 l d r n m0 m1 m2 m3 m4 m5 m6 m7 m8 m9 m10 m11 m12 m13) K) := by
  simp only [moC] at hk
  obtain ⟨x, hx, hs, hn⟩ := val_num hk
  rw [p_s3, hx]
  simp only [hs, br, if_true]
  generalize x.numOf = e at hn ⊢
  obtain rfl := hn.symm
  simp only [mx_eq]
  rw [wrapN (n := m0 - max E ct) (by omega) (by omega), wrapN (n := cr - max E ct) (by omega) (by omega), wrapN (n := m0 - max E cr) (by omega) (by omega)]
  by_cases h : m0 > E
  · rw [dec_yes h]
    cases m1 with
    | true => exact hQ _ _ _ _ _ _ _ _ _ _ _ _ _ _ _ _ _ _ _ _ _ _ _ _ _ _ _ _ _ _ _ _ _ _ _ _ _ _ _ _ _ _ _ _ _ _ _ _ _ _ _ _ _ _ _ _ _ _ _ _ _ _ _ _ _ _ _ _ _ _ _ _ _ _ _ _ _ _ _ (by rw [if_pos h]; rfl)
    | false =>
      cases h2 : decide (cr - max E ct ≤ d) with
      | true => exact hQ _ _ _ _ _ _ _ _ _ _ _ _ _ _ _ _ _ _ _ _ _ _ _ _ _ _ _ _ _ _ _ _ _ _ _ _ _ _ _ _ _ _ _ _ _ _ _ _ _ _ _ _ _ _ _ _ _ _ _ _ _ _ _ _ _ _ _ _ _ _ _ _ _ _ _ _ _ _ _ (by rw [if_pos h, h2]; rfl)
      | false => exact hQ _ _ _ _ _ _ _ _ _ _ _ _ _ _ _ _ _ _ _ _ _ _ _ _ _ _ _ _ _ _ _ _ _ _ _ _ _ _ _ _ _ _ _ _ _ _ _ _ _ _ _ _ _ _ _ _ _ _ _ _ _ _ _ _ _ _ _ _ _ _ _ _ _ _ _ _ _ _ _ (by rw [if_pos h, h2]; rfl)
  · rw [dec_no h]
    exact hQ _ _ _ _ _ _ _ _ _ _ _ _ _ _ _ _ _ _ _ _ _ _ _ _ _ _ _ _ _ _ _ _ _ _ _ _ _ _ _ _ _ _ _ _ _ _ _ _ _ _ _ _ _ _ _ _ _ _ _ _ _ _ _ _ _ _ _ _ _ _ _ _ _ _ _ _ _ _ _ (by rw [if_neg h])

end Go.Proofs.Ytoagnbpmoihojaa

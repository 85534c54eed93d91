/- What crc.Sum answers. -/
import Derived.Test.YtedhpikmkoemhaaGreatAgCrc
import Derived.Test.YtedhpikmkoemhaaGreatAgExt
import Derived.IntWalk
set_option maxRecDepth 100000
set_option linter.unusedSimpArgs false
set_option linter.unusedVariables false
namespace Go.Proofs.YtedhpikmkoemhaaGreat
open Go.Sx

theorem u32_of (n : Nat) (h : n < 4294967296) : IntKind.u32.wrap (n : Int) = (n : Int) := by
  unfold IntKind.wrap
  simp [IntKind.signed, IntKind.bits]
  omega
theorem bv32 (n : Nat) (h : n < 4294967296) : (BitVec.ofInt 32 (n : Int)).toNat = n := by rw [BitVec.toNat_ofInt]; omega
theorem and32 (a b : Nat) (ha : a < 4294967296) (hb : b < 4294967296) : bits2 BinOp.and IntKind.u32 (a : Int) (b : Int) = ((Nat.land a b : Nat) : Int) := by
  show IntKind.u32.wrap ((BitVec.ofInt 32 (a : Int) &&& BitVec.ofInt 32 (b : Int)).toNat : Int) = _
  rw [BitVec.toNat_and, bv32 a ha, bv32 b hb]
  exact u32_of _ (Nat.lt_of_le_of_lt Nat.and_le_left ha)
theorem xor32 (a b : Nat) (ha : a < 4294967296) (hb : b < 4294967296) : bits2 BinOp.xor IntKind.u32 (a : Int) (b : Int) = ((Nat.xor a b : Nat) : Int) := by
  show IntKind.u32.wrap ((BitVec.ofInt 32 (a : Int) ^^^ BitVec.ofInt 32 (b : Int)).toNat : Int) = _
  rw [BitVec.toNat_xor, bv32 a ha, bv32 b hb]
  exact u32_of _ (Nat.xor_lt_two_pow (n := 32) ha hb)
theorem fdivN (a b : Nat) : ((a : Int).fdiv (b : Int)) = ((a / b : Nat) : Int) := by
  rw [Int.fdiv_eq_ediv_of_nonneg _ (by omega)]; omega
theorem crcBit_lt (r b : Nat) (h : r < 4294967296) : crcBit r b < 4294967296 := by
  have h1 : Nat.shiftRight r 1 < 4294967296 := by
    show r >>> 1 < _
    rw [Nat.shiftRight_eq_div_pow]; omega
  unfold crcBit
  split
  · exact h1
  · exact Nat.xor_lt_two_pow (n := 32) h1 (by omega)
def FinC (v : Nat) (r : Option AV) : Prop := r = some (.int .u32 ((v : Nat) : Int))
theorem ne_beq (a b : Nat) : (((a : Nat) : Int) != ((b : Nat) : Int)) = !(Nat.beq a b) := by
  cases h : Nat.beq a b with
  | true => rw [Nat.eq_of_beq_eq_true h]; simp
  | false =>
    have : a ≠ b := Nat.ne_of_beq_eq_false h
    simp only [Bool.not_false, bne_iff_ne, ne_eq]
    omega
/-- One bit: the register's two futures. -/
theorem bit_go {P : Int → Option AV → Prop} {r c w k : Nat} {f g : Option AV} (hr : r < 4294967296) (hc : c < 256) (hw : w = 2 ^ k)
    (h1 : Nat.beq (Nat.land r 1) (Nat.land (Nat.shiftRight c k) 1) = false → P ((Nat.xor (Nat.shiftRight r 1) 3988292384 : Nat) : Int) f)
    (h2 : Nat.beq (Nat.land r 1) (Nat.land (Nat.shiftRight c k) 1) = true → P ((Nat.shiftRight r 1 : Nat) : Int) g) :
    P ((crcBit r (Nat.land (Nat.shiftRight c k) 1) : Nat) : Int) (br (bits2 BinOp.and IntKind.u32 (r : Int) (1 : Int) != bits2 BinOp.and IntKind.u32 ((IntKind.u32.wrap (c : Int)).fdiv (w : Int)) (1 : Int)) (fun _ => f) (fun _ => g)) := by
  have e : c / w < 4294967296 := Nat.lt_of_le_of_lt (Nat.div_le_self _ _) (by omega)
  have e1 : bits2 BinOp.and IntKind.u32 (r : Int) (1 : Int) = _ := and32 r 1 hr (by omega)
  have e2 : bits2 BinOp.and IntKind.u32 ((c / w : Nat) : Int) (1 : Int) = _ := and32 (c / w) 1 e (by omega)
  have e3 : Nat.shiftRight c k = c / w := by
    show c >>> k = _
    rw [Nat.shiftRight_eq_div_pow, hw]
  rw [u32_of c (by omega), fdivN, e1, e2, ne_beq]
  rw [e3] at h1 h2 ⊢
  unfold crcBit
  cases hb : Nat.beq (Nat.land r 1) (Nat.land (c / w) 1) with
  | true => exact h2 hb
  | false => exact h1 hb
theorem ci_g8 (fuel k : Nat) (l : List UInt8) (i r : Nat) (Q : Option AV → Prop) (K : Ex → List AV → AH → Option AV) (hQ : ∀ (x0 x2 x3 x4 x8 x9 x10 x11 x12 x15 x16 x18 x19 x20 x21 x22 x23 x24 x25 x26 x27 x28 x29 x30 x31 x32 : AV), Q (K (.exit 2) [x0, .str l, x2, x3, x4, .ptr 0 0, .func (.func 377) [] [.ptr 0 0], .int .i64 (i : Nat), x8, x9, x10, x11, x12, .int .i64 (l.length : Int), .int .i64 (i : Nat), x15, x16, .int .i64 8, x18, x19, x20, x21, x22, x23, x24, x25, x26, x27, x28, x29, x30, x31, x32] ⟨[.cells [.int .u32 (r : Nat)]], []⟩)) (x0 x2 x3 x4 x8 x9 x10 x11 x12 x15 x16 x18 x19 x20 x21 x22 x23 x24 x25 x26 x27 x28 x29 x30 x31 x32 : AV) : Q (loopC Tryz.cC (cK fuel 3) fuel iB (k + 1) [x0, .str l, x2, x3, x4, .ptr 0 0, .func (.func 377) [] [.ptr 0 0], .int .i64 (i : Nat), x8, x9, x10, x11, x12, .int .i64 (l.length : Int), .int .i64 (i : Nat), x15, x16, .int .i64 8, x18, x19, x20, x21, x22, x23, x24, x25, x26, x27, x28, x29, x30, x31, x32] ⟨[.cells [.int .u32 (r : Nat)]], []⟩ K) := by
  rw [ci_8]
  exact hQ ..
theorem ci_g7 (fuel k : Nat) (l : List UInt8) (i r : Nat) (hr : r < 4294967296) (c : UInt8) (hi : l[i]? = some c) (Q : Option AV → Prop) (K : Ex → List AV → AH → Option AV) (hQ : ∀ (x0 x2 x3 x4 x8 x9 x10 x11 x12 x15 x16 x18 x19 x20 x21 x22 x23 x24 x25 x26 x27 x28 x29 x30 x31 x32 : AV), Q (K (.exit 2) [x0, .str l, x2, x3, x4, .ptr 0 0, .func (.func 377) [] [.ptr 0 0], .int .i64 (i : Nat), x8, x9, x10, x11, x12, .int .i64 (l.length : Int), .int .i64 (i : Nat), x15, x16, .int .i64 8, x18, x19, x20, x21, x22, x23, x24, x25, x26, x27, x28, x29, x30, x31, x32] ⟨[.cells [.int .u32 ((crcBit r (Nat.land (Nat.shiftRight c.toNat 7) 1) : Nat) : Int)]], []⟩)) (x0 x2 x3 x4 x8 x9 x10 x11 x12 x15 x16 x18 x19 x20 x21 x22 x23 x24 x25 x26 x27 x28 x29 x30 x31 x32 : AV) : Q (loopC Tryz.cC (cK fuel 3) fuel iB (k + 2) [x0, .str l, x2, x3, x4, .ptr 0 0, .func (.func 377) [] [.ptr 0 0], .int .i64 (i : Nat), x8, x9, x10, x11, x12, .int .i64 (l.length : Int), .int .i64 (i : Nat), x15, x16, .int .i64 7, x18, x19, x20, x21, x22, x23, x24, x25, x26, x27, x28, x29, x30, x31, x32] ⟨[.cells [.int .u32 (r : Nat)]], []⟩ K) := by
  have hc : c.toNat < 256 := c.toNat_lt
  have hs : Nat.shiftRight r 1 < 4294967296 := by
    show r >>> 1 < _
    rw [Nat.shiftRight_eq_div_pow]; omega
  have e0 : ((r : Nat) : Int).fdiv (2 : Int) = ((Nat.shiftRight r 1 : Nat) : Int) := by
    have : ((r : Nat) : Int).fdiv (2 : Int) = _ := fdivN r 2
    rw [this]
    show _ = ((r >>> 1 : Nat) : Int)
    rw [Nat.shiftRight_eq_div_pow]
  have e4 : bits2 BinOp.xor IntKind.u32 ((Nat.shiftRight r 1 : Nat) : Int) (3988292384 : Int) = _ := xor32 (Nat.shiftRight r 1) 3988292384 hs (by omega)
  rw [ci_7, if_pos (by omega), Int.toNat_natCast, hi]
  simp only [e0, e4]
  have hb := crcBit_lt r (Nat.land (Nat.shiftRight c.toNat 7) 1) hr
  refine bit_go (P := fun _ x => Q x) (r := r) (c := c.toNat) (w := 128) (k := 7) hr hc rfl (fun h => ?_) (fun h => ?_)
  · have e : crcBit r (Nat.land (Nat.shiftRight c.toNat 7) 1) = Nat.xor (Nat.shiftRight r 1) 3988292384 := by unfold crcBit; rw [h]
    rw [e] at hQ hb
    exact ci_g8 fuel k l i _ Q K hQ ..
  · have e : crcBit r (Nat.land (Nat.shiftRight c.toNat 7) 1) = Nat.shiftRight r 1 := by unfold crcBit; rw [h]
    rw [e] at hQ hb
    exact ci_g8 fuel k l i _ Q K hQ ..
theorem ci_g6 (fuel k : Nat) (l : List UInt8) (i r : Nat) (hr : r < 4294967296) (c : UInt8) (hi : l[i]? = some c) (Q : Option AV → Prop) (K : Ex → List AV → AH → Option AV) (hQ : ∀ (x0 x2 x3 x4 x8 x9 x10 x11 x12 x15 x16 x18 x19 x20 x21 x22 x23 x24 x25 x26 x27 x28 x29 x30 x31 x32 : AV), Q (K (.exit 2) [x0, .str l, x2, x3, x4, .ptr 0 0, .func (.func 377) [] [.ptr 0 0], .int .i64 (i : Nat), x8, x9, x10, x11, x12, .int .i64 (l.length : Int), .int .i64 (i : Nat), x15, x16, .int .i64 8, x18, x19, x20, x21, x22, x23, x24, x25, x26, x27, x28, x29, x30, x31, x32] ⟨[.cells [.int .u32 ((crcBit (crcBit r (Nat.land (Nat.shiftRight c.toNat 6) 1)) (Nat.land (Nat.shiftRight c.toNat 7) 1) : Nat) : Int)]], []⟩)) (x0 x2 x3 x4 x8 x9 x10 x11 x12 x15 x16 x18 x19 x20 x21 x22 x23 x24 x25 x26 x27 x28 x29 x30 x31 x32 : AV) : Q (loopC Tryz.cC (cK fuel 3) fuel iB (k + 3) [x0, .str l, x2, x3, x4, .ptr 0 0, .func (.func 377) [] [.ptr 0 0], .int .i64 (i : Nat), x8, x9, x10, x11, x12, .int .i64 (l.length : Int), .int .i64 (i : Nat), x15, x16, .int .i64 6, x18, x19, x20, x21, x22, x23, x24, x25, x26, x27, x28, x29, x30, x31, x32] ⟨[.cells [.int .u32 (r : Nat)]], []⟩ K) := by
  have hc : c.toNat < 256 := c.toNat_lt
  have hs : Nat.shiftRight r 1 < 4294967296 := by
    show r >>> 1 < _
    rw [Nat.shiftRight_eq_div_pow]; omega
  have e0 : ((r : Nat) : Int).fdiv (2 : Int) = ((Nat.shiftRight r 1 : Nat) : Int) := by
    have : ((r : Nat) : Int).fdiv (2 : Int) = _ := fdivN r 2
    rw [this]
    show _ = ((r >>> 1 : Nat) : Int)
    rw [Nat.shiftRight_eq_div_pow]
  have e4 : bits2 BinOp.xor IntKind.u32 ((Nat.shiftRight r 1 : Nat) : Int) (3988292384 : Int) = _ := xor32 (Nat.shiftRight r 1) 3988292384 hs (by omega)
  rw [ci_6, if_pos (by omega), Int.toNat_natCast, hi]
  simp only [e0, e4]
  have hb := crcBit_lt r (Nat.land (Nat.shiftRight c.toNat 6) 1) hr
  refine bit_go (P := fun _ x => Q x) (r := r) (c := c.toNat) (w := 64) (k := 6) hr hc rfl (fun h => ?_) (fun h => ?_)
  · have e : crcBit r (Nat.land (Nat.shiftRight c.toNat 6) 1) = Nat.xor (Nat.shiftRight r 1) 3988292384 := by unfold crcBit; rw [h]
    rw [e] at hQ hb
    exact ci_g7 fuel k l i _ hb c hi Q K hQ ..
  · have e : crcBit r (Nat.land (Nat.shiftRight c.toNat 6) 1) = Nat.shiftRight r 1 := by unfold crcBit; rw [h]
    rw [e] at hQ hb
    exact ci_g7 fuel k l i _ hb c hi Q K hQ ..
theorem ci_g5 (fuel k : Nat) (l : List UInt8) (i r : Nat) (hr : r < 4294967296) (c : UInt8) (hi : l[i]? = some c) (Q : Option AV → Prop) (K : Ex → List AV → AH → Option AV) (hQ : ∀ (x0 x2 x3 x4 x8 x9 x10 x11 x12 x15 x16 x18 x19 x20 x21 x22 x23 x24 x25 x26 x27 x28 x29 x30 x31 x32 : AV), Q (K (.exit 2) [x0, .str l, x2, x3, x4, .ptr 0 0, .func (.func 377) [] [.ptr 0 0], .int .i64 (i : Nat), x8, x9, x10, x11, x12, .int .i64 (l.length : Int), .int .i64 (i : Nat), x15, x16, .int .i64 8, x18, x19, x20, x21, x22, x23, x24, x25, x26, x27, x28, x29, x30, x31, x32] ⟨[.cells [.int .u32 ((crcBit (crcBit (crcBit r (Nat.land (Nat.shiftRight c.toNat 5) 1)) (Nat.land (Nat.shiftRight c.toNat 6) 1)) (Nat.land (Nat.shiftRight c.toNat 7) 1) : Nat) : Int)]], []⟩)) (x0 x2 x3 x4 x8 x9 x10 x11 x12 x15 x16 x18 x19 x20 x21 x22 x23 x24 x25 x26 x27 x28 x29 x30 x31 x32 : AV) : Q (loopC Tryz.cC (cK fuel 3) fuel iB (k + 4) [x0, .str l, x2, x3, x4, .ptr 0 0, .func (.func 377) [] [.ptr 0 0], .int .i64 (i : Nat), x8, x9, x10, x11, x12, .int .i64 (l.length : Int), .int .i64 (i : Nat), x15, x16, .int .i64 5, x18, x19, x20, x21, x22, x23, x24, x25, x26, x27, x28, x29, x30, x31, x32] ⟨[.cells [.int .u32 (r : Nat)]], []⟩ K) := by
  have hc : c.toNat < 256 := c.toNat_lt
  have hs : Nat.shiftRight r 1 < 4294967296 := by
    show r >>> 1 < _
    rw [Nat.shiftRight_eq_div_pow]; omega
  have e0 : ((r : Nat) : Int).fdiv (2 : Int) = ((Nat.shiftRight r 1 : Nat) : Int) := by
    have : ((r : Nat) : Int).fdiv (2 : Int) = _ := fdivN r 2
    rw [this]
    show _ = ((r >>> 1 : Nat) : Int)
    rw [Nat.shiftRight_eq_div_pow]
  have e4 : bits2 BinOp.xor IntKind.u32 ((Nat.shiftRight r 1 : Nat) : Int) (3988292384 : Int) = _ := xor32 (Nat.shiftRight r 1) 3988292384 hs (by omega)
  rw [ci_5, if_pos (by omega), Int.toNat_natCast, hi]
  simp only [e0, e4]
  have hb := crcBit_lt r (Nat.land (Nat.shiftRight c.toNat 5) 1) hr
  refine bit_go (P := fun _ x => Q x) (r := r) (c := c.toNat) (w := 32) (k := 5) hr hc rfl (fun h => ?_) (fun h => ?_)
  · have e : crcBit r (Nat.land (Nat.shiftRight c.toNat 5) 1) = Nat.xor (Nat.shiftRight r 1) 3988292384 := by unfold crcBit; rw [h]
    rw [e] at hQ hb
    exact ci_g6 fuel k l i _ hb c hi Q K hQ ..
  · have e : crcBit r (Nat.land (Nat.shiftRight c.toNat 5) 1) = Nat.shiftRight r 1 := by unfold crcBit; rw [h]
    rw [e] at hQ hb
    exact ci_g6 fuel k l i _ hb c hi Q K hQ ..
theorem ci_g4 (fuel k : Nat) (l : List UInt8) (i r : Nat) (hr : r < 4294967296) (c : UInt8) (hi : l[i]? = some c) (Q : Option AV → Prop) (K : Ex → List AV → AH → Option AV) (hQ : ∀ (x0 x2 x3 x4 x8 x9 x10 x11 x12 x15 x16 x18 x19 x20 x21 x22 x23 x24 x25 x26 x27 x28 x29 x30 x31 x32 : AV), Q (K (.exit 2) [x0, .str l, x2, x3, x4, .ptr 0 0, .func (.func 377) [] [.ptr 0 0], .int .i64 (i : Nat), x8, x9, x10, x11, x12, .int .i64 (l.length : Int), .int .i64 (i : Nat), x15, x16, .int .i64 8, x18, x19, x20, x21, x22, x23, x24, x25, x26, x27, x28, x29, x30, x31, x32] ⟨[.cells [.int .u32 ((crcBit (crcBit (crcBit (crcBit r (Nat.land (Nat.shiftRight c.toNat 4) 1)) (Nat.land (Nat.shiftRight c.toNat 5) 1)) (Nat.land (Nat.shiftRight c.toNat 6) 1)) (Nat.land (Nat.shiftRight c.toNat 7) 1) : Nat) : Int)]], []⟩)) (x0 x2 x3 x4 x8 x9 x10 x11 x12 x15 x16 x18 x19 x20 x21 x22 x23 x24 x25 x26 x27 x28 x29 x30 x31 x32 : AV) : Q (loopC Tryz.cC (cK fuel 3) fuel iB (k + 5) [x0, .str l, x2, x3, x4, .ptr 0 0, .func (.func 377) [] [.ptr 0 0], .int .i64 (i : Nat), x8, x9, x10, x11, x12, .int .i64 (l.length : Int), .int .i64 (i : Nat), x15, x16, .int .i64 4, x18, x19, x20, x21, x22, x23, x24, x25, x26, x27, x28, x29, x30, x31, x32] ⟨[.cells [.int .u32 (r : Nat)]], []⟩ K) := by
  have hc : c.toNat < 256 := c.toNat_lt
  have hs : Nat.shiftRight r 1 < 4294967296 := by
    show r >>> 1 < _
    rw [Nat.shiftRight_eq_div_pow]; omega
  have e0 : ((r : Nat) : Int).fdiv (2 : Int) = ((Nat.shiftRight r 1 : Nat) : Int) := by
    have : ((r : Nat) : Int).fdiv (2 : Int) = _ := fdivN r 2
    rw [this]
    show _ = ((r >>> 1 : Nat) : Int)
    rw [Nat.shiftRight_eq_div_pow]
  have e4 : bits2 BinOp.xor IntKind.u32 ((Nat.shiftRight r 1 : Nat) : Int) (3988292384 : Int) = _ := xor32 (Nat.shiftRight r 1) 3988292384 hs (by omega)
  rw [ci_4, if_pos (by omega), Int.toNat_natCast, hi]
  simp only [e0, e4]
  have hb := crcBit_lt r (Nat.land (Nat.shiftRight c.toNat 4) 1) hr
  refine bit_go (P := fun _ x => Q x) (r := r) (c := c.toNat) (w := 16) (k := 4) hr hc rfl (fun h => ?_) (fun h => ?_)
  · have e : crcBit r (Nat.land (Nat.shiftRight c.toNat 4) 1) = Nat.xor (Nat.shiftRight r 1) 3988292384 := by unfold crcBit; rw [h]
    rw [e] at hQ hb
    exact ci_g5 fuel k l i _ hb c hi Q K hQ ..
  · have e : crcBit r (Nat.land (Nat.shiftRight c.toNat 4) 1) = Nat.shiftRight r 1 := by unfold crcBit; rw [h]
    rw [e] at hQ hb
    exact ci_g5 fuel k l i _ hb c hi Q K hQ ..
theorem ci_g3 (fuel k : Nat) (l : List UInt8) (i r : Nat) (hr : r < 4294967296) (c : UInt8) (hi : l[i]? = some c) (Q : Option AV → Prop) (K : Ex → List AV → AH → Option AV) (hQ : ∀ (x0 x2 x3 x4 x8 x9 x10 x11 x12 x15 x16 x18 x19 x20 x21 x22 x23 x24 x25 x26 x27 x28 x29 x30 x31 x32 : AV), Q (K (.exit 2) [x0, .str l, x2, x3, x4, .ptr 0 0, .func (.func 377) [] [.ptr 0 0], .int .i64 (i : Nat), x8, x9, x10, x11, x12, .int .i64 (l.length : Int), .int .i64 (i : Nat), x15, x16, .int .i64 8, x18, x19, x20, x21, x22, x23, x24, x25, x26, x27, x28, x29, x30, x31, x32] ⟨[.cells [.int .u32 ((crcBit (crcBit (crcBit (crcBit (crcBit r (Nat.land (Nat.shiftRight c.toNat 3) 1)) (Nat.land (Nat.shiftRight c.toNat 4) 1)) (Nat.land (Nat.shiftRight c.toNat 5) 1)) (Nat.land (Nat.shiftRight c.toNat 6) 1)) (Nat.land (Nat.shiftRight c.toNat 7) 1) : Nat) : Int)]], []⟩)) (x0 x2 x3 x4 x8 x9 x10 x11 x12 x15 x16 x18 x19 x20 x21 x22 x23 x24 x25 x26 x27 x28 x29 x30 x31 x32 : AV) : Q (loopC Tryz.cC (cK fuel 3) fuel iB (k + 6) [x0, .str l, x2, x3, x4, .ptr 0 0, .func (.func 377) [] [.ptr 0 0], .int .i64 (i : Nat), x8, x9, x10, x11, x12, .int .i64 (l.length : Int), .int .i64 (i : Nat), x15, x16, .int .i64 3, x18, x19, x20, x21, x22, x23, x24, x25, x26, x27, x28, x29, x30, x31, x32] ⟨[.cells [.int .u32 (r : Nat)]], []⟩ K) := by
  have hc : c.toNat < 256 := c.toNat_lt
  have hs : Nat.shiftRight r 1 < 4294967296 := by
    show r >>> 1 < _
    rw [Nat.shiftRight_eq_div_pow]; omega
  have e0 : ((r : Nat) : Int).fdiv (2 : Int) = ((Nat.shiftRight r 1 : Nat) : Int) := by
    have : ((r : Nat) : Int).fdiv (2 : Int) = _ := fdivN r 2
    rw [this]
    show _ = ((r >>> 1 : Nat) : Int)
    rw [Nat.shiftRight_eq_div_pow]
  have e4 : bits2 BinOp.xor IntKind.u32 ((Nat.shiftRight r 1 : Nat) : Int) (3988292384 : Int) = _ := xor32 (Nat.shiftRight r 1) 3988292384 hs (by omega)
  rw [ci_3, if_pos (by omega), Int.toNat_natCast, hi]
  simp only [e0, e4]
  have hb := crcBit_lt r (Nat.land (Nat.shiftRight c.toNat 3) 1) hr
  refine bit_go (P := fun _ x => Q x) (r := r) (c := c.toNat) (w := 8) (k := 3) hr hc rfl (fun h => ?_) (fun h => ?_)
  · have e : crcBit r (Nat.land (Nat.shiftRight c.toNat 3) 1) = Nat.xor (Nat.shiftRight r 1) 3988292384 := by unfold crcBit; rw [h]
    rw [e] at hQ hb
    exact ci_g4 fuel k l i _ hb c hi Q K hQ ..
  · have e : crcBit r (Nat.land (Nat.shiftRight c.toNat 3) 1) = Nat.shiftRight r 1 := by unfold crcBit; rw [h]
    rw [e] at hQ hb
    exact ci_g4 fuel k l i _ hb c hi Q K hQ ..
theorem ci_g2 (fuel k : Nat) (l : List UInt8) (i r : Nat) (hr : r < 4294967296) (c : UInt8) (hi : l[i]? = some c) (Q : Option AV → Prop) (K : Ex → List AV → AH → Option AV) (hQ : ∀ (x0 x2 x3 x4 x8 x9 x10 x11 x12 x15 x16 x18 x19 x20 x21 x22 x23 x24 x25 x26 x27 x28 x29 x30 x31 x32 : AV), Q (K (.exit 2) [x0, .str l, x2, x3, x4, .ptr 0 0, .func (.func 377) [] [.ptr 0 0], .int .i64 (i : Nat), x8, x9, x10, x11, x12, .int .i64 (l.length : Int), .int .i64 (i : Nat), x15, x16, .int .i64 8, x18, x19, x20, x21, x22, x23, x24, x25, x26, x27, x28, x29, x30, x31, x32] ⟨[.cells [.int .u32 ((crcBit (crcBit (crcBit (crcBit (crcBit (crcBit r (Nat.land (Nat.shiftRight c.toNat 2) 1)) (Nat.land (Nat.shiftRight c.toNat 3) 1)) (Nat.land (Nat.shiftRight c.toNat 4) 1)) (Nat.land (Nat.shiftRight c.toNat 5) 1)) (Nat.land (Nat.shiftRight c.toNat 6) 1)) (Nat.land (Nat.shiftRight c.toNat 7) 1) : Nat) : Int)]], []⟩)) (x0 x2 x3 x4 x8 x9 x10 x11 x12 x15 x16 x18 x19 x20 x21 x22 x23 x24 x25 x26 x27 x28 x29 x30 x31 x32 : AV) : Q (loopC Tryz.cC (cK fuel 3) fuel iB (k + 7) [x0, .str l, x2, x3, x4, .ptr 0 0, .func (.func 377) [] [.ptr 0 0], .int .i64 (i : Nat), x8, x9, x10, x11, x12, .int .i64 (l.length : Int), .int .i64 (i : Nat), x15, x16, .int .i64 2, x18, x19, x20, x21, x22, x23, x24, x25, x26, x27, x28, x29, x30, x31, x32] ⟨[.cells [.int .u32 (r : Nat)]], []⟩ K) := by
  have hc : c.toNat < 256 := c.toNat_lt
  have hs : Nat.shiftRight r 1 < 4294967296 := by
    show r >>> 1 < _
    rw [Nat.shiftRight_eq_div_pow]; omega
  have e0 : ((r : Nat) : Int).fdiv (2 : Int) = ((Nat.shiftRight r 1 : Nat) : Int) := by
    have : ((r : Nat) : Int).fdiv (2 : Int) = _ := fdivN r 2
    rw [this]
    show _ = ((r >>> 1 : Nat) : Int)
    rw [Nat.shiftRight_eq_div_pow]
  have e4 : bits2 BinOp.xor IntKind.u32 ((Nat.shiftRight r 1 : Nat) : Int) (3988292384 : Int) = _ := xor32 (Nat.shiftRight r 1) 3988292384 hs (by omega)
  rw [ci_2, if_pos (by omega), Int.toNat_natCast, hi]
  simp only [e0, e4]
  have hb := crcBit_lt r (Nat.land (Nat.shiftRight c.toNat 2) 1) hr
  refine bit_go (P := fun _ x => Q x) (r := r) (c := c.toNat) (w := 4) (k := 2) hr hc rfl (fun h => ?_) (fun h => ?_)
  · have e : crcBit r (Nat.land (Nat.shiftRight c.toNat 2) 1) = Nat.xor (Nat.shiftRight r 1) 3988292384 := by unfold crcBit; rw [h]
    rw [e] at hQ hb
    exact ci_g3 fuel k l i _ hb c hi Q K hQ ..
  · have e : crcBit r (Nat.land (Nat.shiftRight c.toNat 2) 1) = Nat.shiftRight r 1 := by unfold crcBit; rw [h]
    rw [e] at hQ hb
    exact ci_g3 fuel k l i _ hb c hi Q K hQ ..
theorem ci_g1 (fuel k : Nat) (l : List UInt8) (i r : Nat) (hr : r < 4294967296) (c : UInt8) (hi : l[i]? = some c) (Q : Option AV → Prop) (K : Ex → List AV → AH → Option AV) (hQ : ∀ (x0 x2 x3 x4 x8 x9 x10 x11 x12 x15 x16 x18 x19 x20 x21 x22 x23 x24 x25 x26 x27 x28 x29 x30 x31 x32 : AV), Q (K (.exit 2) [x0, .str l, x2, x3, x4, .ptr 0 0, .func (.func 377) [] [.ptr 0 0], .int .i64 (i : Nat), x8, x9, x10, x11, x12, .int .i64 (l.length : Int), .int .i64 (i : Nat), x15, x16, .int .i64 8, x18, x19, x20, x21, x22, x23, x24, x25, x26, x27, x28, x29, x30, x31, x32] ⟨[.cells [.int .u32 ((crcBit (crcBit (crcBit (crcBit (crcBit (crcBit (crcBit r (Nat.land (Nat.shiftRight c.toNat 1) 1)) (Nat.land (Nat.shiftRight c.toNat 2) 1)) (Nat.land (Nat.shiftRight c.toNat 3) 1)) (Nat.land (Nat.shiftRight c.toNat 4) 1)) (Nat.land (Nat.shiftRight c.toNat 5) 1)) (Nat.land (Nat.shiftRight c.toNat 6) 1)) (Nat.land (Nat.shiftRight c.toNat 7) 1) : Nat) : Int)]], []⟩)) (x0 x2 x3 x4 x8 x9 x10 x11 x12 x15 x16 x18 x19 x20 x21 x22 x23 x24 x25 x26 x27 x28 x29 x30 x31 x32 : AV) : Q (loopC Tryz.cC (cK fuel 3) fuel iB (k + 8) [x0, .str l, x2, x3, x4, .ptr 0 0, .func (.func 377) [] [.ptr 0 0], .int .i64 (i : Nat), x8, x9, x10, x11, x12, .int .i64 (l.length : Int), .int .i64 (i : Nat), x15, x16, .int .i64 1, x18, x19, x20, x21, x22, x23, x24, x25, x26, x27, x28, x29, x30, x31, x32] ⟨[.cells [.int .u32 (r : Nat)]], []⟩ K) := by
  have hc : c.toNat < 256 := c.toNat_lt
  have hs : Nat.shiftRight r 1 < 4294967296 := by
    show r >>> 1 < _
    rw [Nat.shiftRight_eq_div_pow]; omega
  have e0 : ((r : Nat) : Int).fdiv (2 : Int) = ((Nat.shiftRight r 1 : Nat) : Int) := by
    have : ((r : Nat) : Int).fdiv (2 : Int) = _ := fdivN r 2
    rw [this]
    show _ = ((r >>> 1 : Nat) : Int)
    rw [Nat.shiftRight_eq_div_pow]
  have e4 : bits2 BinOp.xor IntKind.u32 ((Nat.shiftRight r 1 : Nat) : Int) (3988292384 : Int) = _ := xor32 (Nat.shiftRight r 1) 3988292384 hs (by omega)
  rw [ci_1, if_pos (by omega), Int.toNat_natCast, hi]
  simp only [e0, e4]
  have hb := crcBit_lt r (Nat.land (Nat.shiftRight c.toNat 1) 1) hr
  refine bit_go (P := fun _ x => Q x) (r := r) (c := c.toNat) (w := 2) (k := 1) hr hc rfl (fun h => ?_) (fun h => ?_)
  · have e : crcBit r (Nat.land (Nat.shiftRight c.toNat 1) 1) = Nat.xor (Nat.shiftRight r 1) 3988292384 := by unfold crcBit; rw [h]
    rw [e] at hQ hb
    exact ci_g2 fuel k l i _ hb c hi Q K hQ ..
  · have e : crcBit r (Nat.land (Nat.shiftRight c.toNat 1) 1) = Nat.shiftRight r 1 := by unfold crcBit; rw [h]
    rw [e] at hQ hb
    exact ci_g2 fuel k l i _ hb c hi Q K hQ ..
theorem ci_g0 (fuel k : Nat) (l : List UInt8) (i r : Nat) (hr : r < 4294967296) (c : UInt8) (hi : l[i]? = some c) (Q : Option AV → Prop) (K : Ex → List AV → AH → Option AV) (hQ : ∀ (x0 x2 x3 x4 x8 x9 x10 x11 x12 x15 x16 x18 x19 x20 x21 x22 x23 x24 x25 x26 x27 x28 x29 x30 x31 x32 : AV), Q (K (.exit 2) [x0, .str l, x2, x3, x4, .ptr 0 0, .func (.func 377) [] [.ptr 0 0], .int .i64 (i : Nat), x8, x9, x10, x11, x12, .int .i64 (l.length : Int), .int .i64 (i : Nat), x15, x16, .int .i64 8, x18, x19, x20, x21, x22, x23, x24, x25, x26, x27, x28, x29, x30, x31, x32] ⟨[.cells [.int .u32 ((crcBit (crcBit (crcBit (crcBit (crcBit (crcBit (crcBit (crcBit r (Nat.land (Nat.shiftRight c.toNat 0) 1)) (Nat.land (Nat.shiftRight c.toNat 1) 1)) (Nat.land (Nat.shiftRight c.toNat 2) 1)) (Nat.land (Nat.shiftRight c.toNat 3) 1)) (Nat.land (Nat.shiftRight c.toNat 4) 1)) (Nat.land (Nat.shiftRight c.toNat 5) 1)) (Nat.land (Nat.shiftRight c.toNat 6) 1)) (Nat.land (Nat.shiftRight c.toNat 7) 1) : Nat) : Int)]], []⟩)) (x0 x2 x3 x4 x8 x9 x10 x11 x12 x15 x16 x18 x19 x20 x21 x22 x23 x24 x25 x26 x27 x28 x29 x30 x31 x32 : AV) : Q (loopC Tryz.cC (cK fuel 3) fuel iB (k + 9) [x0, .str l, x2, x3, x4, .ptr 0 0, .func (.func 377) [] [.ptr 0 0], .int .i64 (i : Nat), x8, x9, x10, x11, x12, .int .i64 (l.length : Int), .int .i64 (i : Nat), x15, x16, .int .i64 0, x18, x19, x20, x21, x22, x23, x24, x25, x26, x27, x28, x29, x30, x31, x32] ⟨[.cells [.int .u32 (r : Nat)]], []⟩ K) := by
  have hc : c.toNat < 256 := c.toNat_lt
  have hs : Nat.shiftRight r 1 < 4294967296 := by
    show r >>> 1 < _
    rw [Nat.shiftRight_eq_div_pow]; omega
  have e0 : ((r : Nat) : Int).fdiv (2 : Int) = ((Nat.shiftRight r 1 : Nat) : Int) := by
    have : ((r : Nat) : Int).fdiv (2 : Int) = _ := fdivN r 2
    rw [this]
    show _ = ((r >>> 1 : Nat) : Int)
    rw [Nat.shiftRight_eq_div_pow]
  have e4 : bits2 BinOp.xor IntKind.u32 ((Nat.shiftRight r 1 : Nat) : Int) (3988292384 : Int) = _ := xor32 (Nat.shiftRight r 1) 3988292384 hs (by omega)
  rw [ci_0, if_pos (by omega), Int.toNat_natCast, hi]
  simp only [e0, e4]
  have hb := crcBit_lt r (Nat.land (Nat.shiftRight c.toNat 0) 1) hr
  refine bit_go (P := fun _ x => Q x) (r := r) (c := c.toNat) (w := 1) (k := 0) hr hc rfl (fun h => ?_) (fun h => ?_)
  · have e : crcBit r (Nat.land (Nat.shiftRight c.toNat 0) 1) = Nat.xor (Nat.shiftRight r 1) 3988292384 := by unfold crcBit; rw [h]
    rw [e] at hQ hb
    exact ci_g1 fuel k l i _ hb c hi Q K hQ ..
  · have e : crcBit r (Nat.land (Nat.shiftRight c.toNat 0) 1) = Nat.shiftRight r 1 := by unfold crcBit; rw [h]
    rw [e] at hQ hb
    exact ci_g1 fuel k l i _ hb c hi Q K hQ ..
theorem crcByte_lt (r c : Nat) (h : r < 4294967296) : crcByte r c < 4294967296 := by
  unfold crcByte
  exact crcBit_lt _ _ (crcBit_lt _ _ (crcBit_lt _ _ (crcBit_lt _ _ (crcBit_lt _ _ (crcBit_lt _ _ (crcBit_lt _ _ (crcBit_lt _ _ h)))))))
theorem crcGo_lt : ∀ (l : List UInt8) (r : Nat), r < 4294967296 → crcGo l r < 4294967296
  | [], r, h => h
  | c :: l, r, h => crcGo_lt l _ (crcByte_lt r _ h)
theorem br_tN {R : Type} {c : Prop} [Decidable c] (h : c) (f g : Unit → Option R) : br (decide c) f g = f () := by rw [decide_eq_true h]; rfl
theorem br_fN {R : Type} {c : Prop} [Decidable c] (h : ¬ c) (f g : Unit → Option R) : br (decide c) f g = g () := by rw [decide_eq_false h]; rfl
theorem noTabOK {S : Go.Sx.Sys} : TabOK S (fun _ => none) := by intro f g hg; cases hg
theorem co_run (fuel : Nat) (l : List UInt8) (hl : l.length ≤ 1000000000) (hf : 9 ≤ fuel) (Q : Option AV → Prop) (K : Ex → List AV → AH → Option AV) (v : Nat)
    (hQ : ∀ (i : Nat) (x0 x2 x3 x4 x7 x8 x9 x10 x11 x12 x15 x16 x17 x18 x19 x20 x21 x22 x23 x24 x25 x26 x27 x28 x29 x30 x31 x32 : AV), Q (K (.exit 0) [x0, .str l, x2, x3, x4, .ptr 0 0, .func (.func 377) [] [.ptr 0 0], x7, x8, x9, x10, x11, x12, .int .i64 (l.length : Int), .int .i64 (i : Nat), x15, x16, x17, x18, x19, x20, x21, x22, x23, x24, x25, x26, x27, x28, x29, x30, x31, x32] ⟨[.cells [.int .u32 (v : Nat)]], []⟩)) :
    ∀ (m k i r : Nat), m < k → i + m = l.length → r < 4294967296 → crcGo (l.drop i) r = v → ∀ (x0 x2 x3 x4 x7 x8 x9 x10 x11 x12 x15 x16 x17 x18 x19 x20 x21 x22 x23 x24 x25 x26 x27 x28 x29 x30 x31 x32 : AV), Q (loopC Tryz.cC (cK fuel 3) fuel oB k [x0, .str l, x2, x3, x4, .ptr 0 0, .func (.func 377) [] [.ptr 0 0], x7, x8, x9, x10, x11, x12, .int .i64 (l.length : Int), .int .i64 (i : Nat), x15, x16, x17, x18, x19, x20, x21, x22, x23, x24, x25, x26, x27, x28, x29, x30, x31, x32] ⟨[.cells [.int .u32 (r : Nat)]], []⟩ K) := by
  intro m
  induction m with
  | zero =>
    intro k i r hk hi hr hv x0 x2 x3 x4 x7 x8 x9 x10 x11 x12 x15 x16 x17 x18 x19 x20 x21 x22 x23 x24 x25 x26 x27 x28 x29 x30 x31 x32
    obtain ⟨k, rfl⟩ : ∃ j, k = j + 1 := ⟨k - 1, by omega⟩
    rw [co_step, br_fN (by omega)]
    rw [List.drop_eq_nil_of_le (by omega)] at hv
    subst hv
    exact hQ ..
  | succ m ih =>
    intro k i r hk hi hr hv x0 x2 x3 x4 x7 x8 x9 x10 x11 x12 x15 x16 x17 x18 x19 x20 x21 x22 x23 x24 x25 x26 x27 x28 x29 x30 x31 x32
    obtain ⟨k, rfl⟩ : ∃ j, k = j + 1 := ⟨k - 1, by omega⟩
    obtain ⟨fu, rfl⟩ : ∃ j, fuel = j + 9 := ⟨fuel - 9, by omega⟩
    have hlt : i < l.length := by omega
    have hget : l[i]? = some l[i] := List.getElem?_eq_getElem hlt
    have hd : l.drop i = l[i] :: l.drop (i + 1) := List.drop_eq_getElem_cons hlt
    rw [co_step, br_tN (by omega)]
    refine ci_g0 (fu + 9) fu l i r hr l[i] hget Q _ ?_ ..
    intro x0 x2 x3 x4 x8 x9 x10 x11 x12 x15 x16 x18 x19 x20 x21 x22 x23 x24 x25 x26 x27 x28 x29 x30 x31 x32
    rw [co_post]
    have e : IntKind.i64.wrap ((i : Int) + 1) = ((i + 1 : Nat) : Int) := by
      rw [IntWalk.i64_in _ (by omega)]; omega
    rw [e]
    refine ih k (i + 1) (crcByte r l[i].toNat) (by omega) (by omega) (crcByte_lt _ _ hr) ?_ ..
    rw [hd] at hv
    exact hv
theorem sum243 (l : List UInt8) (hl : l.length ≤ 1000000000) (H : AH) : callL Tryz.cC 243 [.str l] H = some (.int .u32 ((crcV l : Nat) : Int), H) := by
  have h1 : runI Tryz.cC (cK (l.length + 9) 3) (l.length + 9) Tryz.f318 [.int .u32 0, .str l] ⟨[], []⟩ ansR = some (.int .u32 ((crcV l : Nat) : Int)) := by
    rw [cm318]
    refine co_run (l.length + 9) l hl (by omega) (fun r => r = some (.int .u32 ((crcV l : Nat) : Int))) (kontI Tryz.cC (cK (l.length + 9) 3) (l.length + 9) (bodyOf Tryz.f318) oP (endI Tryz.cC Tryz.f318 ansR)) (crcGo l 4294967295) ?_ l.length (l.length + 9) 0 4294967295 (by omega) (by omega) (by omega) rfl ..
    · intro i x0 x2 x3 x4 x7 x8 x9 x10 x11 x12 x15 x16 x17 x18 x19 x20 x21 x22 x23 x24 x25 x26 x27 x28 x29 x30 x31 x32
      rw [co_end]
      have e : bits2 BinOp.xor IntKind.u32 (4294967295 : Int) ((crcGo l 4294967295 : Nat) : Int) = _ := xor32 4294967295 _ (by omega) (crcGo_lt l _ (by omega))
      rw [e]
      have : Nat.xor 4294967295 (crcGo l 4294967295) = crcV l := Nat.xor_comm _ _
      rw [this]
      rfl
  have h2 : ∀ H, valH Tryz.cC 318 [.int .u32 0, .str l] H = some (.int .u32 ((crcV l : Nat) : Int)) := fun H =>
    valH_of (callL_P noTabOK (fuel := l.length + 9) (n := 3) (H := H) rfl rfl rfl rfl h1 rfl)
  refine callL_P (tab := tabP Tryz.cC fun f => Nat.beq f 318) (tabP_ok (by
    intro f hf
    obtain rfl := Nat.eq_of_beq_eq_true hf
    rfl)) (fuel := 4) (n := 4) (H := H) (v := .int .u32 ((crcV l : Nat) : Int)) rfl rfl rfl rfl ?_ rfl
  refine Eq.trans (cs243 ansR l) ?_
  rw [h2]
  rfl
end Go.Proofs.YtedhpikmkoemhaaGreat

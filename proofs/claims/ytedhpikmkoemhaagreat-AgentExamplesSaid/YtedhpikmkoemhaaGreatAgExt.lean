/- What crc.Sum and strings.Repeat answer, told ahead. -/
import Derived.Test.YtedhpikmkoemhaaGreatEh
set_option maxRecDepth 100000
namespace Go.Proofs.YtedhpikmkoemhaaGreat
open Go.Sx
def crcBit (r b : Nat) : Nat := match Nat.beq (Nat.land r 1) b with
  | true => Nat.shiftRight r 1
  | false => Nat.xor (Nat.shiftRight r 1) 3988292384
def crcByte (r c : Nat) : Nat := crcBit (crcBit (crcBit (crcBit (crcBit (crcBit (crcBit (crcBit r (Nat.land c 1)) (Nat.land (Nat.shiftRight c 1) 1)) (Nat.land (Nat.shiftRight c 2) 1)) (Nat.land (Nat.shiftRight c 3) 1)) (Nat.land (Nat.shiftRight c 4) 1)) (Nat.land (Nat.shiftRight c 5) 1)) (Nat.land (Nat.shiftRight c 6) 1)) (Nat.land (Nat.shiftRight c 7) 1)
def crcGo : List UInt8 → Nat → Nat
  | [], r => r
  | c :: l, r => crcGo l (crcByte r c.toNat)
def crcV (l : List UInt8) : Nat := Nat.xor (crcGo l 4294967295) 4294967295
def gCrc (ts : List AV) : Option AV := match ts with
  | [.str l] => (match Nat.ble l.length 1000000000 with
    | true => some (.int .u32 (Int.ofNat (crcV l)))
    | false => none)
  | _ => none
def repB (l : List UInt8) : Nat → List UInt8
  | 0 => []
  | n + 1 => l ++ repB l n
def gRep (ts : List AV) : Option AV := match ts with
  | [.str l, .int .i64 (Int.ofNat n)] => (match Nat.ble n 4096 && Nat.beq l.length 1 with
    | true => some (.str (repB l n))
    | false => none)
  | _ => none
def extA (f : FuncId) : Option (List AV → Option AV) := match Nat.beq f 243, Nat.beq f 244 with
  | true, _ => some gCrc
  | _, true => some gRep
  | _, _ => none
end Go.Proofs.YtedhpikmkoemhaaGreat

/- TokenDigits, on unknown tokens. -/
import Derived.Test.YtoagnbpmoihojaaDoorPlain
set_option maxRecDepth 100000
set_option linter.unusedSimpArgs false
set_option linter.unusedVariables false
namespace Go.Proofs.YtoagnbpmoihojaaDoor
open Go.Sx

structure DG where
  sh : Option Bool
  s1 : List UInt8
  s2 : List UInt8
  a : Int
  b : Int
  c : Int
  d : Int
  e : Int
  f : Int
  c1 : Int
  c2 : Int

def junk (g : DG) : List AV := match g.sh with
  | some true => [.bool true, .int .i64 g.c2, .bool (g.c2 == 0), .bool (g.c2 == 0), .bool true, .str g.s1, .str g.s2, .bool (g.s1 == g.s2), tok g.a g.b g.c, tok g.d g.e g.f, .bool (g.a == g.d && (g.b == g.e && (g.c == g.f && true))),
      .bool (!(g.s1 == g.s2) == (g.a == g.d && (g.b == g.e && (g.c == g.f && true)))), .bool (!(g.s1 == g.s2) == (g.a == g.d && (g.b == g.e && (g.c == g.f && true))))]
  | some false => [.bool true, .int .i64 g.c2, .bool (g.c2 == 0), .bool (g.c2 == 0), .bool false, .tuple [], .tuple [], .tuple [], .tuple [], .tuple [], .tuple [], .tuple [], .bool false]
  | none => [.bool false, .tuple [], .tuple [], .bool false, .bool false, .tuple [], .tuple [], .tuple [], .tuple [], .tuple [], .tuple [], .tuple [], .bool false]

def dgS (g : DG) (k i : Int) : List AV :=
  [tok g.a g.b g.c, tok g.d g.e g.f, .ptr 0 0, .ptr 1 0, .bool false, .str g.s1, .int .i64 g.c1, .str g.s2, .int .i64 g.c2, .ptr 2 0, .int .i64 k, .int .i64 i,
   .tuple [.str g.s1, .int .i64 g.c1], tok g.a g.b g.c, .tuple [.str g.s1, .int .i64 g.c1], .str g.s1, .int .i64 g.c1, .tuple [.str g.s2, .int .i64 g.c2], tok g.d g.e g.f, .tuple [.str g.s2, .int .i64 g.c2], .str g.s2, .int .i64 g.c2,
   .int .i64 g.c1, .bool (g.c1 == 0)] ++ (junk g ++ ([.int .i64 g.c1, .bool (g.c1 != 0), .top, .top, .top, .top, .top, tok 0 0 0] ++ List.replicate 62 .top))

def dgH (g : DG) (n0 n1 n2 : Int) : AH := ⟨[.cells [.int .i64 g.a, .int .i64 g.b, .int .i64 g.c], .cells [.int .i64 g.d, .int .i64 g.e, .int .i64 g.f], .cells [.int .i64 n0, .int .i64 n1, .int .i64 n2]], []⟩

noncomputable def ld (m : Array Value) {R : Type} (fuel j : Nat) (g : DG) (k i n0 n1 n2 : Int) (K : AV → AH → Option R) : Option R :=
  loopI (Tryd.S m) (callI (Tryd.S m) tabM fuel 1) fuel Tryd.f14 [1, 1, 1, 1, 1, 1, 0, 1, 0] j (dgS g k i) (dgH g n0 n1 n2) K

def dst (n : Int) (u : UInt8) : Int := IntKind.i64.wrap (IntKind.i64.wrap (10 * n) + IntKind.i64.wrap (IntKind.u8.wrap ((u.toNat : Int) - 48)))

/-- A digit's round. -/
def digF {R : Type} (s : List UInt8) (i n : Int) (F : Unit → Option R) (L : Int → Option R) : Option R :=
  if 0 ≤ i then (match s[i.toNat]? with
    | some u => br (decide ((u.toNat : Int) ≥ 48)) (fun _ => if 0 ≤ i then (match s[i.toNat]? with
      | some u2 => br (decide ((u2.toNat : Int) ≤ 57)) (fun _ => br (decide (n < 1125899906842624)) (fun _ => if 0 ≤ i then (match s[i.toNat]? with
        | some u3 => L (dst n u3)
        | none => none) else none) F) F
      | none => none) else none) F
    | none => none) else none

theorem step0 (m : Array Value) {R : Type} (fuel j : Nat) (g : DG) (i n0 n1 n2 : Int) (K : AV → AH → Option R) : ld m fuel (j + 1) g 0 i n0 n1 n2 K =
    br (decide (i < (g.s1.length : Int))) (fun _ => if 0 ≤ i then (match g.s1[i.toNat]? with
      | some u => br ((u.toNat : Int) == 47) (fun _ => ld m fuel j g 1 (IntKind.i64.wrap (i + 1)) n0 n1 n2 K) (fun _ => digF g.s1 i n0 (fun _ => K (.bool false) (dgH g n0 n1 n2)) fun n => ld m fuel j g 0 (IntKind.i64.wrap (i + 1)) n n1 n2 K)
      | none => none) else none)
    (fun _ => K (.bool false) (dgH g n0 n1 n2)) := by
  obtain ⟨sh, s1, s2, a, b, c, d, e, f, c1, c2⟩ := g
  rcases sh with _ | _ | _
  · kernel_rfl
  · kernel_rfl
  · kernel_rfl

theorem step1 (m : Array Value) {R : Type} (fuel j : Nat) (g : DG) (i n0 n1 n2 : Int) (K : AV → AH → Option R) : ld m fuel (j + 1) g 1 i n0 n1 n2 K =
    br (decide (i < (g.s1.length : Int))) (fun _ => if 0 ≤ i then (match g.s1[i.toNat]? with
      | some u => br ((u.toNat : Int) == 47) (fun _ => ld m fuel j g 2 (IntKind.i64.wrap (i + 1)) n0 n1 n2 K) (fun _ => digF g.s1 i n1 (fun _ => K (.bool false) (dgH g n0 n1 n2)) fun n => ld m fuel j g 1 (IntKind.i64.wrap (i + 1)) n0 n n2 K)
      | none => none) else none)
    (fun _ => K (.bool false) (dgH g n0 n1 n2)) := by
  obtain ⟨sh, s1, s2, a, b, c, d, e, f, c1, c2⟩ := g
  rcases sh with _ | _ | _
  · kernel_rfl
  · kernel_rfl
  · kernel_rfl

theorem step2 (m : Array Value) {R : Type} (fuel j : Nat) (g : DG) (i n0 n1 n2 : Int) (K : AV → AH → Option R) : ld m (fuel + 1) (j + 1) g 2 i n0 n1 n2 K =
    br (decide (i < (g.s1.length : Int))) (fun _ => if 0 ≤ i then (match g.s1[i.toNat]? with
      | some u => br ((u.toNat : Int) == 47) (fun _ => digF g.s1 i n2 (fun _ => K (.bool false) (dgH g n0 n1 n2)) fun n => ld m (fuel + 1) j g 2 (IntKind.i64.wrap (i + 1)) n0 n1 n K)
          (fun _ => digF g.s1 i n2 (fun _ => K (.bool false) (dgH g n0 n1 n2)) fun n => ld m (fuel + 1) j g 2 (IntKind.i64.wrap (i + 1)) n0 n1 n K)
      | none => none) else none)
    (fun _ => br (n0 == g.a && (n1 == g.b && (n2 == g.c && true))) (fun _ => K (.bool true) (dgH g n0 n1 n2)) (fun _ => K (.bool false) (dgH g n0 n1 n2))) := by
  obtain ⟨sh, s1, s2, a, b, c, d, e, f, c1, c2⟩ := g
  rcases sh with _ | _ | _
  · kernel_rfl
  · kernel_rfl
  · kernel_rfl

theorem dig_pre14 (m : Array Value) {R : Type} (fuel : Nat) (a b c d e f : Int) (K : AV → AH → Option R) : runI (Tryd.S m) (callI (Tryd.S m) tabM fuel 1) fuel Tryd.f14 [tok a b c, tok d e f] ⟨[], []⟩ K =
    br (checkE a b c == 0)
      (fun _ => br (checkE d e f == 0)
        (fun _ => br (!(fmtS a b c == fmtS d e f) == (a == d && (b == e && (c == f && true)))) (fun _ => K (.bool false) ⟨[.cells [.int .i64 a, .int .i64 b, .int .i64 c], .cells [.int .i64 d, .int .i64 e, .int .i64 f]], []⟩)
          (fun _ => br (checkE a b c != 0) (fun _ => br (fmtS a b c == []) (fun _ => K (.bool true) ⟨[.cells [.int .i64 a, .int .i64 b, .int .i64 c], .cells [.int .i64 d, .int .i64 e, .int .i64 f]], []⟩) (fun _ => K (.bool false) ⟨[.cells [.int .i64 a, .int .i64 b, .int .i64 c], .cells [.int .i64 d, .int .i64 e, .int .i64 f]], []⟩))
            (fun _ => ld m fuel fuel ⟨some true, fmtS a b c, fmtS d e f, a, b, c, d, e, f, checkE a b c, checkE d e f⟩ 0 0 0 0 0 K)))
        (fun _ => br (checkE a b c != 0) (fun _ => br (fmtS a b c == []) (fun _ => K (.bool true) ⟨[.cells [.int .i64 a, .int .i64 b, .int .i64 c], .cells [.int .i64 d, .int .i64 e, .int .i64 f]], []⟩) (fun _ => K (.bool false) ⟨[.cells [.int .i64 a, .int .i64 b, .int .i64 c], .cells [.int .i64 d, .int .i64 e, .int .i64 f]], []⟩))
          (fun _ => ld m fuel fuel ⟨some false, fmtS a b c, fmtS d e f, a, b, c, d, e, f, checkE a b c, checkE d e f⟩ 0 0 0 0 0 K)))
      (fun _ => br (checkE a b c != 0) (fun _ => br (fmtS a b c == []) (fun _ => K (.bool true) ⟨[.cells [.int .i64 a, .int .i64 b, .int .i64 c], .cells [.int .i64 d, .int .i64 e, .int .i64 f]], []⟩) (fun _ => K (.bool false) ⟨[.cells [.int .i64 a, .int .i64 b, .int .i64 c], .cells [.int .i64 d, .int .i64 e, .int .i64 f]], []⟩))
        (fun _ => ld m fuel fuel ⟨none, fmtS a b c, fmtS d e f, a, b, c, d, e, f, checkE a b c, checkE d e f⟩ 0 0 0 0 0 K)) := by kernel_rfl
end Go.Proofs.YtoagnbpmoihojaaDoor

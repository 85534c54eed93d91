/- TokenDigits: the law. -/
import Derived.Test.YtoagnbpmoihojaaDoorDigits
set_option maxRecDepth 100000
set_option linter.unusedSimpArgs false
set_option linter.unusedVariables false
namespace Go.Proofs.YtoagnbpmoihojaaDoor
open Go.Sx

def dval : List UInt8 → Int → Int
  | [], n => n
  | u :: t, n => dval t (10 * n + ((u.toNat : Int) - 48))

theorem dval_append : ∀ (x y : List UInt8) (n : Int), dval (x ++ y) n = dval y (dval x n)
  | [], y, n => rfl
  | u :: x, y, n => by simp only [List.cons_append, dval]; exact dval_append x y _

theorem dval_dec (v : Nat) : dval (Lib.decDigits v) 0 = v := by
  induction v using Nat.strongRecOn with
  | _ v ih =>
    rw [Lib.decDigits]
    split
    · rename_i h
      simp only [dval, digit_toNat h]
      push_cast; omega
    · rename_i h
      rw [dval_append, ih (v / 10) (by omega)]
      simp only [dval, digit_toNat (show v % 10 < 10 by omega)]
      push_cast; omega

theorem dval_ge : ∀ (t : List UInt8) (n : Int), (∀ u ∈ t, 48 ≤ u.toNat ∧ u.toNat ≤ 57) → 0 ≤ n → n ≤ dval t n
  | [], n, _, _ => Int.le_refl _
  | u :: t, n, h, hn => by
    have hu := h u (List.mem_cons_self ..)
    have := dval_ge t (10 * n + ((u.toNat : Int) - 48)) (fun v hv => h v (List.mem_cons_of_mem _ hv)) (by omega)
    simp only [dval]
    omega

theorem dst_eq {n : Int} {u : UInt8} (h0 : 0 ≤ n) (h1 : n < 1125899906842624) (h2 : 48 ≤ u.toNat) (h3 : u.toNat ≤ 57) : dst n u = 10 * n + ((u.toNat : Int) - 48) := by
  unfold dst
  rw [wrap8 (by omega) (by omega), wrap64 (n := (u.toNat : Int) - 48) (by omega) (by omega), wrap64 (n := 10 * n) (by omega) (by omega), wrap64 (by omega) (by omega)]

theorem digF_ok {R : Type} {s : List UInt8} {i : Nat} {n : Int} {u : UInt8} (hs : s[i]? = some u) (h0 : 0 ≤ n) (h1 : n < 1125899906842624) (h2 : 48 ≤ u.toNat) (h3 : u.toNat ≤ 57) (F : Unit → Option R) (L : Int → Option R) :
    digF s i n F L = L (10 * n + ((u.toNat : Int) - 48)) := by
  unfold digF
  have e1 : decide ((u.toNat : Int) ≥ 48) = true := by simp; omega
  have e2 : decide ((u.toNat : Int) ≤ 57) = true := by simp; omega
  simp only [Int.toNat_natCast, hs, if_pos (show (0 : Int) ≤ (i : Int) by omega), e1, e2, br, decide_eq_true h1]
  rw [dst_eq h0 h1 h2 h3]

/-- A row of digits. -/
theorem seg {R : Type} (s : List UInt8) (L : Nat → Int → Int → Option R) (hstep : ∀ (j i : Nat) (n : Int) (u : UInt8), s[i]? = some u → 48 ≤ u.toNat → u.toNat ≤ 57 → 0 ≤ n → n < 1125899906842624 → L (j + 1) i n = L j ((i : Int) + 1) (10 * n + ((u.toNat : Int) - 48))) :
    ∀ (t pre rest : List UInt8) (n : Int) (j : Nat), s = pre ++ (t ++ rest) → (∀ u ∈ t, 48 ≤ u.toNat ∧ u.toNat ≤ 57) → 0 ≤ n → dval t n < 1125899906842624 → L (j + t.length) pre.length n = L j (pre ++ t).length (dval t n)
  | [], pre, rest, n, j, hs, hd, hn, hv => by simp [dval]
  | u :: t, pre, rest, n, j, hs, hd, hn, hv => by
    have hu := hd u (List.mem_cons_self ..)
    have hd' : ∀ v ∈ t, 48 ≤ v.toNat ∧ v.toNat ≤ 57 := fun v hv => hd v (List.mem_cons_of_mem _ hv)
    have hge := dval_ge t (10 * n + ((u.toNat : Int) - 48)) hd' (by omega)
    simp only [dval] at hv
    have h1 := hstep (j + t.length) pre.length n u (by rw [hs]; simp) hu.1 hu.2 hn (by omega)
    have h2 := seg s L hstep t (pre ++ [u]) rest (10 * n + ((u.toNat : Int) - 48)) j (by rw [hs]; simp) hd' (by omega) hv
    simp only [List.length_cons, dval]
    rw [show j + (t.length + 1) = j + t.length + 1 by omega, h1]
    simp only [List.length_append, List.length_singleton, List.append_assoc, List.singleton_append, List.length_cons, List.length_nil, Nat.zero_add] at h2
    simp only [List.length_append, List.length_cons]
    rw [show ((pre.length : Nat) : Int) + 1 = ((pre.length + 1 : Nat) : Int) by push_cast; rfl, h2]

theorem not47 {u : UInt8} (h : 48 ≤ u.toNat) : ((u.toNat : Int) == 47) = false := by
  cases hx : ((u.toNat : Int) == 47) with
  | false => rfl
  | true => simp at hx; omega

theorem run14 (m : Array Value) {R : Type} (g : DG) (A B C : List UInt8) (hs : g.s1 = A ++ (47 :: (B ++ (47 :: C)))) (hlen : g.s1.length ≤ 1000000) (hA : ∀ u ∈ A, 48 ≤ u.toNat ∧ u.toNat ≤ 57) (hB : ∀ u ∈ B, 48 ≤ u.toNat ∧ u.toNat ≤ 57) (hC : ∀ u ∈ C, 48 ≤ u.toNat ∧ u.toNat ≤ 57)
    (va : dval A 0 = g.a) (vb : dval B 0 = g.b) (vc : dval C 0 = g.c) (ba : g.a < 1125899906842624) (bb : g.b < 1125899906842624) (bc : g.c < 1125899906842624) (K : AV → AH → Option R) :
    ld m (g.s1.length + 1) (g.s1.length + 1) g 0 0 0 0 0 K = K (.bool true) (dgH g g.a g.b g.c) := by
  have hl : g.s1.length = A.length + (1 + (B.length + (1 + C.length))) := by rw [hs]; simp; omega
  have lt : ∀ (i : Nat) u, g.s1[i]? = some u → decide ((i : Int) < (g.s1.length : Int)) = true := by
    intro i u h
    rcases Nat.lt_or_ge i g.s1.length with h' | h'
    · simpa using h'
    · simp [List.getElem?_eq_none h'] at h
  have ib : ∀ (i : Nat) u, g.s1[i]? = some u → IntKind.i64.wrap ((i : Int) + 1) = (i : Int) + 1 := by
    intro i u h
    have := lt i u h
    simp only [decide_eq_true_eq] at this
    exact wrap64 (by omega) (by omega)
  have s0 : ∀ (n1 n2 : Int) (j i : Nat) (n : Int) (u : UInt8), g.s1[i]? = some u → 48 ≤ u.toNat → u.toNat ≤ 57 → 0 ≤ n → n < 1125899906842624 → ld m (g.s1.length + 1) (j + 1) g 0 i n n1 n2 K = ld m (g.s1.length + 1) j g 0 ((i : Int) + 1) (10 * n + ((u.toNat : Int) - 48)) n1 n2 K := by
    intro n1 n2 j i n u hu h2 h3 h0 h1
    rw [step0, lt i u hu]
    simp only [br, if_pos (show (0 : Int) ≤ (i : Int) by omega), Int.toNat_natCast, hu, not47 h2]
    rw [digF_ok hu h0 h1 h2 h3, ib i u hu]
  have s1 : ∀ (n0 n2 : Int) (j i : Nat) (n : Int) (u : UInt8), g.s1[i]? = some u → 48 ≤ u.toNat → u.toNat ≤ 57 → 0 ≤ n → n < 1125899906842624 → ld m (g.s1.length + 1) (j + 1) g 1 i n0 n n2 K = ld m (g.s1.length + 1) j g 1 ((i : Int) + 1) n0 (10 * n + ((u.toNat : Int) - 48)) n2 K := by
    intro n0 n2 j i n u hu h2 h3 h0 h1
    rw [step1, lt i u hu]
    simp only [br, if_pos (show (0 : Int) ≤ (i : Int) by omega), Int.toNat_natCast, hu, not47 h2]
    rw [digF_ok hu h0 h1 h2 h3, ib i u hu]
  have s2 : ∀ (n0 n1 : Int) (j i : Nat) (n : Int) (u : UInt8), g.s1[i]? = some u → 48 ≤ u.toNat → u.toNat ≤ 57 → 0 ≤ n → n < 1125899906842624 → ld m (g.s1.length + 1) (j + 1) g 2 i n0 n1 n K = ld m (g.s1.length + 1) j g 2 ((i : Int) + 1) n0 n1 (10 * n + ((u.toNat : Int) - 48)) K := by
    intro n0 n1 j i n u hu h2 h3 h0 h1
    rw [step2, lt i u hu]
    simp only [br, if_pos (show (0 : Int) ≤ (i : Int) by omega), Int.toNat_natCast, hu, not47 h2]
    rw [digF_ok hu h0 h1 h2 h3, ib i u hu]
  have e47 : ((((47 : UInt8)).toNat : Int) == 47) = true := by decide
  -- the first number
  have q0 := seg g.s1 (fun j i n => ld m (g.s1.length + 1) j g 0 i n 0 0 K) (s0 0 0) A [] (47 :: (B ++ (47 :: C))) 0 (B.length + 1 + 1 + C.length + 1) (by simpa using hs) hA (by omega) (by rw [va]; exact ba)
  have hi0 : g.s1[A.length]? = some 47 := by rw [hs]; simp
  have t0 : ld m (g.s1.length + 1) (B.length + 1 + 1 + C.length + 1) g 0 A.length (dval A 0) 0 0 K = ld m (g.s1.length + 1) (C.length + 1 + 1 + B.length) g 1 ((A ++ [47]).length : Nat) (dval A 0) 0 0 K := by
    rw [step0, lt _ _ hi0]
    simp only [br, if_pos (show (0 : Int) ≤ (A.length : Int) by omega), Int.toNat_natCast, hi0, e47]
    rw [ib _ _ hi0]
    congr 1
    · omega
    · simp
  have q1 := seg g.s1 (fun j i n => ld m (g.s1.length + 1) j g 1 i (dval A 0) n 0 K) (s1 (dval A 0) 0) B (A ++ [47]) (47 :: C) 0 (C.length + 1 + 1) (by rw [hs]; simp) hB (by omega) (by rw [vb]; exact bb)
  have hi1 : g.s1[(A ++ [47] ++ B).length]? = some 47 := by
    rw [hs, show A ++ 47 :: (B ++ 47 :: C) = (A ++ [47] ++ B) ++ 47 :: C by simp, List.getElem?_append_right (Nat.le_refl _)]
    simp
  have t1 : ld m (g.s1.length + 1) (C.length + 1 + 1) g 1 ((A ++ [47] ++ B).length : Nat) (dval A 0) (dval B 0) 0 K = ld m (g.s1.length + 1) (1 + C.length) g 2 ((A ++ [47] ++ B ++ [47]).length : Nat) (dval A 0) (dval B 0) 0 K := by
    rw [step1, lt _ _ hi1]
    simp only [br, if_pos (show (0 : Int) ≤ ((A ++ [47] ++ B).length : Int) by omega), Int.toNat_natCast, hi1, e47]
    rw [ib _ _ hi1]
    congr 1
    · omega
    · simp only [List.length_append, List.length_singleton]; omega
  have q2 := seg g.s1 (fun j i n => ld m (g.s1.length + 1) j g 2 i (dval A 0) (dval B 0) n K) (s2 (dval A 0) (dval B 0)) C (A ++ [47] ++ B ++ [47]) [] 0 1 (by rw [hs]; simp) hC (by omega) (by rw [vc]; exact bc)
  have hend : (A ++ [47] ++ B ++ [47] ++ C).length = g.s1.length := by rw [hs]; simp
  have t2 : ld m (g.s1.length + 1) 1 g 2 ((A ++ [47] ++ B ++ [47] ++ C).length : Nat) (dval A 0) (dval B 0) (dval C 0) K = K (.bool true) (dgH g g.a g.b g.c) := by
    rw [step2 m g.s1.length 0, hend]
    have : decide ((g.s1.length : Int) < (g.s1.length : Int)) = false := by simp
    rw [this, va, vb, vc]
    simp [br]
  have hj : g.s1.length + 1 = B.length + 1 + 1 + C.length + 1 + A.length := by omega
  conv => lhs; rw [show ld m (g.s1.length + 1) (g.s1.length + 1) g 0 0 0 0 0 K = ld m (g.s1.length + 1) (B.length + 1 + 1 + C.length + 1 + A.length) g 0 0 0 0 0 K by rw [← hj]]
  simp only [List.length_nil, List.nil_append, Int.natCast_zero] at q0
  exact q0.trans (t0.trans (q1.trans (t1.trans (q2.trans t2))))

theorem fmt_inj {a b c d e f : Int} (h1 : checkE a b c = 0) (h2 : checkE d e f = 0) : (fmtS a b c == fmtS d e f) = (a == d && (b == e && (c == f && true))) := by
  rw [Bool.eq_iff_iff]
  simp only [beq_iff_eq, Bool.and_eq_true, and_true]
  constructor
  · intro h
    have p1 := parse_fmt h1
    have p2 := parse_fmt h2
    rw [h, p2] at p1
    simp only [Prod.mk.injEq, and_true] at p1
    exact ⟨p1.1.symm, p1.2.1.symm, p1.2.2.symm⟩
  · rintro ⟨rfl, rfl, rfl⟩; rfl

theorem fmt_len (a b c : Int) : (fmtS a b c).length ≤ 1000000 := by
  unfold fmtS
  split
  · rename_i h
    have := bits_ok h
    simp only [List.length_append, List.length_singleton]
    omega
  · simp

theorem hout14 (a b c d e f : Int) (H : AH) : (optK (pureOut [tok a b c, tok d e f] (.bool true)) fun v => some (v, H)) = some (.bool true, H) := rfl

theorem call14 (m : Array Value) (F : Nat) (a b c d e f : Int) (H : AH) : callI (Tryd.S m) tabM F 2 14 [tok a b c, tok d e f] H some = runI (Tryd.S m) (callI (Tryd.S m) tabM F 1) F Tryd.f14 [tok a b c, tok d e f] ⟨[], []⟩ (fun v _ => optK (pureOut [tok a b c, tok d e f] v) fun v => some (v, H)) :=
  callI_pure (S := Tryd.S m) (tab := tabM) (n := 1) rfl rfl (by kernel_rfl) (by kernel_rfl) rfl

theorem hrun14 (m : Array Value) (F : Nat) (sh : Option Bool) {a b c d e f : Int} (H : AH) (h1 : checkE a b c = 0) (hF : F = (fmtS a b c).length + 1) : ld m F F ⟨sh, fmtS a b c, fmtS d e f, a, b, c, d, e, f, checkE a b c, checkE d e f⟩ 0 0 0 0 0 (fun v _ => optK (pureOut [tok a b c, tok d e f] v) fun v => some (v, H)) = some (.bool true, H) := by
  have hk := check_ok h1
  have hd : fmtS a b c = Lib.decDigits a.toNat ++ (47 :: (Lib.decDigits b.toNat ++ (47 :: Lib.decDigits c.toNat))) := by
    unfold fmtS
    rw [if_pos h1]
    simp
  have := run14 m ⟨sh, fmtS a b c, fmtS d e f, a, b, c, d, e, f, checkE a b c, checkE d e f⟩ (Lib.decDigits a.toNat) (Lib.decDigits b.toNat) (Lib.decDigits c.toNat) hd (fmt_len a b c) (dec_digits _) (dec_digits _) (dec_digits _)
    (by rw [dval_dec]; simp only; omega) (by rw [dval_dec]; simp only; omega) (by rw [dval_dec]; simp only; omega) (by simp only; omega) (by simp only; omega) (by simp only; omega) (fun v _ => optK (pureOut [tok a b c, tok d e f] v) fun v => some (v, H))
  rw [hF]
  exact this.trans (hout14 a b c d e f H)

end Go.Proofs.YtoagnbpmoihojaaDoor

/- The law of FenceWider: it answers true. -/
import Derived.Test.YtoagnbpmoihojaaFenWid
set_option maxRecDepth 100000
set_option linter.unusedSimpArgs false
set_option linter.unusedVariables false
namespace Go.Proofs.Ytoagnbpmoihojaa
open Go.Sx
theorem ft_b (b : Bool) : fitS Sh.bool (.bool b) = true := rfl
theorem ft_i (n : Int) : fitS (Sh.int IntKind.i64) (.int .i64 n) = true := by simp [fitS]
theorem tup2 (a b : AV) : AV.isTup 2 (.tuple [a, b]) = true := rfl

theorem ty_take {xs : List AV} (hl : tyV (.sl 14 dtMom) (.inl false .unk 14 xs)) (n : Nat) : tyV (.sl 14 dtMom) (.inl false .unk 14 (xs.take n)) := by
  obtain ⟨-, h1, h2, -, -⟩ := sl_facts hl
  exact ty_new rfl (by rw [List.length_take]; exact Nat.le_trans (Nat.min_le_right ..) h1) fun u hu => h2 u (List.mem_of_mem_take hu)

/-- What the law asks of what the calls answer. -/
theorem wid_end (e p q s x y : Bool) (h1 : p = true → q = true) (h2 : p = true → s = true) (h3 : x = true → y = true) : (br p (fun _ => br (!q) (fun _ => some (AV.bool false)) (fun _ => br (!s) (fun _ => some (AV.bool false)) (fun _ => br x (fun _ => br (!y) (fun _ => some (AV.bool false)) (fun _ => some (AV.bool true))) (fun _ => some (AV.bool true))))) (fun _ => br x (fun _ => br (!y) (fun _ => some (AV.bool false)) (fun _ => some (AV.bool true))) (fun _ => some (AV.bool true)))) = some (AV.bool true) := by
  cases p <;> cases x <;> simp_all [br]

theorem wid_run {c0 c1 c2 c3 c4 c5 c6 c7 c8 c9 c10 : Int} {d r mo cu : Int} {xs : List AV} (hc : tyV dtCfg (.agg (cfC c0 c1 c2 c3 c4 c5 c6 c7 c8 c9 c10))) (hl : tyV (.sl 14 dtMom) (.inl false .unk 14 xs)) (hd : 0 ≤ d ∧ d ≤ 65535) (hr : 0 ≤ r ∧ r ≤ 65535) (hmo : 0 ≤ mo ∧ mo ≤ 255) (hcu : 0 ≤ cu ∧ cu ≤ 255) :
    runI Try.D (cF 12) 12 Try.f3 [.agg (cfC c0 c1 c2 c3 c4 c5 c6 c7 c8 c9 c10), .int .u16 d, .int .u16 r, .int .u8 mo, .int .u8 cu, .inl false .unk 14 xs] ⟨[], []⟩ (fun v _ => some v) = some (.bool true) := by
  have emax : maxLen = 9223372036854775807 := by decide
  obtain ⟨b6, e6, -⟩ := k6 hl
  have f6 := fun H => valH_of (e6 H)
  have f7 := fun H => valH_of (k7 hc H)
  have f9 := fun H => valH_of (k9 H)
  have f8 {l : AV} (h : tyV (.sl 14 dtMom) l) {d r : Int} (hd : (Lit.int .i64 d).wf = true) (hr : (Lit.int .i64 r).wf = true) := fun H => valH_of (k8 (d := d) (r := r) hc h hd hr H)
  have f10 {l : AV} (h : tyV (.sl 14 dtMom) l) {d r : Int} (hd : (Lit.int .i64 d).wf = true) (hr : (Lit.int .i64 r).wf = true) := fun H => valH_of (k10 (d := d) (r := r) hc h hd hr H)
  have w1 : IntKind.i64.wrap d = d := wrapN (by omega) (by omega)
  have w2 : IntKind.i64.wrap r = r := wrapN (by omega) (by omega)
  have w3 : IntKind.i64.wrap mo = mo := wrapN (by omega) (by omega)
  have w4 : IntKind.i64.wrap cu = cu := wrapN (by omega) (by omega)
  have hm2 : 0 ≤ mo.tdiv 2 ∧ mo.tdiv 2 ≤ 255 := by
    rw [Int.tdiv_eq_ediv_of_nonneg hmo.1]; omega
  have w5 : IntKind.i64.wrap (mo.tdiv 2) = mo.tdiv 2 := wrapN (by omega) (by omega)
  have w6 : IntKind.i64.wrap (d + mo) = d + mo := wrapN (by omega) (by omega)
  have w7 : IntKind.i64.wrap (r + mo.tdiv 2) = r + mo.tdiv 2 := wrapN (by omega) (by omega)
  have wd : (Lit.int .i64 d).wf = true := wf64 (by omega) (by omega)
  have wr : (Lit.int .i64 r).wf = true := wf64 (by omega) (by omega)
  have wd2 : (Lit.int .i64 (d + mo)).wf = true := wf64 (by omega) (by omega)
  have wr2 : (Lit.int .i64 (r + mo.tdiv 2)).wf = true := wf64 (by omega) (by omega)
  have f8a := f8 hl wd wr
  have f8b := f8 hl wd2 wr2
  have f10a := f10 hl wd wr
  simp only [cfC] at f7 f8a f8b f10a
  rw [wid_form, f6]
  simp only [ft_b, br, AV.boolOf]
  cases b6 with
  | false => rfl
  | true =>
  simp only [Bool.not_true]
  rw [f7]
  simp only [ft_i, AV.numOf]
  by_cases hcf : cfgOK c0 c1 c2 c3 c4 c5 c6 c7 c8 c9 c10
  case neg => rw [if_neg hcf]; rfl
  rw [if_pos hcf]
  simp only [bne_self_eq_false]
  by_cases h0 : xs.length = 0
  case pos => rw [h0]; rfl
  have e0 : ((xs.length : Int) == 0) = false := by rw [beq_eq_false_iff_ne]; omega
  rw [e0]
  simp only [w1, w2, w3, w4, w5, w6, w7]
  rw [f8a]
  simp only [tup2, AV.tupOf, hdV, tlV, ft_b, ft_i, AV.numOf, AV.boolOf]
  obtain ⟨-, hmax, hT, -, -⟩ := sl_facts hl
  have hlen : (AV.inl false .unk 14 xs).listOf.length = xs.length := rfl
  have hn1 (d r : Int) (hd : 0 ≤ d ∧ d ≤ 66000) (hr : 0 ≤ r ∧ r ≤ 66000) : numE c0 c1 c2 c3 c4 c5 c6 c7 c8 c9 c10 (.inl false .unk 14 xs) d r = ordE 0 (mosOf (.inl false .unk 14 xs)) := by
    unfold numE ckE
    rw [if_pos hcf, hlen, if_neg h0]
    split
    · rename_i h
      rw [if_pos ⟨by omega, by omega, by omega, by omega⟩, h]
    · rfl
  rw [hn1 d r (by omega) (by omega)]
  have k9' := f9
  rcases ordE_cases (mosOf (.inl false .unk 14 xs)) 0 with ho | ho | ho
  case inr.inl => rw [ho, f9]; rfl
  case inr.inr => rw [ho, f9]; rfl
  rw [ho]
  simp only [show ((0 : Int) == 13) = false from rfl, show ((0 : Int) == 3) = false from rfl]
  rw [f8b]
  simp only [tup2, AV.tupOf, hdV, tlV, ft_b, ft_i, AV.numOf, AV.boolOf]
  rw [hn1 _ _ (by omega) (by omega), ho]
  rw [if_neg (show ¬ ((xs.length : Int) = 0) by omega)]
  have ht : 0 ≤ cu.tmod (xs.length : Int) ∧ cu.tmod (xs.length : Int) < (xs.length : Int) := ⟨Int.tmod_nonneg _ hcu.1, Int.tmod_lt_of_pos _ (by omega)⟩
  have w8 : IntKind.i64.wrap (1 + cu.tmod (xs.length : Int)) = 1 + cu.tmod (xs.length : Int) := wrapN (by omega) (by omega)
  rw [w8]
  obtain ⟨n, hn⟩ : ∃ n : Nat, 1 + cu.tmod (xs.length : Int) = (n : Int) := ⟨(1 + cu.tmod (xs.length : Int)).toNat, by omega⟩
  rw [hn]
  have hnl : 0 < n ∧ n ≤ xs.length := by omega
  simp only [Int.toNat_natCast]
  rw [if_pos (show (0 : Int) ≤ (n : Int) ∧ (n : Int) ≤ (xs.length : Int) by omega)]
  -- what is cut
  have hcut : ∀ ys : List AV, ys = xs.take n → tyV (.sl 14 dtMom) (.inl false .unk 14 ys) ∧ numE c0 c1 c2 c3 c4 c5 c6 c7 c8 c9 c10 (.inl false .unk 14 ys) d r = 0 ∧ (preB c0 c1 c2 c3 c4 c5 c6 c7 c8 c9 c10 (.inl false .unk 14 xs) d r = true → preB c0 c1 c2 c3 c4 c5 c6 c7 c8 c9 c10 (.inl false .unk 14 ys) d r = true) ∧ (gonB c0 c1 c2 c3 c4 c5 c6 c7 c8 c9 c10 (.inl false .unk 14 xs) d r = true → gonB c0 c1 c2 c3 c4 c5 c6 c7 c8 c9 c10 (.inl false .unk 14 ys) d r = true) := by
    rintro ys rfl
    have hm : mosOf (.inl false .unk 14 (xs.take n)) = (mosOf (.inl false .unk 14 xs)).take n := by
      simp only [mosOf, AV.listOf, List.map_take]
    have hz := hn1 d r (by omega) (by omega)
    rw [ho] at hz
    have hy : numE c0 c1 c2 c3 c4 c5 c6 c7 c8 c9 c10 (.inl false .unk 14 (xs.take n)) d r = 0 := by
      have hl2 : (AV.inl false .unk 14 (xs.take n)).listOf.length ≠ 0 := by
        simp only [AV.listOf, List.length_take]; omega
      unfold numE ckE
      rw [if_pos hcf, if_neg hl2, hm, ordE_take _ n 0 ho, if_pos rfl, if_pos ⟨by omega, by omega, by omega, by omega⟩]
    refine ⟨ty_take hl n, hy, ?_, ?_⟩
    · unfold preB
      rw [if_pos hz, if_pos hy, hm]
      exact prem_take _ n _ _ _ _
    · unfold gonB
      rw [if_pos hz, if_pos hy, hm]
      exact gone_take _ n _ _ _ _
  have hq : preB c0 c1 c2 c3 c4 c5 c6 c7 c8 c9 c10 (.inl false .unk 14 xs) d r = true → preB c0 c1 c2 c3 c4 c5 c6 c7 c8 c9 c10 (.inl false .unk 14 xs) (d + mo) (r + mo.tdiv 2) = true := by
    unfold preB
    have hz := hn1 d r (by omega) (by omega)
    have hz2 := hn1 (d + mo) (r + mo.tdiv 2) (by omega) (by omega)
    rw [ho] at hz hz2
    rw [if_pos hz, if_pos hz2]
    exact prem_mono (by omega) (by omega) _ _ _ _ _
  have hz := hn1 d r (by omega) (by omega)
  rw [ho] at hz
  by_cases hfull : n = xs.length
  · obtain ⟨ty, hy, hs, hg⟩ := hcut xs (by rw [hfull, List.take_length])
    rw [if_pos (show True ∧ n = xs.length from ⟨trivial, hfull⟩)]
    rw [f10a]
    simp only [tup2, AV.tupOf, hdV, tlV, ft_b, ft_i, AV.numOf, AV.boolOf]
    rw [if_pos (show (0 : Int) ≤ (n : Int) ∧ (n : Int) ≤ (xs.length : Int) by omega), if_pos (show True ∧ n = xs.length from ⟨trivial, hfull⟩)]
    simp only [tup2, AV.tupOf, hdV, tlV, ft_b, ft_i, AV.numOf, AV.boolOf, hz, bne_self_eq_false, f9]
    exact wid_end true _ _ _ _ _ hq hs hg
  · obtain ⟨ty, hy, hs, hg⟩ := hcut (xs.take (n - 0)) (by rw [Nat.sub_zero])
    have f8c := f8 ty wd wr
    have f10c := f10 ty wd wr
    simp only [cfC] at f8c f10c
    rw [if_neg (show ¬ (True ∧ n = xs.length) from fun h => hfull h.2), f8c]
    simp only [tup2, AV.tupOf, hdV, tlV, ft_b, ft_i, AV.numOf, AV.boolOf]
    rw [f10a]
    simp only [tup2, AV.tupOf, hdV, tlV, ft_b, ft_i, AV.numOf, AV.boolOf]
    rw [if_pos (show (0 : Int) ≤ (n : Int) ∧ (n : Int) ≤ (xs.length : Int) by omega), if_neg (show ¬ (True ∧ n = xs.length) from fun h => hfull h.2), f10c]
    simp only [tup2, AV.tupOf, hdV, tlV, ft_b, ft_i, AV.numOf, AV.boolOf, hz, hy, bne_self_eq_false, f9]
    exact wid_end true _ _ _ _ _ hq hs hg
end Go.Proofs.Ytoagnbpmoihojaa

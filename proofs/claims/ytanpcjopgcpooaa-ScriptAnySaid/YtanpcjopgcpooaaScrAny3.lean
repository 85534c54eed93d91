/- What is read passes the checks. -/
import Derived.Test.YtanpcjopgcpooaaScrAny
import Derived.Test.YtanpcjopgcpooaaScrAnyL
set_option maxRecDepth 100000
set_option linter.unusedSimpArgs false
set_option linter.unusedVariables false
namespace Go.Proofs.Ytanpcjopgcpooaa
open Go.Sx
theorem specN_len (l : List UInt8) : (specN l).length ≤ 19 := by
  unfold specN sN portN taskN tN
  split <;> split <;> simp
theorem conV_len (l : List UInt8) : (conV l).length ≤ 1024 := by
  unfold conV conBytes
  have h := specN_len l.tail.tail
  have h1 := varsV_len [2, takeV l.tail 3, takeV l.tail.tail 3]
  have h2 := varsV_len [3, takeV l.tail 3, takeV l.tail.tail 3]
  have h3 := varsV_len (1 :: takeV l.tail 3 :: specN l.tail.tail)
  simp only [List.length_cons, List.length_nil] at h1 h2 h3
  split
  · split
    · simp
    · split <;> simp
  · split
    · omega
    · split <;> omega
theorem cfg_ok (l : List UInt8) : AnsS S0 40 [.agg (cfgV l)] (.int .i64 0) := by
  have a1 := takeV_in l 2 (by omega)
  have a2 := takeV_in l.tail 3 (by omega)
  have a3 := takeV_in l.tail.tail 4 (by omega)
  have a4 := takeV_in l.tail.tail.tail 10 (by omega)
  have a5 := takeV_in l.tail.tail.tail.tail 4 (by omega)
  have a6 := takeV_in l.tail.tail.tail.tail.tail 4 (by omega)
  have w2 : IntKind.i64.wrap (1 + takeV l 2 + 1) = 1 + takeV l 2 + 1 := IntWalk.i64_in _ (by omega)
  have w3 : IntKind.i64.wrap (16 * (1 + takeV l 2 + 1)) = 16 * (1 + takeV l 2 + 1) := IntWalk.i64_in _ (by omega)
  refine ans_ofS noTab_ok (k := 12) (n := 8) rfl rfl rfl (fun _ => rfl) (v := .int .i64 0) ?_ (intOut _)
  refine Eq.trans (cf40 ..) ?_
  rw [w2, w3]
  repeat rw [br_f (by omega)]
theorem ck_1 : AnsS S0 16 [(Ev.av { kind := 1 })] (.int .i64 0) := ans_ofS noTab_ok (k := 4) (n := 4) rfl rfl rfl (fun _ => rfl) (v := .int .i64 0) (ck16_1 0) (intOut _)
theorem ck_2 : AnsS S0 16 [(Ev.av { kind := 2 })] (.int .i64 0) := ans_ofS noTab_ok (k := 4) (n := 4) rfl rfl rfl (fun _ => rfl) (v := .int .i64 0) (ck16_2 0) (intOut _)
theorem ck_3 (text : List UInt8) (h : text.length ≤ 1024) : AnsS S0 16 [(Ev.av { kind := 3, text := text })] (.int .i64 0) := by
  have f0 : decide ((text.length : Int) ≤ 1024) = true := decide_eq_true (by omega)
  refine ans_ofS noTab_ok (k := 4) (n := 4) rfl rfl rfl (fun _ => rfl) (v := .int .i64 0) ?_ (intOut _)
  refine Eq.trans (ck16_3 _) ?_
  simp only [sameO_self, beq_self_eq_true, Bool.and_self, Bool.and_true, Bool.true_and, Bool.not_true, Bool.not_false, br, f0]
theorem ck_4 (k : Int) (h : 0 ≤ k) : AnsS S0 16 [(Ev.av { kind := 4, k := k })] (.int .i64 0) := by
  have f0 : decide (k < 0) = false := decide_eq_false (by omega)
  refine ans_ofS noTab_ok (k := 4) (n := 4) rfl rfl rfl (fun _ => rfl) (v := .int .i64 0) ?_ (intOut _)
  refine Eq.trans (ck16_4 _) ?_
  simp only [sameO_self, beq_self_eq_true, Bool.and_self, Bool.and_true, Bool.true_and, Bool.not_true, Bool.not_false, br, f0]
theorem ck_5 (k code : Int) (h : 0 ≤ k) (h2 : 0 ≤ code ∧ code ≤ 255) : AnsS S0 16 [(Ev.av { kind := 5, k := k, code := code })] (.int .i64 0) := by
  have f0 : decide (k < 0) = false := decide_eq_false (by omega)
  have f1 : decide (code ≥ 0) = true := decide_eq_true (by omega)
  have f2 : decide (code ≤ 255) = true := decide_eq_true (by omega)
  refine ans_ofS noTab_ok (k := 4) (n := 4) rfl rfl rfl (fun _ => rfl) (v := .int .i64 0) ?_ (intOut _)
  refine Eq.trans (ck16_5 _ _) ?_
  simp only [sameO_self, beq_self_eq_true, Bool.and_self, Bool.and_true, Bool.true_and, Bool.not_true, Bool.not_false, br, f0, f1, f2]
theorem ck_6 (id task : Int) (on : Bool) : AnsS S0 16 [(Ev.av { kind := 6, id := id, task := task, on := on })] (.int .i64 0) := by
  refine ans_ofS noTab_ok (k := 4) (n := 4) rfl rfl rfl (fun _ => rfl) (v := .int .i64 0) ?_ (intOut _)
  refine Eq.trans (ck16_6 _ _ _) ?_
  simp only [sameO_self, beq_self_eq_true, Bool.and_self, Bool.and_true, Bool.true_and, Bool.not_true, Bool.not_false, br]
theorem ck_7 (k : Int) (text : List UInt8) (h : 0 ≤ k) (h2 : 1 ≤ text.length ∧ text.length ≤ 256) : AnsS S0 16 [(Ev.av { kind := 7, k := k, text := text })] (.int .i64 0) := by
  have f0 : decide (k < 0) = false := decide_eq_false (by omega)
  have f1 : decide ((text.length : Int) ≥ 1) = true := decide_eq_true (by omega)
  have f2 : decide ((text.length : Int) ≤ 256) = true := decide_eq_true (by omega)
  refine ans_ofS noTab_ok (k := 4) (n := 4) rfl rfl rfl (fun _ => rfl) (v := .int .i64 0) ?_ (intOut _)
  refine Eq.trans (ck16_7 _ _) ?_
  simp only [sameO_self, beq_self_eq_true, Bool.and_self, Bool.and_true, Bool.true_and, Bool.not_true, Bool.not_false, br, f0, f1, f2]
theorem ck_8 (on : Bool) : AnsS S0 16 [(Ev.av { kind := 8, on := on })] (.int .i64 0) := by
  refine ans_ofS noTab_ok (k := 4) (n := 4) rfl rfl rfl (fun _ => rfl) (v := .int .i64 0) ?_ (intOut _)
  refine Eq.trans (ck16_8 _) ?_
  simp only [sameO_self, beq_self_eq_true, Bool.and_self, Bool.and_true, Bool.true_and, Bool.not_true, Bool.not_false, br]
theorem ck_9 (on : Bool) : AnsS S0 16 [(Ev.av { kind := 9, on := on })] (.int .i64 0) := by
  refine ans_ofS noTab_ok (k := 4) (n := 4) rfl rfl rfl (fun _ => rfl) (v := .int .i64 0) ?_ (intOut _)
  refine Eq.trans (ck16_9 _) ?_
  simp only [sameO_self, beq_self_eq_true, Bool.and_self, Bool.and_true, Bool.true_and, Bool.not_true, Bool.not_false, br]
theorem ck_10 (k jk jt jb lk lt lb : Int) (h : 0 ≤ k ∧ k ≤ 1000000) (h2 : -1 ≤ jt ∧ 0 ≤ jb ∧ jb ≤ 79) (h3 : -1 ≤ lt ∧ 0 ≤ lb ∧ lb ≤ 79) : AnsS S0 16 [(Ev.av { kind := 10, k := k, jk := jk, jt := jt, jb := jb, lk := lk, lt := lt, lb := lb })] (.int .i64 0) := by
  have f0 : decide (k < 0) = false := decide_eq_false (by omega)
  have f1 : decide (k ≤ 1000000) = true := decide_eq_true (by omega)
  have f2 : decide (jt ≥ -1) = true := decide_eq_true (by omega)
  have f3 : decide (jb ≥ 0) = true := decide_eq_true (by omega)
  have f4 : decide (jb ≤ 79) = true := decide_eq_true (by omega)
  have f5 : decide (lt ≥ -1) = true := decide_eq_true (by omega)
  have f6 : decide (lb ≥ 0) = true := decide_eq_true (by omega)
  have f7 : decide (lb ≤ 79) = true := decide_eq_true (by omega)
  refine ans_ofS noTab_ok (k := 4) (n := 4) rfl rfl rfl (fun _ => rfl) (v := .int .i64 0) ?_ (intOut _)
  refine Eq.trans (ck16_10 _ _ _ _ _ _ _) ?_
  simp only [sameO_self, beq_self_eq_true, Bool.and_self, Bool.and_true, Bool.true_and, Bool.not_true, Bool.not_false, br, f0, f1, f2, f3, f4, f5, f6, f7]
theorem ck_11 : AnsS S0 16 [(Ev.av { kind := 11 })] (.int .i64 0) := ans_ofS noTab_ok (k := 4) (n := 4) rfl rfl rfl (fun _ => rfl) (v := .int .i64 0) (ck16_11 0) (intOut _)
theorem ck_12 : AnsS S0 16 [(Ev.av { kind := 12 })] (.int .i64 0) := ans_ofS noTab_ok (k := 4) (n := 4) rfl rfl rfl (fun _ => rfl) (v := .int .i64 0) (ck16_12 0) (intOut _)
theorem ck_13 (k id task code : Int) (h : 0 ≤ k) (h2 : 0 ≤ code ∧ code ≤ 4096) : AnsS S0 16 [(Ev.av { kind := 13, k := k, id := id, task := task, code := code })] (.int .i64 0) := by
  have f0 : decide (k < 0) = false := decide_eq_false (by omega)
  have f1 : decide (code ≥ 0) = true := decide_eq_true (by omega)
  have f2 : decide (code ≤ 4096) = true := decide_eq_true (by omega)
  refine ans_ofS noTab_ok (k := 4) (n := 4) rfl rfl rfl (fun _ => rfl) (v := .int .i64 0) ?_ (intOut _)
  refine Eq.trans (ck16_13 _ _ _ _) ?_
  simp only [sameO_self, beq_self_eq_true, Bool.and_self, Bool.and_true, Bool.true_and, Bool.not_true, Bool.not_false, br, f0, f1, f2]
theorem ev_ok (l : List UInt8) : AnsS S0 16 [(evE l).av] (.int .i64 0) := by
  have t := fun (m : List UInt8) (n : Int) (h : 0 < n) => takeV_in m n h
  unfold evE
  rcases cases16 (takeV_in l 16 (by omega)) with h | h | h | h | h | h | h | h | h | h | h | h | h | h | h | h
  all_goals rw [h]
  · exact ck_1
  · exact ck_1
  · exact ck_1
  · exact ck_2
  · exact ck_2
  · exact ck_2
  · exact ck_3 _ (conV_len _)
  · exact ck_4 _ (t _ 6 (by omega)).1
  · have a := t l.tail.tail 3 (by omega)
    exact ck_5 _ _ (t _ 4 (by omega)).1 ⟨a.1, by omega⟩
  · exact ck_6 _ _ _
  · refine ck_7 _ _ (t _ 4 (by omega)).1 ?_
    have a := t l.tail.tail.tail 60 (by omega)
    unfold outV
    rw [List.length_replicate]
    omega
  · exact ck_8 _
  · exact ck_9 _
  · have a := t l.tail 20 (by omega)
    have b := t (chRest l.tail.tail) 4 (by omega)
    have c := t (chRest l.tail.tail).tail 80 (by omega)
    have d := t (chRest (chEnd l.tail.tail)) 4 (by omega)
    have e := t (chRest (chEnd l.tail.tail)).tail 80 (by omega)
    exact ck_10 _ _ _ _ _ _ _ ⟨a.1, by omega⟩ ⟨by omega, c.1, by omega⟩ ⟨by omega, e.1, by omega⟩
  · exact ck_11
  · have a := t l.tail.tail.tail.tail 100 (by omega)
    have b := t l.tail.tail.tail.tail.tail 200 (by omega)
    by_cases h2 : takeV l.tail 2 = 1
    · simp only [evOf, h2]
      exact ck_13 _ _ _ _ a.1 ⟨b.1, by omega⟩
    · simp only [evOf, h2]
      exact ck_12
theorem of_ex {o : Option AV} {v : AV} (h : ∃ r, o = some r ∧ r = v) : o = some v := by
  obtain ⟨r, a, rfl⟩ := h
  exact a
theorem evs_below : ∀ es : List Ev, belowL 1 0 (evsV es) = true
  | [] => rfl
  | e :: es => by
    show (true && belowL 1 0 (evsV es)) = true
    rw [evs_below es]
    rfl
theorem cut_ok {n m : Nat} {v : AV} (h : Go.Sx.below n m v = true) : cutV n m v = v := by
  unfold cutV
  rw [h]
theorem ch15_loop {R : Type} (fuel : Nat) (o0 : AObj) (x : AV) (es : List Ev) (hx : AV.listN 13 x = true) (hl : x.listOf = evsV es) (hb : Go.Sx.below 1 0 x = true) (ho : belowO 1 0 [o0] = true) (hok : ∀ e, e ∈ es → AnsS S0 16 [e.av] (.int .i64 0)) (hlen : es.length ≤ 100000) (K : Ex → List AV → AH → Option R) (Q : R → Prop) :
    ∀ (m k p : Nat), m < k → p + m = es.length →
    (∀ (i : Int) (x0 x1 x3 x4 x5 x6 x7 x8 x9 x10 x11 x12 x13 x14 x15 x16 x20 x21 x22 x23 x24 x25 x26 : AV), ∃ r, K (.exit 0) [x0, x1, .int .i64 0, x3, x4, x5, x6, x7, x8, x9, x10, x11, x12, x13, x14, x15, x16, x, .int .i64 (es.length : Nat), .int .i64 i, x20, x21, x22, x23, x24, x25, x26] ⟨[o0], []⟩ = some r ∧ Q r) →
    ∀ (x0 x1 x3 x4 x5 x6 x7 x8 x9 x10 x11 x12 x13 x14 x15 x16 x20 x21 x22 x23 x24 x25 x26 : AV), ∃ r, loopC S0 (cX fuel 2) fuel chB k [x0, x1, .int .i64 0, x3, x4, x5, x6, x7, x8, x9, x10, x11, x12, x13, x14, x15, x16, x, .int .i64 (es.length : Nat), .int .i64 (p : Nat), x20, x21, x22, x23, x24, x25, x26] ⟨[o0], []⟩ K = some r ∧ Q r := by
  have hil : (evsV es).length = es.length := by simp [evsV]
  intro m
  induction m with
  | zero =>
    intro k p hk hp hK x0 x1 x3 x4 x5 x6 x7 x8 x9 x10 x11 x12 x13 x14 x15 x16 x20 x21 x22 x23 x24 x25 x26
    obtain ⟨k, rfl⟩ : ∃ j, k = j + 1 := ⟨k - 1, by omega⟩
    have e : p = es.length := by omega
    subst e
    rw [ch15_step, br_f (by omega)]
    exact hK ..
  | succ m ih =>
    intro k p hk hp hK x0 x1 x3 x4 x5 x6 x7 x8 x9 x10 x11 x12 x13 x14 x15 x16 x20 x21 x22 x23 x24 x25 x26
    obtain ⟨k, rfl⟩ : ∃ j, k = j + 1 := ⟨k - 1, by omega⟩
    have hlt : p < es.length := by omega
    have hget : (evsV es)[p]? = some (es[p]).av := by simp [evsV, hlt]
    have hf : ((es[p]).av.isAgg && fitL [Sh.int IntKind.u8, Sh.int IntKind.i64, Sh.int IntKind.i64, Sh.int IntKind.i64, Sh.int IntKind.i64, Sh.bool, Sh.str, Sh.int IntKind.u64, Sh.int IntKind.i64, Sh.int IntKind.i64, Sh.int IntKind.u64, Sh.int IntKind.i64, Sh.int IntKind.i64] (es[p]).av.aggOf) = true := rfl
    have ho16 := okS_t (hok es[p] (List.getElem_mem hlt))
    simp only [Ev.av, Ev.cells] at ho16
    rw [ch15_step, br_t (by omega), hx, hl, hil, Bool.true_and, decide_eq_true (by omega : (0 : Int) ≤ (p : Nat)), decide_eq_true (by omega : ((p : Nat) : Int) < (es.length : Nat))]
    simp only [Bool.and_true, br, Int.toNat_natCast, hget, hf]
    simp only [Ev.av, Ev.cells, AV.aggOf, hdV, tlV, AV.numOf, AV.boolOf, AV.strOf, ho16, ho, cut_ok hb]
    rw [IntWalk.i64_in _ (by omega)]
    exact ih k (p + 1) (by omega) (by omega) hK ..
theorem chk_ok (l : List UInt8) : AnsS S0 15 [scrE l] (.int .i64 0) := by
  have hlen := (rdE_len l).2
  have hxx : AV.listN 13 (evlE l) = true ∧ (evlE l).listOf = evsV (rdE l) ∧ Go.Sx.below 1 0 (evlE l) = true := by
    unfold evlE
    cases hr : rdE l with
    | nil => exact ⟨rfl, rfl, rfl⟩
    | cons e es =>
      refine ⟨rfl, rfl, ?_⟩
      have : belowL 1 0 (evsV (e :: es)) = true := evs_below _
      simp only [Go.Sx.below, this]
      rfl
  obtain ⟨hx, hl, hb⟩ := hxx
  obtain ⟨h1, h2, h3, h4, h5⟩ := evl_res l ⟨[], []⟩
  have hil : (evsV (rdE l)).length = (rdE l).length := by simp [evsV]
  refine ans_ofS (tab := okTab S0 [16, 40] [] fun _ => none) (okTab_ok noTab_ok) (k := (rdE l).length + 1) (n := 2) rfl rfl rfl (args' := [scrE l]) ?_ (v := .int .i64 0) ?_ (intOut _)
  · intro H
    obtain ⟨h1, h2, h3, h4, h5⟩ := evl_res l H
    have e1 : Go.Sx.resolve H (scrE l) = some (scrE l) := by
      unfold scrE Go.Sx.resolve
      simp only [cfgV, List.cons_append, List.nil_append, resolveCs, h5]
      rfl
    have e2 : erase (scrE l) = scrE l := by
      unfold scrE
      simp only [cfgV, List.cons_append, List.nil_append, erase, eraseL, h2]
    have e3 : Go.Sx.below 0 0 (scrE l) = true := by
      unfold scrE
      simp only [cfgV, List.cons_append, List.nil_append, Go.Sx.below, belowL, h3]
      rfl
    simp only [resolveL, e1, e2, e3, if_true]
  · refine Eq.trans (ch15 ..) ?_
    have hc := okS_t (cfg_ok l)
    unfold cfgV at hc
    rw [hc, hx, hl, hil]
    simp only [br]
    rw [decide_eq_false (by omega : ¬ ((rdE l).length : Int) > 4096)]
    simp only []
    refine of_ex ?_
    refine ch15_loop ((rdE l).length + 1) (.cells (cfgV l ++ [evlE l])) (evlE l) (rdE l) hx hl hb ?_ (fun e he => by
      obtain ⟨r, rfl⟩ := evsL_all _ _ e he
      exact ev_ok r) (by omega) (kontI S0 (cX ((rdE l).length + 1) 2) ((rdE l).length + 1) (bodyOf Try.f15) [1, 1, 1, 0, 1, 0] (endI S0 Try.f15 ansR)) (fun r => r = AV.int .i64 0) (rdE l).length ((rdE l).length + 1) 0 (by omega) (by omega) (by
      intro i x0 x1 x3 x4 x5 x6 x7 x8 x9 x10 x11 x12 x13 x14 x15 x16 x20 x21 x22 x23 x24 x25 x26
      rw [ch15_end]
      exact ⟨_, rfl, rfl⟩) ..
    show (belowL 1 0 (cfgV l ++ [evlE l]) && belowO 1 0 []) = true
    simp only [cfgV, List.cons_append, List.nil_append, belowL, Go.Sx.below, hb, belowO, Bool.and_self]
end Go.Proofs.Ytanpcjopgcpooaa

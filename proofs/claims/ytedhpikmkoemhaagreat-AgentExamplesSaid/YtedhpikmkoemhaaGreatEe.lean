/- THE ENGINE, 21: code. -/
import Derived.Test.YtedhpikmkoemhaaGreatEd
import Derived.RecoverIn
set_option linter.unusedSimpArgs false
set_option linter.unusedVariables false
namespace Go.Sx
variable {S : Sys} {P : Program}

/-- Where code lands. -/
def Lands {R : Type} (S : Sys) (K : Ex → List AV → AH → Option R) (r : R) (E0 : GE) : Exit → Act → World → Prop := fun e a' w' =>
  ∃ ex s' H' E', K ex s' H' = some r ∧ ExR E' ex e ∧ E'.w = w' ∧ E0.le E' ∧ Rel S H' E' ∧ ARel E' s' a'

/-- A region whose order is drawn. -/
def DrawSound (S : Sys) (P : Program) (call : Caller) : Prop :=
  ∀ (ro : Option Nat) (id : Nat) (ops : Array Oper) {R : Type} (s : List AV) (H : AH) (K : Ex → List AV → AH → Option R) (r : R) (E : GE) (a : Act), regK S call ops true s H K = some r → Rel S H E → ARel E s a →
    (Code.region id ops true).wpIn (WR ro) 0 P (Lands S K r E) a E.w

theorem iter_sound (ro : Option Nat) {call : Caller} {lp : Looper} {c : Code}
    (E0 : GE) (ih : ∀ (s : List AV) (H : AH) (r : Out) (E : GE) (a : Act), E.low = E0.low → denK S call lp c s H retO = some r → Rel S H E → ARel E s a → c.wpIn (WR ro) 0 P (Lands S retO r E) a E.w)
    (Q : Exit → Act → World → Prop) (o : Out) (hQ : ∀ a' E' e, ExR E' o.1 e → E0.le E' → Rel S o.2.2 E' → ARel E' o.2.1 a' → Q e a' E'.w) :
    ∀ (n : Nat) (s : List AV) (H : AH) (E : GE) (a : Act), iter S.room (fun s H => denK S call lp c s H retO) n s H = some o → E0.le E → Rel S H E → ARel E s a → Code.roundsIn (WR ro) 0 P c Q n a E.w
  | 0, s, H, E, a, h, _, _, _ => by simp [iter] at h
  | n + 1, s, H, E, a, h, hle, hr, ha => by
    rw [roundsIn_succ]
    simp only [iter] at h
    cases hd : denK S call lp c s H retO with
    | none => rw [hd] at h; simp at h
    | some r1 =>
      obtain ⟨ex, s1, H1⟩ := r1
      have hw := ih s H _ E a hle.low hd hr ha
      refine wpIn_mono hw ?_
      rintro e a' w' ⟨ex', s', H', E', h1, hx, rfl, h2, h3, h4⟩
      simp only [retO, Option.some.injEq, Prod.mk.injEq] at h1
      obtain ⟨rfl, rfl, rfl⟩ := h1
      rw [hd] at h
      cases hx with
      | normal =>
        simp only at h
        obtain ⟨E2, e1, e2, e3, e4⟩ := back_sound S.room (s := s) hr h2 h3 h4
        show Code.roundsIn (WR ro) 0 P c Q n a' E'.w
        rw [← e1]
        exact iter_sound ro E0 ih Q o hQ n _ _ E2 a' h (hle.trans e2) e3 e4
      | exit id =>
        simp only [Option.some.injEq] at h
        subst h
        exact hQ a' E' _ (.exit id) (hle.trans h2) h3 (h4.outS _)
      | ret =>
        simp only [Option.some.injEq] at h
        subst h
        exact hQ a' E' _ .ret (hle.trans h2) h3 (h4.outS _)
      | goto l =>
        simp only [Option.some.injEq] at h
        subst h
        exact hQ a' E' _ (.goto l) (hle.trans h2) h3 (h4.outS _)
      | panic v x hv =>
        simp only [Option.some.injEq] at h
        subst h
        exact hQ a' E' _ (.panic v x hv) (hle.trans h2) h3 (h4.outS _)

theorem opt_some {A : Type} {o : Option A} {a : A} (h : o = some a) : o = some a := h

theorem lst_left {st : LSt} {r : Loop} (h : lstOK st r) (hb : st ≠ .busy) : r.state ≠ .busy := by
  cases st with
  | ready => intro e; rw [h.1] at e; cases e
  | busy => exact absurd rfl hb
  | left j => cases j <;> (intro e; rw [h.1] at e; cases e)

/-- A loop over a function is over. -/
theorem leave_sound {R : Type} {H1 : AH} {E E3 : GE} {id l : Nat} {s : List AV} {a : Act} {K : Ex → List AV → AH → Option R} {r : R} (h : leaveK id s H1 K = some r) (hle : E.le E3) (hr3 : Rel S H1 E3) (hid : id < E3.nid) (hl : E3.ρ id = some l) (ha : ARel E3 s a) :
    ∃ jump w4, (Instr.endLoop l).run P E3.w = .ok jump w4 ∧ (match jump with | none => Lands S K r E .normal a w4 | some c => c.wpIn (WR none) 0 P (Lands S K r E) a w4) := by
  unfold leaveK at h
  split at h
  · rename_i s' ps x y st hob
    cases hr3.h.obj id _ hob with
    | loop _ _ _ _ _ b rr hb hh h1 h2 h3 h4 h5 =>
    rw [hl] at hb
    obtain rfl := Option.some.inj hb
    have hset := no_settled hr3.h hh (by intro c el fr e; cases e)
    have hne : st ≠ .busy := by
      rintro rfl
      simp at h
    obtain ⟨k1, k2⟩ := hr3.h.write hob rfl hid hl hset (only_put (.loop { rr with state := .exhausted })) (o' := .dead true) .dead
    have hend := run_endLoop (P := P) hh (lst_left h5 hne)
    have hr4 := hr3.mono k1 k2
    generalize E3.w.putObj l (.loop { rr with state := .exhausted }) = w4 at hend k1 k2 hr4
    refine ⟨_, _, hend, ?_⟩
    cases st with
    | ready =>
      rw [h5.2]
      exact ⟨.normal, s, _, _, h, .normal, rfl, hle.trans k1, hr4, ha.mono k1⟩
    | busy => exact absurd rfl hne
    | left j =>
      cases j with
      | none =>
        rw [h5.2]
        exact wpIn_ret ⟨.ret, s, _, _, h, .ret, rfl, hle.trans k1, hr4, ha.mono k1⟩
      | some i =>
        rw [h5.2]
        exact wpIn_exit ⟨.exit i, s, _, _, h, .exit i, rfl, hle.trans k1, hr4, ha.mono k1⟩
  · simp at h

theorem range_sound {R : Type} {call : Caller} (hcall : CallOK S P call) {g : Operand} {ps : Array Tmp} {x y : Code} {s : List AV} {H : AH} {K : Ex → List AV → AH → Option R} {r : R} {E : GE} {a : Act} (hsh : E.low.sh = false)
    (h : rangeK call (ev S.G s g) s H ps.toList x y K = some r) (hr : Rel S H E) (ha : ARel E s a) :
    (Code.rangeFunc g ps x y).wpIn (WR none) 0 P (Lands S K r E) a E.w := by
  refine wpIn_rangeFunc ?_
  intro fn _
  have hg := ev_rel hr ha g
  have le1 := le_alloc hr.h (.deferred (some []))
  have hr1 : Rel S H (E.at (E.w.alloc (.deferred (some [])))) := hr.mono le1 (hr.h.alloc _)
  have hsz : (E.w.alloc (.deferred (some []))).heap.size = E.w.heap.size + 1 := alloc_size _ _
  let E1 : GE := E.at (E.w.alloc (.deferred (some [])))
  let lr : Loop := { state := .ready, pending := none, fn, tmps := a.tmps, params := ps, assign := x, body := y, defers := E.w.heap.size }
  have hρ2 : (E1.new (.loop lr)).ρ E1.nid = some (E.w.heap.size + 1) := by
    show (if E1.nid = E1.nid then some E1.w.heap.size else _) = _
    rw [if_pos rfl]
    exact congrArg some hsz
  have le2' := le_new E1 (.loop lr) hr1.h.Slt
  have ho : ORel (E1.new (.loop lr)) E1.nid (.loop s ps.toList x y .ready) := by
    refine .loop s ps.toList x y .ready (E.w.heap.size + 1) lr hρ2 ?_ ((ha.tmps.mono le1).mono le2') rfl rfl rfl ⟨rfl, rfl⟩
    have := alloc_get E1.w (.loop lr)
    rw [show E1.w.heap.size = E.w.heap.size + 1 from hsz] at this
    exact this
  obtain ⟨le2, h2⟩ := hr1.h.new ho
  have hr2 : Rel S { H with objs := H.objs ++ [.loop s ps.toList x y .ready] } (E1.new (.loop lr)) := hr1.mono le2 h2
  have hnid : E1.nid = H.objs.length := hr1.h.nid
  have ha2 : ARel (E1.new (.loop lr)) s { a with defers := [{ target := .collected E.w.heap.size, args := #[] }] ++ a.defers } := by
    refine ⟨(ha.tmps.mono le1).mono le2, Marks.mono le2 ?_⟩
    obtain ⟨m0, bs, m1, m2, m3⟩ := ha.defers.mono le1
    obtain ⟨hlow, bs', n1, n2, n3⟩ := ha.defers
    have hbs : bs = bs' := by
      have : bs.map mark = bs'.map mark := List.append_cancel_right (m1.symm.trans n1)
      have inj : ∀ (l l' : List Nat), l.map mark = l'.map mark → l = l' := by
        intro l
        induction l with
        | nil => intro l' h; cases l' with | nil => rfl | cons => simp at h
        | cons b l ih =>
          intro l' h
          cases l' with
          | nil => simp at h
          | cons b' l' =>
            simp only [List.map_cons, List.cons.injEq] at h
            have e : b = b' := by simpa [mark] using h.1
            rw [e, ih l' h.2]
      exact inj _ _ this
    subst hbs
    refine ⟨m0, E.w.heap.size :: bs, by simp [m1, mark], ?_, ?_⟩
    · refine List.nodup_cons.2 ⟨fun hm => ?_, m2⟩
      have := heap_lt (n3 _ hm).2.1
      omega
    · intro b hb
      rcases List.mem_cons.1 hb with rfl | hb
      · refine ⟨⟨hsh, hlow⟩, alloc_get E.w _, fun ho => ?_⟩
        have := hr.h.lt E.w.heap.size ho
        omega
      · exact m3 b hb
  have le02 : E.le (E1.new (.loop lr)) := le1.trans le2
  unfold rangeK at h
  split at h
  · rename_i f first caps hfv
    rw [hfv] at hg
    obtain ⟨p, hp, h⟩ := optK_inv h
    generalize hX : a.eval g = X at hg
    cases hg with
    | func _ _ _ xs ys hfn h1 h2' h3 h4 =>
    obtain ⟨⟨fn', f1, f2, f3⟩, hc⟩ := hcall.fn f _ _ p.1 p.2 hp
    have hyv : VRelL (E1.new (.loop lr)) [.func (.yield H.objs.length) [] []] #[.func (.yield (E.w.heap.size + 1)) #[] #[]] := by
      refine ⟨rfl, ?_⟩
      intro i v z hv hz
      cases i with
      | zero =>
        simp at hv hz
        subst hv; subst hz
        refine .yield _ _ ?_ ?_
        · show H.objs.length < E1.nid + 1
          omega
        · rw [← hnid]; exact hρ2
      | succ i => simp at hv
    have hargs : VRelL (E1.new (.loop lr)) ((first ++ [.func (.yield H.objs.length) [] []]) ++ caps) ((xs ++ #[.func (.yield (E.w.heap.size + 1)) #[] #[]]) ++ ys) :=
      vrelL_append (vrelL_append ⟨h1, fun i v z a b => (h2' i v z a b).mono le02⟩ hyv) ⟨h3, fun i v z a b => (h4 i v z a b).mono le02⟩
    have hb : ¬ fn'.body = none := by intro e; rw [e] at f2; simp at f2
    refine ⟨E.w.heap.size + 1, [{ target := .collected E.w.heap.size, args := #[] }], (E1.new (.loop lr)).w, { target := .fn (.func f) ys, args := xs ++ #[.func (.yield (E.w.heap.size + 1)) #[] #[]] }, (E1.new (.loop lr)).w, f, (xs ++ #[.func (.yield (E.w.heap.size + 1)) #[] #[]]) ++ ys, (E1.new (.loop lr)).w, run_enterLoop_outer fn a.tmps ps x y, ?_, fun _ _ => trivial, ?_, fun hd => by simp [WR, Fence.wide] at hd, ?_⟩
    · have ec : (#[Operand.const (.func (.yield (E.w.heap.size + 1)) #[] #[])] : Array Operand).map a.eval = #[.func (.yield (E.w.heap.size + 1)) #[] #[]] := by simp [Act.eval]
      simp only [Go.resolve, rangeCall, ec, hX, Deferred.ofValue, Sem.run_pure]
    · simp [invoke, callFunc, f1, f3, hb]
    · refine callsIn_WR ((hc _ _ hr2 hargs).mono ?_)
      rintro e w' ⟨z, E3, rfl, rfl, k1, k2, k3⟩
      have hid : H.objs.length < (E1.new (.loop lr)).nid := by show H.objs.length < E1.nid + 1; omega
      exact leave_sound h (le02.trans k1) k2 (Nat.lt_of_lt_of_le hid k1.nid) (k1.ρ _ _ hid (hnid ▸ hρ2)) (ha2.mono k1)
  · simp at h

theorem Lands.pre {R : Type} {K : Ex → List AV → AH → Option R} {r : R} {E E' : GE} (h : E.le E') {e : Exit} {a : Act} {w : World} (hl : Lands S K r E' e a w) : Lands S K r E e a w := by
  obtain ⟨ex, s, H, E2, k1, k2, k3, k4, k5⟩ := hl
  exact ⟨ex, s, H, E2, k1, k2, k3, h.trans k4, k5⟩

theorem reg_sound (ro : Option Nat) (hS : SysOK S P) {call : Caller} (hcall : CallOK S P call) (hdraw : DrawSound S P call) {id : Nat} {ops : Array Oper} {draw : Bool} {R : Type} {s : List AV} {H : AH} {K : Ex → List AV → AH → Option R} {r : R} {E : GE} {a : Act}
    (h : regK S call ops draw s H K = some r) (hr : Rel S H E) (ha : ARel E s a) : (Code.region id ops draw).wpIn (WR ro) 0 P (Lands S K r E) a E.w := by
  cases draw with
  | true => exact hdraw ro id ops s H K r E a h hr ha
  | false =>
    unfold regK at h
    simp only [Bool.false_and, Bool.false_eq_true, if_false, Bool.and_false] at h
    obtain ⟨⟨ex, s1, H1⟩, h1, h2⟩ := optK_inv h
    have := runX_sound ro hS hcall (all := ops) (Lands S K r E) (E0 := E) (ex := ex) (s1 := s1) (H1 := H1)
      (fun e a' E' q1 q2 q3 => by subst e; exact ⟨.normal, s1, H1, E', h2, .normal, rfl, q1, q2, q3⟩)
      (fun v e a' x E' q1 q2 q3 q4 => by subst e; exact ⟨.panic v, s1, H1, E', h2, .panic v x q3, rfl, q1, q2, q4⟩)
      ops.toList 0 (by simp) h1 (GE.le.refl E) hr ha
    refine wpIn_region ?_
    rw [List.range_eq_range']
    simpa using this

theorem denS_sound (ro : Option Nat) (hS : SysOK S P) {call : Caller} (hcall : CallOK S P call) (hdraw : DrawSound S P call) : ∀ (c : Code) {R : Type} (s : List AV) (H : AH) (K : Ex → List AV → AH → Option R) (r : R) (E : GE) (a : Act),
    denS S call c s H K = some r → Rel S H E → ARel E s a → c.wpIn (WR ro) 0 P (Lands S K r E) a E.w
  | .skip, R, s, H, K, r, E, a, h, hr, ha => by
    simp only [denS] at h
    exact wpIn_skip ⟨.normal, s, H, E, h, .normal, rfl, GE.le.refl E, hr, ha⟩
  | .region id ops draw, R, s, H, K, r, E, a, h, hr, ha => by
    simp only [denS] at h
    exact reg_sound ro hS hcall hdraw h hr ha
  | .seq x y, R, s, H, K, r, E, a, h, hr, ha => by
    simp only [denS] at h
    refine wpIn_seq (wpIn_mono (denS_sound ro hS hcall hdraw x s H _ r E a h hr ha) ?_)
    rintro e a' w' ⟨ex, s', H', E', h1, hx, rfl, h2, h3, h4⟩
    cases hx with
    | normal =>
      simp only at h1
      exact wpIn_mono (denS_sound ro hS hcall hdraw y s' H' K r E' a' h1 h3 h4) fun e a2 w2 hl => hl.pre h2
    | exit id => exact ⟨.exit id, s', H', E', h1, .exit id, rfl, h2, h3, h4⟩
    | ret => exact ⟨.ret, s', H', E', h1, .ret, rfl, h2, h3, h4⟩
    | goto l => exact ⟨.goto l, s', H', E', h1, .goto l, rfl, h2, h3, h4⟩
    | panic v x hv => exact ⟨.panic v, s', H', E', h1, .panic v x hv, rfl, h2, h3, h4⟩
  | .cond c x y, R, s, H, K, r, E, a, h, hr, ha => by
    simp only [denS] at h
    split at h
    · rename_i t ht
      have hc := ev_rel hr ha c
      rw [ht] at hc
      have hc' := rel_bool hc
      rcases br_some h with ⟨rfl, h⟩ | ⟨rfl, h⟩
      · exact wpIn_cond_true hc' (denS_sound ro hS hcall hdraw x s H K r E a h hr ha)
      · exact wpIn_cond_false hc' (denS_sound ro hS hcall hdraw y s H K r E a h hr ha)
    · simp at h
  | .exit id, R, s, H, K, r, E, a, h, hr, ha => by
    simp only [denS] at h
    exact wpIn_exit ⟨.exit id, s, H, E, h, .exit id, rfl, GE.le.refl E, hr, ha⟩
  | .ret, R, s, H, K, r, E, a, h, hr, ha => by
    simp only [denS] at h
    exact wpIn_ret ⟨.ret, s, H, E, h, .ret, rfl, GE.le.refl E, hr, ha⟩
  | .label l, R, s, H, K, r, E, a, h, hr, ha => by
    simp only [denS] at h
    exact wpIn_label ⟨.normal, s, H, E, h, .normal, rfl, GE.le.refl E, hr, ha⟩
  | .block id c, R, s, H, K, r, E, a, h, hr, ha => by simp [denS] at h
  | .loop c, R, s, H, K, r, E, a, h, hr, ha => by simp [denS] at h
  | .scope c, R, s, H, K, r, E, a, h, hr, ha => by simp [denS] at h
  | .goto l, R, s, H, K, r, E, a, h, hr, ha => by simp [denS] at h
  | .rangeFunc f ps x y, R, s, H, K, r, E, a, h, hr, ha => by simp [denS] at h
  | .refuse w, R, s, H, K, r, E, a, h, hr, ha => by simp [denS] at h

theorem scope_sound (ro : Option Nat) (hS : SysOK S P) {call : Caller} (hcall : CallOK S P call) (hdraw : DrawSound S P call) {c : Code} {R : Type} {K : Ex → List AV → AH → Option R} {r : R} {E : GE} {a : Act}
    (h : c.wpIn (WR ro) 0 P (Lands S (jumpK S call c K) r E) a E.w) : (Code.scope c).wpIn (WR ro) 0 P (Lands S K r E) a E.w := by
  refine wpIn_scope_jump h ?_
  rintro e a1 w1 ⟨ex, s', H', E', h1, hx, rfl, h2, h3, h4⟩
  cases hx with
  | normal => exact ⟨.normal, s', H', E', h1, .normal, rfl, h2, h3, h4⟩
  | exit id => exact ⟨.exit id, s', H', E', h1, .exit id, rfl, h2, h3, h4⟩
  | ret => exact ⟨.ret, s', H', E', h1, .ret, rfl, h2, h3, h4⟩
  | panic v x hv => exact ⟨.panic v, s', H', E', h1, .panic v x hv, rfl, h2, h3, h4⟩
  | goto l =>
    simp only [jumpK] at h1
    split at h1
    · rename_i rest hf
      refine ⟨rest, hf, wpIn_mono (denS_sound ro hS hcall hdraw rest s' H' _ r E' a1 h1 h3 h4) ?_⟩
      rintro e a2 w2 ⟨ex2, s2, H2, E2, k1, hx2, rfl, k2, k3, k4⟩
      cases hx2 with
      | normal => exact ⟨.normal, s2, H2, E2, k1, .normal, rfl, h2.trans k2, k3, k4⟩
      | exit id => exact ⟨.exit id, s2, H2, E2, k1, .exit id, rfl, h2.trans k2, k3, k4⟩
      | ret => exact ⟨.ret, s2, H2, E2, k1, .ret, rfl, h2.trans k2, k3, k4⟩
      | panic v x hv => exact ⟨.panic v, s2, H2, E2, k1, .panic v x hv, rfl, h2.trans k2, k3, k4⟩
      | goto l => simp at k1
    · simp at h1

theorem den_sound (ro : Option Nat) (hS : SysOK S P) {call : Caller} (hcall : CallOK S P call) (hdraw : DrawSound S P call) (n : Nat) : ∀ (c : Code) {R : Type} (s : List AV) (H : AH) (K : Ex → List AV → AH → Option R) (r : R) (E : GE) (a : Act),
    denK S call (fun b => iter S.room b n) c s H K = some r → Rel S H E → ARel E s a → ((ro = none ∧ E.low.sh = false) ∨ plainC c = true) → c.wpIn (WR ro) 0 P (Lands S K r E) a E.w
  | .skip, R, s, H, K, r, E, a, h, hr, ha, hp => by
    simp only [denK] at h
    exact wpIn_skip ⟨.normal, s, H, E, h, .normal, rfl, GE.le.refl E, hr, ha⟩
  | .region id ops draw, R, s, H, K, r, E, a, h, hr, ha, hp => by
    simp only [denK] at h
    exact reg_sound ro hS hcall hdraw h hr ha
  | .seq x y, R, s, H, K, r, E, a, h, hr, ha, hp => by
    simp only [denK] at h
    refine wpIn_seq (wpIn_mono (den_sound ro hS hcall hdraw n x s H _ r E a h hr ha (hp.imp (fun h => h) fun h => by simp [plainC] at h; simp [h])) ?_)
    rintro e a' w' ⟨ex, s', H', E', h1, hx, rfl, h2, h3, h4⟩
    cases hx with
    | normal =>
      simp only at h1
      exact wpIn_mono (den_sound ro hS hcall hdraw n y s' H' K r E' a' h1 h3 h4 (hp.imp (fun h => ⟨h.1, by rw [h2.low]; exact h.2⟩) fun h => by simp [plainC] at h; simp [h])) fun e a2 w2 hl => hl.pre h2
    | exit id => exact ⟨.exit id, s', H', E', h1, .exit id, rfl, h2, h3, h4⟩
    | ret => exact ⟨.ret, s', H', E', h1, .ret, rfl, h2, h3, h4⟩
    | goto l => exact ⟨.goto l, s', H', E', h1, .goto l, rfl, h2, h3, h4⟩
    | panic v x hv => exact ⟨.panic v, s', H', E', h1, .panic v x hv, rfl, h2, h3, h4⟩
  | .cond c x y, R, s, H, K, r, E, a, h, hr, ha, hp => by
    simp only [denK] at h
    split at h
    · rename_i t ht
      have hc := ev_rel hr ha c
      rw [ht] at hc
      have hc' := rel_bool hc
      rcases br_some h with ⟨rfl, h⟩ | ⟨rfl, h⟩
      · exact wpIn_cond_true hc' (den_sound ro hS hcall hdraw n x s H K r E a h hr ha (hp.imp (fun h => h) fun h => by simp [plainC] at h; simp [h]))
      · exact wpIn_cond_false hc' (den_sound ro hS hcall hdraw n y s H K r E a h hr ha (hp.imp (fun h => h) fun h => by simp [plainC] at h; simp [h]))
    · simp at h
  | .block id c, R, s, H, K, r, E, a, h, hr, ha, hp => by
    simp only [denK] at h
    refine wpIn_block (wpIn_mono (den_sound ro hS hcall hdraw n c s H _ r E a h hr ha (hp.imp (fun h => h) fun h => by simp [plainC] at h; simp [h])) ?_)
    rintro e a' w' ⟨ex, s', H', E', h1, hx, rfl, h2, h3, h4⟩
    cases hx with
    | normal => exact ⟨.normal, s', H', E', h1, .normal, rfl, h2, h3, h4⟩
    | ret => exact ⟨.ret, s', H', E', h1, .ret, rfl, h2, h3, h4⟩
    | goto l => exact ⟨.goto l, s', H', E', h1, .goto l, rfl, h2, h3, h4⟩
    | panic v x hv => exact ⟨.panic v, s', H', E', h1, .panic v x hv, rfl, h2, h3, h4⟩
    | exit i =>
      simp only at h1
      show (if i = id then _ else _)
      split at h1
      · rename_i hi; rw [if_pos hi]; exact ⟨.normal, s', H', E', h1, .normal, rfl, h2, h3, h4⟩
      · rename_i hi; rw [if_neg hi]; exact ⟨.exit i, s', H', E', h1, .exit i, rfl, h2, h3, h4⟩
  | .loop c, R, s, H, K, r, E, a, h, hr, ha, hp => by
    simp only [denK] at h
    obtain ⟨o, ho, h⟩ := optK_inv h
    refine wpIn_loop_rounds n (iter_sound ro E (fun s H r E' a hlow h1 h2 h3 => den_sound ro hS hcall hdraw n c s H retO r E' a h1 h2 h3 (hp.imp (fun h => ⟨h.1, by rw [hlow]; exact h.2⟩) fun h => by simp [plainC] at h; simp [h])) (Lands S K r E) o ?_ n s H E a ho (GE.le.refl E) hr ha)
    intro a' E' e hx h1 h2 h3
    exact ⟨o.1, o.2.1, o.2.2, E', h, hx, rfl, h1, h2, h3⟩
  | .scope c, R, s, H, K, r, E, a, h, hr, ha, hp => by
    simp only [denK] at h
    exact scope_sound ro hS hcall hdraw (den_sound ro hS hcall hdraw n c s H _ r E a h hr ha (hp.imp (fun h => h) fun h => by simp [plainC] at h; simp [h]))
  | .exit id, R, s, H, K, r, E, a, h, hr, ha, hp => by
    simp only [denK] at h
    exact wpIn_exit ⟨.exit id, s, H, E, h, .exit id, rfl, GE.le.refl E, hr, ha⟩
  | .ret, R, s, H, K, r, E, a, h, hr, ha, hp => by
    simp only [denK] at h
    exact wpIn_ret ⟨.ret, s, H, E, h, .ret, rfl, GE.le.refl E, hr, ha⟩
  | .label l, R, s, H, K, r, E, a, h, hr, ha, hp => by
    simp only [denK] at h
    exact wpIn_label ⟨.normal, s, H, E, h, .normal, rfl, GE.le.refl E, hr, ha⟩
  | .goto l, R, s, H, K, r, E, a, h, hr, ha, hp => by
    simp only [denK] at h
    exact wpIn_goto ⟨.goto l, s, H, E, h, .goto l, rfl, GE.le.refl E, hr, ha⟩
  | .rangeFunc f ps x y, R, s, H, K, r, E, a, h, hr, ha, hp => by
    simp only [denK] at h
    rcases hp with ⟨rfl, hsh⟩ | hp
    · exact range_sound hcall hsh h hr ha
    · simp [plainC] at hp
  | .refuse w, R, s, H, K, r, E, a, h, hr, ha, hp => by simp [denK] at h

end Go.Sx

/- THE ENGINE, 22: functions, and calls with trees. -/
set_option linter.unusedSimpArgs false
set_option linter.unusedVariables false
namespace Go.Sx
variable {S : Sys} {P : Program}

theorem getD_rel {E : GE} {s : List AV} {a : Act} (ha : ARel E s a) (t : Nat) : VRel E (s.getD t .top) (a.tmps.getD t undef) := by
  by_cases ht : t < s.length
  · have ht' : t < a.tmps.size := ha.tmps.1 ▸ ht
    have := ha.tmps.2 t s[t] a.tmps[t] (by simp [ht]) (by simp [ht'])
    simpa [List.getD, Array.getD, ht, ht'] using this
  · have : s.getD t .top = .top := by simp [List.getD, Nat.le_of_not_lt ht]
    rw [this]; exact .top _

def oneSem (tmps : Array Value) : ResultVar → Sem Value
  | .tmp t => pure (tmps.getD t undef)
  | .cell c t => do loadVar t (← asAddr (tmps.getD c undef))

theorem oneResult_sound {R : Type} (hS : SysOK S P) {H : AH} {E : GE} (hr : HRel H E) {s : List AV} {a : Act} (ha : ARel E s a) {rv : ResultVar} {K : AV → Option R} {r : R} (h : oneResult S s H rv K = some r) :
    ∃ v x, K v = some r ∧ VRel E v x ∧ (oneSem a.tmps rv).run P E.w = .ok x E.w := by
  unfold oneResult at h
  cases rv with
  | tmp t => exact ⟨_, _, h, getD_rel ha t, rfl⟩
  | cell c t =>
    simp only at h
    split at h
    · rename_i i hi
      have hx := getD_rel ha c
      obtain ⟨v, y, h1, h2, h3⟩ := load_sound hS hr hi h hx
      refine ⟨v, y, h1, h2, ?_⟩
      show (do loadVar t (← asAddr (a.tmps.getD c undef)) : Sem Value).run P E.w = _
      generalize a.tmps.getD c undef = X at hx h3 ⊢
      have : ∃ ad, X = .pointer (some ad) := by
        unfold Instr.loadAt at h3
        cases X with
        | pointer ad => cases ad with
          | some ad => exact ⟨ad, rfl⟩
          | none => simp [Instr.sureAddr] at h3
        | _ => simp [Instr.sureAddr] at h3
      obtain ⟨ad, rfl⟩ := this
      simpa [Instr.loadAt, Instr.sureAddr, asAddr] using h3
    · simp at h

theorem resultsK_sound {R : Type} (hS : SysOK S P) {H : AH} {E : GE} (hr : HRel H E) {s : List AV} {a : Act} (ha : ARel E s a) : ∀ (rs : List ResultVar) (acc : List AV) {K : List AV → Option R} {r : R}, resultsK S s H rs acc K = some r →
    ∃ vs xs, K (acc ++ vs) = some r ∧ vs.length = xs.length ∧ (∀ (i : Nat) v x, vs[i]? = some v → xs[i]? = some x → VRel E v x) ∧
      (rs.mapM (oneSem a.tmps) : Sem (List Value)).run P E.w = .ok xs E.w
  | [], acc, K, r, h => ⟨[], [], by simpa [resultsK] using h, rfl, by simp, by simp⟩
  | rv :: rs, acc, K, r, h => by
    simp only [resultsK] at h
    obtain ⟨v, x, h1, h2, h3⟩ := oneResult_sound hS hr ha h
    obtain ⟨vs, xs, g1, g2, g3, g4⟩ := resultsK_sound hS hr ha rs _ h1
    refine ⟨v :: vs, x :: xs, by simpa using g1, by simp [g2], ?_, ?_⟩
    · intro i u y hu hy
      cases i with
      | zero => simp at hu hy; subst hu; subst hy; exact h2
      | succ i => exact g3 i u y (by simpa using hu) (by simpa using hy)
    · rw [List.mapM_cons, Sem.run_bind, h3]
      simp only [Result.andThen_ok, Sem.run_bind, g4, Sem.run_pure]

theorem bundle_rel {E : GE} {vs : List AV} {xs : List Value} (hl : vs.length = xs.length) (h : ∀ (i : Nat) v x, vs[i]? = some v → xs[i]? = some x → VRel E v x) :
    VRel E (bundle vs) (if h : xs.toArray.size = 1 then xs.toArray[0] else .tuple xs.toArray) := by
  match vs, xs with
  | [], [] => exact .tuple _ _ rfl (by simp)
  | [v], [x] => exact h 0 v x rfl rfl
  | v :: u :: vs, x :: y :: xs =>
    rw [dif_neg (by simp)]
    exact .tuple _ _ (by simpa using hl) (fun i v x a b => h i v x a (by simpa using b))
  | [], _ :: _ => simp at hl
  | _ :: _, [] => simp at hl
  | [_], _ :: _ :: _ => simp at hl
  | _ :: _ :: _, [_] => simp at hl

/-- Out of a function, past the marks of its loops. -/
theorem leaves_marks {fn : Func} {tmps : Array Value} {H1 : AH} {E1 : GE} {Rr : Ending → World → Prop} {u : FrameMode} (hu : u ≠ .run) (T : GE → Prop) (hT : ∀ A B : GE, A.pre B → T A → T B) (hlow : E1.low.n = E1.w.heap.size) {ds0 : List Deferred}
    (hfin : ∀ E'', E1.le E'' → Rel S H1 E'' → T E'' → LeavesInM Fence.wide 0 P fn tmps Rr ds0 u E''.w) :
    ∀ (bs : List Nat) (E' : GE), E1.le E' → Rel S H1 E' → T E' → bs.Nodup → (∀ b, b ∈ bs → E'.low.ok b ∧ E'.w.heap[b]? = some (.deferred (some [])) ∧ ¬ E'.owned b) → LeavesInM Fence.wide 0 P fn tmps Rr (bs.map mark ++ ds0) u E'.w
  | [], E', h1, h2, h3, _, _ => hfin E' h1 h2 h3
  | b :: bs, E', h1, h2, h3, hn, hb => by
    obtain ⟨q1, q2, q3⟩ := hb b (List.mem_cons_self ..)
    have hS := no_settled h2.h q2 (by intro c el fr e; cases e)
    have hw := only_put (w := E'.w) (b := b) (.deferred Option.none)
    have hle : E1.le (E'.at (E'.w.putObj b (.deferred Option.none))) := le_still h2.h h1 (by rw [← hlow, ← h1.low]; exact q1.2) hS hw
    have hsm : ∀ k, E'.owned k ∨ (∃ o, E'.S k o) → (E'.w.putObj b (.deferred Option.none)).heap[k]? = E'.w.heap[k]? := fun k hk => hw.block k (by
      rintro rfl
      rcases hk with hk | ⟨o, hk⟩
      · exact q3 hk
      · exact hS o hk)
    obtain ⟨p1, p2⟩ := h2.h.still (w' := E'.w.putObj b (.deferred Option.none)) hsm (Nat.le_of_eq hw.size.symm)
    refine ⟨hu, .inl ⟨b, _, rfl, run_takeDeferred q2, ?_⟩⟩
    refine leaves_marks hu T hT hlow hfin bs (E'.at (E'.w.putObj b (.deferred Option.none))) hle (h2.pmono p1 p2 fun p hp => (h2.x p hp).still hsm) (hT _ _ p1 h3) (List.nodup_cons.1 hn).2 ?_
    intro k hk
    obtain ⟨r1, r2, r3⟩ := hb k (List.mem_cons_of_mem _ hk)
    have hkb : k ≠ b := fun e => (List.nodup_cons.1 hn).1 (e ▸ hk)
    exact ⟨r1, (hw.block k hkb).trans r2, r3⟩

/-- What is handed back at a function's end. -/
theorem end_sound (hS : SysOK S P) {fn : Func} {s' : List AV} {H1 : AH} {r : Res} {E E' E'' : GE} {tmps : Array Value} (hres : resultsK S s' H1 fn.results.toList [] (fun vs => some (.val (bundle vs) H1)) = some r)
    (k0 : (E.lowed ⟨E.w.heap.size, [], false⟩).le E'') (kr : Rel S H1 E'') (kt : VRelL E'' s' tmps) : ∃ v, (results fn tmps).run P E''.w = .ok v E''.w ∧ EndOK S E r (.returned v) E''.w := by
  have g4' : ARel E'' s' { tmps := tmps, defers := [] } := ⟨kt, Marks.nil (by rw [k0.low]; exact k0.size) (by rw [k0.low]; rfl)⟩
  obtain ⟨vs, ys, k1, k2, k3, k4⟩ := resultsK_sound hS kr.h g4' fn.results.toList [] hres
  simp only [List.nil_append, Option.some.injEq] at k1
  subst k1
  have hres2 : results fn tmps = (do let vs ← fn.results.mapM (oneSem tmps); pure (if h : vs.size = 1 then vs[0] else .tuple vs)) := by
    unfold results
    rfl
  refine ⟨_, ?_, _, E''.lowed E.low, rfl, rfl, le_lowed k0, kr.lowed _, (bundle_rel k2 k3).pmono (pre_lowed _ _)⟩
  rw [hres2, Array.mapM_eq_mapM_toList]
  simp only [Sem.run_bind, Sem.run_map, k4, Result.andThen_ok, Sem.run_pure]

/-- A function's body, run in the caller's own state. -/
theorem run_sound (hS : SysOK S P) {call : Caller} (hcall : CallOK S P call) (hdraw : DrawSound S P call) (n : Nat) {f : FuncId} {fn : Func} (hf : S.F f = some fn) {args : List AV} {H : AH} {r : Res} (h : runK S call (fun b => iter S.room b n) fn args H = some r)
    {E : GE} (hr : Rel S H E) {xs : Array Value} (hx : VRelL E args xs) : Calls P f xs E.w (EndOK S E r) := by
  obtain ⟨h1, h2, h3⟩ := hS.func f fn hf
  unfold runK at h
  split at h
  · simp at h
  · rename_i c hc
    have hr1 := hr.lowed ⟨E.w.heap.size, [], false⟩
    have hx1 := hx.pmono (pre_lowed E ⟨E.w.heap.size, [], false⟩)
    have ha : ARel (E.lowed ⟨E.w.heap.size, [], false⟩) (args ++ List.replicate (fn.ntmps - args.length) .top) { tmps := xs ++ Array.replicate (fn.ntmps - xs.size) undef, defers := [] } := by
      refine ⟨?_, Marks.nil (Nat.le_refl _) rfl⟩
      refine vrelL_append hx1 ⟨by rw [hx.1]; simp, ?_⟩
      intro i u y hu hy
      have := List.eq_of_mem_replicate (List.mem_of_getElem? hu)
      subst this
      exact .top _
    refine callsIn_wide.1 (callsIn_of_wp_marks (F := Fence.wide) (n := 0) h1 hc trivial (wpIn_mono (den_sound none hS hcall hdraw n c _ H _ _ (E.lowed ⟨E.w.heap.size, [], false⟩) _ h hr1 ha (.inl ⟨rfl, rfl⟩)) ?_))
    rintro e a' w' ⟨ex, s', H1, E', g1, gx, rfl, g2, g3, g4⟩
    obtain ⟨m0, bs, m1, m2, m3⟩ := g4.defers
    have fin : resultsK S s' H1 fn.results.toList [] (fun vs => some (.val (bundle vs) H1)) = some r → LeavesInM Fence.wide 0 P fn a'.tmps (EndOK S E r) a'.defers .returning E'.w := by
      intro hres
      rw [m1, g2.low]
      refine leaves_marks (S := S) (H1 := H1) (E1 := E.lowed ⟨E.w.heap.size, [], false⟩) (by simp) (fun A => VRelL A s' a'.tmps) (fun A B hp hv => hv.pmono hp) rfl ?_ bs E' g2 g3 g4.tmps m2 m3
      intro E'' k0 kr kt
      exact end_sound hS (E' := E') hres k0 kr kt
    cases gx with
    | normal => exact fin g1
    | ret => exact fin g1
    | exit id => simp [endR] at g1
    | goto l => simp [endR] at g1
    | panic v x hv =>
      simp only [endR, Option.some.injEq] at g1
      subst g1
      show LeavesInM Fence.wide 0 P fn a'.tmps (EndOK S E (.pan v H1)) a'.defers (.panicking [{ v := x, recovered := false }]) E'.w
      rw [m1, g2.low]
      refine leaves_marks (S := S) (H1 := H1) (E1 := E.lowed ⟨E.w.heap.size, [], false⟩) (by simp) (fun A => VRel A v x) (fun A B hp hv => hv.pmono hp) rfl ?_ bs E' g2 g3 hv m2 m3
      intro E'' k0 kr kt
      exact ⟨x, E''.lowed E.low, rfl, rfl, le_lowed k0, kr.lowed _, kt.pmono (pre_lowed _ _)⟩

theorem fold_rel {E : GE} : ∀ (l : List Nat) (us : List AV) (xs : List Value) (s : List AV) (a : Act), us.length = xs.length → (∀ (i : Nat) v x, us[i]? = some v → xs[i]? = some x → VRel E v x) → ARel E s a →
    ARel E ((l.zip us).foldl (fun s p => s.set p.1 p.2) s) { a with tmps := (l.zip xs).foldl (fun (tmps : Array Value) (p : Tmp × Value) => tmps.setIfInBounds p.1 p.2) a.tmps }
  | [], us, xs, s, a, _, _, ha => by simpa using ha
  | d :: l, [], [], s, a, _, _, ha => by simpa using ha
  | d :: l, u :: us, x :: xs, s, a, hl, h, ha => by
    have := fold_rel l us xs (s.set d u) { a with tmps := a.tmps.setIfInBounds d x } (by simpa using hl) (fun i v y p q => h (i + 1) v y (by simpa using p) (by simpa using q)) (put_rel ha (h 0 u x rfl rfl) (some d))
    simpa using this
  | d :: l, [], x :: xs, s, a, hl, _, _ => by simp at hl
  | d :: l, u :: us, [], s, a, hl, _, _ => by simp at hl

theorem roundTmps_eq (r : Loop) (xs : Array Value) : Loop.roundTmps r xs = (r.params.toList.zip xs.toList).foldl (fun (tmps : Array Value) (p : Tmp × Value) => tmps.setIfInBounds p.1 p.2) r.tmps := by
  unfold Loop.roundTmps
  rw [← Array.foldl_toList, Array.toList_zip]

/-- A round. -/
theorem yield_sound (hS : SysOK S P) {call : Caller} (hcall : CallOK S P call) (hdraw : DrawSound S P call) (n : Nat) {id : Nat} {args : List AV} {H H' : AH} {v : AV} (h : yieldF S call (fun b => iter S.room b n) id args H = some (v, H'))
    {E : GE} (hr : Rel S H E) {xs : Array Value} (hx : VRelL E args xs) {b : Nat} (hid : id < E.nid) (hb : E.ρ id = some b) :
    ∃ r, E.w.heap[b]? = some (.loop r) ∧ xs.size = r.params.size ∧
      RoundIn Fence.wide 0 P b r.fn (Loop.roundTmps r xs) r.assign r.body E.w fun e w' => ∃ x E', e = .returned x ∧ E'.w = w' ∧ E.le E' ∧ Rel S H' E' ∧ VRel E' v x := by
  unfold yieldF at h
  split at h
  · rename_i s ps x y hob
    split at h
    · rename_i hc
      obtain ⟨hlen, hpx, hpy⟩ := hc
      cases hr.h.obj id _ hob with
      | loop _ _ _ _ _ b' r hb' hh h1 h2 h3 h4 h5 =>
      rw [hb] at hb'
      obtain rfl := Option.some.inj hb'
      subst h3; subst h4
      refine ⟨r, hh, ?_, ?_⟩
      · rw [← hx.1, hlen, ← h2]; simp
      · refine roundIn_of_wpIn (F := Fence.wide) trivial ?_
        have hr1 := hr.lowed ⟨E.w.heap.size, [], false⟩
        have ha0 : ARel (E.lowed ⟨E.w.heap.size, [], false⟩) s { tmps := r.tmps, defers := [] } := ⟨h1.pmono (pre_lowed _ _), Marks.nil (Nat.le_refl _) rfl⟩
        have hx1 := hx.pmono (pre_lowed E ⟨E.w.heap.size, [], false⟩)
        have ha := fold_rel ps args xs.toList s _ (by simpa using hx1.1) (fun i v x p q => hx1.2 i v x p (by simpa using q)) ha0
        rw [← h2] at ha
        rw [show (r.params.toList.zip xs.toList).foldl (fun (tmps : Array Value) (p : Tmp × Value) => tmps.setIfInBounds p.1 p.2) r.tmps = Loop.roundTmps r xs from (roundTmps_eq r xs).symm] at ha
        rw [← h2] at h
        refine wpIn_mono (den_sound (some b) hS hcall hdraw n r.assign _ H _ _ (E.lowed ⟨E.w.heap.size, [], false⟩) _ h hr1 ha (.inr hpx)) ?_
        rintro e a1 w1 ⟨ex, s1, H1, E1, g1, gx, rfl, g2, g3, g4⟩
        cases gx with
        | exit i => simp at g1
        | ret => simp at g1
        | goto l => simp at g1
        | panic u y hu => simp at g1
        | normal =>
        simp only at g1
        split at g1
        · rename_i s' ps' x' y' hob1
          have hid1 : id < E1.nid := Nat.lt_of_lt_of_le hid g2.nid
          have hb1 : E1.ρ id = some b := g2.ρ id b hid hb
          cases g3.h.obj id _ hob1 with
          | loop _ _ _ _ _ b2 r1 hb2 hh1 k1 k2 k3 k4 k5 =>
          rw [hb1] at hb2
          obtain rfl := Option.some.inj hb2
          have hset := no_settled g3.h hh1 (by intro c el fr e; cases e)
          have hlt := heap_lt hh1
          have hw := only_put (w := E1.w) (b := b) (.loop { r1 with state := .busy })
          have hle1 := le_write (.inl ⟨id, hid1, hb1⟩) hset hw
          obtain ⟨_, hr2⟩ := g3.h.write hob1 rfl hid1 hb1 hset hw (o' := .loop s' ps' x' y' .busy) (.loop s' ps' x' y' .busy b { r1 with state := .busy } hb1 (World.putObj_heap_same hlt) (k1.mono hle1) k2 k3 k4 rfl)
          refine ⟨_, run_beginRound hh1 k5.1, ?_⟩
          have hr2' : Rel S _ (E1.at (E1.w.putObj b (.loop { r1 with state := .busy }))) := g3.mono hle1 hr2
          refine wpIn_mono (den_sound (some b) hS hcall hdraw n r.body _ _ _ _ (E1.at (E1.w.putObj b (.loop { r1 with state := .busy }))) _ g1 hr2' (g4.mono hle1) (.inr hpy)) ?_
          rintro e a2 w2 ⟨ex, s2, H2, E2, m1, mx, rfl, m2, m3, m4⟩
          obtain ⟨lst, hlst, m1⟩ := optK_inv m1
          obtain ⟨H3, hH3, m1⟩ := optK_inv m1
          simp only [Option.some.injEq] at m1
          have hid2 : id < E2.nid := Nat.lt_of_lt_of_le hid1 (hle1.trans m2).nid
          have hb3 : E2.ρ id = some b := (hle1.trans m2).ρ id b hid1 hb1
          unfold setLoop at hH3
          split at hH3
          · rename_i s3 ps3 x3 y3 st3 hob2
            simp only [Option.some.injEq] at hH3
            subst hH3
            cases m3.h.obj id _ hob2 with
            | loop _ _ _ _ _ b4 r2 hb4 hh2 l1 l2 l3 l4 l5 =>
            rw [hb3] at hb4
            obtain rfl := Option.some.inj hb4
            have hset2 := no_settled m3.h hh2 (by intro c el fr e; cases e)
            have hlt2 := heap_lt hh2
            have done : ∀ (jump : Option Code) (st : LSt), lstOK st { r2 with state := if jump.isNone then .ready else .done, pending := jump } → lst = st → ex.stays = jump.isNone →
                ∃ v' w', (Instr.endRound b jump).run P E2.w = .ok v' w' ∧ ∃ x E', Ending.returned v' = .returned x ∧ E'.w = w' ∧ E.le E' ∧ Rel S H' E' ∧ VRel E' v x := by
              intro jump st q1 q2 q3
              have hw2 := only_put (w := E2.w) (b := b) (.loop { r2 with state := if jump.isNone then .ready else .done, pending := jump })
              have hle2 := le_write (.inl ⟨id, hid2, hb3⟩) hset2 hw2
              obtain ⟨_, hr3⟩ := m3.h.write hob2 rfl hid2 hb3 hset2 hw2 (o' := .loop s3 ps3 x3 y3 st) (.loop s3 ps3 x3 y3 st b _ hb3 (World.putObj_heap_same hlt2) (l1.mono hle2) l2 l3 l4 q1)
              refine ⟨_, _, run_endRound jump hh2, ?_⟩
              subst q2
              rw [q3] at m1
              obtain ⟨E5, t1, t2, t3, t4⟩ := trunc_sound (v := .bool jump.isNone) (x := .bool jump.isNone) hr1 (((g2.trans hle1).trans m2).trans hle2) (m3.mono hle2 hr3) (.bool _)
              rw [m1] at t3 t4
              exact ⟨_, E5.lowed E.low, rfl, t1, le_lowed t2, t3.lowed _, t4.pmono (pre_lowed _ _)⟩
            cases mx with
            | normal => exact done Option.none .ready ⟨rfl, rfl⟩ (Option.some.inj hlst).symm rfl
            | ret => exact done (some .ret) (.left Option.none) ⟨rfl, rfl⟩ (Option.some.inj hlst).symm rfl
            | exit i => exact done (some (.exit i)) (.left (some i)) ⟨rfl, rfl⟩ (Option.some.inj hlst).symm rfl
            | goto l => simp [exLeft] at hlst
            | panic u y hu => simp [exLeft] at hlst
          · simp at hH3
        · simp at g1
    · simp at h
  · simp at h

end Go.Sx

/- THE ENGINE: what comes back out of a call with trees is settled. -/
set_option linter.unusedSimpArgs false
set_option linter.unusedVariables false
namespace Go.Sx

theorem thaw_of {args : List AV} {v v' : AV} {H : AH} (h : pureOut args v = some v') : Res.thaw (.val v H) = some (v, H) := by
  unfold pureOut at h
  split at h
  · rename_i hc
    rw [Bool.and_eq_true] at hc
    simp only [Res.thaw, hc.1]
  · cases h

theorem optM_inv {A B : Type} {o : Option A} {f : A → B} {r : B} (h : optM o f = some r) : ∃ a, o = some a ∧ some (f a) = some r := by
  unfold optM at h
  split at h
  · exact ⟨_, rfl, h⟩
  · cases h
theorem mapO_spec {f : AV → Option AV} : ∀ {l us : List AV}, mapO f l = some us → us.length = l.length ∧ ∀ (i : Nat) u, us[i]? = some u → ∃ v, l[i]? = some v ∧ f v = some u
  | [], us, h => by
    simp only [mapO, Option.some.injEq] at h
    subst h
    exact ⟨rfl, by simp⟩
  | v :: l, us, h => by
    simp only [mapO] at h
    split at h
    · rename_i x hx
      split at h
      · rename_i xs hxs
        simp only [Option.some.injEq] at h
        subst h
        obtain ⟨h1, h2⟩ := mapO_spec hxs
        refine ⟨by simp [h1], ?_⟩
        intro i u hu
        cases i with
        | zero => simp at hu; subst hu; exact ⟨v, rfl, hx⟩
        | succ i => simpa using h2 i u (by simpa using hu)
      · cases h
    · cases h

/-- The state in which all that was made since then is settled, and no object is known. -/
def GE.thaw (E0 E : GE) : GE := { E.cut 0 0 with S := fun b o => E.S b o ∨ (E0.w.heap.size ≤ b ∧ (E.w.cell? ⟨b, o, none⟩).isSome = true) }

variable {E0 E : GE} {H : AH}

theorem pre_thaw : (E.cut 0 0).pre (E0.thaw E) := ⟨Nat.le_refl _, fun _ _ _ h => h, Nat.le_refl _, fun _ _ _ _ h => h, fun _ _ h => .inl h, fun _ _ _ => rfl, rfl, fun _ _ => rfl⟩

theorem thaw_none (b : Nat) : ¬ (E0.thaw E).owned b := by
  rintro (⟨id, hid, _⟩ | ⟨t, g, p, ht, _⟩)
  · exact absurd hid (Nat.not_lt_zero _)
  · exact absurd ht (Nat.not_lt_zero _)

theorem thaw_le (h0 : E0.nid = 0) (t0 : E0.nt = 0) (h : E0.le E) : E0.le (E0.thaw E) where
  nid := by rw [h0]; exact Nat.le_refl _
  ρ := fun id b hid => by rw [h0] at hid; exact absurd hid (Nat.not_lt_zero _)
  nt := by rw [t0]; exact Nat.le_refl _
  τ := fun t g p ht => by rw [t0] at ht; exact absurd ht (Nat.not_lt_zero _)
  S := fun b o hb => .inl (h.S b o hb)
  cell := h.cell
  base := h.base
  cp := fun id hid => by rw [h0] at hid; exact absurd hid (Nat.not_lt_zero _)
  low := h.low
  snew := by
    intro b o hb
    rcases hb with hb | ⟨hb, _⟩
    · exact h.snew b o hb
    · exact .inr (.inl hb)
  own := fun b _ ho => absurd ho (thaw_none b)
  os := h.os
  tape := h.tape
  output := h.output
  size := h.size
  block := h.block

theorem thaw_rel (hr : HRel H E) : HRel ⟨[], []⟩ (E0.thaw E) := by
  constructor
  · rfl
  · rfl
  · intro id o h; simp at h
  · intro i j b o1 o2 h; simp at h
  · intro t g sz u p h; simp at h
  · intro t g sz u g' h; simp at h
  · intro t g p id b ht; exact absurd ht (Nat.not_lt_zero _)
  · intro t g p t' g' p' ht; exact absurd ht (Nat.not_lt_zero _)
  · intro t g p ht; exact absurd ht (Nat.not_lt_zero _)
  · intro b o hb
    rcases hb with hb | ⟨_, hb⟩
    · exact hr.set b o hb
    · exact hb
  · intro b hb; exact absurd hb (thaw_none b)
  · exact hr.hbase

structure Settles (fl : Bool) (k : Nat) (H : AH) (E G : GE) : Prop where
  w : G.w = E.w
  pre : (E.cut 0 0).pre G
  own : ∀ id b o cs, k ≤ id → id < E.nid → H.objs[id]? = some (.cells cs) → E.ρ id = some b → (E.w.cell? ⟨b, o, none⟩).isSome = true → G.S b o
  new : fl = true → ∀ id b cs, k ≤ id → id < E.nid → H.objs[id]? = some (.cells cs) → E.ρ id = some b → G.base ≤ b
variable {G : GE}
theorem thaw_settles {fl : Bool} (q1 : E0.le E) (h0 : E0.nid = 0) (t0 : E0.nt = 0) (hb : E0.base ≤ E0.w.heap.size) : Settles fl 0 H E (E0.thaw E) := by
  have hnew : ∀ id b, id < E.nid → E.ρ id = some b → E0.w.heap.size ≤ b := by
    intro id b hid hρ
    rcases Nat.lt_or_ge b E0.w.heap.size with h' | h'
    · rcases q1.own b h' (.inl ⟨id, hid, hρ⟩) with ⟨i, hi, _⟩ | ⟨t, g, p, ht, _⟩
      · rw [h0] at hi; exact absurd hi (Nat.not_lt_zero _)
      · rw [t0] at ht; exact absurd ht (Nat.not_lt_zero _)
    · exact h'
  refine ⟨rfl, pre_thaw, fun id b o _ _ hid _ hρ hc => .inr ⟨hnew id b hid hρ, hc⟩, fun _ id b _ _ hid _ hρ => ?_⟩
  show E.base ≤ b
  rw [q1.base]
  exact Nat.le_trans hb (hnew id b hid hρ)
/-- All that there is, settled; no object is known. -/
def GE.still (E : GE) : GE := { E.cut 0 0 with S := fun b o => (E.w.cell? ⟨b, o, none⟩).isSome = true }
theorem still_settles (hr : HRel H E) : Settles false 0 H E E.still :=
  ⟨rfl, ⟨Nat.le_refl _, fun _ _ _ h => h, Nat.le_refl _, fun _ _ _ _ h => h, fun b o h => hr.set b o h, fun _ _ _ => rfl, rfl, fun _ _ => rfl⟩, fun _ _ _ _ _ _ _ _ hc => hc, fun h => by cases h⟩

theorem notAgg_cells {v : AV} (h : ∀ cs, v ≠ .agg cs) : v.cells = [v] := by
  cases v <;> first | rfl | exact absurd rfl (h _)
theorem frz_agg {fl : Bool} {k : Nat} {n : Nat} {v u : AV} (h : frz fl k H (n + 1) v = some u) (hv : ∀ cs, v ≠ .agg cs) : ∀ cs, u ≠ .agg cs := by
  unfold frz at h
  split at h
  · split at h
    · split at h
      · obtain ⟨xs, -, h2⟩ := optM_inv h
        obtain rfl := Option.some.inj h2
        intro cs e; cases e
      · cases h
    · cases h
  · obtain ⟨xs, -, h2⟩ := optM_inv h
    obtain rfl := Option.some.inj h2
    intro cs e; cases e
  · exact absurd rfl (hv _)
  · obtain ⟨xs, -, h2⟩ := optM_inv h
    obtain rfl := Option.some.inj h2
    intro cs e; cases e
  · obtain ⟨xs, -, h2⟩ := optM_inv h
    obtain rfl := Option.some.inj h2
    intro cs e; cases e
  · unfold cleanO at h
    split at h
    · obtain rfl := Option.some.inj h
      exact hv
    · cases h

/-- The cells of an element. -/
theorem frz_cells {fl : Bool} {k n : Nat} (ih : ∀ m, m ≤ n → ∀ v u x, frz fl k H m v = some u → VRel E v x → VRel G u x) {v u : AV} (h : frz fl k H n v = some u) (X : Nat → Value) (hv : ∀ j c, v.cells[j]? = some c → VRel E c (X j)) :
    u.cells.length = v.cells.length ∧ ∀ j d, u.cells[j]? = some d → VRel G d (X j) := by
  cases n with
  | zero => simp [frz] at h
  | succ n =>
    by_cases hag : ∃ cs, v = .agg cs
    · obtain ⟨cs, rfl⟩ := hag
      have h' : optM (mapO (frz fl k H n) cs) .agg = some u := h
      obtain ⟨us, h1, h2⟩ := optM_inv h'
      obtain rfl := Option.some.inj h2
      obtain ⟨h3, h4⟩ := mapO_spec h1
      refine ⟨h3, fun j d hd => ?_⟩
      obtain ⟨c, hc, hc2⟩ := h4 j d hd
      exact ih n (Nat.le_succ n) c d (X j) hc2 (hv j c hc)
    · have hna : ∀ cs, v ≠ .agg cs := fun cs e => hag ⟨cs, e⟩
      have e1 := notAgg_cells hna
      have e2 := notAgg_cells (frz_agg h hna)
      rw [e1, e2]
      refine ⟨rfl, fun j d hd => ?_⟩
      cases j with
      | zero =>
        simp at hd
        subst hd
        exact ih (n + 1) (Nat.le_refl _) v u (X 0) h (hv 0 v (by rw [e1]; rfl))
      | succ j => simp at hd

theorem frz_rel {fl : Bool} {k : Nat} (hg : Settles fl k H E G) (hr : HRel H E) : ∀ n v u x, frz fl k H n v = some u → VRel E v x → VRel G u x := by
  intro n
  induction n using Nat.strongRecOn with
  | _ n ih =>
  intro v u x h hv
  cases n with
  | zero => simp [frz] at h
  | succ n =>
  have ih' : ∀ m, m ≤ n → ∀ v u x, frz fl k H m v = some u → VRel E v x → VRel G u x := fun m hm => ih m (Nat.lt_succ_of_le hm)
  have fallback : cleanO v = some u → VRel G u x := by
    intro h
    unfold cleanO at h
    split at h
    · rename_i hbl
      obtain rfl := Option.some.inj h
      exact (hv.cut hbl).pmono hg.pre
    · cases h
  unfold frz at h
  split at h
  · rename_i id off len cap sz ag
    split at h
    · rename_i cs ho
      split at h
      · rename_i hlen
        simp only [Bool.and_eq_true] at hlen
        have hk := Nat.le_of_ble_eq_true hlen.2
        have hlen := Nat.le_of_ble_eq_true hlen.1
        obtain ⟨us, h1, h2⟩ := optM_inv h
        obtain rfl := Option.some.inj h2
        obtain ⟨m1, m2⟩ := mapO_spec h1
        cases hv with
        | sl _ _ _ _ _ _ b c hid hb' hlc hcap hag =>
        cases hr.obj _ _ ho with
        | cells _ b' arr el hb2 hh hl hc h1' hS' =>
        rw [hb'] at hb2
        obtain rfl := Option.some.inj hb2
        have hplain : ∀ c, c ∈ cs.drop off → c.cells = [c] := by
          intro d hd
          have hd' := List.mem_of_mem_drop hd
          obtain ⟨m, hm⟩ := List.getElem?_of_mem hd'
          have hlt' : m < arr.size := by
            rcases Nat.lt_or_ge m cs.length with h' | h'
            · omega
            · simp [List.getElem?_eq_none h'] at hm
          exact cell_plain (hc m d arr[m] hm (by simp [hlt'])) (h1' m _ (by simp [hlt']))
        obtain ⟨c1, c2, c3⟩ := chunks_spec (ag := ag) hag len (cs.drop off) (by simp; omega) hplain
        have hX : ∀ i v, (chunks sz ag len (cs.drop off))[i]? = some v → ∀ j d, v.cells[j]? = some d → VRel E d (arr.getD (off + (i * sz + j)) undef) := by
          intro i v hi j d hj
          have hf := flat_get _ c3 i v j d hi hj
          rw [c1, List.getElem?_take] at hf
          split at hf
          · rw [List.getElem?_drop] at hf
            have hlt : off + (i * sz + j) < arr.size := by
              rcases Nat.lt_or_ge (off + (i * sz + j)) cs.length with h' | h'
              · omega
              · simp [List.getElem?_eq_none h'] at hf
            simp only [Array.getD, hlt, dite_true]
            exact hc _ _ _ hf (by simp [hlt])
          · simp at hf
        have hul : us.length = len := by rw [m1, c2]
        have key : VRel G (.inl fl (spareC len cap) sz us) (.slice (some ⟨b, off, none⟩) us.length c) := by
          refine .inl fl _ sz _ _ c (fun i j => arr.getD (off + (i * sz + j)) undef) ?_ ?_ ?_ (by rw [hul]; exact hlc) (fun hfl => hg.new hfl id b cs hk hid ho hb') ?_
          · intro w hw
            obtain ⟨i, hi⟩ := List.getElem?_of_mem hw
            obtain ⟨v, hv1, hv2⟩ := m2 i w hi
            rw [(frz_cells ih' hv2 _ (hX i v hv1)).1]
            exact c3 v (List.mem_of_getElem? hv1)
          · intro i j hi hj
            rw [hul] at hi
            have : (i + 1) * sz ≤ len * sz := Nat.mul_le_mul_right _ hi
            rw [Nat.add_mul] at this
            have hlt : off + (i * sz + j) < arr.size := by omega
            have hcell : E.w.cell? ⟨b, off + (i * sz + j), none⟩ = some arr[off + (i * sz + j)] := by rw [obj_cell hh]; simp [hlt]
            rw [Addr.add_lit]
            simp only [Array.getD, hlt, dite_true]
            exact ⟨by rw [hg.w]; exact hcell, h1' (off + (i * sz + j)) _ (by simp [hlt]), hg.own id b _ cs hk hid ho hb' (by rw [hcell]; rfl)⟩
          · intro i w j d hi hj
            obtain ⟨v, hv1, hv2⟩ := m2 i w hi
            exact (frz_cells ih' hv2 _ (hX i v hv1)).2 j d hj
          · unfold spareC
            split
            · rename_i c' hcc
              split
              · rename_i hce
                show c = us.length
                rw [hul, hcap _ rfl]
                exact Nat.eq_of_beq_eq_true hce
              · trivial
            · trivial
        rw [hul] at key
        exact key
      · cases h
    · cases h
  · rename_i f p sz xs
    obtain ⟨us, h1, h2⟩ := optM_inv h
    obtain rfl := Option.some.inj h2
    obtain ⟨m1, m2⟩ := mapO_spec h1
    cases hv with
    | inl _ _ _ _ a cap X hsz hx hr' hcap hf hp =>
    rw [← m1]
    refine .inl f _ sz us a cap X ?_ ?_ ?_ (by rw [m1]; exact hcap) (fun e => by rw [hg.pre.base]; exact hf e) (by
      cases p with
      | unk => trivial
      | zero => show cap = us.length; rw [m1]; exact hp
      | tok t g => trivial)
    · intro w hw
      obtain ⟨i, hi⟩ := List.getElem?_of_mem hw
      obtain ⟨v, hv1, hv2⟩ := m2 i w hi
      rw [(frz_cells ih' hv2 (X i) (fun j c hc => hr' i v j c hv1 hc)).1]
      exact hsz v (List.mem_of_getElem? hv1)
    · intro i j hi hj
      rw [m1] at hi
      exact ⟨by rw [hg.w]; exact (hx i j hi hj).1, (hx i j hi hj).2.1, hg.pre.S _ _ (hx i j hi hj).2.2⟩
    · intro i w j d hi hj
      obtain ⟨v, hv1, hv2⟩ := m2 i w hi
      exact (frz_cells ih' hv2 (X i) (fun j c hc => hr' i v j c hv1 hc)).2 j d hj
  · obtain ⟨us, h1, h2⟩ := optM_inv h
    obtain rfl := Option.some.inj h2
    obtain ⟨m1, m2⟩ := mapO_spec h1
    cases hv with
    | agg _ xs g1 g2 g3 =>
    refine .agg us xs (by omega) (fun i c x hc hx => ?_) g3
    obtain ⟨v, hv1, hv2⟩ := m2 i c hc
    exact ih' n (Nat.le_refl _) v c x hv2 (g2 i v x hv1 hx)
  · obtain ⟨us, h1, h2⟩ := optM_inv h
    obtain rfl := Option.some.inj h2
    obtain ⟨m1, m2⟩ := mapO_spec h1
    cases hv with
    | tuple _ xs g1 g2 =>
    refine .tuple us xs (by omega) (fun i c x hc hx => ?_)
    obtain ⟨v, hv1, hv2⟩ := m2 i c hc
    exact ih' n (Nat.le_refl _) v c x hv2 (g2 i v x hv1 hx)
  · obtain ⟨w, h1, h2⟩ := optM_inv h
    obtain rfl := Option.some.inj h2
    cases hv with
    | iface t _ x hv => exact .iface _ w x (ih' n (Nat.le_refl _) _ w x h1 hv)
  · exact fallback h

/-! A call's answer settled, where other objects stay. -/
/-- A block that is a living object's, or a token's. -/
def GE.held (E : GE) (L : Nat → Prop) (n m : Nat) (b : Nat) : Prop := (∃ id, id < n ∧ L id ∧ E.ρ id = some b) ∨ (∃ t g p, t < m ∧ E.τ t g = some p ∧ p.2.1 = b)
def GE.thawN (E0 E : GE) (L : Nat → Prop) (n m : Nat) : GE := { E.cut n m with S := fun b o => E.S b o ∨ ((E0.w.heap.size ≤ b ∨ E0.owned b) ∧ (E.w.cell? ⟨b, o, none⟩).isSome = true ∧ ¬ E.held L n m b) }
def AH.lives (H : AH) (id : Nat) : Prop := ∃ o, H.objs[id]? = some o ∧ o.live = true
theorem pre_thawN {L : Nat → Prop} {n m : Nat} : (E.cut n m).pre (E0.thawN E L n m) := ⟨Nat.le_refl _, fun _ _ _ h => h, Nat.le_refl _, fun _ _ _ _ h => h, fun _ _ h => .inl h, fun _ _ _ => rfl, rfl, fun _ _ => rfl⟩
theorem pre_thawN0 {L : Nat → Prop} {n m : Nat} : (E.cut 0 0).pre (E0.thawN E L n m) := ⟨Nat.zero_le _, fun _ _ h => absurd h (Nat.not_lt_zero _), Nat.zero_le _, fun _ _ _ h => absurd h (Nat.not_lt_zero _), fun _ _ h => .inl h, fun _ _ _ => rfl, rfl, fun _ h => absurd h (Nat.not_lt_zero _)⟩
theorem thawN_le {L : Nat → Prop} {n m : Nat} (hle : E0.le E) (hn : E0.nid = n) (hm : E0.nt = m) (hn' : n ≤ E.nid) (hm' : m ≤ E.nt) : E0.le (E0.thawN E L n m) := by
  have h := le_cut hle (n := n) (m := m) (by omega) (by omega) hn' hm'
  exact {
    nid := h.nid
    ρ := h.ρ
    nt := h.nt
    τ := h.τ
    S := fun b o hb => .inl (h.S b o hb)
    cell := h.cell
    base := h.base
    cp := h.cp
    low := h.low
    snew := by
      intro b o hb
      rcases hb with hb | ⟨hb, _⟩
      · exact h.snew b o hb
      · exact .inr hb
    own := h.own
    os := h.os
    tape := h.tape
    output := h.output
    size := h.size
    block := h.block }
theorem thawN_rel {H2 : AH} {L : Nat → Prop} {n m : Nat} (hL : ∀ id o, H2.objs[id]? = some o → o.live = true → L id) (hr : HRel H2 (E.cut n m)) : HRel H2 (E0.thawN E L n m) := by
  have hp : (E.cut n m).pre (E0.thawN E L n m) := pre_thawN
  have hno : ∀ id b, id < H2.objs.length → L id → E.ρ id = some b → ∀ o, ¬ E.S b o → ¬ (E0.thawN E L n m).S b o := by
    intro id b hid hLi hρ o hs h
    rcases h with h | ⟨_, _, h⟩
    · exact hs h
    · exact h (.inl ⟨id, by rw [← hr.nid] at hid; exact hid, hLi, hρ⟩)
  have hlt : ∀ id o, H2.objs[id]? = some o → id < H2.objs.length := by
    intro id o h
    rcases Nat.lt_or_ge id H2.objs.length with h' | h'
    · exact h'
    · rw [List.getElem?_eq_none h'] at h; cases h
  constructor
  · exact hr.nid
  · exact hr.nt
  · intro id o ho
    have hid := hlt id o ho
    cases hr.obj id o ho with
    | cells cs b c el hb hh hl hc h1 hS hcp => exact .cells cs b c el hb hh hl (fun j v x hv hx => (hc j v x hv hx).pmono hp) h1 (fun o => hno id b hid (hL id _ ho rfl) hb o (hS o)) hcp
    | map es bs clock b ms hb hh hl hs hk hv => exact .map es bs clock b ms hb hh hl hs (fun j e m he hm => (hk j e m he hm).pmono hp) (fun j e m he hm => (hv j e m he hm).pmono hp)
    | miter0 b hb hh => exact .miter0 b hb hh
    | miter mm since seen last b k hm hk hb hh => exact .miter mm since seen last b k hm hk hb hh
    | siter s pos b hb hh => exact .siter s pos b hb hh
    | loop s ps x y st b r hb hh h1 h2 h3 h4 h5 => exact .loop s ps x y st b r hb hh (h1.pmono hp) h2 h3 h4 h5
    | dead => exact .dead
    | tcells u cs b c hb hh hl hc h1 hS => exact .tcells u cs b c hb hh hl (fun j v x hv hx => (hc j v x hv hx).pmono hp) h1 (fun o => hno id b hid (hL id _ ho rfl) hb o (hS o))
    | unborn h h0 => exact .unborn h h0
  · exact hr.inj
  · intro t g sz u p ht hp2
    obtain ⟨b, e, ce, c, h1, h2, h3, h4, h5, h6⟩ := hr.tok t g sz u p ht hp2
    refine ⟨b, e, ce, c, h1, h2, h3, h4, h5, fun o ho h => ?_⟩
    rcases h with h | ⟨_, _, h⟩
    · exact h6 o ho h
    · refine h (.inr ⟨t, g, p, ?_, hp2, by rw [h1]⟩)
      have htl : t < H2.toks.length := by
        rcases Nat.lt_or_ge t H2.toks.length with h' | h'
        · exact h'
        · rw [List.getElem?_eq_none h'] at ht; cases ht
      rw [← hr.nt] at htl
      exact htl
  · exact hr.late
  · exact hr.tsep
  · exact hr.tinj
  · exact hr.tbase
  · intro b o h
    rcases h with h | ⟨_, h, _⟩
    · exact hr.set b o h
    · exact h
  · exact hr.lt
  · exact hr.hbase
theorem thawN_settles {n m : Nat} (hle : E0.le E) (hr : HRel H E) (hn : E0.nid = n) (hm : E0.nt = m) (hn' : n ≤ E.nid) (hm' : m ≤ E.nt) : Settles false n H E (E0.thawN E H.lives n m) := by
  have htok : ∀ t g p id b, t < E.nt → E.τ t g = some p → id < E.nid → E.ρ id = some b → p.2.1 ≠ b := hr.tsep
  refine ⟨rfl, pre_thawN0, fun id b o cs hid hid2 ho hρ hc => .inr ⟨?_, hc, ?_⟩, fun h => by cases h⟩
  · rcases Nat.lt_or_ge b E0.w.heap.size with h' | h'
    · exact .inr (hle.own b h' (.inl ⟨id, hid2, hρ⟩))
    · exact .inl h'
  · rintro (⟨i, hi, ⟨oi, hoi, hli⟩, hρi⟩ | ⟨t, g, p, ht, hp, hpb⟩)
    · have h1 := hr.inj i id b _ _ hoi ho hli rfl hρi hρ
      omega
    · exact htok t g p id b (Nat.lt_of_lt_of_le ht hm') hp hid2 hρ hpb
theorem thawR_sound {S : Sys} {H H' : AH} {E E' : GE} {v : AV} {x : Value} {r : Res} (hr : Rel S H E) (hle : E.le E') (hr' : Rel S H' E') (hv : VRel E' v x) (h : thawR H (.val v H') = some r) :
    ∃ u H2, r = .val u H2 ∧ ∃ E2, E2.w = E'.w ∧ E.le E2 ∧ Rel S H2 E2 ∧ VRel E2 u x := by
  unfold thawR at h
  simp only at h
  split at h
  · rename_i hb
    simp only [Bool.and_eq_true] at hb
    obtain ⟨h1, h2, h3⟩ := hb
    have h1 := Nat.le_of_ble_eq_true h1
    have h2 := Nat.le_of_ble_eq_true h2
    obtain ⟨u, hu, hu2⟩ := optK_inv h
    obtain rfl := Option.some.inj hu2
    have e1 := hr.h.nid
    have e2 := hr.h.nt
    have e3 := hr'.h.nid
    have e4 := hr'.h.nt
    have hL : ∀ id o, (H'.objs.take H.objs.length)[id]? = some o → o.live = true → H'.lives id := by
      intro id o ho hl
      rw [List.getElem?_take] at ho
      split at ho
      · exact ⟨o, ho, hl⟩
      · cases ho
    have l2 := thawN_le (L := H'.lives) hle e1 e2 (by omega) (by omega)
    have hc := hr'.h.cut h1 h2 h3
    have hs := thawN_settles hle hr'.h e1 e2 (by omega) (by omega)
    exact ⟨u, _, rfl, E.thawN E' H'.lives H.objs.length H.toks.length, rfl, l2, hr.mono l2 (thawN_rel hL hc), frz_rel hs hr'.h _ _ _ _ hu hv⟩
  · cases h
end Go.Sx

/- THE ENGINE: a function that defers a call, which may recover. -/
set_option linter.unusedSimpArgs false
set_option linter.unusedVariables false
namespace Go.Sx
variable {S : Sys} {P : Program}

theorem recOps_spec {ops : Array Oper} {d0 d1 : Nat} (h : recOps ops = some (d0, d1)) : ∃ o1 o2 : Oper, ops = #[o1, o2] ∧ o1.dst = some d0 ∧ o1.guard = none ∧ (∃ c : Call, o1.op = .call c ∧ c.callee = .builtin .recover) ∧ o2.op = .assign (.tmp d0) ∧ o2.dst = some d1 ∧ o2.guard = none := by
  unfold recOps at h
  split at h
  · rename_i o1 o2 hl
    split at h
    · rename_i c d0' h1 h2 h3
      split at h
      · rename_i hc
        split at h
        · rename_i t d1' k1 k2 k3
          split at h
          · rename_i hb
            have := Nat.eq_of_beq_eq_true hb
            simp only [Option.some.injEq, Prod.mk.injEq] at h
            obtain ⟨rfl, rfl⟩ := h
            subst this
            refine ⟨o1, o2, ?_, h2, h3, ⟨c, h1, hc⟩, k1, k2, k3⟩
            rw [← Array.toList_inj]; exact hl
          · cases h
        · cases h
      · cases h
    · cases h
  · cases h
theorem recBody_spec {fn : Func} {ops : Array Oper} {rest : Code} (h : recBody fn = some (ops, rest)) : ∃ id, fn.body = some (.seq (.region id ops false) rest) := by
  unfold recBody at h
  split at h
  · rename_i id ops' rest' hb
    simp only [Option.some.injEq, Prod.mk.injEq] at h
    obtain ⟨rfl, rfl⟩ := h
    exact ⟨id, hb⟩
  · cases h
theorem defOps_spec {ops : Array Oper} {o1 : Oper} {f : Operand} (h : defOps ops = some (o1, f)) : ∃ o2 : Oper, ops = #[o1, o2] ∧ o2.dst = none ∧ o2.guard = none ∧ ∃ c : Call, o2.op = .defer c ∧ c.callee = .value f ∧ c.args = #[] := by
  unfold defOps at h
  split at h
  · rename_i o1' o2 hl
    split at h
    · rename_i c h1 h2 h3
      split at h
      · rename_i f' hc ha
        simp only [Option.some.injEq, Prod.mk.injEq] at h
        obtain ⟨rfl, rfl⟩ := h
        refine ⟨o2, ?_, h2, h3, c, h1, hc, ?_⟩
        · rw [← Array.toList_inj]; exact hl
        · rw [← Array.toList_inj]; exact ha
      · cases h
    · cases h
  · cases h
theorem defBody_spec {fn : Func} {a : Code} {ops : Array Oper} {rest : Code} (h : defBody fn = some (a, ops, rest)) : ∃ id, fn.body = some (.seq a (.seq (.region id ops false) rest)) := by
  unfold defBody at h
  split at h
  · rename_i a' id ops' rest' hb
    simp only [Option.some.injEq, Prod.mk.injEq] at h
    obtain ⟨rfl, rfl, rfl⟩ := h
    exact ⟨id, hb⟩
  · cases h

theorem shut_none {E : GE} {ds : List Deferred} (h : Marks E ds) (hs : E.low.sh = true) (h0 : E.low.ds = []) : ds = [] := by
  obtain ⟨_, bs, h1, _, h3⟩ := h
  cases bs with
  | nil => rw [h1, h0]; rfl
  | cons b bs =>
    have := (h3 b (List.mem_cons_self ..)).1.1
    rw [hs] at this; cases this

theorem sets_rel {E : GE} {s : List AV} {a : Act} (ha : ARel E s a) {x : AV} {y : Value} (hv : VRel E x y) (d0 d1 : Nat) : ARel E (recS s d0 d1 x) ((a.put (some d0) y).put (some d1) ((a.put (some d0) y).eval (.tmp d0))) := by
  have h1 := put_rel ha hv (some d0)
  have h2 : VRel E ((s.set d0 x).getD d0 .top) ((a.put (some d0) y).eval (.tmp d0)) := getD_rel h1 d0
  exact put_rel h1 h2 (some d1)

/-- What a recovering call makes of the mode. -/
inductive Modes : FrameMode → Value → FrameMode → Prop
  | ret : Modes .returning .nilIface .returning
  | pan (y : Value) : Modes (.panicking [{ v := y, recovered := false }]) y (.panicking [{ v := y, recovered := true }])

theorem rec_sound (hS : SysOK S P) {call : Caller} (hcall : CallOK S P call) (hdraw : DrawSound S P call) (n : Nat) {g : FuncId} {args : List AV} {H H' : AH} {x : AV} (h : recK S call (fun b => iter S.room b n) g args H x = some H')
    {E : GE} (hr : Rel S H E) {xs : Array Value} (hx : VRelL E args xs) {y : Value} (hv : VRel E x y) {u u' : FrameMode} (hm : Modes u y u') :
    CallsDIn Fence.wide 0 P g xs u E.w fun e u2 w' => (∃ v, e = .returned v) ∧ u2 = u' ∧ ∃ E', E'.w = w' ∧ E.le E' ∧ Rel S H' E' := by
  unfold recK at h
  split at h
  · rename_i fn hfn
    obtain ⟨h1, h2, h3⟩ := hS.dfn g fn hfn
    split at h
    · rename_i ops rest hb
      obtain ⟨id, hbody⟩ := recBody_spec hb
      split at h
      · rename_i d0 d1 ho hpl
        obtain ⟨o1, o2, rfl, a1, a2, ⟨c, a3, a4⟩, a5, a6, a7⟩ := recOps_spec ho
        refine callsDIn_of_wpSIn (F := Fence.wide) (n := 0) h1 hbody trivial ?_
        intro c₀ cs hu
        have hr1 := hr.lowed ⟨E.w.heap.size, [], true⟩
        have hx1 := hx.pmono (pre_lowed E ⟨E.w.heap.size, [], true⟩)
        have ha : ARel (E.lowed ⟨E.w.heap.size, [], true⟩) (args ++ List.replicate (fn.ntmps - args.length) .top) { tmps := xs ++ Array.replicate (fn.ntmps - xs.size) undef, defers := [] } := by
          refine ⟨?_, Marks.nil (Nat.le_refl _) rfl⟩
          refine vrelL_append hx1 ⟨by rw [hx.1]; simp, ?_⟩
          intro i u y hu hy
          have := List.eq_of_mem_replicate (List.mem_of_getElem? hu)
          subst this
          exact .top _
        refine wpSIn_seq (wpSIn_region ?_)
        have hw1 : ∀ t, Region.wanted o1 t = true := fun t => by simp [Region.wanted, a2]
        have hw2 : ∀ t, Region.wanted o2 t = true := fun t => by simp [Region.wanted, a7]
        have e1 : ∀ a : Act, (execOp a.eval o1).run P E.w = .ok .recover E.w := by
          intro a
          obtain ⟨dst, op, type, pos, after, guard⟩ := o1
          simp only at a3
          subst a3
          obtain ⟨callee, cargs, cts⟩ := c
          simp only at a4
          subst a4
          rfl
        have e2 : ∀ a : Act, (execOp a.eval o2).run P E.w = .ok (.value (a.eval (.tmp d0))) E.w := by
          intro a
          obtain ⟨dst, op, type, pos, after, guard⟩ := o2
          simp only at a5
          subst a5
          rfl
        have fin : ∀ cs', cs' = { c₀ with mode := u' } :: cs → ∀ a2 : Act, ARel (E.lowed ⟨E.w.heap.size, [], true⟩) (recS (args ++ List.replicate (fn.ntmps - args.length) AV.top) d0 d1 x) a2 → rest.wpSIn Fence.wide 0 P (bodyPostS P fn c₀ cs fun e u2 w' => (∃ v, e = .returned v) ∧ u2 = u' ∧ ∃ E', E'.w = w' ∧ E.le E' ∧ Rel S H' E') a2 cs' E.w := by
          intro cs' hcs a2 ha2
          refine wpSIn_of_wpIn rfl (wpIn_mono (den_sound none hS hcall hdraw n rest _ H _ _ (E.lowed ⟨E.w.heap.size, [], true⟩) _ h hr1 ha2 (.inr hpl)) ?_)
          rintro e a' w' ⟨ex, s', H1, E', g1, gx, rfl, g2, g3, g4⟩
          have hdf : a'.defers = [] := shut_none g4.defers (by rw [g2.low]; rfl) (by rw [g2.low]; rfl)
          have done : resultsK S s' H1 fn.results.toList [] (fun _ => some H1) = some H' → a'.defers = [] ∧ ∃ u2, cs' = { c₀ with mode := u2 } :: cs ∧ ∃ v, (results fn a'.tmps).run P E'.w = .ok v E'.w ∧ ((∃ v', Ending.returned v = .returned v') ∧ u2 = u' ∧ ∃ E2, E2.w = E'.w ∧ E.le E2 ∧ Rel S H' E2) := by
            intro hres
            obtain ⟨vs, ys, k1, k2, k3, k4⟩ := resultsK_sound hS g3.h ⟨g4.tmps, g4.defers⟩ fn.results.toList [] hres
            simp only [Option.some.injEq] at k1
            subst k1
            refine ⟨hdf, u', hcs, ?_⟩
            have hres2 : results fn a'.tmps = (do let vs ← fn.results.mapM (oneSem a'.tmps); pure (if h : vs.size = 1 then vs[0] else .tuple vs)) := by
              unfold results
              rfl
            refine ⟨(if h : ys.toArray.size = 1 then ys.toArray[0] else .tuple ys.toArray), ?_, ⟨_, rfl⟩, rfl, E'.lowed E.low, rfl, le_lowed g2, g3.lowed _⟩
            rw [hres2, Array.mapM_eq_mapM_toList]
            simp only [Sem.run_bind, Sem.run_map, k4, Result.andThen_ok, Sem.run_pure]
          cases gx with
          | normal => exact done g1
          | ret => exact done g1
          | exit i => cases g1
          | goto l => cases g1
          | panic v z hz => cases g1
        show wpOpsSIn Fence.wide 0 P #[o1, o2] _ [0, 1] _ _ _
        simp only [wpOpsSIn, List.getElem?_toArray, List.getElem?_cons_zero, List.getElem?_cons_succ, hw1, hw2, if_true, e1]
        refine ⟨fun _ _ => trivial, ?_⟩
        cases hm with
        | ret =>
          have hrd : recoverD (c₀ :: cs) = none := by simp [recoverD, hu]
          simp only [hrd, e2]
          refine ⟨fun _ _ => trivial, ?_⟩
          rw [a1, a6]
          exact fin _ (by rw [← hu]) _ (sets_rel ha (hv.pmono (pre_lowed _ _)) d0 d1)
        | pan y =>
          have hrd : recoverD (c₀ :: cs) = some (y, { c₀ with mode := .panicking [{ v := y, recovered := true }] } :: cs) := by simp [recoverD, hu]
          simp only [hrd, e2]
          refine ⟨fun _ _ => trivial, ?_⟩
          rw [a1, a6]
          exact fin _ rfl _ (sets_rel ha (hv.pmono (pre_lowed _ _)) d0 d1)
      · cases h
    · cases h
  · cases h
theorem settle_rec (y : Value) : settle (.panicking [{ v := y, recovered := true }]) = .returning := rfl

/-- A function that defers a call. -/
theorem runD_sound (hS : SysOK S P) {call : Caller} (hcall : CallOK S P call) (hdraw : DrawSound S P call) (n : Nat) {f : FuncId} {fn : Func} (hf : S.dfn f = some fn) {args : List AV} {H : AH} {r : Res} (h : runDK S call (fun b => iter S.room b n) fn args H = some r)
    {E : GE} (hr : Rel S H E) {xs : Array Value} (hx : VRelL E args xs) : Calls P f xs E.w (EndOK S E r) := by
  obtain ⟨h1, h2, h3⟩ := hS.dfn f fn hf
  unfold runDK at h
  split at h
  · rename_i ca ops rest hb
    obtain ⟨id, hbody⟩ := defBody_spec hb
    split at h
    · rename_i o1 fo hd
      obtain ⟨o2, rfl, b1, b2, c, b3, b4, b5⟩ := defOps_spec hd
      have hr1 := hr.lowed ⟨E.w.heap.size, [], false⟩
      have hx1 := hx.pmono (pre_lowed E ⟨E.w.heap.size, [], false⟩)
      have ha : ARel (E.lowed ⟨E.w.heap.size, [], false⟩) (args ++ List.replicate (fn.ntmps - args.length) .top) { tmps := xs ++ Array.replicate (fn.ntmps - xs.size) undef, defers := [] } := by
        refine ⟨?_, Marks.nil (Nat.le_refl _) rfl⟩
        refine vrelL_append hx1 ⟨by rw [hx.1]; simp, ?_⟩
        intro i u y hu hy
        have := List.eq_of_mem_replicate (List.mem_of_getElem? hu)
        subst this
        exact .top _
      refine callsIn_wide.1 (callsIn_of_wp_marks (F := Fence.wide) (n := 0) h1 hbody trivial (wpIn_seq (wpIn_mono (den_sound none hS hcall hdraw n ca _ H _ _ (E.lowed ⟨E.w.heap.size, [], false⟩) _ h hr1 ha (.inl ⟨rfl, rfl⟩)) ?_)))
      rintro e a' w' ⟨ex, s', H1, E1, g1, gx, rfl, g2, g3, g4⟩
      cases gx with
      | exit i => cases g1
      | goto l => cases g1
      | ret => cases g1
      | panic v z hz => cases g1
      | normal =>
      simp only at g1
      refine wpIn_seq (wpIn_region ?_)
      have hst := step_sound none hS hcall g1 g3 g4 (wpOpsIn (WR none) 0 P #[o1, o2] (Exit.then (rest.wpIn Fence.wide 0 P (bodyPostM Fence.wide 0 P fn (EndOK S E r))) (bodyPostM Fence.wide 0 P fn (EndOK S E r))) [1]) (Exit.then (rest.wpIn Fence.wide 0 P (bodyPostM Fence.wide 0 P fn (EndOK S E r))) (bodyPostM Fence.wide 0 P fn (EndOK S E r))) ?_
      · show wpOpsIn (WR none) 0 P #[o1, o2] _ [0, 1] a' E1.w
        have ho : (#[o1, o2] : Array Oper)[0]? = some o1 := rfl
        rw [wpOpsIn]
        simp only [ho]
        split at hst
        · rename_i hw; rw [if_pos hw]; exact hst
        · rename_i hw; rw [if_neg hw]; exact ⟨fun _ _ => trivial, hst⟩
      intro s2 H2 a2 E2 k1 k2 k3 k4
      have k1' : (optK (closOf (ev S.G s2 fo)) fun g => denK S call (fun b => iter S.room b n) rest s2 H2 (endD S call (fun b => iter S.room b n) fn g)) = some r := k1
      obtain ⟨⟨g, cap⟩, q1, q2⟩ := optK_inv k1'
      have hfo := ev_rel k3 k4 fo
      generalize hX : a2.eval fo = X at hfo
      obtain ⟨first, caps, e1, e2⟩ : ∃ first caps, ev S.G s2 fo = .func (.func g) first caps ∧ cap = first ++ caps := by
        unfold closOf at q1
        split at q1
        · rename_i g' first caps hfv
          simp only [Option.some.injEq, Prod.mk.injEq] at q1
          obtain ⟨rfl, rfl⟩ := q1
          exact ⟨first, caps, hfv, rfl⟩
        · cases q1
      subst e2
      rw [e1] at hfo
      cases hfo with
      | func _ _ _ xs1 ys1 hfn m1 m2 m3 m4 =>
      have hclo : VRelL E2 (first ++ caps) (xs1 ++ ys1) := vrelL_append ⟨m1, m2⟩ ⟨m3, m4⟩
      let d : Deferred := { target := .fn (.func g) ys1, args := xs1 }
      have ho2 : (#[o1, o2] : Array Oper)[1]? = some o2 := rfl
      have hex : (execOp a2.eval o2).run P E2.w = .ok (.defer d) E2.w := by
        obtain ⟨dst, op, type, pos, after, guard⟩ := o2
        simp only at b3
        subst b3
        obtain ⟨callee, cargs, cts⟩ := c
        simp only at b4 b5
        subst b4; subst b5
        simp only [execOp, Go.resolve, hX, Deferred.ofValue, Sem.run_bind, Sem.run_pure, Result.andThen_ok, d]
        simp
      rw [wpOpsIn]
      simp only [ho2]
      rw [if_pos (by simp [Region.wanted, b2])]
      refine ⟨fun _ _ => trivial, ?_⟩
      have hsem : (o2.semAt (WR none).round a2.eval).run P E2.w = .ok (.defer d) E2.w := by
        show (o2.semAt none a2.eval).run P E2.w = _
        rw [Oper.semAt_none]; exact hex
      rw [hsem, Oper.uponIn_defer, b1]
      show rest.wpIn Fence.wide 0 P (bodyPostM Fence.wide 0 P fn (EndOK S E r)) { a2 with defers := d :: a2.defers } E2.w
      have kr := k3.lowed ⟨E2.w.heap.size, d :: a2.defers, false⟩
      have ka : ARel (E2.lowed ⟨E2.w.heap.size, d :: a2.defers, false⟩) s2 { a2 with defers := d :: a2.defers } :=
        ⟨k4.tmps.pmono (pre_lowed _ _), Nat.le_refl _, [], rfl, .nil, by simp⟩
      refine wpIn_mono (den_sound none hS hcall hdraw n rest s2 H2 _ _ (E2.lowed ⟨E2.w.heap.size, d :: a2.defers, false⟩) _ q2 kr ka (.inl ⟨rfl, rfl⟩)) ?_
      rintro e a3 w3 ⟨ex3, s3, H3, E3, j1, jx, rfl, j2, j3, j4⟩
      obtain ⟨m0, bs, mm1, mm2, mm3⟩ := j4.defers
      -- the deferred call, then what was there before
      have key : ∀ {x : AV} {y : Value} {u u' : FrameMode}, Modes u y u' → (T : GE → Prop) → (∀ A B : GE, A.pre B → T A → T B) → T E3 → (∀ A, T A → VRel A x y) → (hres : (optK (recK S call (fun b => iter S.room b n) g (first ++ caps) H3 x) fun H => endR S fn .ret s3 H) = some r) →
          LeavesInM Fence.wide 0 P fn a3.tmps (EndOK S E r) a3.defers u E3.w := by
        intro x y u u' hm T hT hT3 hTv hres
        obtain ⟨H4, hrec, hend⟩ := optK_inv hres
        have hu : u ≠ .run := by cases hm <;> simp
        have hset : settle u' = .returning := by cases hm <;> rfl
        rw [mm1, j2.low]
        refine leaves_marks (S := S) (H1 := H3) (E1 := E2.lowed ⟨E2.w.heap.size, d :: a2.defers, false⟩) hu (fun A => T A ∧ VRelL A s3 a3.tmps) (fun A B hp hv => ⟨hT A B hp hv.1, hv.2.pmono hp⟩) rfl ?_ bs E3 j2 j3 ⟨hT3, j4.tmps⟩ mm2 mm3
        rintro E4 n1 n2 ⟨n3, n4⟩
        obtain ⟨gfn, hg1, hg2, hg3⟩ : ∃ gfn, P.funcs[g]? = some gfn ∧ gfn.body.isSome = true ∧ gfn.name ≠ "runtime.NumGoroutine" := by
          unfold recK at hrec
          split at hrec
          · rename_i gfn hgfn
            exact ⟨gfn, hS.dfn g gfn hgfn⟩
          · cases hrec
        have hgb : ¬ gfn.body = none := by intro e; rw [e] at hg2; simp at hg2
        refine ⟨hu, .inr ⟨fun hd => by simp [Fence.wide] at hd, .func g, ys1, g, xs1 ++ ys1, rfl, ?_, fun _ _ => trivial, ?_⟩⟩
        · simp [d, invoke, callFunc, hg1, hg3, hgb]
        · have hx4 : VRelL E4 (first ++ caps) (xs1 ++ ys1) := (hclo.pmono (pre_lowed _ _)).mono n1
          refine (rec_sound hS hcall hdraw n hrec n2 hx4 (hTv E4 n3) hm).mono ?_
          rintro e u2 w4 ⟨⟨v, rfl⟩, rfl, E5, rfl, t1, t2⟩
          show LeavesInM Fence.wide 0 P fn a3.tmps (EndOK S E r) a2.defers (settle u2) E5.w
          rw [hset]
          have l1 : E2.le (E5.lowed E2.low) := le_lowed (n1.trans t1)
          have l0 : (E.lowed ⟨E.w.heap.size, [], false⟩).le (E5.lowed E2.low) := (g2.trans k2).trans l1
          obtain ⟨p0, bs1, p1, p2, p3⟩ := k4.defers.mono l1
          have hlow5 : (E5.lowed E2.low).low = ⟨E.w.heap.size, [], false⟩ := l0.low
          rw [p1, hlow5]
          refine leaves_marks (S := S) (H1 := H4) (E1 := E.lowed ⟨E.w.heap.size, [], false⟩) (by simp) (fun A => VRelL A s3 a3.tmps) (fun A B hp hv => hv.pmono hp) rfl ?_ bs1 (E5.lowed E2.low) l0 (t2.lowed _) ((n4.mono t1).pmono (pre_lowed _ _)) p2 p3
          intro E6 o1 o2 o3
          exact end_sound hS (E' := E6) hend o1 o2 o3
      cases jx with
      | normal => exact key .ret (fun _ => True) (fun _ _ _ _ => trivial) trivial (fun _ _ => .niliface) j1
      | ret => exact key .ret (fun _ => True) (fun _ _ _ _ => trivial) trivial (fun _ _ => .niliface) j1
      | exit i => cases j1
      | goto l => cases j1
      | panic v x hv => exact key (.pan x) (fun A => VRel A v x) (fun A B hp hv => hv.pmono hp) hv (fun _ h => h) j1
    · cases h
  · cases h
end Go.Sx

/- THE ENGINE, 23: calls with trees; the program. -/
set_option linter.unusedSimpArgs false
set_option linter.unusedVariables false
namespace Go.Sx
variable {S : Sys} {P : Program}

def GE.bare (E : GE) (T : Nat → Nat → Prop) : GE := { w := E.w, nid := 0, ρ := fun _ => none, nt := 0, τ := fun _ _ => none, S := T, base := E.w.heap.size, low := E.low }

mutual
theorem erase_below {n m : Nat} : ∀ {v : AV}, Go.Sx.below n m v = true → Go.Sx.below n m (erase v) = true
  | .top, h => h
  | .bool _, h => h
  | .int _ _, h => h
  | .str _, h => h
  | .ptr _ _, h => h
  | .nilptr, h => h
  | .rop v, h => by simp only [erase, Go.Sx.below] at h ⊢; exact erase_below h
  | .nils, h => h
  | .inl f p sz xs, h => by
    simp only [erase, Go.Sx.below, Bool.and_eq_true] at h ⊢
    exact ⟨trivial, eraseL_below h.2⟩
  | .sl _ _ _ _ _ _, h => h
  | .map _, h => h
  | .nilmap, h => h
  | .func fn a b, h => by
    cases fn <;> simp only [erase, Go.Sx.below, Bool.and_eq_true] at h ⊢
    case yield id => exact ⟨h.1, eraseL_below h.2.1, eraseL_below h.2.2⟩
    all_goals exact ⟨eraseL_below h.1, eraseL_below h.2⟩
  | .nilfunc, h => h
  | .iface t v, h => by simp only [erase, Go.Sx.below] at h ⊢; exact erase_below h
  | .niliface, h => h
  | .agg cs, h => by simp only [erase, Go.Sx.below] at h ⊢; exact eraseL_below h
  | .tuple vs, h => by simp only [erase, Go.Sx.below] at h ⊢; exact eraseL_below h
theorem eraseL_below {n m : Nat} : ∀ {vs : List AV}, belowL n m vs = true → belowL n m (eraseL vs) = true
  | [], h => h
  | v :: vs, h => by
    simp only [eraseL, belowL, Bool.and_eq_true] at h ⊢
    exact ⟨erase_below h.1, eraseL_below h.2⟩
end

theorem eraseL_get : ∀ (vs : List AV) (i : Nat), (eraseL vs)[i]? = (vs[i]?).map erase
  | [], i => by simp [eraseL]
  | v :: vs, 0 => by simp [eraseL]
  | v :: vs, i + 1 => by simp [eraseL, eraseL_get vs i]
theorem eraseL_length : ∀ (vs : List AV), (eraseL vs).length = vs.length
  | [] => rfl
  | v :: vs => by simp [eraseL, eraseL_length vs]
theorem erase_cells_length (v : AV) : (erase v).cells.length = v.cells.length := by
  cases v <;> simp [erase, AV.cells, eraseL_length]
theorem erase_cells_get (v : AV) (j : Nat) (c : AV) (h : (erase v).cells[j]? = some c) : ∃ d, v.cells[j]? = some d ∧ c = erase d := by
  by_cases ha : ∃ cs, v = .agg cs
  · obtain ⟨cs, rfl⟩ := ha
    simp only [erase, AV.cells, eraseL_get, Option.map_eq_some_iff] at h
    obtain ⟨d, h1, h2⟩ := h
    exact ⟨d, h1, h2.symm⟩
  · have hv : v.cells = [v] := by cases v <;> simp_all [AV.cells]
    have hd : (erase v).cells = [erase v] := by cases v <;> simp_all [AV.cells, erase]
    rw [hd] at h
    rw [hv]
    cases j with
    | zero => simp at h; exact ⟨v, rfl, h.symm⟩
    | succ j => simp at h

theorem erase_rel {E : GE} {T : Nat → Nat → Prop} (hT : ∀ b o, E.S b o → T b o) {v : AV} {x : Value} (hv : VRel E v x) (hb : Go.Sx.below 0 0 (erase v) = true) : VRel (E.bare T) (erase v) x := by
  revert hb
  induction hv with
  | top v => exact fun _ => .top v
  | bool b => exact fun _ => .bool b
  | int k n => exact fun _ => .int k n
  | str s => exact fun _ => .str s
  | ptr id off b hid h => intro hb; simp [erase, Go.Sx.below] at hb
  | nilptr => exact fun _ => .nilptr
  | rop v a x hx hr ih =>
    intro hb
    refine .rop _ a x (fun j hj => ?_) (fun j c hc => ?_)
    · rw [erase_cells_length] at hj
      exact ⟨(hx j hj).1, (hx j hj).2.1, hT _ _ (hx j hj).2.2⟩
    · have hbc := below_cells (v := erase v) hb j c hc
      obtain ⟨d, h1, rfl⟩ := erase_cells_get v j c hc
      exact ih j d h1 hbc
  | nils => exact fun _ => .nils
  | inl f p sz xs a cap x hsz hx hr hcap hf hp ih =>
    intro hb
    simp only [erase, Go.Sx.below, Bool.true_and] at hb
    have hl := eraseL_length xs
    have key : VRel (E.bare T) (.inl false .unk sz (eraseL xs)) (.slice (some a) (eraseL xs).length cap) := by
      refine .inl false .unk sz (eraseL xs) a cap x ?_ (fun i j hi hj => ?_) ?_ (by omega) (by simp) trivial
      · intro v hv
        obtain ⟨i, hi⟩ := List.getElem?_of_mem hv
        rw [eraseL_get, Option.map_eq_some_iff] at hi
        obtain ⟨u, hu, rfl⟩ := hi
        rw [erase_cells_length]; exact hsz u (List.mem_of_getElem? hu)
      · have := hx i j (by omega) hj
        exact ⟨this.1, this.2.1, hT _ _ this.2.2⟩
      · intro i v j c hi hj
        have hbv := belowL_get _ hb i v hi
        have hbc := below_cells hbv j c hj
        rw [eraseL_get, Option.map_eq_some_iff] at hi
        obtain ⟨u, hu, rfl⟩ := hi
        obtain ⟨d, h1, rfl⟩ := erase_cells_get u j c hj
        exact ih i u j d hu h1 hbc
    rw [hl] at key
    exact key
  | sl id off len cap sz ag b c hid h hl hc hag hcp => intro hb; simp [erase, Go.Sx.below] at hb
  | map id b hid h => intro hb; simp [erase, Go.Sx.below] at hb
  | nilmap => exact fun _ => .nilmap
  | yield id b hid h => intro hb; simp [erase, Go.Sx.below] at hb
  | func fn as bs xs ys hfn h1 _ h3 _ ih2 ih4 =>
    intro hb
    have hb' : belowL 0 0 (eraseL as) = true ∧ belowL 0 0 (eraseL bs) = true := by
      unfold erase Go.Sx.below at hb
      split at hb <;> simp_all
    refine .func fn (eraseL as) (eraseL bs) xs ys hfn (by rw [eraseL_length]; exact h1) ?_ (by rw [eraseL_length]; exact h3) ?_
    · intro i v x hv hx
      have hbv := belowL_get _ hb'.1 i v hv
      rw [eraseL_get, Option.map_eq_some_iff] at hv
      obtain ⟨u, hu, rfl⟩ := hv
      exact ih2 i u x hu hx hbv
    · intro i v x hv hx
      have hbv := belowL_get _ hb'.2 i v hv
      rw [eraseL_get, Option.map_eq_some_iff] at hv
      obtain ⟨u, hu, rfl⟩ := hv
      exact ih4 i u x hu hx hbv
  | nilfunc => exact fun _ => .nilfunc
  | iface t v x _ ih => intro hb; exact .iface t _ x (ih hb)
  | niliface => exact fun _ => .niliface
  | agg cs xs h1 _ h3 ih =>
    intro hb
    refine .agg (eraseL cs) xs (by rw [eraseL_length]; exact h1) ?_ h3
    intro i v x hv hx
    have hbv := belowL_get _ hb i v hv
    rw [eraseL_get, Option.map_eq_some_iff] at hv
    obtain ⟨u, hu, rfl⟩ := hv
    exact ih i u x hu hx hbv
  | tuple vs xs h1 _ ih =>
    intro hb
    refine .tuple (eraseL vs) xs (by rw [eraseL_length]; exact h1) ?_
    intro i v x hv hx
    have hbv := belowL_get _ hb i v hv
    rw [eraseL_get, Option.map_eq_some_iff] at hv
    obtain ⟨u, hu, rfl⟩ := hv
    exact ih i u x hu hx hbv

theorem resolveCs_rel {H : AH} : ∀ (cs us : List AV), resolveCs H cs = some us → us.length = cs.length ∧ ∀ (i : Nat) u, us[i]? = some u → ∃ c, cs[i]? = some c ∧ resolveC H c = some u
  | [], us, h => by simp [resolveCs] at h; subst h; simp
  | c :: cs, us, h => by
    simp only [resolveCs] at h
    split at h
    · rename_i x xs hx hxs
      simp only [Option.some.injEq] at h
      subst h
      obtain ⟨h1, h2⟩ := resolveCs_rel cs xs hxs
      refine ⟨by simp [h1], ?_⟩
      intro i u hu
      cases i with
      | zero => simp at hu; subst hu; exact ⟨c, rfl, hx⟩
      | succ i => simpa using h2 i u (by simpa using hu)
    · simp at h

theorem resolve_rel {H : AH} {E : GE} (hr : HRel H E) {v u : AV} (h : resolve H v = some u) {x : Value} (hx : VRel E v x) : VRel E.all u x := by
  unfold resolve at h
  split at h
  · rename_i cs
    split at h
    · rename_i us hus
      simp only [Option.some.injEq] at h
      subst h
      obtain ⟨k1, k2⟩ := resolveCs_rel cs us hus
      cases hx with
      | agg _ xs h1 h2 h3 =>
      refine .agg us xs (by omega) ?_ h3
      intro i u x hu hx
      obtain ⟨c, hc, hcu⟩ := k2 i u hu
      exact resolveC_rel hr hcu (h2 i c x hc hx)
    · simp at h
  · exact resolveC_rel hr h hx

theorem resolveC_clean {H : AH} {v u : AV} (h : resolveC H v = some u) (hb : Go.Sx.below 0 0 v = true) : u = v := by
  unfold resolveC at h
  split at h
  · simp [Go.Sx.below] at hb
  · exact (Option.some.inj h).symm

theorem resolveCs_clean {H : AH} : ∀ (cs us : List AV), resolveCs H cs = some us → belowL 0 0 cs = true → us = cs
  | [], us, h, _ => by simp [resolveCs] at h; exact h
  | c :: cs, us, h, hb => by
    simp only [belowL, Bool.and_eq_true] at hb
    simp only [resolveCs] at h
    split at h
    · rename_i x xs hx hxs
      simp only [Option.some.injEq] at h
      subst h
      rw [resolveC_clean hx hb.1, resolveCs_clean cs xs hxs hb.2]
    · simp at h

theorem resolve_clean {H : AH} {v u : AV} (h : resolve H v = some u) (hb : Go.Sx.below 0 0 v = true) : u = v := by
  unfold resolve at h
  split at h
  · rename_i cs
    split at h
    · rename_i us hus
      simp only [Option.some.injEq] at h
      subst h
      rw [resolveCs_clean cs us hus hb]
    · simp at h
  · exact resolveC_clean h hb

/-- What a callee with trees is handed. T: what it may take as settled. -/
def handed (H : AH) (E : GE) (args : List AV) : Nat → Nat → Prop := if belowL 0 0 args = true then E.S else E.all.S

theorem resolveL_rel {H : AH} {E : GE} (hr : HRel H E) : ∀ (args ts : List AV) (xs : List Value) (T : Nat → Nat → Prop), resolveL H args = some ts → args.length = xs.length → (∀ (i : Nat) v x, args[i]? = some v → xs[i]? = some x → VRel E v x) →
    ((∀ b o, E.all.S b o → T b o) ∨ (belowL 0 0 args = true ∧ ∀ b o, E.S b o → T b o)) → ts.length = xs.length ∧ ∀ (i : Nat) v x, ts[i]? = some v → xs[i]? = some x → VRel (E.bare T) v x
  | [], ts, xs, T, h, hl, hv, _ => by
    simp [resolveL] at h; subst h
    exact ⟨hl, by simp⟩
  | v :: args, ts, xs, T, h, hl, hv, hT => by
    cases xs with
    | nil => simp at hl
    | cons x xs =>
    simp only [resolveL] at h
    split at h
    · rename_i u us hu hus
      have hvx := hv 0 v x rfl rfl
      have hT' : (∀ b o, E.all.S b o → T b o) ∨ (belowL 0 0 args = true ∧ ∀ b o, E.S b o → T b o) := by
        rcases hT with h | ⟨h1, h2⟩
        · exact .inl h
        · simp only [belowL, Bool.and_eq_true] at h1
          exact .inr ⟨h1.2, h2⟩
      obtain ⟨g1, g2⟩ := resolveL_rel hr args us xs T hus (by simpa using hl) (fun i v x a b => hv (i + 1) v x (by simpa using a) (by simpa using b)) hT'
      have fin : ∀ y, some (y :: us) = some ts → VRel (E.bare T) y x → ts.length = (x :: xs).length ∧ ∀ (i : Nat) v z, ts[i]? = some v → (x :: xs)[i]? = some z → VRel (E.bare T) v z := by
        intro y he hy
        simp only [Option.some.injEq] at he
        subst he
        refine ⟨by simp [g1], ?_⟩
        intro i w z hw hz
        cases i with
        | zero =>
          simp at hw hz
          subst hw; subst hz
          exact hy
        | succ i => exact g2 i w z (by simpa using hw) (by simpa using hz)
      split at h
      · rename_i hb
        refine fin _ h ?_
        rcases hT with h | ⟨h1, h2⟩
        · exact erase_rel (E := E.all) h (resolve_rel hr hu hvx) hb
        · simp only [belowL, Bool.and_eq_true] at h1
          have e := resolve_clean hu h1.1
          subst e
          exact erase_rel h2 hvx hb
      · rename_i hb
        obtain ⟨y, hy, he⟩ := optM_inv h
        refine fin y he ?_
        unfold deepV at hy
        split at hy
        · rename_i y0 hy0
          split at hy
          · rename_i hb0
            obtain rfl := Option.some.inj hy
            rcases hT with h | ⟨h1, h2⟩
            · exact erase_rel (E := E.still) h (frz_rel (still_settles hr) hr _ _ _ _ hy0 hvx) hb0
            · exfalso
              simp only [belowL, Bool.and_eq_true] at h1
              have e := resolve_clean hu h1.1
              subst e
              exact hb (erase_below h1.1)
          · cases hy
        · cases hy
    · simp at h

theorem bare_rel (hS : SysOK S P) {H : AH} {E : GE} (hr : Rel S H E) {T : Nat → Nat → Prop} (h1 : ∀ b o, E.S b o → T b o) (h2 : ∀ b o, T b o → (E.w.cell? ⟨b, o, none⟩).isSome = true) : Rel S ⟨[], []⟩ (E.bare T) := by
  constructor
  · constructor
    · rfl
    · rfl
    · intro id o h; simp at h
    · intro i j b o1 o2 h; simp at h
    · intro t g sz u p h; simp at h
    · intro t g sz u g' h; simp at h
    · intro t g p id b ht; exact absurd ht (Nat.not_lt_zero _)
    · intro t g p t' g' p' ht; exact absurd ht (Nat.not_lt_zero _)
    · intro t g p ht; exact absurd ht (Nat.not_lt_zero _)
    · exact h2
    · intro b hb
      rcases hb with ⟨id, hid, _⟩ | ⟨t, g, p, ht, _⟩
      · exact absurd hid (Nat.not_lt_zero _)
      · exact absurd ht (Nat.not_lt_zero _)
    · exact Nat.le_refl _
  · intro n
    obtain ⟨e1, e2⟩ := hS.glob n
    have := erase_rel h1 (hr.g n) (by rw [e1]; exact e2)
    rwa [e1] at this
  · intro p hp
    obtain ⟨f1, f2, o, f3⟩ := hr.x p hp
    refine ⟨f1, ?_, o, h1 _ _ f3⟩
    rintro (⟨id, hid, _⟩ | ⟨t, g, p, ht, _⟩)
    · exact absurd hid (Nat.not_lt_zero _)
    · exact absurd ht (Nat.not_lt_zero _)

/-- The caller's state behind a call with trees. -/
def GE.behind (E E1 : GE) : GE := { E with w := E1.w, S := fun b o => E.S b o ∨ (E.w.heap.size ≤ b ∧ E1.S b o) }

theorem behind_le {H : AH} {E : GE} (hr : HRel H E) {T : Nat → Nat → Prop} {E1 : GE} (hle : (E.bare T).le E1) : E.le (E.behind E1) := by
  have hno : ∀ b, ¬ (E.bare T).owned b := by
    intro b hb
    rcases hb with ⟨id, hid, _⟩ | ⟨t, g, p, ht, _⟩
    · exact absurd hid (Nat.not_lt_zero _)
    · exact absurd ht (Nat.not_lt_zero _)
  have hblk : ∀ b, b < E.w.heap.size → E1.w.heap[b]? = E.w.heap[b]? := fun b hb => hle.block b hb (hno b)
  refine ⟨⟨?_, ?_, ?_, ?_, ?_, ?_, ?_, fun _ _ => rfl⟩, rfl, ?_, ?_, ?_, ?_, ?_, ?_, ?_⟩
  · exact Nat.le_refl _
  · exact fun _ _ _ h => h
  · exact Nat.le_refl _
  · exact fun _ _ _ _ h => h
  · exact fun _ _ h => .inl h
  · exact fun b o hb => cell_of_block (hblk b (hr.Slt _ _ hb))
  · rfl
  · intro b o hb
    rcases hb with h | ⟨h, _⟩
    · exact .inl h
    · exact .inr (.inl h)
  · exact fun _ _ h => h
  · exact hle.os
  · exact hle.tape
  · exact hle.output
  · exact hle.size
  · exact fun b hb _ => hblk b hb

theorem behind_rel {H H1 : AH} {E : GE} (hr : Rel S H E) {T : Nat → Nat → Prop} {E1 : GE} (hle : (E.bare T).le E1) (hr1 : HRel H1 E1) : Rel S H (E.behind E1) := by
  have hb := behind_le hr.h hle
  have hno : ∀ b, ¬ (E.bare T).owned b := by
    intro b hb
    rcases hb with ⟨id, hid, _⟩ | ⟨t, g, p, ht, _⟩
    · exact absurd hid (Nat.not_lt_zero _)
    · exact absurd ht (Nat.not_lt_zero _)
  have hblk : ∀ b, b < E.w.heap.size → E1.w.heap[b]? = E.w.heap[b]? := fun b hb => hle.block b hb (hno b)
  refine hr.mono hb ?_
  have h := hr.h
  constructor
  · exact h.nid
  · exact h.nt
  · intro id o ho
    have hid := h.idlt ho
    refine (h.obj id o ho).mono hb hid (fun k hk => hblk k (h.lt k (.inl ⟨id, hid, hk⟩))) ?_
    intro k o' hk hS
    rcases hS with h1 | ⟨h1, _⟩
    · exact h1
    · have := h.lt k (.inl ⟨id, hid, hk⟩); omega
  · exact h.inj
  · intro t g sz u p ht hp
    obtain ⟨k, e, ce, c, rfl, q2, q3, q4, q5, q6⟩ := h.tok t g sz u p ht hp
    have hk := h.lt k (.inr ⟨t, g, _, h.tlt ht, hp, rfl⟩)
    refine ⟨k, e, ce, c, rfl, (hblk k hk).trans q2, q3, q4, q5, ?_⟩
    intro o ho hS
    rcases hS with h1 | ⟨h1, _⟩
    · exact q6 o ho h1
    · omega
  · exact h.late
  · exact h.tsep
  · exact h.tinj
  · exact h.tbase
  · intro b o hS
    rcases hS with h1 | ⟨_, h1⟩
    · have := h.set b o h1
      rwa [← cell_of_block (w' := E1.w) (hblk b (h.Slt _ _ h1))] at this
    · exact hr1.set b o h1
  · intro b hb'
    exact Nat.lt_of_lt_of_le (h.lt b hb') hle.size
  · exact Nat.le_trans h.hbase hle.size

theorem isNewL_get : ∀ (vs : List AV), isNewL vs = true → ∀ (i : Nat) v, vs[i]? = some v → isNew v = true
  | [], _, i, v, h => by simp at h
  | u :: vs, h, 0, v, hv => by
    simp only [isNewL, Bool.and_eq_true] at h
    simp only [List.getElem?_cons_zero, Option.some.injEq] at hv
    subst hv; exact h.1
  | u :: vs, h, i + 1, v, hv => by
    simp only [isNewL, Bool.and_eq_true] at h
    exact isNewL_get vs h.2 i v (by simpa using hv)

theorem isNew_cells {v : AV} (h : isNew v = true) (i : Nat) (c : AV) (hc : v.cells[i]? = some c) : isNew c = true := by
  by_cases ha : ∃ cs, v = .agg cs
  · obtain ⟨cs, rfl⟩ := ha
    exact isNewL_get cs h i c hc
  · have hv : v.cells = [v] := by cases v <;> simp_all [AV.cells]
    rw [hv] at hc
    cases i with
    | zero => simp at hc; subst hc; exact h
    | succ i => simp at hc

theorem bare_snew {E : GE} {T : Nat → Nat → Prop} {E1 : GE} (hle : (E.bare T).le E1) (b o : Nat) (hS : E1.S b o) : T b o ∨ E.w.heap.size ≤ b := by
  rcases hle.snew b o hS with h1 | h1 | h1
  · exact .inl h1
  · exact .inr h1
  · rcases h1 with ⟨id, hid, _⟩ | ⟨t, g, p, ht, _⟩
    · exact absurd hid (Nat.not_lt_zero _)
    · exact absurd ht (Nat.not_lt_zero _)

/-- What comes back. -/
theorem back_val {H : AH} {E : GE} (hr : HRel H E) {T : Nat → Nat → Prop} {E1 : GE} (hbase : E1.base = E.w.heap.size) (hsn : ∀ b o, E1.S b o → T b o ∨ E.w.heap.size ≤ b) {v : AV} {x : Value} (hv : VRel E1 v x) (hT : (∀ b o, T b o → E.S b o) ∨ isNew v = true) (hb : Go.Sx.below 0 0 v = true) : VRel (E.behind E1) v x := by
  have hold : (∀ b o, T b o → E.S b o) → ∀ b o, E1.S b o → (E.behind E1).S b o := by
    intro h b o hS
    rcases hsn b o hS with h1 | h1
    · exact .inl (h b o h1)
    · exact .inr ⟨h1, hS⟩
  revert hb hT
  induction hv with
  | top v => exact fun _ _ => .top v
  | bool b => exact fun _ _ => .bool b
  | int k n => exact fun _ _ => .int k n
  | str s => exact fun _ _ => .str s
  | ptr id off b hid h => intro _ hb; simp [Go.Sx.below] at hb
  | nilptr => exact fun _ _ => .nilptr
  | rop v a x hx hr ih =>
    intro hT hb
    rcases hT with h | h
    · exact .rop v a x (fun j hj => ⟨(hx j hj).1, (hx j hj).2.1, hold h _ _ (hx j hj).2.2⟩) (fun j c hc => ih j c hc (.inl h) (below_cells (v := v) hb j c hc))
    · simp [isNew] at h
  | nils => exact fun _ _ => .nils
  | inl f p sz xs a cap x hsz hx hr' hcap hf hp ih =>
    intro hT hb
    simp only [Go.Sx.below, Bool.and_eq_true] at hb
    have hfb : f = true → E.w.heap.size ≤ a.block := by
      intro h
      have := hf h
      rw [hbase] at this
      exact this
    refine .inl f p sz xs a cap x hsz (fun i j hi hj => ⟨(hx i j hi hj).1, (hx i j hi hj).2.1, ?_⟩) ?_ hcap ?_ ?_
    · rcases hT with h | h
      · exact hold h _ _ (hx i j hi hj).2.2
      · simp only [isNew, Bool.and_eq_true] at h
        exact .inr ⟨hfb h.1, (hx i j hi hj).2.2⟩
    · intro i v j c hi hc
      refine ih i v j c hi hc ?_ (below_cells (belowL_get xs hb.2 i v hi) j c hc)
      rcases hT with h | h
      · exact .inl h
      · simp only [isNew, Bool.and_eq_true] at h
        exact .inr (isNew_cells (isNewL_get xs h.2 i v hi) j c hc)
    · intro h
      exact Nat.le_trans hr.hbase (hfb h)
    · cases p with
      | unk => trivial
      | zero => exact hp
      | tok t g => simp at hb
  | sl id off len cap sz ag b c hid h hl hc hag => intro _ hb; simp [Go.Sx.below] at hb
  | map id b hid h => intro _ hb; simp [Go.Sx.below] at hb
  | nilmap => exact fun _ _ => .nilmap
  | yield id b hid h => intro _ hb; simp [Go.Sx.below] at hb
  | func fn as bs xs ys hfn h1 _ h3 _ ih2 ih4 =>
    intro hT hb
    have hb' : belowL 0 0 as = true ∧ belowL 0 0 bs = true := by
      unfold Go.Sx.below at hb
      split at hb <;> simp_all
    have hT' : ((∀ b o, T b o → E.S b o) ∨ isNewL as = true) ∧ ((∀ b o, T b o → E.S b o) ∨ isNewL bs = true) := by
      rcases hT with h | h
      · exact ⟨.inl h, .inl h⟩
      · simp only [isNew, Bool.and_eq_true] at h; exact ⟨.inr h.1, .inr h.2⟩
    refine .func fn as bs xs ys hfn h1 (fun i v x a b => ih2 i v x a b (hT'.1.imp id (fun h => isNewL_get as h i v a)) (belowL_get as hb'.1 i v a)) h3 (fun i v x a b => ih4 i v x a b (hT'.2.imp id (fun h => isNewL_get bs h i v a)) (belowL_get bs hb'.2 i v a))
  | nilfunc => exact fun _ _ => .nilfunc
  | iface t v x _ ih => intro hT hb; exact .iface t v x (ih hT hb)
  | niliface => exact fun _ _ => .niliface
  | agg cs xs h1 _ h3 ih =>
    intro hT hb
    exact .agg cs xs h1 (fun i v x a b => ih i v x a b (hT.imp id (fun h => isNewL_get cs h i v a)) (belowL_get cs hb i v a)) h3
  | tuple vs xs h1 _ ih =>
    intro hT hb
    exact .tuple vs xs h1 (fun i v x a b => ih i v x a b (hT.imp id (fun h => isNewL_get vs h i v a)) (belowL_get vs hb i v a))

mutual
theorem isNew_detok : ∀ v : AV, isNew (detok v) = isNew v
  | .top => rfl
  | .bool _ => rfl
  | .int _ _ => rfl
  | .str _ => rfl
  | .ptr _ _ => rfl
  | .nilptr => rfl
  | .rop _ => rfl
  | .nils => rfl
  | .inl f p sz xs => by simp only [detok, isNew, isNewL_detok xs]
  | .sl _ _ _ _ _ _ => rfl
  | .map _ => rfl
  | .nilmap => rfl
  | .func _ a b => by simp only [detok, isNew, isNewL_detok a, isNewL_detok b]
  | .nilfunc => rfl
  | .iface _ v => by simp only [detok, isNew, isNew_detok v]
  | .niliface => rfl
  | .agg cs => by simp only [detok, isNew, isNewL_detok cs]
  | .tuple vs => by simp only [detok, isNew, isNewL_detok vs]
theorem isNewL_detok : ∀ vs : List AV, isNewL (detokL vs) = isNewL vs
  | [] => rfl
  | v :: vs => by simp only [detokL, isNewL, isNew_detok v, isNewL_detok vs]
end

/-- What is known of a function of Go's library, say. -/
structure ExtOK (S : Sys) (P : Program) : Prop where
  val : ∀ f g, S.ext f = some g → (∃ fn, P.funcs[f]? = some fn ∧ fn.body.isSome = true ∧ fn.name ≠ "runtime.NumGoroutine") ∧
    ∀ ts v, g ts = some v → ∀ E xs, Rel S ⟨[], []⟩ E → VRelL E ts xs → Calls P f xs E.w fun e w' => ∃ x E' H', e = .returned x ∧ E'.w = w' ∧ E.le E' ∧ HRel H' E' ∧ VRel E' v x
  obj : ∀ f g, S.extH f = some g → ∀ args H v H', g args H = some (v, H') → ∀ E xs, Rel S H E → VRelL E args xs → Calls P f xs E.w fun e w' => ∃ x E', e = .returned x ∧ E'.w = w' ∧ E.le E' ∧ HRel H' E' ∧ VRel E' v x

theorem pure_sound (hS : SysOK S P) {f : FuncId} {args ts : List AV} {v v' : AV} {H : AH} (hts : resolveL H args = some ts) (hout : pureOut args v = some v')
    (hrun : ∀ E xs, Rel S ⟨[], []⟩ E → VRelL E ts xs → Calls P f xs E.w fun e w' => ∃ x E' H', e = .returned x ∧ E'.w = w' ∧ E.le E' ∧ HRel H' E' ∧ VRel E' v x)
    {E : GE} {xs : Array Value} (hr : Rel S H E) (hx : VRelL E args xs) : Calls P f xs E.w fun e w' => ∃ x E', e = .returned x ∧ E'.w = w' ∧ E.le E' ∧ Rel S H E' ∧ VRel E' v' x := by
  unfold pureOut at hout
  split at hout
  · rename_i hc
    simp only [Option.some.injEq] at hout
    subst hout
    simp only [Bool.and_eq_true, Bool.or_eq_true] at hc
    obtain ⟨hb, hclean⟩ := hc
    have main : ∀ T : Nat → Nat → Prop, (∀ b o, E.S b o → T b o) → (∀ b o, T b o → (E.w.cell? ⟨b, o, none⟩).isSome = true) →
        ((∀ b o, E.all.S b o → T b o) ∨ (belowL 0 0 args = true ∧ ∀ b o, E.S b o → T b o)) → ((∀ b o, T b o → E.S b o) ∨ isNew v = true) →
        Calls P f xs E.w fun e w' => ∃ x E', e = .returned x ∧ E'.w = w' ∧ E.le E' ∧ Rel S H E' ∧ VRel E' (detok v) x := by
      intro T t1 t2 t3 t4
      obtain ⟨g1, g2⟩ := resolveL_rel hr.h args ts xs.toList T hts (by simpa using hx.1) (fun i v x a b => hx.2 i v x a (by simpa using b)) t3
      refine (hrun (E.bare T) xs (bare_rel hS hr t1 t2) ⟨by simpa using g1, fun i v x a b => g2 i v x a (by simpa using b)⟩).mono ?_
      rintro e w' ⟨x, E', H', rfl, rfl, q1, q2, q3⟩
      refine ⟨x, E.behind E', rfl, rfl, behind_le hr.h q1, behind_rel hr q1 q2, back_val hr.h q1.base (bare_snew q1) (detok_rel q3) ?_ hb⟩
      refine t4.imp id ?_
      intro h
      rw [isNew_detok]; exact h
    rcases hclean with h | h
    · exact main E.S (fun _ _ h => h) (fun b o h => hr.h.set b o h) (.inr ⟨h, fun _ _ h => h⟩) (.inl fun _ _ h => h)
    · exact main E.all.S (fun b o h => hr.h.set b o h) (fun _ _ h => h) (.inl fun _ _ h => h) (.inr h)
  · simp at hout

theorem valOf_inv {o : Option Res} {p : AV × AH} (h : optK o Res.valOf = some p) : o = some (.val p.1 p.2) := by
  obtain ⟨r, h1, h2⟩ := optK_inv h
  cases r with
  | val v H =>
    simp only [Res.valOf, Option.some.injEq] at h2
    rw [h1, ← h2]
  | pan v H => simp [Res.valOf] at h2

theorem enter_sound (hS : SysOK S P) (hext : ExtOK S P) {call : Caller} (hcall : CallOK S P call) (hdraw : DrawSound S P call) (n : Nat) {f : FuncId} {args : List AV} {H : AH} {r : Res} (h : enterF S call (fun b => iter S.room b n) f args H = some r) :
    (∃ fn, P.funcs[f]? = some fn ∧ fn.body.isSome = true ∧ fn.name ≠ "runtime.NumGoroutine") ∧ ∀ E xs, Rel S H E → VRelL E args xs → Calls P f xs E.w (EndOK S E r) := by
  unfold enterF at h
  split at h
  · rename_i g hg
    obtain ⟨ts, hts, h⟩ := optK_inv h
    obtain ⟨u, hu, h⟩ := optK_inv h
    obtain ⟨v', hv', h⟩ := optK_inv h
    simp only [Option.some.injEq] at h
    subst h
    obtain ⟨e1, e2⟩ := hext.val f g hg
    exact ⟨e1, fun E xs hr hx => pure_sound hS hts hv' (e2 ts u hu) hr hx⟩
  · split at h
    · split at h
      · simp at h
      · rename_i fn hfn
        refine ⟨⟨fn, hS.dfn f fn hfn⟩, ?_⟩
        split at h
        · obtain ⟨ts, hts, h⟩ := optK_inv h
          obtain ⟨p, hp, h⟩ := optK_inv h
          obtain ⟨v', hv', h⟩ := optK_inv h
          simp only [Option.some.injEq] at h
          subst h
          intro E xs hr hx
          refine pure_sound hS hts hv' ?_ hr hx
          intro E1 xs1 hr1 hx1
          obtain ⟨r, hrun, hth⟩ := optK_inv hp
          cases r with
          | pan v H1 => cases hth
          | val v H1 =>
          refine (runD_sound hS hcall hdraw n hfn hrun hr1 hx1).mono ?_
          rintro e w' ⟨x, E', rfl, rfl, q1, q2, q3⟩
          simp only [Res.thaw] at hth
          split at hth
          · obtain rfl := Option.some.inj hth
            exact ⟨x, E', _, rfl, rfl, q1, q2.h, q3⟩
          · obtain ⟨u, hu, h2⟩ := optK_inv hth
            obtain rfl := Option.some.inj h2
            exact ⟨x, E1.thaw E', ⟨[], []⟩, rfl, rfl, thaw_le hr1.h.nid hr1.h.nt q1, thaw_rel q2.h, frz_rel (thaw_settles q1 hr1.h.nid hr1.h.nt hr1.h.hbase) q2.h _ _ _ _ hu q3⟩
        · obtain ⟨p, hp, h⟩ := optK_inv h
          simp only [Option.some.injEq] at h
          subst h
          intro E xs hr hx
          refine (runD_sound hS hcall hdraw n hfn hp hr hx).mono ?_
          cases p with
          | val v H' =>
            rintro e w' ⟨x, E', rfl, rfl, q1, q2, q3⟩
            obtain ⟨E2, k1, k2, k3, k4⟩ := trunc_sound (v := v) (H' := H') hr q1 q2 q3
            exact ⟨x, E2, rfl, k1, k2, k3, k4⟩
          | pan v H' =>
            rintro e w' ⟨x, E', rfl, rfl, q1, q2, q3⟩
            obtain ⟨E2, k1, k2, k3, k4⟩ := trunc_sound (v := v) (H' := H') hr q1 q2 q3
            exact ⟨x, E2, rfl, k1, k2, k3, k4⟩
    · rename_i fn hfn
      refine ⟨⟨fn, hS.func f fn hfn⟩, ?_⟩
      split at h
      · obtain ⟨ts, hts, h⟩ := optK_inv h
        obtain ⟨p, hp, h⟩ := optK_inv h
        obtain ⟨v', hv', h⟩ := optK_inv h
        simp only [Option.some.injEq] at h
        subst h
        intro E xs hr hx
        refine pure_sound hS hts hv' ?_ hr hx
        intro E1 xs1 hr1 hx1
        obtain ⟨r, hrun, hth⟩ := optK_inv hp
        cases r with
        | pan v H1 => cases hth
        | val v H1 =>
        refine (run_sound hS hcall hdraw n hfn hrun hr1 hx1).mono ?_
        rintro e w' ⟨x, E', rfl, rfl, q1, q2, q3⟩
        simp only [Res.thaw] at hth
        split at hth
        · obtain rfl := Option.some.inj hth
          exact ⟨x, E', _, rfl, rfl, q1, q2.h, q3⟩
        · obtain ⟨u, hu, h2⟩ := optK_inv hth
          obtain rfl := Option.some.inj h2
          exact ⟨x, E1.thaw E', ⟨[], []⟩, rfl, rfl, thaw_le hr1.h.nid hr1.h.nt q1, thaw_rel q2.h, frz_rel (thaw_settles q1 hr1.h.nid hr1.h.nt hr1.h.hbase) q2.h _ _ _ _ hu q3⟩
      · split at h
        · rename_i g hg
          obtain ⟨p, hp, h⟩ := optK_inv h
          simp only [Option.some.injEq] at h
          subst h
          intro E xs hr hx
          refine (hext.obj f g hg _ _ p.1 p.2 hp E xs hr hx).mono ?_
          rintro e w' ⟨x, E', rfl, rfl, q1, q2, q3⟩
          exact ⟨x, E', rfl, rfl, q1, hr.mono q1 q2, q3⟩
        obtain ⟨p, hp, h⟩ := optK_inv h
        unfold outR at h
        split at h
        · intro E xs hr hx
          refine (run_sound hS hcall hdraw n hfn hp hr hx).mono ?_
          cases p with
          | val v H' =>
            rintro e w' ⟨x, E', rfl, rfl, q1, q2, q3⟩
            obtain ⟨u, H2, rfl, E2, k1, k2, k3, k4⟩ := thawR_sound hr q1 q2 q3 h
            exact ⟨x, E2, rfl, k1, k2, k3, k4⟩
          | pan v H' => cases h
        simp only [Option.some.injEq] at h
        subst h
        intro E xs hr hx
        refine (run_sound hS hcall hdraw n hfn hp hr hx).mono ?_
        cases p with
        | val v H' =>
          rintro e w' ⟨x, E', rfl, rfl, q1, q2, q3⟩
          obtain ⟨E2, k1, k2, k3, k4⟩ := trunc_sound (v := v) (H' := H') hr q1 q2 q3
          exact ⟨x, E2, rfl, k1, k2, k3, k4⟩
        | pan v H' =>
          rintro e w' ⟨x, E', rfl, rfl, q1, q2, q3⟩
          obtain ⟨E2, k1, k2, k3, k4⟩ := trunc_sound (v := v) (H' := H') hr q1 q2 q3
          exact ⟨x, E2, rfl, k1, k2, k3, k4⟩

end Go.Sx

/- THE ENGINE, 21: code. -/
import Derived.Test.YtoagnbpmoihojaaDoorSxLoops
set_option linter.unusedSimpArgs false
set_option linter.unusedVariables false
namespace Go.Sx
variable {S : Sys} {P : Program}

def Ex.out : Ex → Exit
  | .normal => .normal
  | .exit id => .exit id
  | .ret => .ret

/-- Where code lands. -/
def Lands {R : Type} (S : Sys) (K : Ex → List AV → AH → Option R) (r : R) (E0 : GE) : Exit → Act → World → Prop := fun e a' w' =>
  ∃ ex s' H' E', K ex s' H' = some r ∧ e = ex.out ∧ E'.w = w' ∧ E0.le E' ∧ Rel S H' E' ∧ ARel E' s' a'

/-- A region whose order is drawn. -/
def DrawSound (S : Sys) (P : Program) (call : Caller) : Prop :=
  ∀ (ro : Option Nat) (id : Nat) (ops : Array Oper) {R : Type} (s : List AV) (H : AH) (K : List AV → AH → Option R) (r : R) (E : GE) (a : Act), ((drawOK S ops = true ∧ opsK S call ops ops.toList s H K = some r) ∨ (drawOK2 S ops = true ∧ optK (runB (bornId H.objs.length (birthsOf ops.toList)) S call ops ops.toList s (reserve H (birthsOf ops.toList).length)) (fun p => K p.1 p.2) = some r)) → Rel S H E → ARel E s a →
    (Code.region id ops true).wpIn (WR ro) 0 P (Lands S (fun e s H => match e with | .normal => K s H | _ => none) r E) a E.w

theorem iter_sound (ro : Option Nat) {call : Caller} {lp : Looper} {c : Code}
    (ih : ∀ (s : List AV) (H : AH) (r : Out) (E : GE) (a : Act), denK S call lp c s H retO = some r → Rel S H E → ARel E s a → c.wpIn (WR ro) 0 P (Lands S retO r E) a E.w)
    (Q : Exit → Act → World → Prop) (E0 : GE) (o : Out) (hQ : ∀ a' E', E0.le E' → Rel S o.2.2 E' → ARel E' o.2.1 a' → Q o.1.out a' E'.w) :
    ∀ (n : Nat) (s : List AV) (H : AH) (E : GE) (a : Act), iter S.room (fun s H => denK S call lp c s H retO) n s H = some o → E0.le E → Rel S H E → ARel E s a → Code.roundsIn (WR ro) 0 P c Q n a E.w
  | 0, s, H, E, a, h, _, _, _ => by simp [iter] at h
  | n + 1, s, H, E, a, h, hle, hr, ha => by
    rw [roundsIn_succ]
    simp only [iter] at h
    cases hd : denK S call lp c s H retO with
    | none => rw [hd] at h; simp at h
    | some r1 =>
      obtain ⟨ex, s1, H1⟩ := r1
      have hw := ih s H _ E a hd hr ha
      refine wpIn_mono hw ?_
      rintro e a' w' ⟨ex', s', H', E', h1, rfl, rfl, h2, h3, h4⟩
      simp only [retO, Option.some.injEq, Prod.mk.injEq] at h1
      obtain ⟨rfl, rfl, rfl⟩ := h1
      rw [hd] at h
      cases ex' with
      | normal =>
        simp only at h
        obtain ⟨E2, e1, e2, e3, e4⟩ := back_sound S.room (s := s) hr h2 h3 h4
        show Code.roundsIn (WR ro) 0 P c Q n a' E'.w
        rw [← e1]
        exact iter_sound ro ih Q E0 o hQ n _ _ E2 a' h (hle.trans e2) e3 e4
      | exit id =>
        simp only [Option.some.injEq] at h
        subst h
        exact hQ a' E' (hle.trans h2) h3 (h4.outS _)
      | ret =>
        simp only [Option.some.injEq] at h
        subst h
        exact hQ a' E' (hle.trans h2) h3 (h4.outS _)

theorem opt_some {A : Type} {o : Option A} {a : A} (h : o = some a) : o = some a := h

theorem lst_left {st : LSt} {r : Loop} (h : lstOK st r) (hb : st ≠ .busy) : r.state ≠ .busy := by
  cases st with
  | ready => intro e; rw [h.1] at e; cases e
  | busy => exact absurd rfl hb
  | left j => cases j <;> (intro e; rw [h.1] at e; cases e)

/-- A loop over a function is over. -/
theorem leave_sound {R : Type} {H1 : AH} {E E3 : GE} {id l : Nat} {s : List AV} {a : Act} {K : Ex → List AV → AH → Option R} {r : R} (h : leaveK id s H1 K = some r) (hle : E.le E3) (hr3 : Rel S H1 E3) (hid : id < E3.nid) (hl : E3.ρ id = some l) (ha : ARel E3 s a) :
    ∃ jump w4, (Instr.endLoop l).run P E3.w = .ok jump w4 ∧ (match jump with | none => Lands S K r E .normal a w4 | some c => c.wpIn (WR none) 0 P (Lands S K r E) a w4) := by
  unfold leaveK at h
  split at h
  · rename_i s' ps x y st hob
    cases hr3.h.obj id _ hob with
    | loop _ _ _ _ _ b rr hb hh h1 h2 h3 h4 h5 =>
    rw [hl] at hb
    obtain rfl := Option.some.inj hb
    have hset := no_settled hr3.h hh (by intro c el fr e; cases e)
    have hne : st ≠ .busy := by
      rintro rfl
      simp at h
    obtain ⟨k1, k2⟩ := hr3.h.write hid hl hset (only_put (.loop { rr with state := .exhausted })) (o' := .dead true) .dead
    have hend := run_endLoop (P := P) hh (lst_left h5 hne)
    have hr4 := hr3.mono k1 k2
    generalize E3.w.putObj l (.loop { rr with state := .exhausted }) = w4 at hend k1 k2 hr4
    refine ⟨_, _, hend, ?_⟩
    cases st with
    | ready =>
      rw [h5.2]
      exact ⟨.normal, s, _, _, h, rfl, rfl, hle.trans k1, hr4, ha.mono k1⟩
    | busy => exact absurd rfl hne
    | left j =>
      cases j with
      | none =>
        rw [h5.2]
        exact wpIn_ret ⟨.ret, s, _, _, h, rfl, rfl, hle.trans k1, hr4, ha.mono k1⟩
      | some i =>
        rw [h5.2]
        exact wpIn_exit ⟨.exit i, s, _, _, h, rfl, rfl, hle.trans k1, hr4, ha.mono k1⟩
  · simp at h

theorem range_sound {R : Type} {call : Caller} (hcall : CallOK S P call) {g : Operand} {ps : Array Tmp} {x y : Code} {s : List AV} {H : AH} {K : Ex → List AV → AH → Option R} {r : R} {E : GE} {a : Act}
    (h : rangeK call (ev S.G s g) s H ps.toList x y K = some r) (hr : Rel S H E) (ha : ARel E s a) :
    (Code.rangeFunc g ps x y).wpIn (WR none) 0 P (Lands S K r E) a E.w := by
  refine wpIn_rangeFunc ?_
  intro fn _
  have hg := ev_rel hr ha g
  have le1 := le_alloc hr.h (.deferred (some []))
  have hr1 : Rel S H (E.at (E.w.alloc (.deferred (some [])))) := hr.mono le1 (hr.h.alloc _)
  have hsz : (E.w.alloc (.deferred (some []))).heap.size = E.w.heap.size + 1 := alloc_size _ _
  let E1 : GE := E.at (E.w.alloc (.deferred (some [])))
  let lr : Loop := { state := .ready, pending := none, fn, tmps := a.tmps, params := ps, assign := x, body := y, defers := E.w.heap.size }
  have hρ2 : (E1.new (.loop lr)).ρ E1.nid = some (E.w.heap.size + 1) := by
    show (if E1.nid = E1.nid then some E1.w.heap.size else _) = _
    rw [if_pos rfl]
    exact congrArg some hsz
  have le2' := le_new E1 (.loop lr) hr1.h.Slt
  have ho : ORel (E1.new (.loop lr)) E1.nid (.loop s ps.toList x y .ready) := by
    refine .loop s ps.toList x y .ready (E.w.heap.size + 1) lr hρ2 ?_ ((ha.tmps.mono le1).mono le2') rfl rfl rfl ⟨rfl, rfl⟩
    have := alloc_get E1.w (.loop lr)
    rw [show E1.w.heap.size = E.w.heap.size + 1 from hsz] at this
    exact this
  obtain ⟨le2, h2⟩ := hr1.h.new ho
  have hr2 : Rel S { H with objs := H.objs ++ [.loop s ps.toList x y .ready] } (E1.new (.loop lr)) := hr1.mono le2 h2
  have hnid : E1.nid = H.objs.length := hr1.h.nid
  have ha2 : ARel (E1.new (.loop lr)) s { a with defers := [{ target := .collected E.w.heap.size, args := #[] }] ++ a.defers } := by
    refine ⟨(ha.tmps.mono le1).mono le2, Marks.mono le2 ?_⟩
    obtain ⟨m0, bs, m1, m2, m3⟩ := ha.defers.mono le1
    obtain ⟨hlow, bs', n1, n2, n3⟩ := ha.defers
    have hbs : bs = bs' := by
      have : bs.map mark = bs'.map mark := m1.symm.trans n1
      have inj : ∀ (l l' : List Nat), l.map mark = l'.map mark → l = l' := by
        intro l
        induction l with
        | nil => intro l' h; cases l' with | nil => rfl | cons => simp at h
        | cons b l ih =>
          intro l' h
          cases l' with
          | nil => simp at h
          | cons b' l' =>
            simp only [List.map_cons, List.cons.injEq] at h
            have e : b = b' := by simpa [mark] using h.1
            rw [e, ih l' h.2]
      exact inj _ _ this
    subst hbs
    refine ⟨m0, E.w.heap.size :: bs, by simp [m1, mark], ?_, ?_⟩
    · refine List.nodup_cons.2 ⟨fun hm => ?_, m2⟩
      have := heap_lt (n3 _ hm).2.1
      omega
    · intro b hb
      rcases List.mem_cons.1 hb with rfl | hb
      · refine ⟨hlow, alloc_get E.w _, fun ho => ?_⟩
        have := hr.h.lt E.w.heap.size ho
        omega
      · exact m3 b hb
  have le02 : E.le (E1.new (.loop lr)) := le1.trans le2
  unfold rangeK at h
  split at h
  · rename_i f first caps hfv
    rw [hfv] at hg
    obtain ⟨p, hp, h⟩ := optK_inv h
    generalize hX : a.eval g = X at hg
    cases hg with
    | func _ _ _ xs ys hfn h1 h2' h3 h4 =>
    obtain ⟨⟨fn', f1, f2, f3⟩, hc⟩ := hcall.fn f _ _ p.1 p.2 hp
    have hyv : VRelL (E1.new (.loop lr)) [.func (.yield H.objs.length) [] []] #[.func (.yield (E.w.heap.size + 1)) #[] #[]] := by
      refine ⟨rfl, ?_⟩
      intro i v z hv hz
      cases i with
      | zero =>
        simp at hv hz
        subst hv; subst hz
        refine .yield _ _ ?_ ?_
        · show H.objs.length < E1.nid + 1
          omega
        · rw [← hnid]; exact hρ2
      | succ i => simp at hv
    have hargs : VRelL (E1.new (.loop lr)) ((first ++ [.func (.yield H.objs.length) [] []]) ++ caps) ((xs ++ #[.func (.yield (E.w.heap.size + 1)) #[] #[]]) ++ ys) :=
      vrelL_append (vrelL_append ⟨h1, fun i v z a b => (h2' i v z a b).mono le02⟩ hyv) ⟨h3, fun i v z a b => (h4 i v z a b).mono le02⟩
    have hb : ¬ fn'.body = none := by intro e; rw [e] at f2; simp at f2
    refine ⟨E.w.heap.size + 1, [{ target := .collected E.w.heap.size, args := #[] }], (E1.new (.loop lr)).w, { target := .fn (.func f) ys, args := xs ++ #[.func (.yield (E.w.heap.size + 1)) #[] #[]] }, (E1.new (.loop lr)).w, f, (xs ++ #[.func (.yield (E.w.heap.size + 1)) #[] #[]]) ++ ys, (E1.new (.loop lr)).w, run_enterLoop_outer fn a.tmps ps x y, ?_, fun _ _ => trivial, ?_, fun hd => by simp [WR, Fence.wide] at hd, ?_⟩
    · have ec : (#[Operand.const (.func (.yield (E.w.heap.size + 1)) #[] #[])] : Array Operand).map a.eval = #[.func (.yield (E.w.heap.size + 1)) #[] #[]] := by simp [Act.eval]
      simp only [Go.resolve, rangeCall, ec, hX, Deferred.ofValue, Sem.run_pure]
    · simp [invoke, callFunc, f1, f3, hb]
    · refine callsIn_WR ((hc _ _ hr2 hargs).mono ?_)
      rintro e w' ⟨z, E3, rfl, rfl, k1, k2, k3⟩
      have hid : H.objs.length < (E1.new (.loop lr)).nid := by show H.objs.length < E1.nid + 1; omega
      exact leave_sound h (le02.trans k1) k2 (Nat.lt_of_lt_of_le hid k1.nid) (k1.ρ _ _ hid (hnid ▸ hρ2)) (ha2.mono k1)
  · simp at h

theorem den_sound (ro : Option Nat) (hS : SysOK S P) {call : Caller} (hcall : CallOK S P call) (hdraw : DrawSound S P call) (n : Nat) : ∀ (c : Code) {R : Type} (s : List AV) (H : AH) (K : Ex → List AV → AH → Option R) (r : R) (E : GE) (a : Act),
    denK S call (fun b => iter S.room b n) c s H K = some r → Rel S H E → ARel E s a → (ro = none ∨ plainC c = true) → c.wpIn (WR ro) 0 P (Lands S K r E) a E.w
  | .skip, R, s, H, K, r, E, a, h, hr, ha, hp => by
    simp only [denK] at h
    exact wpIn_skip ⟨.normal, s, H, E, h, rfl, rfl, GE.le.refl E, hr, ha⟩
  | .region id ops draw, R, s, H, K, r, E, a, h, hr, ha, hp => by
    simp only [denK] at h
    cases draw with
    | true =>
      have hor : (drawOK S ops = true ∧ opsK S call ops ops.toList s H (fun s H => K .normal s H) = some r) ∨ (drawOK2 S ops = true ∧ optK (runB (bornId H.objs.length (birthsOf ops.toList)) S call ops ops.toList s (reserve H (birthsOf ops.toList).length)) (fun p => K .normal p.1 p.2) = some r) := by
        simp only [Bool.true_and] at h
        split at h
        · split at h
          · rename_i hd
            exact .inr ⟨hd, h⟩
          · simp at h
        · rename_i hd
          exact .inl ⟨by simpa using hd, h⟩
      refine wpIn_mono (hdraw ro id ops s H (fun s H => K .normal s H) r E a hor hr ha) ?_
      rintro e a' w' ⟨ex, s', H', E', h1, rfl, rfl, h2, h3, h4⟩
      cases ex with
      | normal => exact ⟨.normal, s', H', E', h1, rfl, rfl, h2, h3, h4⟩
      | exit id => simp at h1
      | ret => simp at h1
    | false =>
      simp only [Bool.false_and, Bool.false_eq_true, if_false] at h
      have := ops_sound ro hS hcall (all := ops) (K := fun s H => K .normal s H) (r := r) (Lands S K r E) (E0 := E) (fun s' H' a' E' h1 h2 h3 h4 => ⟨.normal, s', H', E', h1, rfl, rfl, h2, h3, h4⟩) ops.toList 0 (by simp) h (GE.le.refl E) hr ha
      refine wpIn_region ?_
      rw [List.range_eq_range']
      simpa using this
  | .seq x y, R, s, H, K, r, E, a, h, hr, ha, hp => by
    simp only [denK] at h
    refine wpIn_seq (wpIn_mono (den_sound ro hS hcall hdraw n x s H _ r E a h hr ha (hp.imp (fun h => h) fun h => by simp [plainC] at h; simp [h])) ?_)
    rintro e a' w' ⟨ex, s', H', E', h1, rfl, rfl, h2, h3, h4⟩
    cases ex with
    | normal =>
      simp only at h1
      refine wpIn_mono (den_sound ro hS hcall hdraw n y s' H' K r E' a' h1 h3 h4 (hp.imp (fun h => h) fun h => by simp [plainC] at h; simp [h])) ?_
      rintro e a2 w2 ⟨ex2, s2, H2, E2, k1, k2, k3, k4, k5⟩
      exact ⟨ex2, s2, H2, E2, k1, k2, k3, h2.trans k4, k5⟩
    | exit id => exact ⟨.exit id, s', H', E', h1, rfl, rfl, h2, h3, h4⟩
    | ret => exact ⟨.ret, s', H', E', h1, rfl, rfl, h2, h3, h4⟩
  | .cond c x y, R, s, H, K, r, E, a, h, hr, ha, hp => by
    simp only [denK] at h
    split at h
    · rename_i t ht
      have hc := ev_rel hr ha c
      rw [ht] at hc
      have hc' := rel_bool hc
      rcases br_some h with ⟨rfl, h⟩ | ⟨rfl, h⟩
      · exact wpIn_cond_true hc' (den_sound ro hS hcall hdraw n x s H K r E a h hr ha (hp.imp (fun h => h) fun h => by simp [plainC] at h; simp [h]))
      · exact wpIn_cond_false hc' (den_sound ro hS hcall hdraw n y s H K r E a h hr ha (hp.imp (fun h => h) fun h => by simp [plainC] at h; simp [h]))
    · simp at h
  | .block id c, R, s, H, K, r, E, a, h, hr, ha, hp => by
    simp only [denK] at h
    refine wpIn_block (wpIn_mono (den_sound ro hS hcall hdraw n c s H _ r E a h hr ha (hp.imp (fun h => h) fun h => by simp [plainC] at h; simp [h])) ?_)
    rintro e a' w' ⟨ex, s', H', E', h1, rfl, rfl, h2, h3, h4⟩
    cases ex with
    | normal => exact ⟨.normal, s', H', E', h1, rfl, rfl, h2, h3, h4⟩
    | ret => exact ⟨.ret, s', H', E', h1, rfl, rfl, h2, h3, h4⟩
    | exit i =>
      simp only at h1
      show (if i = id then _ else _)
      split at h1
      · rename_i hi; rw [if_pos hi]; exact ⟨.normal, s', H', E', h1, rfl, rfl, h2, h3, h4⟩
      · rename_i hi; rw [if_neg hi]; exact ⟨.exit i, s', H', E', h1, rfl, rfl, h2, h3, h4⟩
  | .loop c, R, s, H, K, r, E, a, h, hr, ha, hp => by
    simp only [denK] at h
    obtain ⟨o, ho, h⟩ := optK_inv h
    refine wpIn_loop_rounds n (iter_sound ro (fun s H r E a h1 h2 h3 => den_sound ro hS hcall hdraw n c s H retO r E a h1 h2 h3 (hp.imp (fun h => h) fun h => by simp [plainC] at h; simp [h])) (Lands S K r E) E o ?_ n s H E a ho (GE.le.refl E) hr ha)
    intro a' E' h1 h2 h3
    exact ⟨o.1, o.2.1, o.2.2, E', h, rfl, rfl, h1, h2, h3⟩
  | .scope c, R, s, H, K, r, E, a, h, hr, ha, hp => by
    simp only [denK] at h
    refine wpIn_scope_straight (wpIn_mono (den_sound ro hS hcall hdraw n c s H K r E a h hr ha (hp.imp (fun h => h) fun h => by simp [plainC] at h; simp [h])) ?_)
    rintro e a' w' ⟨ex, s', H', E', h1, rfl, rfl, h2, h3, h4⟩
    cases ex <;> exact ⟨_, s', H', E', h1, rfl, rfl, h2, h3, h4⟩
  | .exit id, R, s, H, K, r, E, a, h, hr, ha, hp => by
    simp only [denK] at h
    exact wpIn_exit ⟨.exit id, s, H, E, h, rfl, rfl, GE.le.refl E, hr, ha⟩
  | .ret, R, s, H, K, r, E, a, h, hr, ha, hp => by
    simp only [denK] at h
    exact wpIn_ret ⟨.ret, s, H, E, h, rfl, rfl, GE.le.refl E, hr, ha⟩
  | .label l, R, s, H, K, r, E, a, h, hr, ha, hp => by
    simp only [denK] at h
    exact wpIn_label ⟨.normal, s, H, E, h, rfl, rfl, GE.le.refl E, hr, ha⟩
  | .goto l, R, s, H, K, r, E, a, h, hr, ha, hp => by simp [denK] at h
  | .rangeFunc f ps x y, R, s, H, K, r, E, a, h, hr, ha, hp => by
    simp only [denK] at h
    rcases hp with rfl | hp
    · exact range_sound hcall h hr ha
    · simp [plainC] at hp
  | .refuse w, R, s, H, K, r, E, a, h, hr, ha, hp => by simp [denK] at h

end Go.Sx

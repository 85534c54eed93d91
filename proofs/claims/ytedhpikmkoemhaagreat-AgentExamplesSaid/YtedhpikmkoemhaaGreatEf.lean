/- THE ENGINE, 25: two operations that do not clash may change places. -/
import Derived.Test.YtedhpikmkoemhaaGreatEd
import Derived.Test.YtedhpikmkoemhaaGreatEe
import Derived.Test.YtedhpikmkoemhaaGreatEa
set_option linter.unusedSimpArgs false
set_option linter.unusedVariables false
namespace Go.Sx
variable {R : Type} {S : Sys} {call : Caller}

theorem ev_congr {G : Nat → AV} {s1 s2 : List AV} {x : Operand} (h : ∀ t, x = .tmp t → s1[t]? = s2[t]?) : ev G s1 x = ev G s2 x := by
  cases x with
  | tmp t => simp only [ev, List.getD, h t rfl]
  | _ => rfl

theorem map_ev {G : Nat → AV} {s1 s2 : List AV} {l : List Operand} (h : ∀ x, x ∈ l → ev G s1 x = ev G s2 x) : l.map (ev G s1) = l.map (ev G s2) := List.map_congr_left h

/-- What an operation reads. -/
theorem opK_congr {s1 s2 : List AV} {H : AH} {o : Oper} {K : AV → AH → Option R} (h : ∀ x, x ∈ o.op.operands.toList → ev S.G s1 x = ev S.G s2 x) : opK S call s1 H o K = opK S call s2 H o K := by
  obtain ⟨dst, op, type, pos, after, guard⟩ := o
  simp only at h
  unfold opK
  cases op <;> simp only [Op.operands, Array.toList_append, List.mem_append, List.mem_cons, List.not_mem_nil, or_false, forall_eq_or_imp, forall_eq, List.mem_map] at h ⊢
  all_goals try rfl
  all_goals try (simp only [h]; done)
  case build t ps =>
    have e : (ps.toList.map fun p => (p.1, ev S.G s1 p.2)) = ps.toList.map fun p => (p.1, ev S.G s2 p.2) := List.map_congr_left fun p hp => by rw [h p.2 ⟨p, hp, rfl⟩]
    rw [e]
  case buildSlice t n ps =>
    have e : (ps.toList.map fun p => (p.1, ev S.G s1 p.2)) = ps.toList.map fun p => (p.1, ev S.G s2 p.2) := List.map_congr_left fun p hp => by rw [h p.2 ⟨p, hp, rfl⟩]
    rw [e]
  case makeFunc fn as bs => rw [map_ev fun x hx => h x (.inl hx), map_ev fun x hx => h x (.inr hx)]
  case makeMap t r => cases r <;> rfl
  case slice t x lo hi mx =>
    have e : ∀ o : Option Operand, (∀ x, o = some x → ev S.G s1 x = ev S.G s2 x) → o.map (ev S.G s1) = o.map (ev S.G s2) := by
      intro o ho
      cases o with
      | none => rfl
      | some x => simp [ho x rfl]
    rw [h x (.inl (.inl (.inl rfl))), e lo (fun x hx => h x (by subst hx; simp)), e hi (fun x hx => h x (by subst hx; simp)), e mx (fun x hx => h x (by subst hx; simp))]
  case call c =>
    have hargs : ∀ x, x ∈ c.args.toList → ev S.G s1 x = ev S.G s2 x := fun x hx => h x (by unfold Call.operands; simp only [Array.toList_append, List.mem_append]; exact .inr hx)
    rw [map_ev hargs]
    split
    · rename_i f hf
      rw [h f (by unfold Call.operands; rw [hf]; simp)]
    · rfl
    · rename_i f m hf
      rw [h f (by unfold Call.operands; rw [hf]; simp)]

theorem textK_none {i j : TI} {T : TypeId → Option TI} {v : AV} {K : AV → Option R} (h : (match i.k, j.k with | .slice _, .string => true | _, _ => false) = false) : textK i j T v K = none := by
  unfold textK
  split
  · rename_i h1 h2
    rw [h1, h2] at h
    simp at h
  · rfl
theorem convK_still {H H2 : AH} {a b : TypeId} {v : AV} (h : convTouch S a b = false) : convK S H a b v pairK = optK (convK S H2 a b v pairK) fun p => some (p.1, H) := by
  unfold convTouch at h
  unfold convK
  cases hi : S.T a with
  | none => rfl
  | some i =>
    cases hj : S.T b with
    | none => rfl
    | some j =>
      simp only [hi, hj] at h ⊢
      split
      · split
        · rfl
        · split <;> rfl
        · rfl
      · repeat' (first | rfl | split)
      · refine Eq.trans (b := none) ?_ (Eq.symm (Eq.trans (b := optK (none : Option (AV × AH)) fun p => some (p.1, H)) (congrArg (fun o : Option (AV × AH) => optK o fun p => some (p.1, H)) ?_) rfl))
        · split
          · exact textK_none h
          · rfl
        · split
          · exact textK_none h
          · rfl

theorem buildSliceK_still {H H2 : AH} {t : TypeId} {i : TI} {n : Nat} {ps : List (Nat × AV)} (hi : S.T t = some i) (h : sliceObj S t = false) : buildSliceK S H i n ps pairK = optK (buildSliceK S H2 i n ps pairK) fun p => some (p.1, H) := by
  unfold sliceObj at h
  rw [hi] at h
  simp only at h
  unfold buildSliceK
  split
  · rename_i e he
    rw [he] at h
    simp only at h
    rw [h]
    simp only [Bool.false_eq_true, if_false]
    repeat' (first | rfl | split)
  · rfl
theorem lenK_still {H H2 : AH} {ts : Array TypeId} {x : AV} (h : lenTouch S ts = false) : (lenK S H ts x fun v => pairK v H) = optK (lenK S H2 ts x fun v => pairK v H2) fun p => some (p.1, H) := by
  unfold lenTouch at h
  unfold lenK
  split
  · rfl
  · rename_i t ht
    rw [ht] at h
    split
    · rfl
    · rename_i i hi
      simp only [hi] at h
      repeat' (first | rfl | (simp_all; done) | split)

/-- An operation that does not ask of the objects. -/
theorem opK_still {s : List AV} {H H2 : AH} {o : Oper} (h : touches S o = false) : opK S call s H o pairK = optK (opK S call s H2 o pairK) fun p => some (p.1, H) := by
  obtain ⟨dst, op, type, pos, after, guard⟩ := o
  unfold opK
  cases op <;> simp only [touches] at h ⊢ <;> try (simp at h; done)
  case call c =>
    split
    · simp_all
    · rename_i b hb
      rw [hb] at h
      unfold builtinK
      cases b <;> try (simp at h; done)
      all_goals
        split <;> first
          | contradiction
          | rfl
          | exact lenK_still h
          | (rw [minmaxK_nat, minmaxK_nat (K := fun v => pairK v H2), optK_optK]; rfl)
    · rename_i r m hb
      rw [hb] at h
      simp at h
  all_goals repeat' (first
    | rfl
    | exact convK_still h
    | exact buildSliceK_still (by assumption) h
    | (rw [assertK_nat, assertK_nat (K := fun v => pairK v H2), optK_optK]; rfl)
    | (rw [br_nat]; rfl)
    | (rw [buildK_nat, buildK_nat (K := fun v => pairK v H2), optK_optK]; rfl)
    | (rw [binN_nat, binN_nat (K := fun v => pairK v H2), optK_optK]; rfl)
    | (rw [unK_nat, unK_nat (K := fun v => pairK v H2), optK_optK]; rfl)
    | (rw [sliceK_nat, sliceK_nat (K := fun v => pairK v H2), optK_optK]; rfl)
    | (rw [fieldAddrK_nat, fieldAddrK_nat (K := fun v => pairK v H2), optK_optK]; rfl)
    | (rw [fieldK_nat, fieldK_nat (K := fun v => pairK v H2), optK_optK]; rfl)
    | (rw [indexAddrK_nat, indexAddrK_nat (K := fun v => pairK v H2), optK_optK]; rfl)
    | (rw [indexK_nat, indexK_nat (K := fun v => pairK v H2), optK_optK]; rfl)
    | split)

/-- Calls with trees leave the objects alone. -/
def CallStill (S : Sys) (call : Caller) : Prop := ∀ f args H v H', S.isPure f = true → call f args H = some (v, H') → H' = H

theorem opt_pair {o : Option AV} {H : AH} {v : AV} {H' : AH} (h : optK o (fun v => pairK v H) = some (v, H')) : H' = H := by
  cases o with
  | none => simp [optK] at h
  | some a => simp [optK] at h; exact h.2.symm

theorem opK_quiet (hc : CallStill S call) {s : List AV} {H : AH} {o : Oper} (h : changes S o = false) {v : AV} {H' : AH} (hr : opK S call s H o pairK = some (v, H')) : H' = H := by
  by_cases ht : touches S o = false
  · have := opK_still (S := S) (call := call) (s := s) (H := H) (H2 := H) ht
    rw [hr] at this
    simp [optK] at this
    exact this
  · obtain ⟨dst, op, type, pos, after, guard⟩ := o
    unfold opK at hr
    cases op <;> simp only [touches, changes] at h ht hr <;> try (simp at h; done)
    all_goals try (exact absurd trivial ht)
    case buildSlice t n ps =>
      split at hr
      · rename_i i hi
        rw [hi] at h
        simp only at h
        unfold buildSliceK at hr
        split at hr
        · rename_i e hik
          rw [hik] at h
          simp only at h
          split at hr
          · simp at hr
          · split at hr
            · split at hr
              · split at hr
                · rw [if_neg (by rw [h]; simp)] at hr
                  simp at hr; exact hr.2.symm
                · simp at hr
              · simp at hr
            · simp at hr
        · simp at hr
      · simp at hr
    case load t a =>
      split at hr
      · rw [loadK_nat] at hr; exact opt_pair hr
      · simp at hr
    case entry x => rw [entryK_nat] at hr; exact opt_pair hr
    case convert a b x =>
      unfold convK at hr
      split at hr
      · split at hr
        · split at hr
          · simp at hr; exact hr.2.symm
          · split at hr
            · simp at hr; exact hr.2.symm
            · simp at hr
          · simp at hr
        · split at hr
          · simp at hr; exact hr.2.symm
          · split at hr
            · split at hr
              · simp at hr; exact hr.2.symm
              · simp at hr
            · simp at hr
          · simp at hr
        · split at hr
          · rw [textK_nat] at hr; exact opt_pair hr
          · simp at hr
      · simp at hr
    case lookup t x ix ok =>
      split at hr
      · rw [lookupK_nat] at hr; exact opt_pair hr
      · simp at hr
    case call c =>
      split at hr
      · rename_i f hf
        rw [hf] at h
        unfold callFn at hr
        split at hr
        · rename_i fid first caps hfv
          cases f with
          | func g =>
            simp only [Bool.not_eq_false'] at h
            simp only [ev, AV.func.injEq, Fn.func.injEq] at hfv
            obtain ⟨rfl, rfl, rfl⟩ := hfv
            obtain ⟨p, hp, hr⟩ : ∃ p, call g (([] ++ List.map (ev S.G s) c.args.toList) ++ []) H = some p ∧ pairK p.1 p.2 = some (v, H') := by
              generalize call g (([] ++ List.map (ev S.G s) c.args.toList) ++ []) H = q at hr
              cases q with
              | none => simp [optK] at hr
              | some p => exact ⟨p, rfl, hr⟩
            simp at hr
            obtain ⟨rfl, rfl⟩ := hr
            exact hc g _ H p.1 p.2 h hp
          | _ => simp at h
        · rename_i id hfv
          cases f with
          | func g => simp [ev] at hfv
          | _ => simp at h
        · simp at hr
      · rename_i b hb
        rw [hb] at h
        cases b <;> try (simp at h; done)
        all_goals
          unfold builtinK at hr
          split at hr
          all_goals first
            | (simp at hr; done)
            | (rw [lenK_nat] at hr; exact opt_pair hr)
            | (rw [minmaxK_nat] at hr; exact opt_pair hr)
            | contradiction
            | skip
      · rename_i r m hb
        rw [hb] at h
        simp at h

end Go.Sx

/- THE ENGINE, 26: a region whose order is drawn: the moves. -/
set_option linter.unusedSimpArgs false
set_option linter.unusedVariables false
namespace Go.Sx
variable {R : Type} {S : Sys} {call : Caller}

def stepD (S : Sys) (call : Caller) (all : Array Oper) (o : Oper) (s : List AV) (H : AH) : Option (List AV × AH) :=
  match wantD all o s with
  | some true => optK (opK S call s H o pairK) fun p => some (putD o.dst s p.1, p.2)
  | some false => some (putD o.dst s (.tuple []), H)
  | none => none

def runD (S : Sys) (call : Caller) (all : Array Oper) : List Oper → List AV → AH → Option (List AV × AH)
  | [], s, H => some (s, H)
  | o :: r, s, H => optK (stepD S call all o s H) fun p => runD S call all r p.1 p.2

theorem set_same {s : List AV} {d : Nat} {v : AV} (h : s[d]? = some v) : s.set d v = s := by
  apply List.ext_getElem?
  intro i
  rw [List.getElem?_set]
  split
  · rename_i e; subst e
    split
    · exact h.symm
    · rename_i hn; exact (List.getElem?_eq_none (by omega)).symm
  · rfl

theorem opsK_run {all : Array Oper} : ∀ (l : List Oper) (s : List AV) (H : AH) (K : List AV → AH → Option R), opsK S call all l s H K = optK (runD S call all l s H) fun p => K p.1 p.2
  | [], s, H, K => rfl
  | o :: r, s, H, K => by
    simp only [opsK, runD, stepD, wantD]
    cases hg : o.guard with
    | none =>
      simp only
      rw [opK_nat]
      simp only [optK_optK, optK_some]
      exact optK_congr fun p => opsK_run r _ _ K
    | some g =>
      obtain ⟨j, want⟩ := g
      simp only
      cases (all[j]?).bind (·.dst) with
      | none => rfl
      | some d =>
        simp only
        cases hd : s[d]? with
        | none => rfl
        | some v =>
          cases v with
          | bool t =>
            cases t <;> cases want <;> simp only [br, set_same hd, opsK_run r, if_true, Bool.false_eq_true, if_false, beq_self_eq_true, BEq.rfl, optK_some] <;> try rfl
            all_goals
              rw [opK_nat]
              simp only [optK_optK, optK_some]
              try rfl
          | tuple vs => cases vs with
            | nil => simp only [optK_some, opsK_run r]
            | cons => rfl
          | _ => rfl

theorem get_put {s : List AV} {dst : Option Nat} {v : AV} {t : Nat} (h : ∀ d, dst = some d → d ≠ t) : (putD dst s v)[t]? = s[t]? := by
  cases dst with
  | none => rfl
  | some d => simp [putD, List.getElem?_set_ne (h d rfl)]

theorem want_put {all : Array Oper} {o : Oper} {s : List AV} {dst : Option Nat} {v : AV} (h : ∀ d, dst = some d → d ∉ usesT all o) : wantD all o (putD dst s v) = wantD all o s := by
  unfold wantD
  cases hg : o.guard with
  | none => rfl
  | some g =>
    obtain ⟨j, want⟩ := g
    simp only
    cases hb : (all[j]?).bind (·.dst) with
    | none => rfl
    | some d =>
      simp only
      rw [get_put]
      intro d' hd' e
      subst e
      exact h d' hd' (by simp [usesT, hg, hb])

theorem op_put {all : Array Oper} {o : Oper} {s : List AV} {H : AH} {dst : Option Nat} {v : AV} (h : ∀ d, dst = some d → d ∉ usesT all o) {K : AV → AH → Option R} : opK S call (putD dst s v) H o K = opK S call s H o K := by
  refine opK_congr fun x hx => ev_congr fun t ht => ?_
  subst ht
  exact get_put fun d hd e => h d hd (by subst e; exact List.mem_append_left _ (List.mem_filterMap.2 ⟨.tmp d, hx, rfl⟩))

theorem put_comm {s : List AV} {x y : Option Nat} {u v : AV} (h : ∀ d, x = some d → y ≠ some d) : putD y (putD x s u) v = putD x (putD y s v) u := by
  cases x with
  | none => rfl
  | some d => cases y with
    | none => rfl
    | some e => exact List.set_comm _ _ (fun e' => h d rfl (e' ▸ rfl))

theorem changes_touches {o : Oper} (h : touches S o = false) : changes S o = false := by
  obtain ⟨dst, op, type, pos, after, guard⟩ := o
  cases op <;> simp only [touches, changes] at h ⊢ <;> try (simp at h; done)
  all_goals first | exact h | (split at h <;> simp_all)

theorem clash_spec {all : Array Oper} {a b : Oper} (h : clash S all a b = false) :
    (touches S a = true → changes S b = false) ∧ (changes S a = true → touches S b = false) ∧ (∀ d, a.dst = some d → d ∉ usesT all b) ∧ (∀ d, a.dst = some d → b.dst ≠ some d) ∧ (∀ d, b.dst = some d → d ∉ usesT all a) := by
  unfold clash at h
  simp only [Bool.or_eq_false_iff, Bool.and_eq_false_iff] at h
  obtain ⟨⟨⟨h1, h2⟩, h3⟩, h4⟩ := h
  refine ⟨fun e => ?_, fun e => ?_, fun d hd => ?_, fun d hd => ?_, fun d hd => ?_⟩
  · simpa [e] using h1
  · simpa [e] using h2
  · rw [hd] at h3; simp at h3; exact h3.1
  · rw [hd] at h3; simp at h3; exact h3.2
  · rw [hd] at h4; simp at h4; exact h4

/-- Two operations that do not clash, on one row: the objects. -/
theorem swap_op (hc : CallStill S call) {all : Array Oper} {a b : Oper} (hcl : clash S all a b = false) {s : List AV} {H H1 H2 : AH} {u v : AV} (h1 : opK S call s H a pairK = some (u, H1)) (h2 : opK S call s H1 b pairK = some (v, H2)) :
    ∃ H1', opK S call s H b pairK = some (v, H1') ∧ opK S call s H1' a pairK = some (u, H2) := by
  obtain ⟨c1, c2, -, -, -⟩ := clash_spec hcl
  cases ha : touches S a with
  | false =>
    have e1 := opK_quiet hc (changes_touches ha) h1
    subst e1
    refine ⟨H2, h2, ?_⟩
    rw [opK_still ha (H2 := H1), h1]
    rfl
  | true =>
    cases hb : touches S b with
    | false =>
      have e2 := opK_quiet hc (changes_touches hb) h2
      subst e2
      refine ⟨H, ?_, h1⟩
      rw [opK_still hb (H2 := H2), h2]
      rfl
    | true =>
      have e2 := opK_quiet hc (c1 ha) h2
      cases hca : changes S a with
      | true => rw [c2 hca] at hb; exact absurd hb (by simp)
      | false =>
        have e1 := opK_quiet hc hca h1
        subst e1; subst e2
        exact ⟨_, h2, h1⟩

theorem optK_inv2 {A : Type} {o : Option A} {f : A → Option R} {r : R} (h : optK o f = some r) : ∃ x, o = some x ∧ f x = some r := by
  cases o with
  | none => simp [optK] at h
  | some x => exact ⟨x, rfl, h⟩

theorem swap (hc : CallStill S call) {all : Array Oper} {a b : Oper} (hcl : clash S all a b = false) {s : List AV} {H : AH} {p q : List AV × AH} (h1 : stepD S call all a s H = some p) (h2 : stepD S call all b p.1 p.2 = some q) :
    ∃ p', stepD S call all b s H = some p' ∧ stepD S call all a p'.1 p'.2 = some q := by
  obtain ⟨-, -, d1, d2, d3⟩ := clash_spec hcl
  have d2' : ∀ d, b.dst = some d → a.dst ≠ some d := fun d hb ha => d2 d ha hb
  unfold stepD at h1
  split at h1
  · rename_i hw
    obtain ⟨⟨u, H1⟩, g1, e⟩ := optK_inv2 h1
    simp only [Option.some.injEq] at e
    subst e
    simp only at h2
    unfold stepD at h2
    rw [want_put d1] at h2
    split at h2
    · rename_i hv
      obtain ⟨⟨v, H2⟩, g2, e⟩ := optK_inv2 h2
      rw [op_put d1] at g2
      simp only [Option.some.injEq] at e
      subst e
      obtain ⟨H1', k1, k2⟩ := swap_op hc hcl g1 g2
      refine ⟨(putD b.dst s v, H1'), by simp [stepD, hv, k1, optK], ?_⟩
      simp only [stepD, want_put d3, hw, op_put d3, k2, optK]
      rw [put_comm d2']
    · rename_i hv
      simp only [Option.some.injEq] at h2
      subst h2
      refine ⟨(putD b.dst s (.tuple []), H), by simp [stepD, hv], ?_⟩
      simp only [stepD, want_put d3, hw, op_put d3, g1, optK]
      rw [put_comm d2']
    · simp at h2
  · rename_i hw
    simp only [Option.some.injEq] at h1
    subst h1
    simp only at h2
    unfold stepD at h2
    rw [want_put d1] at h2
    split at h2
    · rename_i hv
      obtain ⟨⟨v, H2⟩, g2, e⟩ := optK_inv2 h2
      rw [op_put d1] at g2
      simp only [Option.some.injEq] at e
      subst e
      refine ⟨(putD b.dst s v, H2), by simp [stepD, hv, g2, optK], ?_⟩
      simp only [stepD, want_put d3, hw]
      rw [put_comm d2']
    · rename_i hv
      simp only [Option.some.injEq] at h2
      subst h2
      refine ⟨(putD b.dst s (.tuple []), H), by simp [stepD, hv], ?_⟩
      simp only [stepD, want_put d3, hw]
      rw [put_comm d2']
    · simp at h2
  · simp at h1

theorem front (hc : CallStill S call) {all : Array Oper} {b : Oper} {post : List Oper} {r : List AV × AH} : ∀ (pre : List Oper), (∀ a, a ∈ pre → clash S all a b = false) → ∀ {s : List AV} {H : AH}, runD S call all (pre ++ b :: post) s H = some r → runD S call all (b :: (pre ++ post)) s H = some r
  | [], _, s, H, h => h
  | a :: pre, hp, s, H, h => by
    simp only [List.cons_append, runD] at h
    obtain ⟨p, h1, h⟩ := optK_inv2 h
    have ih := front hc pre (fun a ha => hp a (List.mem_cons_of_mem _ ha)) h
    simp only [runD] at ih
    obtain ⟨q, h2, h3⟩ := optK_inv2 ih
    obtain ⟨p', k1, k2⟩ := swap hc (hp a (List.mem_cons_self ..)) h1 h2
    simp only [List.cons_append, runD, k1, optK_some, k2, h3]

theorem stepX_D {all : Array Oper} {o : Oper} {s s1 : List AV} {H H1 : AH} (h : stepX S call all o s H = some (.normal, s1, H1)) : stepD S call all o s H = some (s1, H1) := by
  unfold stepX at h
  unfold stepD
  split at h
  · rename_i hw
    rw [hw]
    split at h
    · simp at h
    · rw [opK_nat] at h
      obtain ⟨p, h1, h2⟩ := optK_inv2 h
      simp only [Option.some.injEq, Prod.mk.injEq, true_and] at h2
      rw [h1]
      simp only [optK_some, h2]
  · rename_i hw
    rw [hw]
    simp only [Option.some.injEq, Prod.mk.injEq, true_and] at h
    simp only [h]
  · simp at h

theorem runX_D {all : Array Oper} : ∀ (l : List Oper) {s s1 : List AV} {H H1 : AH}, runX S call all l s H = some (.normal, s1, H1) → runD S call all l s H = some (s1, H1)
  | [], s, s1, H, H1, h => by
    simp only [runX, Option.some.injEq, Prod.mk.injEq, true_and] at h
    simp only [runD, h]
  | o :: l, s, s1, H, H1, h => by
    simp only [runX] at h
    cases hq : stepX S call all o s H with
    | none => rw [hq] at h; simp [thenX] at h
    | some q =>
      obtain ⟨e, s', H'⟩ := q
      rw [hq] at h
      cases e with
      | normal =>
        simp only [runD, stepX_D hq, optK_some]
        exact runX_D l h
      | _ => simp [thenX] at h

end Go.Sx

/- THE ENGINE, 27: a region whose order is drawn. -/
set_option linter.unusedSimpArgs false
set_option linter.unusedVariables false
namespace Go.Sx
variable {R : Type} {S : Sys} {call : Caller} {P : Program}

theorem force_eq {A : Type} (n : Nat) (k : Nat → A) : force n k = k n := by cases n <;> rfl

theorem mask_bit {acc : List Nat} {k : Nat} : ∀ {es : List Edge}, (maskOf acc es).testBit k = true → ∃ e, e ∈ es ∧ Region.binds .any e = true ∧ (e.on = k ∨ (acc.getD e.on 0).testBit k = true)
  | [], h => by simp [maskOf] at h
  | e :: r, h => by
    simp only [maskOf] at h
    split at h
    · rename_i hb
      rw [Nat.testBit_or, Nat.testBit_or, Bool.or_eq_true, Bool.or_eq_true] at h
      rcases h with (h | h) | h
      · rw [Nat.testBit_two_pow] at h
        exact ⟨e, List.mem_cons_self .., hb, .inl (by simpa using h)⟩
      · exact ⟨e, List.mem_cons_self .., hb, .inr h⟩
      · obtain ⟨e', h1, h2⟩ := mask_bit h
        exact ⟨e', List.mem_cons_of_mem _ h1, h2⟩
    · obtain ⟨e', h1, h2⟩ := mask_bit h
      exact ⟨e', List.mem_cons_of_mem _ h1, h2⟩

/-- What the check says of one operation. -/
def Good (cl : Oper → Oper → Bool) (all : List Oper) (M : List Nat) (i : Nat) (o : Oper) : Prop :=
  (∀ e, e ∈ o.after.toList → Region.binds .any e = true → e.on < i) ∧
  (∀ k, k < i → (M.getD i 0).testBit k = true ∨ ∃ a, all[k]? = some a ∧ cl a o = false) ∧
  (∀ k, (M.getD i 0).testBit k = true → ∃ e, e ∈ o.after.toList ∧ Region.binds .any e = true ∧ (e.on = k ∨ (M.getD e.on 0).testBit k = true))

theorem drawGo_spec {cl : Oper → Oper → Bool} : ∀ (r : List Oper) (n : Nat) (seen : List Oper) (acc : List Nat), drawGo cl r n seen acc = true → seen.length = n → acc.length = n →
    ∃ M : List Nat, (∀ i, i < n → M.getD i 0 = acc.getD i 0) ∧ ∀ i o, r[i]? = some o → Good cl (seen ++ r) M (n + i) o
  | [], n, seen, acc, _, _, _ => ⟨acc, fun _ _ => rfl, fun i o h => by simp at h⟩
  | o :: r, n, seen, acc, h, hs, ha => by
    simp only [drawGo, force_eq, Bool.and_eq_true] at h
    obtain ⟨⟨⟨h1, -⟩, h2⟩, h3⟩ := h
    obtain ⟨M, m1, m2⟩ := drawGo_spec r (n + 1) (seen ++ [o]) (acc ++ [maskOf acc o.after.toList]) h3 (by simp [hs]) (by simp [ha])
    have hn : M.getD n 0 = maskOf acc o.after.toList := by
      rw [m1 n (Nat.lt_succ_self n)]
      simp [List.getD, List.getElem?_append_right, ha]
    have hk : ∀ i, i < n → M.getD i 0 = acc.getD i 0 := by
      intro i hi
      rw [m1 i (Nat.lt_succ_of_lt hi)]
      simp [List.getD, List.getElem?_append_left, ha, hi]
    have hb : ∀ e, e ∈ o.after.toList → Region.binds .any e = true → e.on < n := by
      intro e he hb
      have := List.all_eq_true.1 h1 e he
      simpa [hb] using this
    refine ⟨M, hk, ?_⟩
    intro i o' hi
    cases i with
    | zero =>
      simp only [List.getElem?_cons_zero, Option.some.injEq] at hi
      subst hi
      refine ⟨hb, ?_, ?_⟩
      · intro k hk'
        simp only [Nat.add_zero] at hk' ⊢
        have := List.all_eq_true.1 h2 k (List.mem_range.2 hk')
        rw [Bool.or_eq_true] at this
        rcases this with h | h
        · left; rw [hn]; exact h
        · right
          split at h
          · rename_i a hka
            exact ⟨a, by rw [List.getElem?_append_left (by omega)]; exact hka, by simpa using h⟩
          · simp at h
      · intro k hk'
        simp only [Nat.add_zero] at hk' ⊢
        rw [hn] at hk'
        obtain ⟨e, e1, e2, e3⟩ := mask_bit hk'
        refine ⟨e, e1, e2, ?_⟩
        rw [hk e.on (hb e e1 e2)]
        exact e3
    | succ i =>
      have := m2 i o' (by simpa using hi)
      rw [List.append_assoc] at this
      have e : n + (i + 1) = n + 1 + i := by omega
      rw [e]
      exact this

theorem draw_good {cl : Oper → Oper → Bool} {ops : Array Oper} (h : drawGo cl ops.toList 0 [] [] = true) : ∃ M, ∀ i o, ops[i]? = some o → Good cl ops.toList M i o := by
  obtain ⟨M, -, h2⟩ := drawGo_spec ops.toList 0 [] [] h rfl rfl
  refine ⟨M, fun i o ho => ?_⟩
  have := h2 i o (by simpa using ho)
  simpa using this

/-- Those listed have their forerunners listed. -/
def Closed (ops : Array Oper) (listed : Array Bool) : Prop := ∀ j o, ops[j]? = some o → listed.getD j false = true → ∀ e, e ∈ o.after → Region.binds .any e = true → listed.getD e.on false = true

theorem reach {cl : Oper → Oper → Bool} {ops : Array Oper} {M : List Nat} (hM : ∀ i o, ops[i]? = some o → Good cl ops.toList M i o) {listed : Array Bool} (hc : Closed ops listed) (hsz : listed.size = ops.size) : ∀ (i : Nat) (o : Oper), ops[i]? = some o →
    (∀ e, e ∈ o.after → Region.binds .any e = true → listed.getD e.on false = true) → ∀ k, (M.getD i 0).testBit k = true → listed.getD k false = true := by
  intro i
  induction i using Nat.strongRecOn with
  | _ i ih =>
    intro o ho hall k hk
    obtain ⟨g1, g2, g3⟩ := hM i o ho
    obtain ⟨e, e1, e2, e3⟩ := g3 k hk
    have e1' : e ∈ o.after := by simpa using e1
    rcases e3 with rfl | e3
    · exact hall e e1' e2
    · have hl := hall e e1' e2
      have hlt := g1 e e1 e2
      have hlt2 : e.on < ops.size := Nat.lt_trans hlt (Array.getElem?_eq_some_iff.1 ho).1
      exact ih e.on hlt ops[e.on] (by simp [hlt2]) (hc e.on _ (by simp [hlt2]) hl) k e3

theorem getD_lists {listed : Array Bool} {k : Nat} (h : k < listed.size) : listed.getD k true = listed.getD k false := by
  simp [Array.getD, h]

structure Left (ops : Array Oper) (listed : Array Bool) (rest : List Nat) : Prop where
  size : listed.size = ops.size
  mem : ∀ k, k ∈ rest ↔ k < ops.size ∧ listed.getD k false = false
  asc : rest.Pairwise (· < ·)
  closed : Closed ops listed

def pick (ops : Array Oper) (rest : List Nat) : List Oper := rest.filterMap fun i => ops[i]?

theorem any_sound (ro : Option Nat) (hS : SysOK S P) (hcall : CallOK S P call) (hst : CallStill S call) {ops : Array Oper} (hd : drawOK S ops = true) {K : List AV → AH → Option R} {r : R} (Q : Exit → Act → World → Prop) {E0 : GE} (hQ : ∀ s' H' a' E', K s' H' = some r → E0.le E' → Rel S H' E' → ARel E' s' a' → Q .normal a' E'.w) :
    ∀ (n : Nat) (listed : Array Bool) (rest : List Nat), rest.length = n → Left ops listed rest → ∀ {s : List AV} {H : AH} {E : GE} {a : Act}, opsK S call ops (pick ops rest) s H K = some r → E0.le E → Rel S H E → ARel E s a → wpAnyIn (WR ro) 0 P .any ops Q n listed a E.w := by
  obtain ⟨M, hM⟩ := draw_good hd
  intro n
  induction n with
  | zero =>
    intro listed rest hn hl s H E a h hle hr ha
    obtain rfl := List.length_eq_zero_iff.1 hn
    refine ⟨?_, hQ s H a E h hle hr ha⟩
    apply List.eq_nil_iff_forall_not_mem.2
    intro j hj
    obtain ⟨j1, o, j2, -⟩ := mem_ready.1 hj
    have hlt := (Array.getElem?_eq_some_iff.1 j2).1
    have := (hl.mem j).2 ⟨hlt, by rw [← getD_lists (hl.size ▸ hlt)]; exact j1⟩
    simp at this
  | succ n ih =>
    intro listed rest hn hl s H E a h hle hr ha
    refine ⟨?_, ?_⟩
    · intro hnil
      exfalso
      cases rest with
      | nil => simp at hn
      | cons k rest =>
        have hk := (hl.mem k).1 (List.mem_cons_self ..)
        have : k ∈ Region.ready .any ops listed := by
          refine mem_ready.2 ⟨by rw [getD_lists (hl.size ▸ hk.1)]; exact hk.2, ops[k], by simp [hk.1], ?_⟩
          intro e he hb
          have hlt := (hM k ops[k] (by simp [hk.1])).1 e (by simpa using he) hb
          cases hx : listed.getD e.on false with
          | true => rfl
          | false =>
            have := (hl.mem e.on).2 ⟨Nat.lt_trans hlt hk.1, hx⟩
            rcases List.mem_cons.1 this with h1 | h1
            · omega
            · have := List.rel_of_pairwise_cons hl.asc h1; omega
        rw [hnil] at this
        simp at this
    · intro i hi
      obtain ⟨i1, o, i2, i3⟩ := mem_ready.1 hi
      have hlt := (Array.getElem?_eq_some_iff.1 i2).1
      have hmem := (hl.mem i).2 ⟨hlt, by rw [← getD_lists (hl.size ▸ hlt)]; exact i1⟩
      obtain ⟨pre, post, rfl⟩ := List.append_of_mem hmem
      have hasc := List.pairwise_append.1 hl.asc
      have hpre : ∀ k, k ∈ pre → k < i := fun k hk => hasc.2.2 k hk i (List.mem_cons_self ..)
      have hpost : ∀ k, k ∈ post → i < k := fun k hk => List.rel_of_pairwise_cons hasc.2.1 hk
      have hcl : ∀ a, a ∈ pick ops pre → clash S ops a o = false := by
        intro a' ha'
        obtain ⟨k, hk, hka⟩ := List.mem_filterMap.1 ha'
        rcases (hM i o i2).2.1 k (hpre k hk) with h1 | ⟨a2, h1, h2⟩
        · have := reach hM hl.closed hl.size i o i2 i3 k h1
          have h3 := ((hl.mem k).1 (List.mem_append_left _ hk)).2
          rw [this] at h3; simp at h3
        · have : a2 = a' := by
            have : ops[k]? = some a2 := by simpa using h1
            rw [hka] at this; exact (Option.some.inj this).symm
          subst this
          exact h2
      have hpick : pick ops (pre ++ i :: post) = pick ops pre ++ o :: pick ops post := by
        simp [pick, i2]
      have hpick2 : pick ops (pre ++ post) = pick ops pre ++ pick ops post := by simp [pick]
      have hrun : opsK S call ops (o :: pick ops (pre ++ post)) s H K = some r := by
        rw [hpick, opsK_run] at h
        obtain ⟨p, h1, h2⟩ := optK_inv2 h
        rw [opsK_run, hpick2, front hst _ hcl h1]
        exact h2
      have hl' : Left ops (listed.setIfInBounds i true) (pre ++ post) := by
        refine ⟨by simp [hl.size], ?_, ?_, ?_⟩
        · intro k
          by_cases e : i = k
          · subst e
            constructor
            · intro hk
              rcases List.mem_append.1 hk with h1 | h1
              · exact absurd (hpre i h1) (by omega)
              · exact absurd (hpost i h1) (by omega)
            · rintro ⟨-, h1⟩
              simp [hl.size, hlt] at h1
          · rw [getD_set_ne false e, ← hl.mem k]
            simp [Ne.symm e]
        · rw [List.pairwise_append]
          exact ⟨hasc.1, (List.pairwise_cons.1 hasc.2.1).2, fun x hx y hy => Nat.lt_trans (hpre x hx) (hpost y hy)⟩
        · intro j o' hj hjl e he hb
          by_cases e' : i = j
          · subst e'
            rw [i2] at hj
            obtain rfl := Option.some.inj hj
            exact getD_set_true (i3 e he hb)
          · rw [getD_set_ne false e'] at hjl
            exact getD_set_true (hl.closed j o' hj hjl e he hb)
      have h1 := step_sound ro hS hcall hrun hr ha (wpAnyIn (WR ro) 0 P .any ops Q n (listed.setIfInBounds i true)) Q (fun s' H' a' E' h1 h2 h3 h4 => ih _ (pre ++ post) (by simp at hn ⊢; omega) hl' h1 (hle.trans h2) h3 h4)
      unfold wpOpIn
      simp only [i2]
      split at h1
      · rename_i hw; rw [if_pos hw]; exact h1
      · rename_i hw; rw [if_neg hw]; exact ⟨fun _ _ => trivial, h1⟩

/-- A region whose order is drawn, but forced. -/
theorem line_sound (ro : Option Nat) (hS : SysOK S P) (hcall : CallOK S P call) {ops : Array Oper} (hd : lineOK ops = true) {ex : Ex} {s1 : List AV} {H1 : AH} (Q : Exit → Act → World → Prop) {E0 : GE}
    (hQ : ex = .normal → ∀ a' E', E0.le E' → Rel S H1 E' → ARel E' s1 a' → Q .normal a' E'.w)
    (hP : ∀ v, ex = .panic v → ∀ a' x E', E0.le E' → Rel S H1 E' → VRel E' v x → ARel E' s1 a' → Q (.panic [{ v := x, recovered := false }]) a' E'.w) :
    ∀ (n : Nat) (listed : Array Bool) (rest : List Nat), rest.length = n → Left ops listed rest → ∀ {s : List AV} {H : AH} {E : GE} {a : Act}, runX S call ops (pick ops rest) s H = some (ex, s1, H1) → E0.le E → Rel S H E → ARel E s a → wpAnyIn (WR ro) 0 P .any ops Q n listed a E.w := by
  obtain ⟨M, hM⟩ := draw_good (cl := fun _ _ => true) hd
  intro n
  induction n with
  | zero =>
    intro listed rest hn hl s H E a h hle hr ha
    obtain rfl := List.length_eq_zero_iff.1 hn
    have h' : some (Ex.normal, s, H) = some (ex, s1, H1) := h
    simp only [Option.some.injEq, Prod.mk.injEq] at h'
    obtain ⟨rfl, rfl, rfl⟩ := h'
    refine ⟨?_, hQ rfl a E hle hr ha⟩
    apply List.eq_nil_iff_forall_not_mem.2
    intro j hj
    obtain ⟨j1, o, j2, -⟩ := mem_ready.1 hj
    have hlt := (Array.getElem?_eq_some_iff.1 j2).1
    have := (hl.mem j).2 ⟨hlt, by rw [← getD_lists (hl.size ▸ hlt)]; exact j1⟩
    simp at this
  | succ n ih =>
    intro listed rest hn hl s H E a h hle hr ha
    refine ⟨?_, ?_⟩
    · intro hnil
      exfalso
      cases rest with
      | nil => simp at hn
      | cons k rest =>
        have hk := (hl.mem k).1 (List.mem_cons_self ..)
        have : k ∈ Region.ready .any ops listed := by
          refine mem_ready.2 ⟨by rw [getD_lists (hl.size ▸ hk.1)]; exact hk.2, ops[k], by simp [hk.1], ?_⟩
          intro e he hb
          have hlt := (hM k ops[k] (by simp [hk.1])).1 e (by simpa using he) hb
          cases hx : listed.getD e.on false with
          | true => rfl
          | false =>
            have := (hl.mem e.on).2 ⟨Nat.lt_trans hlt hk.1, hx⟩
            rcases List.mem_cons.1 this with h1 | h1
            · omega
            · have := List.rel_of_pairwise_cons hl.asc h1; omega
        rw [hnil] at this
        simp at this
    · intro i hi
      obtain ⟨i1, o, i2, i3⟩ := mem_ready.1 hi
      have hlt := (Array.getElem?_eq_some_iff.1 i2).1
      have hmem := (hl.mem i).2 ⟨hlt, by rw [← getD_lists (hl.size ▸ hlt)]; exact i1⟩
      obtain ⟨pre, post, rfl⟩ := List.append_of_mem hmem
      have hasc := List.pairwise_append.1 hl.asc
      have hpre : ∀ k, k ∈ pre → k < i := fun k hk => hasc.2.2 k hk i (List.mem_cons_self ..)
      have hpost : ∀ k, k ∈ post → i < k := fun k hk => List.rel_of_pairwise_cons hasc.2.1 hk
      have hnil : pre = [] := by
        apply List.eq_nil_iff_forall_not_mem.2
        intro k hk
        rcases (hM i o i2).2.1 k (hpre k hk) with h1 | ⟨a2, h1, h2⟩
        · have := reach hM hl.closed hl.size i o i2 i3 k h1
          have h3 := ((hl.mem k).1 (List.mem_append_left _ hk)).2
          rw [this] at h3; simp at h3
        · simp at h2
      subst hnil
      have hpick : pick ops ([] ++ i :: post) = o :: pick ops post := by
        simp [pick, i2]
      rw [hpick] at h
      have hl' : Left ops (listed.setIfInBounds i true) post := by
        refine ⟨by simp [hl.size], ?_, ?_, ?_⟩
        · intro k
          by_cases e : i = k
          · subst e
            constructor
            · intro hk
              exact absurd (hpost i hk) (by omega)
            · rintro ⟨-, h1⟩
              simp [hl.size, hlt] at h1
          · rw [getD_set_ne false e, ← hl.mem k]
            simp [Ne.symm e]
        · exact (List.pairwise_cons.1 hasc.2.1).2
        · intro j o' hj hjl e he hb
          by_cases e' : i = j
          · subst e'
            rw [i2] at hj
            obtain rfl := Option.some.inj hj
            exact getD_set_true (i3 e he hb)
          · rw [getD_set_ne false e'] at hjl
            exact getD_set_true (hl.closed j o' hj hjl e he hb)
      have h1 : (if Region.wanted o (yielded ops a.tmps) = true then o.wpIn (WR ro) 0 P a E.w (wpAnyIn (WR ro) 0 P .any ops Q n (listed.setIfInBounds i true)) Q else wpAnyIn (WR ro) 0 P .any ops Q n (listed.setIfInBounds i true) (a.put o.dst undef) E.w) := by
        simp only [runX] at h
        cases hq : stepX S call ops o s H with
        | none => rw [hq] at h; simp [thenX] at h
        | some q =>
          obtain ⟨qe, qs, qH⟩ := q
          rcases stepX_ex hq with e | ⟨v, e⟩
          · simp only at e
            subst e
            rw [hq] at h
            have h' : runX S call ops (pick ops post) qs qH = some (ex, s1, H1) := h
            exact stepX_sound ro hS hcall hq hr ha _ Q (fun _ a' E' h2 h3 h4 => ih _ post (by simp at hn ⊢; omega) hl' h' (hle.trans h2) h3 h4) (fun v e => by simp at e)
          · simp only at e
            subst e
            rw [hq] at h
            simp only [thenX, Option.some.injEq, Prod.mk.injEq] at h
            obtain ⟨rfl, rfl, rfl⟩ := h
            refine stepX_sound ro hS hcall hq hr ha _ Q (fun e => by simp at e) (fun v' e x E' h2 h3 h4 h5 => ?_)
            exact hP v' e a x E' (hle.trans h2) h3 h4 h5
      unfold wpOpIn
      simp only [i2]
      split at h1
      · rename_i hw; rw [if_pos hw]; exact h1
      · rename_i hw; rw [if_neg hw]; exact ⟨fun _ _ => trivial, h1⟩

end Go.Sx

/- THE ENGINE, 27b: regions whose order is drawn, with objects that are made in no certain order. -/
set_option linter.unusedSimpArgs false
set_option linter.unusedVariables false
namespace Go.Sx
variable {R : Type} {S : Sys} {P : Program} {call : Caller}

/-- Calls with trees ask of no object that is not there. -/
def CallMild (S : Sys) (call : Caller) : Prop := ∀ f args (H : AH) v H' id X, S.isPure f = true → H.objs[id]? = some (.dead false) → call f args H = some (v, H') → call f args { H with objs := H.objs.set id X } = some (v, { H with objs := H.objs.set id X })

theorem mild_changes {o : Oper} (h : mild S o = true) : changes S o = false := by
  unfold mild at h
  rw [Bool.or_eq_true] at h
  rcases h with h | h
  · exact changes_touches (by simpa using h)
  · obtain ⟨dst, op, type, pos, after, guard⟩ := o
    cases op <;> simp only at h <;> try (simp at h; done)
    · simp [changes]
    · rename_i c
      unfold changes
      simp only
      split at h
      · rename_i f hf
        rw [hf]; simp [h]
      · simp at h

theorem mild_set (hm : CallMild S call) {o : Oper} (h : mild S o = true) {s : List AV} {H H1 : AH} {u : AV} (hr : opK S call s H o pairK = some (u, H1)) {id : Nat} (hid : H.objs[id]? = some (.dead false)) (X : AObj) :
    opK S call s { H with objs := H.objs.set id X } o pairK = some (u, { H with objs := H.objs.set id X }) := by
  unfold mild at h
  rw [Bool.or_eq_true] at h
  rcases h with h | h
  · rw [opK_still (H2 := H) (by simpa using h), hr]
    rfl
  · obtain ⟨dst, op, type, pos, after, guard⟩ := o
    cases op <;> simp only at h <;> try (simp at h; done)
    · rename_i t a
      simp only [opK] at hr ⊢
      split at hr
      · rename_i i hi
        generalize ev S.G s a = av at hr ⊢
        unfold loadK at hr ⊢
        split at hr
        · split at hr
          · split at hr
            · rename_i hc
              simp only [if_pos hc]
              simp only [pairK, Option.some.injEq, Prod.mk.injEq] at hr ⊢
              exact ⟨hr.1, trivial⟩
            · simp at hr
          · simp at hr
          · simp at hr
          · simp only [pairK, Option.some.injEq, Prod.mk.injEq] at hr ⊢
            simp_all
        · rename_i j off
          split at hr
          · rename_i cs hcs
            have hne : id ≠ j := by
              intro e; subst e
              rw [hid] at hcs; simp at hcs
            simp only [List.getElem?_set_ne hne, hcs]
            rw [partK_nat] at hr ⊢
            cases hp : partK i cs off some with
            | none => rw [hp] at hr; simp [optK] at hr
            | some v =>
              rw [hp] at hr
              simp only [optK_some, pairK, Option.some.injEq, Prod.mk.injEq] at hr ⊢
              exact ⟨hr.1, trivial⟩
          · rename_i u cs hcs
            have hne : id ≠ j := by
              intro e; subst e
              rw [hid] at hcs; simp at hcs
            simp only [List.getElem?_set_ne hne, hcs]
            rw [partK_nat] at hr ⊢
            cases hp : partK i cs off some with
            | none => rw [hp] at hr; simp [optK] at hr
            | some v =>
              rw [hp] at hr
              simp only [optK_some, pairK, Option.some.injEq, Prod.mk.injEq] at hr ⊢
              exact ⟨hr.1, trivial⟩
          · simp at hr
        · simp at hr
      · simp at hr
    · rename_i c
      split at h
      · rename_i f hf
        simp only [opK, hf, ev, callFn] at hr ⊢
        obtain ⟨p, h1, h2⟩ := optK_inv2 hr
        simp only [pairK, Option.some.injEq, Prod.mk.injEq] at h2
        rw [hm _ _ _ p.1 p.2 id X h hid h1]
        simp only [optK_some, pairK, h2.1]
      · simp at h

theorem slots_spec {all : Array Oper} {a b : Oper} (h : slotsClash all a b = false) : (∀ d, a.dst = some d → d ∉ usesT all b) ∧ (∀ d, a.dst = some d → b.dst ≠ some d) ∧ (∀ d, b.dst = some d → d ∉ usesT all a) := by
  unfold slotsClash at h
  simp only [Bool.or_eq_false_iff] at h
  obtain ⟨h3, h4⟩ := h
  refine ⟨fun d hd => ?_, fun d hd => ?_, fun d hd => ?_⟩
  · rw [hd] at h3; simp at h3; exact h3.1
  · rw [hd] at h3; simp at h3; exact h3.2
  · rw [hd] at h4; simp at h4; exact h4

theorem clashB_slots {bi : Nat → Option Nat} {all : Array Oper} {a b : Oper} (h : clashB bi S all a b = false) : (∀ d, a.dst = some d → d ∉ usesT all b) ∧ (∀ d, a.dst = some d → b.dst ≠ some d) ∧ (∀ d, b.dst = some d → d ∉ usesT all a) := by
  unfold clashB at h
  split at h
  · exact slots_spec h
  · exact slots_spec (by simp at h; exact h.2)
  · exact slots_spec (by simp at h; exact h.2)
  · exact (clash_spec h).2.2

theorem birth_inv {H H' : AH} {t : TypeId} {id : Nat} {v : AV} (h : birthK S H t id = some (v, H')) : ∃ X, v = .ptr id 0 ∧ H.objs[id]? = some (.dead false) ∧ H' = { H with objs := H.objs.set id X } ∧ X ≠ .dead false ∧ ∀ H2 : AH, H2.objs[id]? = some (.dead false) → birthK S H2 t id = some (.ptr id 0, { H2 with objs := H2.objs.set id X }) := by
  unfold birthK at h
  split at h
  · rename_i i hi
    split at h
    · rename_i hz
      split at h
      · rename_i hid
        simp only [Option.some.injEq, Prod.mk.injEq] at h
        exact ⟨_, h.1.symm, hid, h.2.symm, by simp, fun H2 h2 => by unfold birthK; simp only [hi, if_pos hz, h2]⟩
      · simp at h
    · simp at h
  · simp at h

theorem opB_none {bi : Nat → Option Nat} {s : List AV} {H : AH} {o : Oper} (h : bornAt bi o = none) : opB bi S call s H o = opK S call s H o pairK := by
  unfold opB
  rw [h]

theorem opB_some {bi : Nat → Option Nat} {s : List AV} {H : AH} {o : Oper} {p : TypeId × Nat} (h : bornAt bi o = some p) : opB bi S call s H o = birthK S H p.1 p.2 := by
  unfold opB
  rw [h]

/-- Two operations that do not clash: the objects. -/
theorem swap_opB (hc : CallStill S call) (hm : CallMild S call) {bi : Nat → Option Nat} {all : Array Oper} {a b : Oper} (hcl : clashB bi S all a b = false) {s : List AV} {H H1 H2 : AH} {u v : AV} (h1 : opB bi S call s H a = some (u, H1)) (h2 : opB bi S call s H1 b = some (v, H2)) :
    ∃ H1', opB bi S call s H b = some (v, H1') ∧ opB bi S call s H1' a = some (u, H2) := by
  unfold clashB isBirth at hcl
  cases hb : bornAt bi b with
  | some q =>
    rw [opB_some hb] at h2 ⊢
    obtain ⟨X, rfl, g1, rfl, g2, g3⟩ := birth_inv h2
    cases ha : bornAt bi a with
    | some p =>
      rw [opB_some ha] at h1
      obtain ⟨Y, rfl, k1, rfl, k2, k3⟩ := birth_inv h1
      have hlt : p.2 < H.objs.length := by
        rcases Nat.lt_or_ge p.2 H.objs.length with h' | h'
        · exact h'
        · simp [List.getElem?_eq_none h'] at k1
      have hne : p.2 ≠ q.2 := by
        intro e
        simp only [e] at g1 hlt
        rw [← e] at g1
        rw [e] at g1
        simp only [List.getElem?_set_self hlt, Option.some.injEq] at g1
        exact k2 g1
      simp only [List.getElem?_set_ne hne] at g1
      refine ⟨_, g3 H g1, ?_⟩
      rw [opB_some ha, k3 _ (by simp only [List.getElem?_set_ne (Ne.symm hne)]; exact k1)]
      simp only [Option.some.injEq, Prod.mk.injEq, AH.mk.injEq, and_true, true_and]
      exact List.set_comm _ _ (Ne.symm hne)
    | none =>
      rw [hb, ha] at hcl
      simp only [Option.isSome_some, Option.isSome_none, Bool.or_eq_false_iff, Bool.not_eq_false'] at hcl
      rw [opB_none ha] at h1
      have e1 := opK_quiet hc (mild_changes hcl.1) h1
      subst e1
      exact ⟨_, g3 _ g1, by rw [opB_none ha]; exact mild_set hm hcl.1 h1 g1 X⟩
  | none =>
    rw [opB_none hb] at h2 ⊢
    cases ha : bornAt bi a with
    | some p =>
      rw [hb, ha] at hcl
      simp only [Option.isSome_some, Option.isSome_none, Bool.or_eq_false_iff] at hcl
      have e2 := opK_quiet hc (changes_touches hcl.1) h2
      subst e2
      refine ⟨H, ?_, h1⟩
      rw [opK_still hcl.1 (H2 := H2), h2]
      rfl
    | none =>
      rw [hb, ha] at hcl
      simp only [Option.isSome_none] at hcl
      rw [opB_none ha] at h1
      obtain ⟨H1', k1, k2⟩ := swap_op hc hcl h1 h2
      exact ⟨H1', k1, by rw [opB_none ha]; exact k2⟩

theorem opB_put {bi : Nat → Option Nat} {all : Array Oper} {o : Oper} {s : List AV} {H : AH} {dst : Option Nat} {v : AV} (h : ∀ d, dst = some d → d ∉ usesT all o) : opB bi S call (putD dst s v) H o = opB bi S call s H o := by
  unfold opB
  split
  · rfl
  · exact op_put h

theorem swapB (hc : CallStill S call) (hm : CallMild S call) {bi : Nat → Option Nat} {all : Array Oper} {a b : Oper} (hcl : clashB bi S all a b = false) {s : List AV} {H : AH} {p q : List AV × AH} (h1 : stepB bi S call all a s H = some p) (h2 : stepB bi S call all b p.1 p.2 = some q) :
    ∃ p', stepB bi S call all b s H = some p' ∧ stepB bi S call all a p'.1 p'.2 = some q := by
  obtain ⟨d1, d2, d3⟩ := clashB_slots hcl
  have d2' : ∀ d, b.dst = some d → a.dst ≠ some d := fun d hb ha => d2 d ha hb
  unfold stepB at h1
  split at h1
  · rename_i hw
    obtain ⟨⟨u, H1⟩, g1, e⟩ := optK_inv2 h1
    simp only [Option.some.injEq] at e
    subst e
    simp only at h2
    unfold stepB at h2
    rw [want_put d1] at h2
    split at h2
    · rename_i hv
      obtain ⟨⟨v, H2⟩, g2, e⟩ := optK_inv2 h2
      rw [opB_put d1] at g2
      simp only [Option.some.injEq] at e
      subst e
      obtain ⟨H1', k1, k2⟩ := swap_opB hc hm hcl g1 g2
      refine ⟨(putD b.dst s v, H1'), by simp [stepB, hv, k1, optK], ?_⟩
      simp only [stepB, want_put d3, hw, opB_put d3, k2, optK]
      rw [put_comm d2']
    · rename_i hv
      simp only [Option.some.injEq] at h2
      subst h2
      refine ⟨(putD b.dst s (.tuple []), H), by simp [stepB, hv], ?_⟩
      simp only [stepB, want_put d3, hw, opB_put d3, g1, optK]
      rw [put_comm d2']
    · simp at h2
  · rename_i hw
    simp only [Option.some.injEq] at h1
    subst h1
    simp only at h2
    unfold stepB at h2
    rw [want_put d1] at h2
    split at h2
    · rename_i hv
      obtain ⟨⟨v, H2⟩, g2, e⟩ := optK_inv2 h2
      rw [opB_put d1] at g2
      simp only [Option.some.injEq] at e
      subst e
      refine ⟨(putD b.dst s v, H2), by simp [stepB, hv, g2, optK], ?_⟩
      simp only [stepB, want_put d3, hw]
      rw [put_comm d2']
    · rename_i hv
      simp only [Option.some.injEq] at h2
      subst h2
      refine ⟨(putD b.dst s (.tuple []), H), by simp [stepB, hv], ?_⟩
      simp only [stepB, want_put d3, hw]
      rw [put_comm d2']
    · simp at h2
  · simp at h1

theorem frontB (hc : CallStill S call) (hm : CallMild S call) {bi : Nat → Option Nat} {all : Array Oper} {b : Oper} {post : List Oper} {r : List AV × AH} : ∀ (pre : List Oper), (∀ a, a ∈ pre → clashB bi S all a b = false) → ∀ {s : List AV} {H : AH}, runB bi S call all (pre ++ b :: post) s H = some r → runB bi S call all (b :: (pre ++ post)) s H = some r
  | [], _, s, H, h => h
  | a :: pre, hp, s, H, h => by
    simp only [List.cons_append, runB] at h
    obtain ⟨p, h1, h⟩ := optK_inv2 h
    have ih := frontB hc hm pre (fun a ha => hp a (List.mem_cons_of_mem _ ha)) h
    simp only [runB] at ih
    obtain ⟨q, h2, h3⟩ := optK_inv2 ih
    obtain ⟨p', k1, k2⟩ := swapB hc hm (hp a (List.mem_cons_self ..)) h1 h2
    simp only [List.cons_append, runB, k1, optK_some, k2, h3]

theorem opB_sound (ro : Option Nat) (hS : SysOK S P) (hcall : CallOK S P call) {bi : Nat → Option Nat} {H H' : AH} {E : GE} (hr : Rel S H E) {s : List AV} {a : Act} (ha : ARel E s a) {o : Oper} {v : AV} (h : opB bi S call s H o = some (v, H')) : GivesIn ro S P o a E v H' := by
  cases hb : bornAt bi o with
  | none =>
    rw [opB_none hb] at h
    obtain ⟨v', H'', h1, h2⟩ := op_sound ro hS hcall hr ha h
    simp only [pairK, Option.some.injEq, Prod.mk.injEq] at h1
    obtain ⟨rfl, rfl⟩ := h1
    exact h2
  | some p =>
    rw [opB_some hb] at h
    obtain ⟨dst, op, type, pos, after, guard⟩ := o
    unfold bornAt at hb
    split at hb
    · rename_i t d e1 e2
      simp only at e1
      subst e1
      split at hb
      · simp only [Option.some.injEq] at hb
        subst hb
        obtain ⟨E', h1, h2, h3, h4⟩ := birth_sound hS hr.h h
        exact gives_valueI (by simp [execOp, h1]) h2 (hr.mono h2 h3) h4
      · simp at hb
    · simp at hb

theorem stepB_sound (ro : Option Nat) (hS : SysOK S P) (hcall : CallOK S P call) {bi : Nat → Option Nat} {all : Array Oper} {o : Oper} {s : List AV} {H : AH} {p : List AV × AH} (h : stepB bi S call all o s H = some p)
    {E : GE} {a : Act} (hr : Rel S H E) (ha : ARel E s a) (next : Act → World → Prop) (Q : Exit → Act → World → Prop)
    (hn : ∀ a' E', E.le E' → Rel S p.2 E' → ARel E' p.1 a' → next a' E'.w) :
    (if Region.wanted o (yielded all a.tmps) = true then o.wpIn (WR ro) 0 P a E.w next Q else next (a.put o.dst undef) E.w) := by
  unfold stepB wantD at h
  have run : ∀ {s' : List AV}, ARel E s' a → (optK (opB bi S call s H o) fun p => some (putD o.dst s p.1, p.2)) = some p → o.wpIn (WR ro) 0 P a E.w next Q := by
    intro s' _ h
    obtain ⟨⟨v, H'⟩, h1, h2⟩ := optK_inv2 h
    simp only [Option.some.injEq] at h2
    subst h2
    exact opB_sound ro hS hcall hr ha h1 next Q (fun x E' hle hr' hv => hn _ E' hle hr' (put_rel (ha.mono hle) hv o.dst))
  cases hg : o.guard with
  | none =>
    rw [hg] at h
    rw [if_pos (by simp [Region.wanted, hg])]
    exact run ha h
  | some g =>
    obtain ⟨j, want⟩ := g
    rw [hg] at h
    simp only at h
    cases hd : (all[j]?).bind (·.dst) with
    | none => rw [hd] at h; simp at h
    | some d =>
      rw [hd] at h
      simp only at h
      split at h
      · rename_i hw
        split at hw
        · rename_i t ht
          simp only [Option.some.injEq] at hw
          have hy := yielded_of hd (tmp_bool ha ht)
          rw [if_pos (by simp only [Region.wanted, hg, hy]; simpa using hw)]
          exact run ha h
        · simp at hw
        · simp at hw
      · rename_i hw
        simp only [Option.some.injEq] at h
        subst h
        have hno : Region.wanted o (yielded all a.tmps) = false := by
          split at hw
          · rename_i t ht
            simp only [Option.some.injEq] at hw
            have hy := yielded_of hd (tmp_bool ha ht)
            simp only [Region.wanted, hg, hy]
            simpa using hw
          · rename_i ht
            have hy := yielded_undef hd (tmp_undef ha ht)
            simp [Region.wanted, hg, hy]
          · simp at hw
        rw [if_neg (by rw [hno]; simp)]
        exact hn _ E (GE.le.refl E) hr (put_rel ha (rel_undef E) o.dst)
      · simp at h

theorem any_soundB (ro : Option Nat) (hS : SysOK S P) (hcall : CallOK S P call) (hst : CallStill S call) (hm : CallMild S call) {bi : Nat → Option Nat} {ops : Array Oper} (hd : drawGo (clashB bi S ops) ops.toList 0 [] [] = true) {q : List AV × AH} (Q : Exit → Act → World → Prop) {E0 : GE} (hQ : ∀ a' E', E0.le E' → Rel S q.2 E' → ARel E' q.1 a' → Q .normal a' E'.w) :
    ∀ (n : Nat) (listed : Array Bool) (rest : List Nat), rest.length = n → Left ops listed rest → ∀ {s : List AV} {H : AH} {E : GE} {a : Act}, runB bi S call ops (pick ops rest) s H = some q → E0.le E → Rel S H E → ARel E s a → wpAnyIn (WR ro) 0 P .any ops Q n listed a E.w := by
  obtain ⟨M, hM⟩ := draw_good hd
  intro n
  induction n with
  | zero =>
    intro listed rest hn hl s H E a h hle hr ha
    obtain rfl := List.length_eq_zero_iff.1 hn
    have h' : some (s, H) = some q := h
    obtain rfl := Option.some.inj h'
    refine ⟨?_, hQ a E hle hr ha⟩
    apply List.eq_nil_iff_forall_not_mem.2
    intro j hj
    obtain ⟨j1, o, j2, -⟩ := mem_ready.1 hj
    have hlt := (Array.getElem?_eq_some_iff.1 j2).1
    have := (hl.mem j).2 ⟨hlt, by rw [← getD_lists (hl.size ▸ hlt)]; exact j1⟩
    simp at this
  | succ n ih =>
    intro listed rest hn hl s H E a h hle hr ha
    refine ⟨?_, ?_⟩
    · intro hnil
      exfalso
      cases rest with
      | nil => simp at hn
      | cons k rest =>
        have hk := (hl.mem k).1 (List.mem_cons_self ..)
        have : k ∈ Region.ready .any ops listed := by
          refine mem_ready.2 ⟨by rw [getD_lists (hl.size ▸ hk.1)]; exact hk.2, ops[k], by simp [hk.1], ?_⟩
          intro e he hb
          have hlt := (hM k ops[k] (by simp [hk.1])).1 e (by simpa using he) hb
          cases hx : listed.getD e.on false with
          | true => rfl
          | false =>
            have := (hl.mem e.on).2 ⟨Nat.lt_trans hlt hk.1, hx⟩
            rcases List.mem_cons.1 this with h1 | h1
            · omega
            · have := List.rel_of_pairwise_cons hl.asc h1; omega
        rw [hnil] at this
        simp at this
    · intro i hi
      obtain ⟨i1, o, i2, i3⟩ := mem_ready.1 hi
      have hlt := (Array.getElem?_eq_some_iff.1 i2).1
      have hmem := (hl.mem i).2 ⟨hlt, by rw [← getD_lists (hl.size ▸ hlt)]; exact i1⟩
      obtain ⟨pre, post, rfl⟩ := List.append_of_mem hmem
      have hasc := List.pairwise_append.1 hl.asc
      have hpre : ∀ k, k ∈ pre → k < i := fun k hk => hasc.2.2 k hk i (List.mem_cons_self ..)
      have hpost : ∀ k, k ∈ post → i < k := fun k hk => List.rel_of_pairwise_cons hasc.2.1 hk
      have hcl : ∀ a, a ∈ pick ops pre → clashB bi S ops a o = false := by
        intro a' ha'
        obtain ⟨k, hk, hka⟩ := List.mem_filterMap.1 ha'
        rcases (hM i o i2).2.1 k (hpre k hk) with h1 | ⟨a2, h1, h2⟩
        · have := reach hM hl.closed hl.size i o i2 i3 k h1
          have h3 := ((hl.mem k).1 (List.mem_append_left _ hk)).2
          rw [this] at h3; simp at h3
        · have : a2 = a' := by
            have : ops[k]? = some a2 := by simpa using h1
            rw [hka] at this; exact (Option.some.inj this).symm
          subst this
          exact h2
      have hpick : pick ops (pre ++ i :: post) = pick ops pre ++ o :: pick ops post := by
        simp [pick, i2]
      have hpick2 : pick ops (pre ++ post) = pick ops pre ++ pick ops post := by simp [pick]
      have hrun : runB bi S call ops (o :: pick ops (pre ++ post)) s H = some q := by
        rw [hpick] at h
        rw [hpick2]
        exact frontB hst hm _ hcl h
      simp only [runB] at hrun
      obtain ⟨p, g1, g2⟩ := optK_inv2 hrun
      have hl' : Left ops (listed.setIfInBounds i true) (pre ++ post) := by
        refine ⟨by simp [hl.size], ?_, ?_, ?_⟩
        · intro k
          by_cases e : i = k
          · subst e
            constructor
            · intro hk
              rcases List.mem_append.1 hk with h1 | h1
              · exact absurd (hpre i h1) (by omega)
              · exact absurd (hpost i h1) (by omega)
            · rintro ⟨-, h1⟩
              simp [hl.size, hlt] at h1
          · rw [getD_set_ne false e, ← hl.mem k]
            simp [Ne.symm e]
        · rw [List.pairwise_append]
          exact ⟨hasc.1, (List.pairwise_cons.1 hasc.2.1).2, fun x hx y hy => Nat.lt_trans (hpre x hx) (hpost y hy)⟩
        · intro j o' hj hjl e he hb
          by_cases e' : i = j
          · subst e'
            rw [i2] at hj
            obtain rfl := Option.some.inj hj
            exact getD_set_true (i3 e he hb)
          · rw [getD_set_ne false e'] at hjl
            exact getD_set_true (hl.closed j o' hj hjl e he hb)
      have h1 := stepB_sound ro hS hcall g1 hr ha (wpAnyIn (WR ro) 0 P .any ops Q n (listed.setIfInBounds i true)) Q (fun a' E' h2 h3 h4 => ih _ (pre ++ post) (by simp at hn ⊢; omega) hl' g2 (hle.trans h2) h3 h4)
      unfold wpOpIn
      simp only [i2]
      split at h1
      · rename_i hw; rw [if_pos hw]; exact h1
      · rename_i hw; rw [if_neg hw]; exact ⟨fun _ _ => trivial, h1⟩

theorem bornId_shift (k : Nat) : ∀ (l : List Nat) (n d : Nat), bornId (n + k) l d = (bornId n l d).map (· + k)
  | [], n, d => rfl
  | e :: r, n, d => by
    unfold bornId
    cases Nat.beq e d with
    | true => rfl
    | false =>
      simp only
      rw [show n + k + 1 = (n + 1) + k by omega]
      exact bornId_shift k r (n + 1) d

theorem isBirth_shift (k : Nat) (l : List Nat) (o : Oper) : isBirth (bornId (0 + k) l) o = isBirth (bornId 0 l) o := by
  unfold isBirth bornAt
  split
  · rename_i t d _ _
    rw [bornId_shift k l 0 d]
    cases bornId 0 l d <;> rfl
  · rfl

theorem clashB_shift (k : Nat) (l : List Nat) (ops : Array Oper) : clashB (bornId k l) S ops = clashB (bornId 0 l) S ops := by
  funext a b
  have e := isBirth_shift k l
  rw [Nat.zero_add] at e
  unfold clashB
  rw [e a, e b]

theorem resolveC_set {H : AH} {c v : AV} {id : Nat} (hid : H.objs[id]? = some (.dead false)) (X : AObj) (h : resolveC H c = some v) : resolveC { H with objs := H.objs.set id X } c = some v := by
  unfold resolveC at h ⊢
  split at h
  · rename_i j off len cap sz ag
    split at h
    · rename_i cs hcs
      have hne : id ≠ j := by
        intro e; subst e
        rw [hid] at hcs; simp at hcs
      simp only [List.getElem?_set_ne hne, hcs]
      exact h
    · simp at h
  · exact h

theorem resolveCs_set {H : AH} {id : Nat} (hid : H.objs[id]? = some (.dead false)) (X : AObj) : ∀ (cs vs : List AV), resolveCs H cs = some vs → resolveCs { H with objs := H.objs.set id X } cs = some vs
  | [], vs, h => h
  | c :: r, vs, h => by
    simp only [resolveCs] at h ⊢
    split at h
    · rename_i x xs h1 h2
      rw [resolveC_set hid X h1, resolveCs_set hid X r xs h2]
      exact h
    · simp at h

theorem resolve_set {H : AH} {c v : AV} {id : Nat} (hid : H.objs[id]? = some (.dead false)) (X : AObj) (h : resolve H c = some v) : resolve { H with objs := H.objs.set id X } c = some v := by
  unfold resolve at h ⊢
  split at h
  · split at h
    · rename_i xs h1
      rw [resolveCs_set hid X _ _ h1]
      exact h
    · simp at h
  · exact resolveC_set hid X h

theorem mapO_imp {f g : AV → Option AV} (hfg : ∀ v u, f v = some u → g v = some u) : ∀ {l us : List AV}, mapO f l = some us → mapO g l = some us
  | [], us, h => h
  | v :: l, us, h => by
    simp only [mapO] at h ⊢
    split at h
    · rename_i x hx
      rw [hfg v x hx]
      simp only
      split at h
      · rename_i xs hxs
        rw [mapO_imp hfg hxs]
        exact h
      · cases h
    · cases h
theorem frz_set {fl : Bool} {k : Nat} {H : AH} {id : Nat} (hid : H.objs[id]? = some (.dead false)) (X : AObj) : ∀ n v u, frz fl k H n v = some u → frz fl k { H with objs := H.objs.set id X } n v = some u
  | 0, v, u, h => by simp [frz] at h
  | n + 1, v, u, h => by
    have ih := frz_set (fl := fl) (k := k) hid X n
    unfold frz at h ⊢
    split at h
    · rename_i id' off len cap sz ag
      have hne : id' ≠ id ∨ id' = id := (Nat.decEq id' id).byCases (fun e => .inr e) .inl
      rcases hne with hne | rfl
      · have e : (H.objs.set id X)[id']? = H.objs[id']? := by rw [List.getElem?_set_ne (Ne.symm hne)]
        simp only [e]
        split at h
        · split at h
          · rename_i ho _ hle
            obtain ⟨xs, h1, h2⟩ := optM_inv h
            simp only [ho, hle, mapO_imp ih h1]
            exact h2
          · cases h
        · cases h
      · rw [hid] at h
        cases h
    · obtain ⟨xs, h1, h2⟩ := optM_inv h
      simp only [mapO_imp ih h1]; exact h2
    · obtain ⟨xs, h1, h2⟩ := optM_inv h
      simp only [mapO_imp ih h1]; exact h2
    · obtain ⟨xs, h1, h2⟩ := optM_inv h
      simp only [mapO_imp ih h1]; exact h2
    · obtain ⟨xs, h1, h2⟩ := optM_inv h
      simp only [ih _ _ h1]; exact h2
    · exact h

theorem resolveL_set {H : AH} {id : Nat} (hid : H.objs[id]? = some (.dead false)) (X : AObj) : ∀ (cs vs : List AV), resolveL H cs = some vs → resolveL { H with objs := H.objs.set id X } cs = some vs
  | [], vs, h => h
  | c :: r, vs, h => by
    simp only [resolveL] at h ⊢
    split at h
    · rename_i x xs h1 h2
      rw [resolve_set hid X h1, resolveL_set hid X r xs h2]
      simp only
      split at h
      · rename_i hb
        rw [if_pos hb]; exact h
      · rename_i hb
        rw [if_neg hb]
        obtain ⟨y, hy, he⟩ := optM_inv h
        unfold deepV at hy ⊢
        split at hy
        · rename_i y0 hy0
          rw [frz_set hid X _ _ _ hy0]
          simp only
          split at hy
          · obtain rfl := Option.some.inj hy
            exact he
          · cases hy
        · cases hy
    · simp at h

/-! ### Calls that only make objects, beside loads -/
theorem eqBytes_eq : ∀ {a b : List UInt8}, eqBytes a b = true → a = b
  | [], [], _ => rfl
  | a :: x, b :: y, h => by
    simp only [eqBytes, Bool.and_eq_true] at h
    rw [UInt8.toNat_inj.1 (Nat.eq_of_beq_eq_true h.1), eqBytes_eq h.2]
  | [], _ :: _, h => by simp [eqBytes] at h
  | _ :: _, [], h => by simp [eqBytes] at h
theorem eqInt_eq {a b : Int} (h : eqInt a b = true) : a = b := by
  unfold eqInt at h
  split at h
  · rw [Nat.eq_of_beq_eq_true h]
  · rw [Nat.eq_of_beq_eq_true h]
  · simp at h
theorem eqFn_eq {a b : Fn} (h : eqFn a b = true) : a = b := by
  unfold eqFn at h
  split at h
  · rw [Nat.eq_of_beq_eq_true h]
  · rw [Nat.eq_of_beq_eq_true h]
  · simpa using h

theorem eqSpare_eq {a b : Spare} (h : eqSpare a b = true) : a = b := by
  unfold eqSpare at h
  split at h
  · rfl
  · rfl
  · simp only [Bool.and_eq_true] at h
    rw [Nat.eq_of_beq_eq_true h.1, Nat.eq_of_beq_eq_true h.2]
  · simp at h
theorem eqCap_eq {a b : Option Nat} (h : eqCap a b = true) : a = b := by
  unfold eqCap at h
  split at h
  · rfl
  · rw [Nat.eq_of_beq_eq_true h]
  · simp at h
theorem eqB_eq {a b : Bool} (h : eqB a b = true) : a = b := by cases a <;> cases b <;> simp_all [eqB]
mutual
theorem eqA_eq : ∀ {a b : AV}, eqA a b = true → a = b
  | .top, b, h => by cases b <;> first | rfl | simp [eqA] at h
  | .bool a, b, h => by cases b <;> first | (simp [eqA] at h; done) | (simp only [eqA] at h; rw [eqB_eq h])
  | .int k a, b, h => by
    cases b <;> first | (simp [eqA] at h; done) | (simp only [eqA, Bool.and_eq_true, decide_eq_true_eq] at h; rw [h.1, eqInt_eq h.2])
  | .str a, b, h => by cases b <;> first | (simp [eqA] at h; done) | (simp only [eqA] at h; rw [eqBytes_eq h])
  | .ptr i o, b, h => by
    cases b <;> first | (simp [eqA] at h; done) | (simp only [eqA, Bool.and_eq_true] at h; rw [Nat.eq_of_beq_eq_true h.1, Nat.eq_of_beq_eq_true h.2])
  | .nilptr, b, h => by cases b <;> first | rfl | simp [eqA] at h
  | .rop v, b, h => by cases b <;> first | (simp [eqA] at h; done) | (simp only [eqA] at h; rw [eqA_eq h])
  | .nils, b, h => by cases b <;> first | rfl | simp [eqA] at h
  | .inl f p sz xs, b, h => by
    cases b <;> first | (simp [eqA] at h; done) | (simp only [eqA, Bool.and_eq_true] at h; rw [eqB_eq h.1.1, eqSpare_eq h.1.2.1, Nat.eq_of_beq_eq_true h.1.2.2, eqAL_eq h.2])
  | .sl i o l c s g, b, h => by
    cases b <;> first | (simp [eqA] at h; done) | (simp only [eqA, Bool.and_eq_true] at h; rw [Nat.eq_of_beq_eq_true h.1.1, Nat.eq_of_beq_eq_true h.1.2.1, Nat.eq_of_beq_eq_true h.1.2.2, eqCap_eq h.2.1, Nat.eq_of_beq_eq_true h.2.2.1, eqB_eq h.2.2.2])
  | .map i, b, h => by cases b <;> first | (simp [eqA] at h; done) | (simp only [eqA] at h; rw [Nat.eq_of_beq_eq_true h])
  | .nilmap, b, h => by cases b <;> first | rfl | simp [eqA] at h
  | .func f a c, b, h => by
    cases b <;> first | (simp [eqA] at h; done) | (simp only [eqA, Bool.and_eq_true] at h; rw [eqFn_eq h.1, eqAL_eq h.2.1, eqAL_eq h.2.2])
  | .nilfunc, b, h => by cases b <;> first | rfl | simp [eqA] at h
  | .iface t v, b, h => by
    cases b <;> first | (simp [eqA] at h; done) | (simp only [eqA, Bool.and_eq_true] at h; rw [Nat.eq_of_beq_eq_true h.1, eqA_eq h.2])
  | .niliface, b, h => by cases b <;> first | rfl | simp [eqA] at h
  | .agg a, b, h => by cases b <;> first | (simp [eqA] at h; done) | (simp only [eqA] at h; rw [eqAL_eq h])
  | .tuple a, b, h => by cases b <;> first | (simp [eqA] at h; done) | (simp only [eqA] at h; rw [eqAL_eq h])
theorem eqAL_eq : ∀ {a b : List AV}, eqAL a b = true → a = b
  | [], [], _ => rfl
  | a :: x, b :: y, h => by
    simp only [eqAL, Bool.and_eq_true] at h
    rw [eqA_eq h.1, eqAL_eq h.2]
  | [], _ :: _, h => by simp [eqAL] at h
  | _ :: _, [], h => by simp [eqAL] at h
end

/-- What is loaded of an object. -/
def contO : Option AObj → Option AObj
  | some (.cells a) => some (.cells a)
  | some (.tcells u a) => some (.tcells u a)
  | _ => none
theorem eqO_cont {a b : AObj} (h : eqO a b = true) : contO (some a) = contO (some b) := by
  cases a <;> cases b <;> first | rfl | (simp [eqO] at h; done) | skip
  · simp only [eqO] at h
    rw [eqAL_eq h]
  · simp only [eqO, Bool.and_eq_true] at h
    rw [Nat.eq_of_beq_eq_true h.1, eqAL_eq h.2]
theorem noCont_c {a : AObj} (h : noCont a = true) : contO (some a) = none := by
  cases a <;> first | rfl | simp [noCont] at h
theorem eqOo_cont : ∀ {a b : Option AObj}, eqOo a b = true → contO a = contO b
  | some a, some b, h => eqO_cont h
  | none, some b, h => (noCont_c h).symm
  | some a, none, h => noCont_c h
  | none, none, _ => rfl
theorem eqBytes_refl : ∀ a : List UInt8, eqBytes a a = true
  | [] => rfl
  | a :: x => by simp [eqBytes, eqBytes_refl x]
theorem eqInt_refl (a : Int) : eqInt a a = true := by cases a <;> simp [eqInt]
theorem eqFn_refl (a : Fn) : eqFn a a = true := by cases a <;> simp [eqFn]
theorem eqSpare_refl (a : Spare) : eqSpare a a = true := by cases a <;> simp [eqSpare]
theorem eqCap_refl (a : Option Nat) : eqCap a a = true := by cases a <;> simp [eqCap]
theorem eqB_refl (a : Bool) : eqB a a = true := by cases a <;> rfl
mutual
theorem eqA_refl : ∀ a : AV, eqA a a = true
  | .top => rfl
  | .bool b => by cases b <;> rfl
  | .int k n => by simp [eqA, eqInt_refl]
  | .str s => by simp [eqA, eqBytes_refl]
  | .ptr i o => by simp [eqA]
  | .nilptr => rfl
  | .rop v => by simp only [eqA]; exact eqA_refl v
  | .nils => rfl
  | .inl f p sz xs => by simp [eqA, eqB_refl, eqSpare_refl, eqAL_refl xs]
  | .sl i o l c s g => by simp [eqA, eqB_refl, eqCap_refl]
  | .map i => by simp [eqA]
  | .nilmap => rfl
  | .func f a b => by simp [eqA, eqFn_refl, eqAL_refl a, eqAL_refl b]
  | .nilfunc => rfl
  | .iface t v => by simp [eqA, eqA_refl v]
  | .niliface => rfl
  | .agg a => by simp only [eqA]; exact eqAL_refl a
  | .tuple a => by simp only [eqA]; exact eqAL_refl a
theorem eqAL_refl : ∀ a : List AV, eqAL a a = true
  | [] => rfl
  | a :: x => by simp [eqAL, eqA_refl a, eqAL_refl x]
end
theorem eqO_of {a b : AObj} (h : contO (some a) = contO (some b)) : eqO a b = true := by
  cases a <;> cases b <;> first | rfl | (simp [contO] at h; done) | skip
  · simp only [contO, Option.some.injEq, AObj.cells.injEq] at h
    subst h; exact eqAL_refl _
  · simp only [contO, Option.some.injEq, AObj.tcells.injEq] at h
    obtain ⟨rfl, rfl⟩ := h
    simp [eqO, eqAL_refl]
theorem noCont_of {a : AObj} (h : contO (some a) = none) : noCont a = true := by
  cases a <;> first | rfl | simp [contO] at h
theorem eqOo_of : ∀ {a b : Option AObj}, contO a = contO b → eqOo a b = true
  | some a, some b, h => eqO_of h
  | none, some b, h => noCont_of h.symm
  | some a, none, h => noCont_of h
  | none, none, _ => rfl
theorem frameI_get : ∀ {L : List Nat} {x y : List AObj}, frameI L x y = true → ∀ id, id ∈ L → contO x[id]? = contO y[id]?
  | [], x, y, h, id, hid => absurd hid (by simp)
  | i :: L, x, y, h, id, hid => by
    simp only [frameI, Bool.and_eq_true] at h
    rcases List.mem_cons.1 hid with rfl | hid
    · exact eqOo_cont h.1
    · exact frameI_get h.2 id hid
theorem frameI_sub : ∀ {L L' : List Nat} {x y : List AObj}, (∀ id, id ∈ L → id ∈ L') → frameI L' x y = true → frameI L x y = true
  | [], L', x, y, hs, h => rfl
  | i :: L, L', x, y, hs, h => by
    have one : ∀ {M : List Nat}, i ∈ M → frameI M x y = true → eqOo x[i]? y[i]? = true := by
      intro M
      induction M with
      | nil => simp
      | cons k M ih =>
        intro hm hf
        simp only [frameI, Bool.and_eq_true] at hf
        rcases List.mem_cons.1 hm with rfl | hm
        · exact hf.1
        · exact ih hm hf.2
    simp only [frameI, Bool.and_eq_true]
    exact ⟨one (hs i (List.mem_cons_self ..)) h, frameI_sub (fun id hid => hs id (List.mem_cons_of_mem _ hid)) h⟩

/-- The same with the list of the loaded objects given ahead. -/
def loadedB (L : List Nat) (a : AV) : Bool := match a with
  | .ptr id _ => decide (id ∈ L)
  | _ => true
def chkG (n : List Nat) (S : Sys) (s : List AV) (H : AH) (o : Oper) (H' : AH) : Bool := match growCall S o with
  | true => frameI n H.objs H'.objs
  | false => (match o.op with
    | .load _ a => loadedB n (ev S.G s a)
    | _ => true)
def opG3 (n : List Nat) (S : Sys) (call : Caller) (s : List AV) (H : AH) (o : Oper) : Option (AV × AH) := optK (opK S call s H o fun v H => some (v, H)) fun p => match chkG n S s H o p.2 with
    | true => some p
    | false => none
def stepG3 (n : List Nat) (S : Sys) (call : Caller) (all : Array Oper) (o : Oper) (s : List AV) (H : AH) : Option (List AV × AH) :=
  match wantD all o s with
  | some true => optK (opG3 n S call s H o) fun p => some (putD o.dst s p.1, p.2)
  | some false => some (putD o.dst s (.tuple []), H)
  | none => none
def runG3 (n : List Nat) (S : Sys) (call : Caller) (all : Array Oper) : List Oper → List AV → AH → Option (List AV × AH)
  | [], s, H => some (s, H)
  | o :: r, s, H => optK (stepG3 n S call all o s H) fun p => runG3 n S call all r p.1 p.2

theorem metB_mem : ∀ {L : List Nat} {ps : List (AH × AH)}, metB L ps = true → ∀ p, p ∈ ps → frameI L p.1.objs p.2.objs = true
  | L, [], _, p, hp => absurd hp (by simp)
  | L, q :: ps, h, p, hp => by
    simp only [metB, Bool.and_eq_true] at h
    rcases List.mem_cons.1 hp with rfl | hp
    · exact h.1
    · exact metB_mem h.2 p hp

theorem metL_le {a : AV} {m : Met} : (∀ id, id ∈ m.1 → id ∈ (metL a m).1) ∧ (metL a m).2 = m.2 := by
  unfold metL
  split
  · exact ⟨fun id h => List.mem_cons_of_mem _ h, rfl⟩
  · exact ⟨fun id h => h, rfl⟩
theorem metOf_le {s : List AV} {H H' : AH} {o : Oper} {m : Met} : (∀ id, id ∈ m.1 → id ∈ (metOf S s H o H' m).1) ∧ (∀ p, p ∈ m.2 → p ∈ (metOf S s H o H' m).2) := by
  unfold metOf
  split
  · exact ⟨fun id h => h, fun p h => List.mem_cons_of_mem _ h⟩
  · split
    · exact ⟨metL_le.1, fun p h => by rw [metL_le.2]; exact h⟩
    · exact ⟨fun id h => h, fun p h => h⟩
theorem metOf_chk {L : List Nat} {s : List AV} {H H' : AH} {o : Oper} {m : Met} (h1 : ∀ id, id ∈ (metOf S s H o H' m).1 → id ∈ L) (h2 : ∀ p, p ∈ (metOf S s H o H' m).2 → frameI L p.1.objs p.2.objs = true) : chkG L S s H o H' = true := by
  unfold metOf at h1 h2
  unfold chkG
  split at h1
  · rename_i hg
    simp only [hg] at h2 ⊢
    exact h2 (H, H') (List.mem_cons_self ..)
  · rename_i hg
    simp only [hg]
    split at h1
    · rename_i t a ho
      simp only [ho]
      unfold loadedB
      unfold metL at h1
      split
      · rename_i id off he
        rw [he] at h1
        simp only [decide_eq_true_eq]
        exact h1 id (List.mem_cons_self ..)
      · rfl
    · rename_i ho
      split
      · rename_i t a he
        exact absurd he (ho t a)
      · rfl

theorem runM_G3 {all : Array Oper} : ∀ (l : List Oper) {s : List AV} {H : AH} {m : Met} {q : (List AV × AH) × Met}, runM S call all l s H m = some q → (∀ id, id ∈ m.1 → id ∈ q.2.1) ∧ (∀ p, p ∈ m.2 → p ∈ q.2.2) ∧ ∀ L, (∀ id, id ∈ q.2.1 → id ∈ L) → (∀ p, p ∈ q.2.2 → frameI L p.1.objs p.2.objs = true) → runG3 L S call all l s H = some q.1
  | [], s, H, m, q, h => by
    simp only [runM, Option.some.injEq] at h
    subst h
    exact ⟨fun id h => h, fun p h => h, fun L _ _ => rfl⟩
  | o :: l, s, H, m, q, h => by
    simp only [runM] at h
    obtain ⟨p, h1, h2⟩ := optK_inv2 h
    obtain ⟨k1, k2, k3⟩ := runM_G3 l h2
    unfold stepM at h1
    split at h1
    · rename_i hw
      obtain ⟨q1, h3, h4⟩ := optK_inv2 h1
      simp only [Option.some.injEq] at h4
      subst h4
      refine ⟨fun id hid => k1 id (metOf_le.1 id hid), fun p hp => k2 p (metOf_le.2 p hp), fun L a1 a2 => ?_⟩
      have hc : chkG L S s H o q1.2 = true := metOf_chk (m := m) (fun id hid => a1 id (k1 id hid)) (fun p hp => a2 p (k2 p hp))
      simp only [runG3, stepG3, hw, opG3]
      rw [show (opK S call s H o fun v H => some (v, H)) = some q1 from h3]
      simp only [optK, hc]
      exact k3 L a1 a2
    · rename_i hw
      simp only [Option.some.injEq] at h1
      subst h1
      refine ⟨k1, k2, fun L a1 a2 => ?_⟩
      simp only [runG3, stepG3, hw, optK]
      exact k3 L a1 a2
    · simp at h1
theorem runG_G3 {ops : Array Oper} {s : List AV} {H : AH} {q : List AV × AH} (h : runG S call ops s H = some q) : ∃ L, runG3 L S call ops ops.toList s H = some q := by
  unfold runG at h
  obtain ⟨p, h1, h2⟩ := optK_inv2 h
  split at h2
  · rename_i hm
    simp only [Option.some.injEq] at h2
    subst h2
    exact ⟨p.2.1, (runM_G3 _ h1).2.2 _ (fun id h => h) (metB_mem hm)⟩
  · simp at h2

theorem loadK_cont {H H1 : AH} {i : TI} {id off : Nat} (h : contO H.objs[id]? = contO H1.objs[id]?) (K : AV → Option R) : loadK H i (.ptr id off) K = loadK H1 i (.ptr id off) K := by
  simp only [loadK]
  cases h1 : H.objs[id]? with
  | none =>
    rw [h1] at h
    cases h2 : H1.objs[id]? with
    | none => rfl
    | some o => rw [h2] at h; cases o <;> first | rfl | simp [contO] at h
  | some o =>
    rw [h1] at h
    cases h2 : H1.objs[id]? with
    | none => rw [h2] at h; cases o <;> first | rfl | simp [contO] at h
    | some o' =>
      rw [h2] at h
      cases o <;> cases o' <;> first | rfl | (simp [contO] at h; done) | (simp only [contO, Option.some.injEq, AObj.cells.injEq] at h; subst h; rfl) | (simp only [contO, Option.some.injEq, AObj.tcells.injEq] at h; obtain ⟨rfl, rfl⟩ := h; rfl)

theorem load_op {s : List AV} {H H1 : AH} {o : Oper} (hl : isLoad o = true) (hok : ∀ t a, o.op = .load t a → ∀ id off, ev S.G s a = .ptr id off → contO H.objs[id]? = contO H1.objs[id]?) : opK S call s H1 o pairK = optK (opK S call s H o pairK) fun p => some (p.1, H1) := by
  obtain ⟨dst, op, type, pos, after, guard⟩ := o
  cases op <;> simp only [isLoad] at hl <;> try (simp at hl; done)
  rename_i t a
  simp only [opK]
  have hok' := hok t a rfl
  cases S.T t with
  | none => rfl
  | some i =>
    simp only
    generalize ev S.G s a = av at hok'
    cases av with
    | ptr id off =>
      rw [loadK_nat, loadK_nat (H := H) (K := fun v => pairK v H), optK_optK, loadK_cont (hok' id off rfl)]
      rfl
    | rop v =>
      rw [loadK_nat, loadK_nat (H := H) (K := fun v => pairK v H), optK_optK]
      rfl
    | _ => rfl

theorem load_grow {o : Oper} (hl : isLoad o = true) : growCall S o = false := by
  obtain ⟨dst, op, type, pos, after, guard⟩ := o
  cases op <;> simp only [isLoad] at hl <;> try (simp at hl; done)
  rfl
theorem load_keeps {s : List AV} {H H1 : AH} {o : Oper} {v : AV} (hl : isLoad o = true) (h : opK S call s H o pairK = some (v, H1)) : H1 = H := by
  have := load_op (S := S) (call := call) (s := s) (H := H) (H1 := H) hl (fun _ _ _ _ _ _ => rfl)
  rw [h] at this
  simp [optK] at this
  exact this

theorem chk_load {n : List Nat} {s : List AV} {H H' : AH} {o : Oper} (hl : isLoad o = true) (h : chkG n S s H o H' = true) : ∀ t a, o.op = .load t a → ∀ id off, ev S.G s a = .ptr id off → id ∈ n := by
  intro t a ho id off he
  unfold chkG at h
  rw [load_grow hl] at h
  simpa only [ho, he, loadedB, decide_eq_true_eq] using h

def noBornG (_ : Nat) : Option Nat := none

theorem opG_inv {n : List Nat} {s : List AV} {H : AH} {o : Oper} {q : AV × AH} (h : opG3 n S call s H o = some q) : opK S call s H o pairK = some q ∧ chkG n S s H o q.2 = true := by
  unfold opG3 at h
  obtain ⟨p, h1, h2⟩ := optK_inv2 h
  split at h2
  · rename_i hc
    simp only [Option.some.injEq] at h2
    subst h2
    exact ⟨h1, hc⟩
  · simp at h2
theorem opG_of {n : List Nat} {s : List AV} {H : AH} {o : Oper} {q : AV × AH} (h : opK S call s H o pairK = some q) (hc : chkG n S s H o q.2 = true) : opG3 n S call s H o = some q := by
  unfold opG3
  rw [show (opK S call s H o fun v H => some (v, H)) = some q from h]
  simp only [optK, hc]

theorem chk_same {n : List Nat} {s : List AV} {o : Oper} {G G' G2 G2' : AH} (hg : growCall S o = false) : chkG n S s G o G' = chkG n S s G2 o G2' := by
  unfold chkG
  rw [hg]

/-- Two operations that do not clash, on one row: the objects. -/
theorem swap_opG (hc : CallStill S call) {n : List Nat} {all : Array Oper} {a b : Oper} (hcl : clashG S all a b = false) {s : List AV} {H H1 H2 : AH} {u v : AV} (h1 : opG3 n S call s H a = some (u, H1)) (h2 : opG3 n S call s H1 b = some (v, H2)) :
    ∃ H1', opG3 n S call s H b = some (v, H1') ∧ opG3 n S call s H1' a = some (u, H2) := by
  obtain ⟨h1, c1⟩ := opG_inv h1
  obtain ⟨h2, c2⟩ := opG_inv h2
  simp only at c1 c2
  unfold clashG at hcl
  split at hcl
  · rename_i hsp
    rw [Bool.or_eq_true, Bool.and_eq_true, Bool.and_eq_true] at hsp
    rcases hsp with ⟨ga, lb⟩ | ⟨la, gb⟩
    · have e2 := load_keeps lb h2
      subst e2
      have hfr : frameI n H.objs H2.objs = true := by unfold chkG at c1; rw [ga] at c1; exact c1
      have hld := chk_load lb c2
      have key := load_op (S := S) (call := call) (s := s) (H := H2) (H1 := H) lb (fun t x ho id off he => (frameI_get hfr id (hld t x ho id off he)).symm)
      rw [h2] at key
      simp only [optK] at key
      exact ⟨H, opG_of key (by rw [← c2]; exact chk_same (load_grow lb)), opG_of h1 c1⟩
    · have e1 := load_keeps la h1
      subst e1
      have hfr : frameI n H1.objs H2.objs = true := by unfold chkG at c2; rw [gb] at c2; exact c2
      have hld := chk_load la c1
      have key := load_op (S := S) (call := call) (s := s) (H := H1) (H1 := H2) la (fun t x ho id off he => frameI_get hfr id (hld t x ho id off he))
      rw [h1] at key
      simp only [optK] at key
      exact ⟨H2, opG_of h2 c2, opG_of key (by rw [← c1]; exact chk_same (load_grow la))⟩
  · obtain ⟨k1, k2, -, -, -⟩ := clash_spec hcl
    have quiet : ∀ {o : Oper}, changes S o = false → growCall S o = false := by
      intro o h
      unfold growCall
      rw [h]; rfl
    cases ha : touches S a with
    | false =>
      have ca := changes_touches (S := S) ha
      have e1 := opK_quiet hc ca h1
      subst e1
      exact ⟨H2, opG_of h2 c2, opG_of (by rw [opK_still ha (H2 := H1), h1]; rfl) (by rw [← c1]; exact chk_same (quiet ca))⟩
    | true =>
      cases hb : touches S b with
      | false =>
        have cb := changes_touches (S := S) hb
        have e2 := opK_quiet hc cb h2
        subst e2
        exact ⟨H, opG_of (by rw [opK_still hb (H2 := H2), h2]; rfl) (by rw [← c2]; exact chk_same (quiet cb)), opG_of h1 c1⟩
      | true =>
        have e2 := opK_quiet hc (k1 ha) h2
        cases hca : changes S a with
        | true => rw [k2 hca] at hb; exact absurd hb (by simp)
        | false =>
          have e1 := opK_quiet hc hca h1
          subst e1; subst e2
          exact ⟨_, opG_of h2 c2, opG_of h1 c1⟩

theorem clashG_slots {all : Array Oper} {a b : Oper} (h : clashG S all a b = false) : (∀ d, a.dst = some d → d ∉ usesT all b) ∧ (∀ d, a.dst = some d → b.dst ≠ some d) ∧ (∀ d, b.dst = some d → d ∉ usesT all a) := by
  unfold clashG at h
  split at h
  · exact slots_spec h
  · exact (clash_spec h).2.2

theorem opG_put {n : List Nat} {all : Array Oper} {o : Oper} {s : List AV} {H : AH} {dst : Option Nat} {v : AV} (h : ∀ d, dst = some d → d ∉ usesT all o) : opG3 n S call (putD dst s v) H o = opG3 n S call s H o := by
  unfold opG3
  rw [op_put h]
  have : ∀ G, chkG n S (putD dst s v) H o G = chkG n S s H o G := by
    intro G
    obtain ⟨dst', op, type, pos, after, guard⟩ := o
    unfold chkG
    split
    · rfl
    · cases op <;> try rfl
      rename_i t x
      simp only
      rw [ev_congr (s1 := putD dst s v) (s2 := s)]
      intro tt ht
      subst ht
      refine get_put fun d hd e => h d hd ?_
      subst e
      exact List.mem_append_left _ (List.mem_filterMap.2 ⟨.tmp d, by simp [Op.operands], rfl⟩)
  simp only [this]

theorem swapG (hc : CallStill S call) {n : List Nat} {all : Array Oper} {a b : Oper} (hcl : clashG S all a b = false) {s : List AV} {H : AH} {p q : List AV × AH} (h1 : stepG3 n S call all a s H = some p) (h2 : stepG3 n S call all b p.1 p.2 = some q) :
    ∃ p', stepG3 n S call all b s H = some p' ∧ stepG3 n S call all a p'.1 p'.2 = some q := by
  obtain ⟨d1, d2, d3⟩ := clashG_slots hcl
  have d2' : ∀ d, b.dst = some d → a.dst ≠ some d := fun d hb ha => d2 d ha hb
  unfold stepG3 at h1
  split at h1
  · rename_i hw
    obtain ⟨⟨u, H1⟩, g1, e⟩ := optK_inv2 h1
    simp only [Option.some.injEq] at e
    subst e
    simp only at h2
    unfold stepG3 at h2
    rw [want_put d1] at h2
    split at h2
    · rename_i hv
      obtain ⟨⟨v, H2⟩, g2, e⟩ := optK_inv2 h2
      rw [opG_put d1] at g2
      simp only [Option.some.injEq] at e
      subst e
      obtain ⟨H1', k1, k2⟩ := swap_opG hc hcl g1 g2
      refine ⟨(putD b.dst s v, H1'), by simp [stepG3, hv, k1, optK], ?_⟩
      simp only [stepG3, want_put d3, hw, opG_put d3, k2, optK]
      rw [put_comm d2']
    · rename_i hv
      simp only [Option.some.injEq] at h2
      subst h2
      refine ⟨(putD b.dst s (.tuple []), H), by simp [stepG3, hv], ?_⟩
      simp only [stepG3, want_put d3, hw, opG_put d3, g1, optK]
      rw [put_comm d2']
    · simp at h2
  · rename_i hw
    simp only [Option.some.injEq] at h1
    subst h1
    simp only at h2
    unfold stepG3 at h2
    rw [want_put d1] at h2
    split at h2
    · rename_i hv
      obtain ⟨⟨v, H2⟩, g2, e⟩ := optK_inv2 h2
      rw [opG_put d1] at g2
      simp only [Option.some.injEq] at e
      subst e
      refine ⟨(putD b.dst s v, H2), by simp [stepG3, hv, g2, optK], ?_⟩
      simp only [stepG3, want_put d3, hw]
      rw [put_comm d2']
    · rename_i hv
      simp only [Option.some.injEq] at h2
      subst h2
      refine ⟨(putD b.dst s (.tuple []), H), by simp [stepG3, hv], ?_⟩
      simp only [stepG3, want_put d3, hw]
      rw [put_comm d2']
    · simp at h2
  · simp at h1

theorem frontG (hc : CallStill S call) {n : List Nat} {all : Array Oper} {b : Oper} {post : List Oper} {r : List AV × AH} : ∀ (pre : List Oper), (∀ a, a ∈ pre → clashG S all a b = false) → ∀ {s : List AV} {H : AH}, runG3 n S call all (pre ++ b :: post) s H = some r → runG3 n S call all (b :: (pre ++ post)) s H = some r
  | [], _, s, H, h => h
  | a :: pre, hp, s, H, h => by
    simp only [List.cons_append, runG3] at h
    obtain ⟨p, h1, h⟩ := optK_inv2 h
    have ih := frontG hc pre (fun a ha => hp a (List.mem_cons_of_mem _ ha)) h
    simp only [runG3] at ih
    obtain ⟨q, h2, h3⟩ := optK_inv2 ih
    obtain ⟨p', k1, k2⟩ := swapG hc (hp a (List.mem_cons_self ..)) h1 h2
    simp only [List.cons_append, runG3, k1, optK_some, k2, h3]

theorem stepG_D {n : List Nat} {all : Array Oper} {o : Oper} {s : List AV} {H : AH} {p : List AV × AH} (h : stepG3 n S call all o s H = some p) : stepB noBornG S call all o s H = some p := by
  unfold stepG3 at h
  unfold stepB
  split at h
  · rename_i hw
    obtain ⟨q, h1, h2⟩ := optK_inv2 h
    have hb : bornAt noBornG o = none := by
      unfold bornAt
      split <;> rfl
    rw [hw]
    simp only [opB_none hb]
    rw [(opG_inv h1).1]
    exact h2
  · rename_i hw
    rw [hw]
    exact h
  · simp at h

theorem any_soundG (ro : Option Nat) (hS : SysOK S P) (hcall : CallOK S P call) (hst : CallStill S call) {n0 : List Nat} {ops : Array Oper} (hd : drawOK3 S ops = true) {q : List AV × AH} (Q : Exit → Act → World → Prop) {E0 : GE} (hQ : ∀ a' E', E0.le E' → Rel S q.2 E' → ARel E' q.1 a' → Q .normal a' E'.w) :
    ∀ (n : Nat) (listed : Array Bool) (rest : List Nat), rest.length = n → Left ops listed rest → ∀ {s : List AV} {H : AH} {E : GE} {a : Act}, runG3 n0 S call ops (pick ops rest) s H = some q → E0.le E → Rel S H E → ARel E s a → wpAnyIn (WR ro) 0 P .any ops Q n listed a E.w := by
  obtain ⟨M, hM⟩ := draw_good hd
  intro n
  induction n with
  | zero =>
    intro listed rest hn hl s H E a h hle hr ha
    obtain rfl := List.length_eq_zero_iff.1 hn
    have h' : some (s, H) = some q := h
    obtain rfl := Option.some.inj h'
    refine ⟨?_, hQ a E hle hr ha⟩
    apply List.eq_nil_iff_forall_not_mem.2
    intro j hj
    obtain ⟨j1, o, j2, -⟩ := mem_ready.1 hj
    have hlt := (Array.getElem?_eq_some_iff.1 j2).1
    have := (hl.mem j).2 ⟨hlt, by rw [← getD_lists (hl.size ▸ hlt)]; exact j1⟩
    simp at this
  | succ n ih =>
    intro listed rest hn hl s H E a h hle hr ha
    refine ⟨?_, ?_⟩
    · intro hnil
      exfalso
      cases rest with
      | nil => simp at hn
      | cons k rest =>
        have hk := (hl.mem k).1 (List.mem_cons_self ..)
        have : k ∈ Region.ready .any ops listed := by
          refine mem_ready.2 ⟨by rw [getD_lists (hl.size ▸ hk.1)]; exact hk.2, ops[k], by simp [hk.1], ?_⟩
          intro e he hb
          have hlt := (hM k ops[k] (by simp [hk.1])).1 e (by simpa using he) hb
          cases hx : listed.getD e.on false with
          | true => rfl
          | false =>
            have := (hl.mem e.on).2 ⟨Nat.lt_trans hlt hk.1, hx⟩
            rcases List.mem_cons.1 this with h1 | h1
            · omega
            · have := List.rel_of_pairwise_cons hl.asc h1; omega
        rw [hnil] at this
        simp at this
    · intro i hi
      obtain ⟨i1, o, i2, i3⟩ := mem_ready.1 hi
      have hlt := (Array.getElem?_eq_some_iff.1 i2).1
      have hmem := (hl.mem i).2 ⟨hlt, by rw [← getD_lists (hl.size ▸ hlt)]; exact i1⟩
      obtain ⟨pre, post, rfl⟩ := List.append_of_mem hmem
      have hasc := List.pairwise_append.1 hl.asc
      have hpre : ∀ k, k ∈ pre → k < i := fun k hk => hasc.2.2 k hk i (List.mem_cons_self ..)
      have hpost : ∀ k, k ∈ post → i < k := fun k hk => List.rel_of_pairwise_cons hasc.2.1 hk
      have hcl : ∀ a, a ∈ pick ops pre → clashG S ops a o = false := by
        intro a' ha'
        obtain ⟨k, hk, hka⟩ := List.mem_filterMap.1 ha'
        rcases (hM i o i2).2.1 k (hpre k hk) with h1 | ⟨a2, h1, h2⟩
        · have := reach hM hl.closed hl.size i o i2 i3 k h1
          have h3 := ((hl.mem k).1 (List.mem_append_left _ hk)).2
          rw [this] at h3; simp at h3
        · have : a2 = a' := by
            have : ops[k]? = some a2 := by simpa using h1
            rw [hka] at this; exact (Option.some.inj this).symm
          subst this
          exact h2
      have hpick : pick ops (pre ++ i :: post) = pick ops pre ++ o :: pick ops post := by
        simp [pick, i2]
      have hpick2 : pick ops (pre ++ post) = pick ops pre ++ pick ops post := by simp [pick]
      have hrun : runG3 n0 S call ops (o :: pick ops (pre ++ post)) s H = some q := by
        rw [hpick] at h
        rw [hpick2]
        exact frontG hst _ hcl h
      simp only [runG3] at hrun
      obtain ⟨p, g1, g2⟩ := optK_inv2 hrun
      have hl' : Left ops (listed.setIfInBounds i true) (pre ++ post) := by
        refine ⟨by simp [hl.size], ?_, ?_, ?_⟩
        · intro k
          by_cases e : i = k
          · subst e
            constructor
            · intro hk
              rcases List.mem_append.1 hk with h1 | h1
              · exact absurd (hpre i h1) (by omega)
              · exact absurd (hpost i h1) (by omega)
            · rintro ⟨-, h1⟩
              simp [hl.size, hlt] at h1
          · rw [getD_set_ne false e, ← hl.mem k]
            simp [Ne.symm e]
        · rw [List.pairwise_append]
          exact ⟨hasc.1, (List.pairwise_cons.1 hasc.2.1).2, fun x hx y hy => Nat.lt_trans (hpre x hx) (hpost y hy)⟩
        · intro j o' hj hjl e he hb
          by_cases e' : i = j
          · subst e'
            rw [i2] at hj
            obtain rfl := Option.some.inj hj
            exact getD_set_true (i3 e he hb)
          · rw [getD_set_ne false e'] at hjl
            exact getD_set_true (hl.closed j o' hj hjl e he hb)
      have h1 := stepB_sound ro hS hcall (stepG_D g1) hr ha (wpAnyIn (WR ro) 0 P .any ops Q n (listed.setIfInBounds i true)) Q (fun a' E' h2 h3 h4 => ih _ (pre ++ post) (by simp at hn ⊢; omega) hl' g2 (hle.trans h2) h3 h4)
      unfold wpOpIn
      simp only [i2]
      split at h1
      · rename_i hw; rw [if_pos hw]; exact h1
      · rename_i hw; rw [if_neg hw]; exact ⟨fun _ _ => trivial, h1⟩


end Go.Sx

/- THE ENGINE: numbers of objects and tokens may be turned. -/
set_option linter.unusedSimpArgs false
set_option linter.unusedVariables false
namespace Go.Sx

theorem renL_map (f g : Nat → Nat) : ∀ l : List AV, renL f g l = l.map (renV f g)
  | [] => rfl
  | v :: r => by simp only [renL, List.map_cons, renL_map f g r]
theorem renL_length (f g : Nat → Nat) (l : List AV) : (renL f g l).length = l.length := by rw [renL_map, List.length_map]
theorem renL_get {f g : Nat → Nat} {l : List AV} {i : Nat} {v : AV} (h : (renL f g l)[i]? = some v) : ∃ u, l[i]? = some u ∧ v = renV f g u := by
  rw [renL_map, List.getElem?_map] at h
  cases hu : l[i]? with
  | none => rw [hu] at h; simp at h
  | some u => rw [hu] at h; exact ⟨u, rfl, (Option.some.inj h).symm⟩
theorem renV_cells (f g : Nat → Nat) (v : AV) : (renV f g v).cells = renL f g v.cells := by
  cases v <;> try rfl
  case func fn a b => cases fn <;> rfl

structure Turn (n : Nat) (f fi : Nat → Nat) : Prop where
  lt : ∀ i, i < n → f i < n
  back : ∀ i, i < n → fi (f i) = i
  lti : ∀ i, i < n → fi i < n
  fwd : ∀ i, i < n → f (fi i) = i

def GE.ren (E : GE) (fi gi : Nat → Nat) : GE := { E with ρ := fun id => E.ρ (fi id), τ := fun t g => E.τ (gi t) g, cp := fun id => E.cp (fi id) }

variable {E : GE} {f fi g gi : Nat → Nat}

theorem VRel.ren (hf : Turn E.nid f fi) (hg : Turn E.nt g gi) {v : AV} {x : Value} (hv : VRel E v x) : VRel (E.ren fi gi) (renV f g v) x := by
  have hρ : ∀ id b, id < E.nid → E.ρ id = some b → (E.ren fi gi).ρ (f id) = some b := by
    intro id b h h2
    show E.ρ (fi (f id)) = _
    rw [hf.back id h]; exact h2
  induction hv with
  | top v => exact .top v
  | bool b => exact .bool b
  | int k n => exact .int k n
  | str s => exact .str s
  | ptr id off b hid hb => exact .ptr (f id) off b (hf.lt id hid) (hρ id b hid hb)
  | nilptr => exact .nilptr
  | rop v a x hx hr ih =>
    refine .rop (renV f g v) a x (fun j hj => ?_) (fun j c hc => ?_)
    · rw [renV_cells, renL_length] at hj
      exact hx j hj
    · rw [renV_cells] at hc
      obtain ⟨u, h1, rfl⟩ := renL_get hc
      exact ih j u h1
  | nils => exact .nils
  | inl fr p sz xs a cap x hsz hx hr hcap hfr hp ih =>
    simp only [renV]
    rw [← renL_length f g xs]
    refine .inl fr _ sz (renL f g xs) a cap x (fun v hv => ?_) (fun i j hi hj => ?_) (fun i v j c hi hc => ?_) (by rw [renL_length]; exact hcap) hfr ?_
    · rw [renL_map] at hv
      obtain ⟨u, h1, rfl⟩ := List.mem_map.1 hv
      rw [renV_cells, renL_length]
      exact hsz u h1
    · rw [renL_length] at hi
      exact hx i j hi hj
    · obtain ⟨u, h1, rfl⟩ := renL_get hi
      rw [renV_cells] at hc
      obtain ⟨w, h2, rfl⟩ := renL_get hc
      exact ih i u j w h1 h2
    · rw [renL_length]
      cases p with
      | unk => trivial
      | zero => exact hp
      | tok t n =>
        refine ⟨hg.lt t hp.1, hp.2.1, ?_⟩
        show E.τ (gi (g t)) n = _
        rw [hg.back t hp.1]; exact hp.2.2
  | sl id off len cap sz ag b c hid hb hl hc hag hcp =>
    refine .sl (f id) off len cap sz ag b c (hf.lt id hid) (hρ id b hid hb) hl hc hag (fun e => ?_)
    show _ ≤ E.cp (fi (f id))
    rw [hf.back id hid]; exact hcp e
  | map id b hid hb => exact .map (f id) b (hf.lt id hid) (hρ id b hid hb)
  | nilmap => exact .nilmap
  | func fn as bs xs ys hfn h1 _ h3 _ ih2 ih4 =>
    have e : renV f g (.func fn as bs) = .func fn (renL f g as) (renL f g bs) := by
      cases fn <;> try rfl
      exact absurd rfl (hfn _)
    rw [e]
    refine .func fn _ _ xs ys hfn (by rw [renL_length]; exact h1) (fun i v x hi hx => ?_) (by rw [renL_length]; exact h3) (fun i v x hi hx => ?_)
    · obtain ⟨u, h1, rfl⟩ := renL_get hi
      exact ih2 i u x h1 hx
    · obtain ⟨u, h1, rfl⟩ := renL_get hi
      exact ih4 i u x h1 hx
  | yield id b hid hb => exact .yield (f id) b (hf.lt id hid) (hρ id b hid hb)
  | nilfunc => exact .nilfunc
  | iface t v x _ ih => exact .iface t _ x ih
  | niliface => exact .niliface
  | agg cs xs h1 _ h3 ih =>
    refine .agg _ xs (by rw [renL_length]; exact h1) (fun i v x hi hx => ?_) h3
    obtain ⟨u, h1, rfl⟩ := renL_get hi
    exact ih i u x h1 hx
  | tuple vs xs h1 _ ih =>
    refine .tuple _ xs (by rw [renL_length]; exact h1) (fun i v x hi hx => ?_)
    obtain ⟨u, h1, rfl⟩ := renL_get hi
    exact ih i u x h1 hx

theorem VRelL.ren (hf : Turn E.nid f fi) (hg : Turn E.nt g gi) {vs : List AV} {xs : Array Value} (hv : VRelL E vs xs) : VRelL (E.ren fi gi) (renL f g vs) xs := by
  refine ⟨by rw [renL_length]; exact hv.1, fun i v x hi hx => ?_⟩
  obtain ⟨u, h1, rfl⟩ := renL_get hi
  exact (hv.2 i u x h1 hx).ren hf hg

theorem renE_map (f g : Nat → Nat) : ∀ l : List (AV × AV), renE f g l = l.map fun e => (renV f g e.1, renV f g e.2)
  | [] => rfl
  | v :: r => by simp only [renE, List.map_cons, renE_map f g r]
theorem renO_live (f g : Nat → Nat) (o : AObj) : (renO f g o).live = o.live := by
  cases o <;> try rfl
  case miter m a b c => cases m <;> rfl

theorem ORel.ren (hf : Turn E.nid f fi) (hg : Turn E.nt g gi) {id : Nat} (hid : id < E.nid) {o : AObj} (h : ORel E id o) : ORel (E.ren fi gi) (f id) (renO f g o) := by
  have hρ : ∀ id b, id < E.nid → E.ρ id = some b → (E.ren fi gi).ρ (f id) = some b := by
    intro id b h h2
    show E.ρ (fi (f id)) = _
    rw [hf.back id h]; exact h2
  have hcp' : (E.ren fi gi).cp (f id) = E.cp id := by
    show E.cp (fi (f id)) = _
    rw [hf.back id hid]
  cases h with
  | cells cs b c el hb hh hl hc h1 hS hcp =>
    refine .cells _ b c el (hρ id b hid hb) hh (by rw [renL_length]; exact hl) (fun j v x hj hx => ?_) h1 hS (by rw [hcp']; exact hcp)
    obtain ⟨u, h1, rfl⟩ := renL_get hj
    exact (hc j u x h1 hx).ren hf hg
  | map es bs clock b ms hb hh hl hs hk hv =>
    have hg' : ∀ {j : Nat} {e : AV × AV}, (renE f g es)[j]? = some e → ∃ u, es[j]? = some u ∧ e = (renV f g u.1, renV f g u.2) := by
      intro j e he
      rw [renE_map, List.getElem?_map] at he
      cases hu : es[j]? with
      | none => rw [hu] at he; simp at he
      | some u => rw [hu] at he; exact ⟨u, rfl, (Option.some.inj he).symm⟩
    refine .map _ bs clock b ms (hρ id b hid hb) hh (by rw [renE_map, List.length_map]; exact hl) hs (fun j e m hj hm => ?_) (fun j e m hj hm => ?_)
    · obtain ⟨u, h1, rfl⟩ := hg' hj
      exact (hk j u m h1 hm).ren hf hg
    · obtain ⟨u, h1, rfl⟩ := hg' hj
      exact (hv j u m h1 hm).ren hf hg
  | miter0 b hb hh => exact .miter0 b (hρ id b hid hb) hh
  | miter m since seen last b k hm hk hb hh => exact .miter (f m) since seen last b k (hf.lt m hm) (hρ m k hm hk) (hρ id b hid hb) hh
  | siter s pos b hb hh => exact .siter s pos b (hρ id b hid hb) hh
  | loop s ps x y st b r hb hh h1 h2 h3 h4 h5 => exact .loop _ ps x y st b r (hρ id b hid hb) hh (h1.ren hf hg) h2 h3 h4 h5
  | dead => exact .dead
  | tcells u cs b c hb hh hl hc h1 hS =>
    refine .tcells u _ b c (hρ id b hid hb) hh (by rw [renL_length]; exact hl) (fun j v x hj hx => ?_) h1 hS
    obtain ⟨u, h1, rfl⟩ := renL_get hj
    exact (hc j u x h1 hx).ren hf hg
  | unborn h h0 =>
    refine .unborn ?_ (by rw [hcp']; exact h0)
    show E.ρ (fi (f id)) = _
    rw [hf.back id hid]; exact h

theorem owned_ren (hf : Turn E.nid f fi) (hg : Turn E.nt g gi) (b : Nat) : (E.ren fi gi).owned b ↔ E.owned b := by
  constructor
  · rintro (⟨id, h1, h2⟩ | ⟨t, n, p, h1, h2, h3⟩)
    · exact .inl ⟨fi id, hf.lti id h1, h2⟩
    · exact .inr ⟨gi t, n, p, hg.lti t h1, h2, h3⟩
  · rintro (⟨id, h1, h2⟩ | ⟨t, n, p, h1, h2, h3⟩)
    · refine .inl ⟨f id, hf.lt id h1, ?_⟩
      show E.ρ (fi (f id)) = _
      rw [hf.back id h1]; exact h2
    · refine .inr ⟨g t, n, p, hg.lt t h1, ?_, h3⟩
      show E.τ (gi (g t)) n = _
      rw [hg.back t h1]; exact h2

/-- The memory with its numbers turned. -/
structure Turned (f g : Nat → Nat) (H H' : AH) : Prop where
  len : H'.objs.length = H.objs.length
  tlen : H'.toks.length = H.toks.length
  obj : ∀ (i : Nat) o, H.objs[i]? = some o → H'.objs[f i]? = some (renO f g o)
  tok : ∀ (i : Nat) o, H.toks[i]? = some o → H'.toks[g i]? = some o

theorem HRel.ren {H H' : AH} (hf : Turn E.nid f fi) (hg : Turn E.nt g gi) (ht : Turned f g H H') (h : HRel H E) : HRel H' (E.ren fi gi) := by
  have hn := h.nid
  have hm := h.nt
  have hob : ∀ (i : Nat) o, H'.objs[i]? = some o → i < E.nid ∧ ∃ u, H.objs[fi i]? = some u ∧ o = renO f g u := by
    intro i o hi
    have hlt : i < E.nid := by
      rw [hn, ← ht.len]
      exact (List.getElem?_eq_some_iff.1 hi).1
    refine ⟨hlt, ?_⟩
    have hl2 := hf.lti i hlt
    rw [hn] at hl2
    have e := ht.obj (fi i) H.objs[fi i] (by simp [hl2])
    rw [hf.fwd i hlt, hi] at e
    exact ⟨_, by simp [hl2], Option.some.inj e⟩
  have hto : ∀ (i : Nat) o, H'.toks[i]? = some o → i < E.nt ∧ H.toks[gi i]? = some o := by
    intro i o hi
    have hlt : i < E.nt := by
      rw [hm, ← ht.tlen]
      exact (List.getElem?_eq_some_iff.1 hi).1
    refine ⟨hlt, ?_⟩
    have hl2 := hg.lti i hlt
    rw [hm] at hl2
    have e := ht.tok (gi i) H.toks[gi i] (by simp [hl2])
    rw [hg.fwd i hlt, hi] at e
    rw [Option.some.inj e]
    simp [hl2]
  refine ⟨?_, ?_, ?_, ?_, ?_, ?_, ?_, ?_, ?_, ?_, ?_, ?_⟩
  · show E.nid = _; rw [ht.len]; exact hn
  · show E.nt = _; rw [ht.tlen]; exact hm
  · intro i o hi
    obtain ⟨h1, u, h2, rfl⟩ := hob i o hi
    have := (h.obj (fi i) u h2).ren hf hg (hf.lti i h1)
    rw [hf.fwd i h1] at this
    exact this
  · intro i j b o o' hi hj ho ho' hb hb'
    obtain ⟨h1, u, h2, rfl⟩ := hob i o hi
    obtain ⟨h3, u', h4, rfl⟩ := hob j o' hj
    rw [renO_live] at ho ho'
    have := h.inj (fi i) (fi j) b u u' h2 h4 ho ho' hb hb'
    rw [← hf.fwd i h1, ← hf.fwd j h3, this]
  · intro t n sz u p hi hp
    obtain ⟨h1, h2⟩ := hto t _ hi
    exact h.tok (gi t) n sz u p h2 hp
  · intro t n sz u n' hi hn
    obtain ⟨h1, h2⟩ := hto t _ hi
    exact h.late (gi t) n sz u n' h2 hn
  · intro t n p id b h1 h2 h3 h4
    exact h.tsep (gi t) n p (fi id) b (hg.lti t h1) h2 (hf.lti id h3) h4
  · intro t n p t' n' p' h1 h2 h3 h4 h5
    have := h.tinj (gi t) n p (gi t') n' p' (hg.lti t h1) (hg.lti t' h2) h3 h4 h5
    rw [← hg.fwd t h1, ← hg.fwd t' h2, this]
  · intro t n p h1 h2
    exact h.tbase (gi t) n p (hg.lti t h1) h2
  · exact h.set
  · intro b hb
    exact h.lt b ((owned_ren hf hg b).1 hb)
  · exact h.hbase

theorem le_ren {E0 : GE} (hf : Turn E.nid f fi) (hg : Turn E.nt g gi) (h1 : ∀ i, i < E0.nid → fi i = i) (h2 : ∀ i, i < E0.nt → gi i = i) (h : E0.le E) : E0.le (E.ren fi gi) where
  nid := h.nid
  ρ := by
    intro id b hid hb
    show E.ρ (fi id) = _
    rw [h1 id hid]; exact h.ρ id b hid hb
  nt := h.nt
  τ := by
    intro t n p ht hp
    show E.τ (gi t) n = _
    rw [h2 t ht]; exact h.τ t n p ht hp
  S := h.S
  cell := h.cell
  base := h.base
  cp := by
    intro id hid
    show E.cp (fi id) = _
    rw [h1 id hid]; exact h.cp id hid
  low := h.low
  snew := h.snew
  own := fun b hb ho => h.own b hb ((owned_ren hf hg b).1 ho)
  os := h.os
  tape := h.tape
  output := h.output
  size := h.size
  block := h.block

end Go.Sx

/- THE ENGINE: a region whose order is drawn, gone through in every order. -/
set_option linter.unusedSimpArgs false
set_option linter.unusedVariables false
namespace Go.Sx
variable {R : Type} {S : Sys} {call : Caller} {P : Program}

/-! ### The check -/
theorem mem_fromN : ∀ {k n i : Nat}, n ≤ i → i < n + k → i ∈ fromN n k
  | 0, n, i, h1, h2 => absurd h2 (by omega)
  | k + 1, n, i, h1, h2 => by
    simp only [fromN, List.mem_cons]
    by_cases h : i = n
    · exact .inl h
    · exact .inr (mem_fromN (by omega) (by omega))

theorem permB_spec {n m : Nat} {l l' : List Nat} (h : permB n m l l' = true) : ∀ i, i < m → turnN n l i < m ∧ turnN n l' (turnN n l i) = i := by
  intro i hi
  simp only [permB, Bool.and_eq_true] at h
  by_cases hn : i < n
  · have e : ∀ l, turnN n l i = i := by
      intro l
      unfold turnN
      rw [show Nat.blt i n = true from Nat.ble_eq_true_of_le hn]
    rw [e, e]; exact ⟨hi, rfl⟩
  · have h1 := List.all_eq_true.1 h.2 i (mem_fromN (by omega) (by omega))
    simp only [Bool.and_eq_true] at h1
    exact ⟨Nat.le_of_ble_eq_true h1.1.2, Nat.eq_of_beq_eq_true h1.2⟩

theorem turn_of {n m : Nat} {l l' : List Nat} (h : permB n m l l' = true) (h' : permB n m l' l = true) : Turn m (turnN n l) (turnN n l') :=
  ⟨fun i hi => (permB_spec h i hi).1, fun i hi => (permB_spec h i hi).2, fun i hi => (permB_spec h' i hi).1, fun i hi => (permB_spec h' i hi).2⟩

theorem turnN_low {n : Nat} {l : List Nat} {i : Nat} (h : i < n) : turnN n l i = i := by
  unfold turnN
  rw [show Nat.blt i n = true from Nat.ble_eq_true_of_le h]

theorem eqNL_eq : ∀ {a b : List Nat}, eqNL a b = true → a = b
  | [], [], _ => rfl
  | a :: x, b :: y, h => by
    simp only [eqNL, Bool.and_eq_true] at h
    rw [Nat.eq_of_beq_eq_true h.1, eqNL_eq h.2]
  | [], _ :: _, h => by simp [eqNL] at h
  | _ :: _, [], h => by simp [eqNL] at h
theorem eqAE_eq : ∀ {a b : List (AV × AV)}, eqAE a b = true → a = b
  | [], [], _ => rfl
  | (a, a') :: x, (b, b') :: y, h => by
    simp only [eqAE, Bool.and_eq_true] at h
    rw [eqA_eq h.1.1, eqA_eq h.1.2, eqAE_eq h.2]
  | [], _ :: _, h => by simp [eqAE] at h
  | _ :: _, [], h => by simp [eqAE] at h
theorem eqX_eq {a b : AObj} (h : eqX a b = true) : a = b := by
  unfold eqX at h
  split at h
  · rw [eqAL_eq h]
  · rw [Bool.and_eq_true] at h; rw [Nat.eq_of_beq_eq_true h.1, eqAL_eq h.2]
  · simp only [Bool.and_eq_true] at h; rw [eqAE_eq h.1.1, eqNL_eq h.1.2, Nat.eq_of_beq_eq_true h.2]
  · simp only [Bool.and_eq_true] at h; rw [Nat.eq_of_beq_eq_true h.1.1, Nat.eq_of_beq_eq_true h.1.2, eqNL_eq h.2.1, Nat.eq_of_beq_eq_true h.2.2]
  · simp only [Bool.and_eq_true] at h; rw [Nat.eq_of_beq_eq_true h.1, eqNL_eq h.2.1, Nat.eq_of_beq_eq_true h.2.2]
  · simp only [Bool.and_eq_true] at h; rw [eqBytes_eq h.1, Nat.eq_of_beq_eq_true h.2]
  · rw [eqB_eq h]
  · cases h

theorem getsX_spec {f g : Nat → Nat} {os : List AObj} : ∀ {l : List AObj} {n : Nat}, getsX f g n os l = true → ∀ (i : Nat) o, l[i]? = some o → os[f (n + i)]? = some (renO f g o)
  | [], n, h, i, o, hi => by simp at hi
  | a :: r, n, h, i, o, hi => by
    simp only [getsX, Bool.and_eq_true] at h
    cases i with
    | zero =>
      simp only [List.getElem?_cons_zero, Option.some.injEq] at hi
      subst hi
      have h1 := h.1
      rw [Nat.add_zero]
      split at h1
      · rename_i o' ho
        rw [ho, eqX_eq h1]
      · cases h1
    | succ i =>
      have := getsX_spec h.2 i o (by simpa using hi)
      rw [show n + 1 + i = n + (i + 1) by omega] at this
      exact this
theorem getsT_spec {g : Nat → Nat} {ts : List (Nat × Nat × TypeId)} : ∀ {l : List (Nat × Nat × TypeId)} {n : Nat}, getsT g n ts l = true → ∀ (i : Nat) o, l[i]? = some o → ts[g (n + i)]? = some o
  | [], n, h, i, o, hi => by simp at hi
  | a :: r, n, h, i, o, hi => by
    simp only [getsT, Bool.and_eq_true] at h
    cases i with
    | zero =>
      simp only [List.getElem?_cons_zero, Option.some.injEq] at hi
      subst hi
      have h1 := h.1
      rw [Nat.add_zero]
      split at h1
      · rename_i o' ho
        rw [ho]
        simp only [eqTk, Bool.and_eq_true] at h1
        obtain ⟨a1, a2, a3⟩ := a
        obtain ⟨b1, b2, b3⟩ := o'
        simp only at h1
        rw [Nat.eq_of_beq_eq_true h1.1, Nat.eq_of_beq_eq_true h1.2.1, Nat.eq_of_beq_eq_true h1.2.2]
      · cases h1
    | succ i =>
      have := getsT_spec h.2 i o (by simpa using hi)
      rw [show n + 1 + i = n + (i + 1) by omega] at this
      exact this

theorem forceNL_eq {A : Type} : ∀ (l : List Nat) (k : List Nat → A), forceNL l k = k l
  | [], k => rfl
  | a :: r, k => by simp only [forceNL, force_eq, forceNL_eq r]

/-- The state of one order is that of the text's order. -/
theorem same_sound {H0 : AH} {E0 E : GE} {s : List AV} {H : AH} {l : Lg} {q : (List AV × AH) × Lg} {a : Act} (h : sameP H0 s H l q = true) (hr0 : Rel S H0 E0) (hle : E0.le E) (hr : Rel S H E) (ha : ARel E s a) (ha0 : Marks E a.defers) :
    ∃ E', E0.le E' ∧ E'.w = E.w ∧ Rel S q.1.2 E' ∧ ARel E' q.1.1 a := by
  unfold sameP at h
  simp only [forceNL_eq] at h
  generalize List.map (fun i => lgO q.2 i l) (fromN H0.objs.length (H.objs.length - H0.objs.length)) = fo at h
  generalize List.map (fun i => lgO l i q.2) (fromN H0.objs.length (H.objs.length - H0.objs.length)) = fi at h
  generalize List.map (fun i => lgT q.2 i l) (fromN H0.toks.length (H.toks.length - H0.toks.length)) = to at h
  generalize List.map (fun i => lgT l i q.2) (fromN H0.toks.length (H.toks.length - H0.toks.length)) = ti at h
  simp only [turnB, Bool.and_eq_true] at h
  obtain ⟨⟨p1, p2⟩, ⟨p3, p4⟩, ⟨p5, p6⟩, p7, p8, p9⟩ := h
  have hf : Turn E.nid (turnN H0.objs.length fo) (turnN H0.objs.length fi) := by rw [hr.h.nid]; exact turn_of p1 p2
  have hg : Turn E.nt (turnN H0.toks.length to) (turnN H0.toks.length ti) := by rw [hr.h.nt]; exact turn_of p3 p4
  have ht : Turned (turnN H0.objs.length fo) (turnN H0.toks.length to) H q.1.2 := ⟨(Nat.eq_of_beq_eq_true p5).symm, (Nat.eq_of_beq_eq_true p6).symm, fun i o hi => by have := getsX_spec p8 i o hi; rwa [Nat.zero_add] at this, fun i o hi => by have := getsT_spec p9 i o hi; rwa [Nat.zero_add] at this⟩
  have hle' : E0.le (E.ren (turnN H0.objs.length fi) (turnN H0.toks.length ti)) := le_ren hf hg (fun i hi => turnN_low (by rw [← hr0.h.nid]; exact hi)) (fun i hi => turnN_low (by rw [← hr0.h.nt]; exact hi)) hle
  refine ⟨_, hle', rfl, hr0.mono hle' (hr.h.ren hf hg ht), ?_, ?_⟩
  · rw [← eqAL_eq p7]
    exact ha.tmps.ren hf hg
  · obtain ⟨k0, bs, k1, k2, k3⟩ := ha0
    refine ⟨k0, bs, k1, k2, fun b hb => ?_⟩
    obtain ⟨j1, j2, j3⟩ := k3 b hb
    exact ⟨j1, j2, fun ho => j3 ((owned_ren hf hg b).1 ho)⟩

/-! ### All orders -/
theorem mem_memN {k : Nat} : ∀ {l : List Nat}, memN k l = true ↔ k ∈ l
  | [] => by simp [memN]
  | a :: r => by
    simp only [memN, List.mem_cons]
    split
    · rename_i h
      simp [Nat.eq_of_beq_eq_true h]
    · rename_i h
      rw [mem_memN (l := r)]
      constructor
      · exact .inr
      · rintro (rfl | h2)
        · simp at h
        · exact h2
theorem dropN_ne {k : Nat} {a : Nat} {r : List Nat} (h : a ≠ k) : dropN k (a :: r) = a :: dropN k r := by
  have : Nat.beq a k = false := by
    cases hb : Nat.beq a k with
    | false => rfl
    | true => exact absurd (Nat.eq_of_beq_eq_true hb) h
  simp only [dropN, this]
theorem dropN_eq {k : Nat} {r : List Nat} : dropN k (k :: r) = r := by
  have : Nat.beq k k = true := by simp
  simp only [dropN, this]
theorem dropN_of : ∀ {pre post : List Nat} {k : Nat}, k ∉ pre → dropN k (pre ++ k :: post) = pre ++ post
  | [], post, k, _ => dropN_eq
  | a :: pre, post, k, h => by
    rw [List.cons_append, dropN_ne (by intro e; exact h (by simp [e])), dropN_of (by intro e; exact h (by simp [e]))]; rfl
theorem mem_dropN {k i : Nat} : ∀ {l : List Nat}, l.Nodup → (i ∈ dropN k l ↔ i ∈ l ∧ i ≠ k)
  | [], _ => by simp [dropN]
  | a :: r, h => by
    by_cases e : a = k
    · subst e
      rw [dropN_eq]
      have := (List.nodup_cons.1 h).1
      constructor
      · intro hi
        exact ⟨List.mem_cons_of_mem _ hi, fun e => this (e ▸ hi)⟩
      · rintro ⟨h1, h2⟩
        rcases List.mem_cons.1 h1 with rfl | h3
        · exact absurd rfl h2
        · exact h3
    · rw [dropN_ne e, List.mem_cons, mem_dropN (List.nodup_cons.1 h).2, List.mem_cons]
      constructor
      · rintro (rfl | ⟨h1, h2⟩)
        · exact ⟨.inl rfl, e⟩
        · exact ⟨.inr h1, h2⟩
      · rintro ⟨rfl | h1, h2⟩
        · exact .inl rfl
        · exact .inr ⟨h1, h2⟩
theorem dropN_nodup {k : Nat} : ∀ {l : List Nat}, l.Nodup → (dropN k l).Nodup
  | [], _ => by simp [dropN]
  | a :: r, h => by
    by_cases e : a = k
    · subst e; rw [dropN_eq]; exact (List.nodup_cons.1 h).2
    · rw [dropN_ne e, List.nodup_cons]
      refine ⟨fun hm => (List.nodup_cons.1 h).1 ((mem_dropN (List.nodup_cons.1 h).2).1 hm).1, dropN_nodup (List.nodup_cons.1 h).2⟩
theorem dropN_comm {k j : Nat} : ∀ {l : List Nat}, dropN k (dropN j l) = dropN j (dropN k l)
  | [] => rfl
  | a :: r => by
    by_cases e1 : a = j
    · subst e1
      rw [dropN_eq]
      by_cases e2 : a = k
      · subst e2; rw [dropN_eq]
      · rw [dropN_ne e2, dropN_eq]
    · rw [dropN_ne e1]
      by_cases e2 : a = k
      · subst e2; rw [dropN_eq, dropN_eq]
      · rw [dropN_ne e2, dropN_ne e2, dropN_ne e1, dropN_comm]
theorem dropN_length {k : Nat} : ∀ {l : List Nat}, k ∈ l → (dropN k l).length + 1 = l.length
  | [], h => by simp at h
  | a :: r, h => by
    by_cases e : a = k
    · subst e; rw [dropN_eq]; rfl
    · rw [dropN_ne e, List.length_cons, List.length_cons]
      rcases List.mem_cons.1 h with rfl | h
      · exact absurd rfl e
      · rw [dropN_length h]

theorem ready_less {ops : Array Oper} {rest : List Nat} (hn : rest.Nodup) {i k : Nat} (h : readyN ops rest i = true) : readyN ops (dropN k rest) i = true := by
  unfold readyN at h ⊢
  split at h
  · refine List.all_eq_true.2 fun e he => ?_
    have := List.all_eq_true.1 h e he
    rw [Bool.or_eq_true] at this ⊢
    refine this.imp id fun h1 => ?_
    rw [Bool.and_eq_true] at h1 ⊢
    refine ⟨h1.1, ?_⟩
    rw [Bool.not_eq_true'] at h1 ⊢
    cases hm : memN e.on (dropN k rest) with
    | false => rfl
    | true =>
      have := mem_memN.2 ((mem_dropN hn).1 (mem_memN.1 hm)).1
      rw [this] at h1; exact absurd h1.2 (by simp)
  · cases h

/-- Every order comes to Q. -/
def AllO (L : List (Nat × Nat)) (S : Sys) (call : Caller) (ops : Array Oper) (Q : List AV → AH → Lg → Prop) : Nat → List Nat → List AV → AH → Lg → Prop
  | 0, rest, s, H, l => rest = [] ∧ Q s H l
  | n + 1, rest, s, H, l => (∃ i, i ∈ rest ∧ readyN ops rest i = true) ∧ ∀ i, i ∈ rest → readyN ops rest i = true → ∃ p, stepT L S call ops i s H l = some p ∧ AllO L S call ops Q n (dropN i rest) p.1.1 p.1.2 p.2

theorem findN_some {f : Nat → Bool} : ∀ {l : List Nat} {i : Nat}, findN f l = some i → i ∈ l ∧ f i = true
  | [], i, h => by simp [findN] at h
  | a :: r, i, h => by
    simp only [findN] at h
    split at h
    · rename_i hf
      obtain rfl := Option.some.inj h
      exact ⟨List.mem_cons_self .., hf⟩
    · obtain ⟨h1, h2⟩ := findN_some h
      exact ⟨List.mem_cons_of_mem _ h1, h2⟩

theorem stepT_inv {L : List (Nat × Nat)} {ops : Array Oper} {i : Nat} {s : List AV} {H : AH} {l : Lg} {p : (List AV × AH) × Lg} (h : stepT L S call ops i s H l = some p) : ∃ o, ops[i]? = some o ∧ stepH (idsN ops i L) (ownN i L) S call ops o s H = some p.1 ∧ p.2 = lgP i H p.1.2 l := by
  unfold stepT at h
  split at h
  · rename_i o ho
    obtain ⟨q, h1, h2⟩ := optK_inv2 h
    obtain rfl := Option.some.inj h2
    exact ⟨o, ho, h1, rfl⟩
  · cases h
theorem stepT_of {L : List (Nat × Nat)} {ops : Array Oper} {i : Nat} {s : List AV} {H : AH} {l : Lg} {o : Oper} {p : List AV × AH} (ho : ops[i]? = some o) (h : stepH (idsN ops i L) (ownN i L) S call ops o s H = some p) : stepT L S call ops i s H l = some (p, lgP i H p.2 l) := by
  unfold stepT
  rw [ho]
  simp only [h, optK]

/-! ### Loads beside whatever changes nothing that is loaded -/
theorem load_ch {o : Oper} (hl : isLoad o = true) : changes S o = false := by
  obtain ⟨dst, op, type, pos, after, guard⟩ := o
  cases op <;> simp only [isLoad] at hl <;> try (simp at hl; done)
  rfl
theorem chkH_load {n L : List Nat} {s : List AV} {H H' : AH} {o : Oper} (hl : isLoad o = true) (h : chkH n L S s H o H' = true) : ∀ t a, o.op = .load t a → ∀ id off, ev S.G s a = .ptr id off → id ∈ L := by
  intro t a ho id off he
  unfold chkH at h
  rw [load_ch hl] at h
  simp only [ho, he, loadedN] at h
  exact mem_memN.1 h
theorem opH_inv {n m : List Nat} {s : List AV} {H : AH} {o : Oper} {q : AV × AH} (h : opH n m S call s H o = some q) : opK S call s H o pairK = some q ∧ chkH n m S s H o q.2 = true := by
  unfold opH at h
  obtain ⟨p, h1, h2⟩ := optK_inv2 h
  split at h2
  · rename_i hc
    simp only [Option.some.injEq] at h2
    subst h2
    exact ⟨h1, hc⟩
  · simp at h2
theorem opH_of {n m : List Nat} {s : List AV} {H : AH} {o : Oper} {q : AV × AH} (h : opK S call s H o pairK = some q) (hc : chkH n m S s H o q.2 = true) : opH n m S call s H o = some q := by
  unfold opH
  rw [show (opK S call s H o fun v H => some (v, H)) = some q from h]
  simp only [optK, hc]
theorem chkH_same {n m : List Nat} {s : List AV} {o : Oper} {G G' G2 G2' : AH} (hg : changes S o = false) : chkH n m S s G o G' = chkH n m S s G2 o G2' := by
  unfold chkH
  rw [hg]
theorem swap_opH {a b : Oper} (hc : CallStill S call) {n m n' m' : List Nat} (hm1 : isLoad b = true → ∀ x, x ∈ m' → x ∈ n) (hm2 : isLoad a = true → ∀ x, x ∈ m → x ∈ n') {all : Array Oper} (hcl : clashH S all a b = false) {s : List AV} {H H1 H2 : AH} {u v : AV} (h1 : opH n m S call s H a = some (u, H1)) (h2 : opH n' m' S call s H1 b = some (v, H2)) :
    ∃ H1', opH n' m' S call s H b = some (v, H1') ∧ opH n m S call s H1' a = some (u, H2) := by
  obtain ⟨h1, c1⟩ := opH_inv h1
  obtain ⟨h2, c2⟩ := opH_inv h2
  simp only at c1 c2
  unfold clashH at hcl
  split at hcl
  · rename_i hsp
    rw [Bool.or_eq_true, Bool.and_eq_true, Bool.and_eq_true] at hsp
    rcases hsp with ⟨ga, lb⟩ | ⟨la, gb⟩
    · have e2 := load_keeps lb h2
      subst e2
      have hfr : frameI n H.objs H2.objs = true := by unfold chkH at c1; rw [ga] at c1; exact c1
      have hld := chkH_load lb c2
      have key := load_op (S := S) (call := call) (s := s) (H := H2) (H1 := H) lb (fun t x ho id off he => (frameI_get hfr id (hm1 lb id (hld t x ho id off he))).symm)
      rw [h2] at key
      simp only [optK] at key
      exact ⟨H, opH_of key (by rw [← c2]; exact chkH_same (load_ch lb)), opH_of h1 c1⟩
    · have e1 := load_keeps la h1
      subst e1
      have hfr : frameI n' H1.objs H2.objs = true := by unfold chkH at c2; rw [gb] at c2; exact c2
      have hld := chkH_load la c1
      have key := load_op (S := S) (call := call) (s := s) (H := H1) (H1 := H2) la (fun t x ho id off he => frameI_get hfr id (hm2 la id (hld t x ho id off he)))
      rw [h1] at key
      simp only [optK] at key
      exact ⟨H2, opH_of h2 c2, opH_of key (by rw [← c1]; exact chkH_same (load_ch la))⟩
  · obtain ⟨k1, k2, -, -, -⟩ := clash_spec hcl
    cases ha : touches S a with
    | false =>
      have ca := changes_touches (S := S) ha
      have e1 := opK_quiet hc ca h1
      subst e1
      exact ⟨H2, opH_of h2 c2, opH_of (by rw [opK_still ha (H2 := H1), h1]; rfl) (by rw [← c1]; exact chkH_same ca)⟩
    | true =>
      cases hb : touches S b with
      | false =>
        have cb := changes_touches (S := S) hb
        have e2 := opK_quiet hc cb h2
        subst e2
        exact ⟨H, opH_of (by rw [opK_still hb (H2 := H2), h2]; rfl) (by rw [← c2]; exact chkH_same cb), opH_of h1 c1⟩
      | true =>
        have e2 := opK_quiet hc (k1 ha) h2
        cases hca : changes S a with
        | true => rw [k2 hca] at hb; exact absurd hb (by simp)
        | false =>
          have e1 := opK_quiet hc hca h1
          subst e1; subst e2
          exact ⟨_, opH_of h2 c2, opH_of h1 c1⟩
theorem clashH_slots {all : Array Oper} {a b : Oper} (h : clashH S all a b = false) : (∀ d, a.dst = some d → d ∉ usesT all b) ∧ (∀ d, a.dst = some d → b.dst ≠ some d) ∧ (∀ d, b.dst = some d → d ∉ usesT all a) := by
  unfold clashH at h
  split at h
  · exact slots_spec h
  · exact (clash_spec h).2.2
theorem opH_put {n m : List Nat} {all : Array Oper} {o : Oper} {s : List AV} {H : AH} {dst : Option Nat} {v : AV} (h : ∀ d, dst = some d → d ∉ usesT all o) : opH n m S call (putD dst s v) H o = opH n m S call s H o := by
  unfold opH
  rw [op_put h]
  have : ∀ G, chkH n m S (putD dst s v) H o G = chkH n m S s H o G := by
    intro G
    obtain ⟨dst', op, type, pos, after, guard⟩ := o
    unfold chkH
    split
    · rfl
    · cases op <;> try rfl
      rename_i t x
      simp only
      rw [ev_congr (s1 := putD dst s v) (s2 := s)]
      intro tt ht
      subst ht
      refine get_put fun d hd e => h d hd ?_
      subst e
      exact List.mem_append_left _ (List.mem_filterMap.2 ⟨.tmp d, by simp [Op.operands], rfl⟩)
  simp only [this]
theorem swapH {a b : Oper} (hc : CallStill S call) {n m n' m' : List Nat} (hm1 : isLoad b = true → ∀ x, x ∈ m' → x ∈ n) (hm2 : isLoad a = true → ∀ x, x ∈ m → x ∈ n') {all : Array Oper} (hcl : clashH S all a b = false) {s : List AV} {H : AH} {p q : List AV × AH} (h1 : stepH n m S call all a s H = some p) (h2 : stepH n' m' S call all b p.1 p.2 = some q) :
    ∃ p', stepH n' m' S call all b s H = some p' ∧ stepH n m S call all a p'.1 p'.2 = some q := by
  obtain ⟨d1, d2, d3⟩ := clashH_slots hcl
  have d2' : ∀ d, b.dst = some d → a.dst ≠ some d := fun d hb ha => d2 d ha hb
  unfold stepH at h1
  split at h1
  · rename_i hw
    obtain ⟨⟨u, H1⟩, g1, e⟩ := optK_inv2 h1
    simp only [Option.some.injEq] at e
    subst e
    simp only at h2
    unfold stepH at h2
    rw [want_put d1] at h2
    split at h2
    · rename_i hv
      obtain ⟨⟨v, H2⟩, g2, e⟩ := optK_inv2 h2
      rw [opH_put d1] at g2
      simp only [Option.some.injEq] at e
      subst e
      obtain ⟨H1', k1, k2⟩ := swap_opH hc hm1 hm2 hcl g1 g2
      refine ⟨(putD b.dst s v, H1'), by simp [stepH, hv, k1, optK], ?_⟩
      simp only [stepH, want_put d3, hw, opH_put d3, k2, optK]
      rw [put_comm d2']
    · rename_i hv
      simp only [Option.some.injEq] at h2
      subst h2
      refine ⟨(putD b.dst s (.tuple []), H), by simp [stepH, hv], ?_⟩
      simp only [stepH, want_put d3, hw, opH_put d3, g1, optK]
      rw [put_comm d2']
    · simp at h2
  · rename_i hw
    simp only [Option.some.injEq] at h1
    subst h1
    simp only at h2
    unfold stepH at h2
    rw [want_put d1] at h2
    split at h2
    · rename_i hv
      obtain ⟨⟨v, H2⟩, g2, e⟩ := optK_inv2 h2
      rw [opH_put d1] at g2
      simp only [Option.some.injEq] at e
      subst e
      refine ⟨(putD b.dst s v, H2), by simp [stepH, hv, g2, optK], ?_⟩
      simp only [stepH, want_put d3, hw]
      rw [put_comm d2']
    · rename_i hv
      simp only [Option.some.injEq] at h2
      subst h2
      refine ⟨(putD b.dst s (.tuple []), H), by simp [stepH, hv], ?_⟩
      simp only [stepH, want_put d3, hw]
      rw [put_comm d2']
    · simp at h2
  · simp at h1
theorem stepH_B {n m : List Nat} {all : Array Oper} {o : Oper} {s : List AV} {H : AH} {p : List AV × AH} (h : stepH n m S call all o s H = some p) : stepB noBornG S call all o s H = some p := by
  unfold stepH at h
  unfold stepB
  split at h
  · rename_i hw
    obtain ⟨q, h1, h2⟩ := optK_inv2 h
    have hb : bornAt noBornG o = none := by
      unfold bornAt
      split <;> rfl
    rw [opB_none hb, (opH_inv h1).1]
    exact h2
  · exact h
  · simp at h
theorem still_same (hc : CallStill S call) {n m : List Nat} {ops : Array Oper} {o : Oper} {s : List AV} {H : AH} {p : List AV × AH} (hs : changes S o = false) (h : stepH n m S call ops o s H = some p) : p.2 = H := by
  unfold stepH at h
  split at h
  · obtain ⟨q, h1, h2⟩ := optK_inv2 h
    obtain rfl := Option.some.inj h2
    exact opK_quiet hc hs (opH_inv h1).1
  · obtain rfl := Option.some.inj h; rfl
  · cases h
theorem lgP_same {i : Nat} {H : AH} {l : Lg} : lgP i H H l = l := by
  unfold lgP
  have e1 : Nat.beq H.objs.length H.objs.length = true := by simp
  have e2 : Nat.beq H.toks.length H.toks.length = true := by simp
  rw [e1, e2]; rfl

theorem ids_of {ops : Array Oper} {i j : Nat} (hu : unordN ops j i = true) {x : Nat} : ∀ {L : List (Nat × Nat)}, x ∈ ownN j L → x ∈ idsN ops i L
  | [], h => by simp [ownN] at h
  | p :: r, h => by
    simp only [ownN] at h
    simp only [idsN]
    split at h
    · rename_i hb
      have e := Nat.eq_of_beq_eq_true hb
      rw [e, hu]
      simp only
      rcases List.mem_cons.1 h with rfl | h
      · exact List.mem_cons_self ..
      · exact List.mem_cons_of_mem _ (ids_of hu h)
    · split
      · exact List.mem_cons_of_mem _ (ids_of hu h)
      · exact ids_of hu h
theorem waits_ready {ops : Array Oper} {rest : List Nat} {i k : Nat} (hi : readyN ops rest i = true) (hk : k ∈ rest) : waitsN ops i k = false := by
  cases hw : waitsN ops i k with
  | false => rfl
  | true =>
    exfalso
    unfold waitsN at hw
    unfold readyN at hi
    split at hi
    · rename_i o ho
      rw [ho] at hw
      obtain ⟨e, he, h2⟩ := List.any_eq_true.1 hw
      rw [Bool.and_eq_true] at h2
      have h3 := Nat.eq_of_beq_eq_true h2.2
      have h4 := List.all_eq_true.1 hi e he
      rw [h2.1, h3, mem_memN.2 hk] at h4
      simp at h4
    · cases hi
theorem unord_ready {ops : Array Oper} {rest : List Nat} {i j : Nat} (hi : readyN ops rest i = true) (hj : readyN ops rest j = true) (mi : i ∈ rest) (mj : j ∈ rest) : unordN ops i j = true := by
  unfold unordN
  rw [waits_ready hj mi, waits_ready hi mj]; rfl

/-- What clashes with nothing that is left may be done first. -/
theorem allO_free (hc : CallStill S call) {L : List (Nat × Nat)} {ops : Array Oper} {Q : List AV → AH → Lg → Prop} {i : Nat} : ∀ (n : Nat) {rest : List Nat} {s : List AV} {H : AH} {l : Lg} {p : (List AV × AH) × Lg}, rest.Nodup → i ∈ rest → readyN ops rest i = true →
    (∀ o k b, ops[i]? = some o → k ∈ rest → k ≠ i → ops[k]? = some b → clashH S ops o b = false ∨ (b.after.toList.any fun e => Region.binds .any e && Nat.beq e.on i) = true) → (∀ o, ops[i]? = some o → changes S o = false) → stepT L S call ops i s H l = some p → AllO L S call ops Q n (dropN i rest) p.1.1 p.1.2 p.2 → AllO L S call ops Q (n + 1) rest s H l := by
  intro n
  induction n with
  | zero =>
    intro rest s H l p hnd hi hri hcl hch hp hall
    refine ⟨⟨i, hi, hri⟩, fun j hj hrj => ?_⟩
    by_cases e : j = i
    · subst e; exact ⟨p, hp, hall⟩
    · have := (mem_dropN (k := i) hnd).2 ⟨hj, e⟩
      rw [hall.1] at this
      cases this
  | succ n ih =>
    intro rest s H l p hnd hi hri hcl hch hp hall
    refine ⟨⟨i, hi, hri⟩, fun j hj hrj => ?_⟩
    by_cases e : j = i
    · subst e; exact ⟨p, hp, hall⟩
    · have hj' : j ∈ dropN i rest := (mem_dropN hnd).2 ⟨hj, e⟩
      obtain ⟨p2, g1, g2⟩ := hall.2 j hj' (ready_less hnd hrj)
      obtain ⟨o, ho, ho2, ho3⟩ := stepT_inv hp
      obtain ⟨b, hb, hb2, hb3⟩ := stepT_inv g1
      have hs : p.1.2 = H := still_same hc (hch o ho) ho2
      have hcl' : clashH S ops o b = false := by
        rcases hcl o j b ho hj e hb with h1 | h1
        · exact h1
        · exfalso
          obtain ⟨e, he, h2⟩ := List.any_eq_true.1 h1
          rw [Bool.and_eq_true] at h2
          have h3 := Nat.eq_of_beq_eq_true h2.2
          unfold readyN at hrj
          rw [hb] at hrj
          have h4 := List.all_eq_true.1 hrj e he
          rw [h2.1, h3, mem_memN.2 hi] at h4
          simp at h4
      obtain ⟨p', k1, k2⟩ := swapH hc (fun _ x hx => ids_of (unord_ready hrj hri hj hi) hx) (fun _ x hx => ids_of (unord_ready hri hrj hi hj) hx) hcl' ho2 hb2
      have hs2 : p2.1.2 = p'.2 := still_same hc (hch o ho) k2
      have el : lgP j H p'.2 l = p2.2 := by rw [hb3, ho3, hs, lgP_same, hs2]
      refine ⟨(p', lgP j H p'.2 l), stepT_of hb k1, ?_⟩
      refine ih (rest := dropN j rest) (s := p'.1) (H := p'.2) (l := lgP j H p'.2 l) (p := p2) (dropN_nodup hnd) ((mem_dropN hnd).2 ⟨hi, Ne.symm e⟩) (ready_less hnd hri) ?_ hch ?_ (by rw [dropN_comm]; exact g2)
      · intro o' k b' h1 h2 h3 h4
        exact hcl o' k b' h1 ((mem_dropN hnd).1 h2).1 h3 h4
      · have := stepT_of (i := i) (l := lgP j H p'.2 l) ho k2
        rw [this]
        congr 1
        have e2 : lgP i p'.2 p2.1.2 (lgP j H p'.2 l) = p2.2 := by rw [hs2, lgP_same, el]
        rw [e2]

theorem thenT_inv {o : Option ((List AV × AH) × Lg)} {k : List AV → AH → Lg → Bool} (h : thenT o k = true) : ∃ p, o = some p ∧ k p.1.1 p.1.2 p.2 = true := by
  unfold thenT at h
  split at h
  · exact ⟨_, rfl, h⟩
  · cases h

theorem freeN_spec {ops : Array Oper} {rest : List Nat} {i : Nat} (h : freeN S ops rest i = true) : ∃ o, ops[i]? = some o ∧ changes S o = false ∧ readyN ops rest i = true ∧ (rest.all fun k => Nat.beq k i || (match ops[k]? with | some b => !clashH S ops o b || (b.after.toList.any fun e => Region.binds .any e && Nat.beq e.on i) | none => false)) = true := by
  unfold freeN at h
  split at h
  · rename_i o ho
    split at h
    · cases h
    · rename_i hch
      rw [Bool.and_eq_true] at h
      exact ⟨o, ho, hch, h.1, h.2⟩
  · cases h
theorem allT_spec (hc : CallStill S call) {L : List (Nat × Nat)} {ops : Array Oper} {Q : List AV → AH → Lg → Bool} : ∀ (n : Nat) {rest : List Nat} {s : List AV} {H : AH} {l : Lg}, rest.Nodup → allT L S call ops Q n rest s H l = true → AllO L S call ops (fun s H l => Q s H l = true) n rest s H l
  | 0, rest, s, H, l, hnd, h => by
    unfold allT at h
    split at h
    · exact ⟨rfl, h⟩
    · cases h
  | n + 1, rest, s, H, l, hnd, h => by
    unfold allT at h
    split at h
    · rename_i i hf
      obtain ⟨h1, h2⟩ := findN_some hf
      obtain ⟨p, h3, h4⟩ := thenT_inv h
      have ih := allT_spec hc n (dropN_nodup hnd) h4
      obtain ⟨o0, ho0, h6, h5, h7⟩ := freeN_spec h2
      refine allO_free hc n hnd h1 h5 ?_ ?_ h3 ih
      · intro o k b ho hk hne hb
        rw [ho0] at ho
        obtain rfl := Option.some.inj ho
        have h8 := List.all_eq_true.1 h7 k hk
        rw [Bool.or_eq_true] at h8
        rcases h8 with h8 | h8
        · exact absurd (Nat.eq_of_beq_eq_true h8) hne
        · rw [hb] at h8
          simp only [Bool.or_eq_true, Bool.not_eq_true'] at h8
          exact h8
      · intro o ho
        rw [ho0] at ho
        obtain rfl := Option.some.inj ho
        exact h6
    · split at h
      · rename_i j hj
        obtain ⟨h1, h2⟩ := findN_some hj
        refine ⟨⟨j, h1, h2⟩, fun i hi hri => ?_⟩
        have h3 := List.all_eq_true.1 h i hi
        rw [hri] at h3
        obtain ⟨p, h4, h5⟩ := thenT_inv h3
        exact ⟨p, h4, allT_spec hc n (dropN_nodup hnd) h5⟩
      · cases h

/-! ### Soundness -/
theorem any_soundT (ro : Option Nat) (hS : SysOK S P) (hcall : CallOK S P call) {L : List (Nat × Nat)} {ops : Array Oper} (Q : Exit → Act → World → Prop) {E0 : GE} {T : List AV → AH → Lg → Prop}
    (hQ : ∀ s H l a E, T s H l → E0.le E → Rel S H E → ARel E s a → Q .normal a E.w) :
    ∀ (n : Nat) (listed : Array Bool) (rest : List Nat), rest.length = n → rest.Nodup → listed.size = ops.size → (∀ k, k ∈ rest ↔ k < ops.size ∧ listed.getD k false = false) → ∀ {s : List AV} {H : AH} {l : Lg} {E : GE} {a : Act}, AllO L S call ops T n rest s H l → E0.le E → Rel S H E → ARel E s a → wpAnyIn (WR ro) 0 P .any ops Q n listed a E.w := by
  intro n
  have hrd : ∀ {listed : Array Bool} {rest : List Nat}, listed.size = ops.size → (∀ k, k ∈ rest ↔ k < ops.size ∧ listed.getD k false = false) → ∀ i, i ∈ rest → readyN ops rest i = true → i ∈ Region.ready .any ops listed := by
    intro listed rest hsz hmem i hi hr
    obtain ⟨hlt, hli⟩ := (hmem i).1 hi
    unfold readyN at hr
    split at hr
    · rename_i o ho
      refine mem_ready.2 ⟨by rw [getD_lists (hsz ▸ hlt)]; exact hli, o, ho, ?_⟩
      intro e he hb
      have := List.all_eq_true.1 hr e (by simpa using he)
      rw [hb] at this
      simp only [Bool.not_true, Bool.false_or, Bool.and_eq_true, Bool.not_eq_true'] at this
      cases hx : listed.getD e.on false with
      | true => rfl
      | false =>
        have := mem_memN.2 ((hmem e.on).2 ⟨Nat.le_of_ble_eq_true this.1, hx⟩)
        simp_all
    · cases hr
  induction n with
  | zero =>
    intro listed rest hn hnd hsz hmem s H l E a h hle hr ha
    obtain ⟨rfl, h⟩ := h
    refine ⟨?_, hQ s H l a E h hle hr ha⟩
    apply List.eq_nil_iff_forall_not_mem.2
    intro j hj
    obtain ⟨j1, o, j2, -⟩ := mem_ready.1 hj
    have hlt := (Array.getElem?_eq_some_iff.1 j2).1
    have := (hmem j).2 ⟨hlt, by rw [← getD_lists (hsz ▸ hlt)]; exact j1⟩
    simp at this
  | succ n ih =>
    intro listed rest hn hnd hsz hmem s H l E a h hle hr ha
    obtain ⟨⟨j, hj1, hj2⟩, hall⟩ := h
    refine ⟨?_, ?_⟩
    · intro hnil
      have := hrd hsz hmem j hj1 hj2
      rw [hnil] at this
      simp at this
    · intro i hi
      obtain ⟨i1, o, i2, i3⟩ := mem_ready.1 hi
      have hlt := (Array.getElem?_eq_some_iff.1 i2).1
      have himem := (hmem i).2 ⟨hlt, by rw [← getD_lists (hsz ▸ hlt)]; exact i1⟩
      have hri : readyN ops rest i = true := by
        unfold readyN
        rw [i2]
        refine List.all_eq_true.2 fun e he => ?_
        cases hb : Region.binds .any e with
        | false => rfl
        | true =>
          have hl := i3 e (by simpa using he) hb
          have hlt2 : e.on < ops.size := by
            rw [← hsz]
            by_cases hx : e.on < listed.size
            · exact hx
            · simp [Array.getD, hx] at hl
          simp only [Bool.not_true, Bool.false_or, Bool.and_eq_true, Bool.not_eq_true']
          refine ⟨Nat.ble_eq_true_of_le hlt2, ?_⟩
          cases hm : memN e.on rest with
          | false => rfl
          | true =>
            have := ((hmem e.on).1 (mem_memN.1 hm)).2
            rw [hl] at this; cases this
      obtain ⟨p, hp, hp2⟩ := hall i himem hri
      obtain ⟨o', ho', g1, g2⟩ := stepT_inv hp
      rw [i2] at ho'
      obtain rfl := Option.some.inj ho'
      have hmem' : ∀ k, k ∈ dropN i rest ↔ k < ops.size ∧ (listed.setIfInBounds i true).getD k false = false := by
        intro k
        rw [mem_dropN hnd]
        by_cases e : i = k
        · subst e
          constructor
          · rintro ⟨-, h⟩; exact absurd rfl h
          · rintro ⟨-, h1⟩
            simp [hsz, hlt] at h1
        · rw [getD_set_ne false e, ← hmem k]
          constructor
          · exact fun h => h.1
          · exact fun h => ⟨h, Ne.symm e⟩
      have h1 := stepB_sound ro hS hcall (stepH_B g1) hr ha (wpAnyIn (WR ro) 0 P .any ops Q n (listed.setIfInBounds i true)) Q (fun a' E' h2 h3 h4 => ih _ (dropN i rest) (by have := dropN_length himem; omega) (dropN_nodup hnd) (by simp [hsz]) hmem' hp2 (hle.trans h2) h3 h4)
      unfold wpOpIn
      simp only [i2]
      split at h1
      · rename_i hw; rw [if_pos hw]; exact h1
      · rename_i hw; rw [if_neg hw]; exact ⟨fun _ _ => trivial, h1⟩

end Go.Sx

/- THE ENGINE, 28: a program's calls. -/
set_option linter.unusedSimpArgs false
set_option linter.unusedVariables false
namespace Go.Sx
variable {S : Sys} {P : Program}

theorem draw_sound (hS : SysOK S P) (hm : P.follows .mixedOrders = true) {call : Caller} (hcall : CallOK S P call) (hst : CallStill S call) (hml : CallMild S call) : DrawSound S P call := by
  intro ro id ops R s H K r E a h hr ha
  refine wpIn_region_any hm ?_
  have hle : E.le (E.at { E.w with drawn := E.w.drawn + 1 }) := le_heap rfl rfl rfl rfl
  have hr' : Rel S H (E.at { E.w with drawn := E.w.drawn + 1 }) := hr.mono hle (hr.h.heap rfl rfl rfl rfl)
  have hl : Left ops (Array.replicate ops.size false) (List.range ops.size) := by
    refine ⟨by simp, ?_, List.pairwise_lt_range, ?_⟩
    · intro k
      rw [List.mem_range]
      constructor
      · intro hk; exact ⟨hk, by simp [Array.getD, hk]⟩
      · exact fun h => h.1
    · intro j o hj hjl
      have hlt := (Array.getElem?_eq_some_iff.1 hj).1
      simp [Array.getD, hlt] at hjl
  have hp : pick ops (List.range ops.size) = ops.toList := by
    obtain ⟨l⟩ := ops
    simp only [pick, List.size_toArray, List.getElem?_toArray]
    clear hl h
    induction l with
    | nil => rfl
    | cons o r ih =>
      rw [List.length_cons, List.range_succ_eq_map]
      simp only [List.filterMap_cons, List.getElem?_cons_zero, List.filterMap_map]
      rw [show ((fun i => (o :: r)[i]?) ∘ Nat.succ) = fun i => r[i]? from rfl, ih]
  unfold regK at h
  split at h
  · split at h
    · rename_i hd
      obtain ⟨q, h1, h2⟩ := optK_inv2 h
      obtain ⟨r1, r2⟩ := reserve_sound hr'.h (birthsOf ops.toList).length
      have hr2 : Rel S (reserve H (birthsOf ops.toList).length) ((E.at { E.w with drawn := E.w.drawn + 1 }).reserved (birthsOf ops.toList).length) := hr'.mono r1 r2
      have hd' : drawGo (clashB (bornId H.objs.length (birthsOf ops.toList)) S ops) ops.toList 0 [] [] = true := by rw [clashB_shift]; exact hd
      exact any_soundB ro hS hcall hst hml hd' (q := q) (Lands S K r E) (E0 := E) (fun a' E' h3 h4 h5 => ⟨.normal, q.1, q.2, E', h2, .normal, rfl, h3, h4, h5⟩) ops.size (Array.replicate ops.size false) (List.range ops.size) (by simp) hl (by rw [hp]; exact h1) (hle.trans r1) hr2 ((ha.mono hle).mono r1)
    · split at h
      · rename_i hd
        obtain ⟨q, h0, h2⟩ := optK_inv2 h
        obtain ⟨L, h1⟩ := runG_G3 h0
        exact any_soundG ro hS hcall hst hd (q := q) (Lands S K r E) (E0 := E) (fun a' E' h3 h4 h5 => ⟨.normal, q.1, q.2, E', h2, .normal, rfl, h3, h4, h5⟩) ops.size (Array.replicate ops.size false) (List.range ops.size) (by simp) hl (by rw [hp]; exact h1) hle hr' (ha.mono hle)
      · obtain ⟨q, h0, h2⟩ := optK_inv2 h
        obtain ⟨q0, h3, h4⟩ := optK_inv2 h0
        split at h4
        · rename_i hall
          obtain rfl := Option.some.inj h4
          refine any_soundT ro hS hcall (Lands S K r E) (E0 := E.at { E.w with drawn := E.w.drawn + 1 }) (L := q0.2) (T := fun s' H' l => sameP H s' H' l q0.1 = true) (fun s' H' l a' E' g1 g2 g3 g4 => ?_) ops.size (Array.replicate ops.size false) (List.range ops.size) (by simp) List.nodup_range hl.size hl.mem (allT_spec hst _ List.nodup_range hall) (GE.le.refl _) hr' (ha.mono hle)
          obtain ⟨E2, k1, k2, k3, k4⟩ := same_sound g1 hr' g2 g3 g4 g4.defers
          rw [← k2]
          exact ⟨.normal, q0.1.1.1, q0.1.1.2, E2, h2, .normal, rfl, hle.trans k1, k3, k4⟩
        · simp at h4
  · rename_i hd
    have hd' : drawOK S ops = true := by simpa using hd
    obtain ⟨⟨ex, s1, H1⟩, h1, h2⟩ := optK_inv2 h
    split at h2
    · simp at h2
    · rename_i hpan
      rcases runX_ex _ h1 with e | ⟨v, e⟩
      · simp only at e
        subst e
        have hrun : opsK S call ops ops.toList s H (fun s H => some (s, H)) = some (s1, H1) := by
          rw [opsK_run, runX_D _ h1]; rfl
        exact any_sound ro hS hcall hst hd' (K := fun s H => some (s, H)) (r := (s1, H1)) (Lands S K r E) (E0 := E) (fun s' H' a' E' g1 g2 g3 g4 => by
          simp only [Option.some.injEq, Prod.mk.injEq] at g1
          obtain ⟨rfl, rfl⟩ := g1
          exact ⟨.normal, s', H', E', h2, .normal, rfl, g2, g3, g4⟩) ops.size (Array.replicate ops.size false) (List.range ops.size) (by simp) hl (s := s) (H := H) (E := E.at { E.w with drawn := E.w.drawn + 1 }) (a := a) (by rw [hp]; exact hrun) hle hr' (ha.mono hle)
      · simp only at e
        subst e
        have hline : lineOK ops = true := by simpa [isPan] using hpan
        exact line_sound ro hS hcall hline (ex := .panic v) (s1 := s1) (H1 := H1) (Lands S K r E) (E0 := E) (fun e => by simp at e) (fun v' e a' x E' g2 g3 g4 g5 => by
          simp only [Ex.panic.injEq] at e
          subst e
          exact ⟨.panic v, s1, H1, E', h2, .panic v x g4, rfl, g2, g3, g5⟩) ops.size (Array.replicate ops.size false) (List.range ops.size) (by simp) hl (s := s) (H := H) (E := E.at { E.w with drawn := E.w.drawn + 1 }) (a := a) (by rw [hp]; exact h1) hle hr' (ha.mono hle)

theorem enter_still {call : Caller} {lp : Looper} {y : Nat → List AV → AH → Option (AV × AH)} : CallStill S ⟨enterF S call lp, y⟩ := by
  intro f args H v H' hp h
  replace h : enterF S call lp f args H = some (.val v H') := Caller.fn_res h
  unfold enterF at h
  split at h
  · obtain ⟨ts, -, h⟩ := optK_inv h
    obtain ⟨u, -, h⟩ := optK_inv h
    obtain ⟨v', -, h⟩ := optK_inv h
    simp only [Option.some.injEq, Res.val.injEq] at h
    exact h.2.symm
  · split at h
    · split at h
      · simp at h
      · rw [if_pos hp] at h
        obtain ⟨ts, -, h⟩ := optK_inv h
        obtain ⟨p, -, h⟩ := optK_inv h
        obtain ⟨v', -, h⟩ := optK_inv h
        simp only [Option.some.injEq, Res.val.injEq] at h
        exact h.2.symm
    · rw [if_pos hp] at h
      obtain ⟨ts, -, h⟩ := optK_inv h
      obtain ⟨p, -, h⟩ := optK_inv h
      obtain ⟨v', -, h⟩ := optK_inv h
      simp only [Option.some.injEq, Res.val.injEq] at h
      exact h.2.symm

theorem enter_mild {call : Caller} {lp : Looper} {y : Nat → List AV → AH → Option (AV × AH)} : CallMild S ⟨enterF S call lp, y⟩ := by
  intro f args H v H' id X hp hid h
  replace h : enterF S call lp f args H = some (.val v H') := Caller.fn_res h
  suffices hs : enterF S call lp f args { H with objs := H.objs.set id X } = some (.val v { H with objs := H.objs.set id X }) by
    show optK (enterF S call lp f args _) Res.valOf = _
    rw [hs]; rfl
  unfold enterF at h ⊢
  split at h
  · obtain ⟨ts, h1, h⟩ := optK_inv h
    obtain ⟨u, h2, h⟩ := optK_inv h
    obtain ⟨v', h3, h⟩ := optK_inv h
    simp only [Option.some.injEq, Res.val.injEq] at h
    rw [resolveL_set hid X _ _ h1, optK_some, h2, optK_some, h3, optK_some, h.1]
  · split at h
    · split at h
      · simp at h
      · rw [if_pos hp] at h
        obtain ⟨ts, h1, h⟩ := optK_inv h
        obtain ⟨p, h2, h⟩ := optK_inv h
        obtain ⟨v', h3, h⟩ := optK_inv h
        simp only [Option.some.injEq, Res.val.injEq] at h
        rw [if_pos hp, resolveL_set hid X _ _ h1, optK_some, h2, optK_some, h3, optK_some, h.1]
    · rw [if_pos hp] at h
      obtain ⟨ts, h1, h⟩ := optK_inv h
      obtain ⟨p, h2, h⟩ := optK_inv h
      obtain ⟨v', h3, h⟩ := optK_inv h
      simp only [Option.some.injEq, Res.val.injEq] at h
      rw [if_pos hp, resolveL_set hid X _ _ h1, optK_some, h2, optK_some, h3, optK_some, h.1]

theorem callF_mild : ∀ n, CallMild S (callF S n)
  | 0 => by intro f args H v H' id X hp hid h; simp [callF, Caller.fn, optK] at h
  | n + 1 => enter_mild

theorem callF_still : ∀ n, CallStill S (callF S n)
  | 0 => by intro f args H v H' hp h; simp [callF, Caller.fn, optK] at h
  | n + 1 => enter_still

/-- THE ENGINE's THEOREM. -/
theorem call_sound (hS : SysOK S P) (hext : ExtOK S P) (hm : P.follows .mixedOrders = true) : ∀ n, CallOK S P (callF S n)
  | 0 => ⟨by intro f args H r h; simp [callF] at h, by intro id args H v H' h; simp [callF] at h⟩
  | n + 1 =>
    have ih := call_sound hS hext hm n
    have hd := draw_sound hS hm ih (callF_still n) (callF_mild n)
    ⟨fun f args H r h => enter_sound hS hext ih hd n h, fun id args H v H' h E xs hr hx b hid hb => yield_sound hS ih hd n h hr hx hid hb⟩

#print axioms call_sound
end Go.Sx

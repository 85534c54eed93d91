/- THE ENGINE, 26: a region whose order is drawn: the moves. -/
import Derived.Test.YtoagnbpmoihojaaDoorSxDraw
set_option linter.unusedSimpArgs false
set_option linter.unusedVariables false
namespace Go.Sx
variable {R : Type} {S : Sys} {call : Caller}

def stepD (S : Sys) (call : Caller) (all : Array Oper) (o : Oper) (s : List AV) (H : AH) : Option (List AV × AH) :=
  match wantD all o s with
  | some true => optK (opK S call s H o pairK) fun p => some (putD o.dst s p.1, p.2)
  | some false => some (putD o.dst s (.tuple []), H)
  | none => none

def runD (S : Sys) (call : Caller) (all : Array Oper) : List Oper → List AV → AH → Option (List AV × AH)
  | [], s, H => some (s, H)
  | o :: r, s, H => optK (stepD S call all o s H) fun p => runD S call all r p.1 p.2

theorem set_same {s : List AV} {d : Nat} {v : AV} (h : s[d]? = some v) : s.set d v = s := by
  apply List.ext_getElem?
  intro i
  rw [List.getElem?_set]
  split
  · rename_i e; subst e
    split
    · exact h.symm
    · rename_i hn; exact (List.getElem?_eq_none (by omega)).symm
  · rfl

theorem opsK_run {all : Array Oper} : ∀ (l : List Oper) (s : List AV) (H : AH) (K : List AV → AH → Option R), opsK S call all l s H K = optK (runD S call all l s H) fun p => K p.1 p.2
  | [], s, H, K => rfl
  | o :: r, s, H, K => by
    simp only [opsK, runD, stepD, wantD]
    cases hg : o.guard with
    | none =>
      simp only
      rw [opK_nat]
      simp only [optK_optK, optK_some]
      exact optK_congr fun p => opsK_run r _ _ K
    | some g =>
      obtain ⟨j, want⟩ := g
      simp only
      cases (all[j]?).bind (·.dst) with
      | none => rfl
      | some d =>
        simp only
        cases hd : s[d]? with
        | none => rfl
        | some v =>
          cases v with
          | bool t =>
            cases t <;> cases want <;> simp only [br, set_same hd, opsK_run r, if_true, Bool.false_eq_true, if_false, beq_self_eq_true, BEq.rfl, optK_some] <;> try rfl
            all_goals
              rw [opK_nat]
              simp only [optK_optK, optK_some]
              try rfl
          | tuple vs => cases vs with
            | nil => simp only [optK_some, opsK_run r]
            | cons => rfl
          | _ => rfl

theorem get_put {s : List AV} {dst : Option Nat} {v : AV} {t : Nat} (h : ∀ d, dst = some d → d ≠ t) : (putD dst s v)[t]? = s[t]? := by
  cases dst with
  | none => rfl
  | some d => simp [putD, List.getElem?_set_ne (h d rfl)]

theorem want_put {all : Array Oper} {o : Oper} {s : List AV} {dst : Option Nat} {v : AV} (h : ∀ d, dst = some d → d ∉ usesT all o) : wantD all o (putD dst s v) = wantD all o s := by
  unfold wantD
  cases hg : o.guard with
  | none => rfl
  | some g =>
    obtain ⟨j, want⟩ := g
    simp only
    cases hb : (all[j]?).bind (·.dst) with
    | none => rfl
    | some d =>
      simp only
      rw [get_put]
      intro d' hd' e
      subst e
      exact h d' hd' (by simp [usesT, hg, hb])

theorem op_put {all : Array Oper} {o : Oper} {s : List AV} {H : AH} {dst : Option Nat} {v : AV} (h : ∀ d, dst = some d → d ∉ usesT all o) {K : AV → AH → Option R} : opK S call (putD dst s v) H o K = opK S call s H o K := by
  refine opK_congr fun x hx => ev_congr fun t ht => ?_
  subst ht
  exact get_put fun d hd e => h d hd (by subst e; exact List.mem_append_left _ (List.mem_filterMap.2 ⟨.tmp d, hx, rfl⟩))

theorem put_comm {s : List AV} {x y : Option Nat} {u v : AV} (h : ∀ d, x = some d → y ≠ some d) : putD y (putD x s u) v = putD x (putD y s v) u := by
  cases x with
  | none => rfl
  | some d => cases y with
    | none => rfl
    | some e => exact List.set_comm _ _ (fun e' => h d rfl (e' ▸ rfl))

theorem changes_touches {o : Oper} (h : touches o = false) : changes S o = false := by
  obtain ⟨dst, op, type, pos, after, guard⟩ := o
  cases op <;> simp only [touches, changes] at h ⊢ <;> try (simp at h; done)
  split at h <;> simp_all

theorem clash_spec {all : Array Oper} {a b : Oper} (h : clash S all a b = false) :
    (touches a = true → changes S b = false) ∧ (changes S a = true → touches b = false) ∧ (∀ d, a.dst = some d → d ∉ usesT all b) ∧ (∀ d, a.dst = some d → b.dst ≠ some d) ∧ (∀ d, b.dst = some d → d ∉ usesT all a) := by
  unfold clash at h
  simp only [Bool.or_eq_false_iff, Bool.and_eq_false_iff] at h
  obtain ⟨⟨⟨h1, h2⟩, h3⟩, h4⟩ := h
  refine ⟨fun e => ?_, fun e => ?_, fun d hd => ?_, fun d hd => ?_, fun d hd => ?_⟩
  · simpa [e] using h1
  · simpa [e] using h2
  · rw [hd] at h3; simp at h3; exact h3.1
  · rw [hd] at h3; simp at h3; exact h3.2
  · rw [hd] at h4; simp at h4; exact h4

/-- Two operations that do not clash, on one row: the objects. -/
theorem swap_op (hc : CallStill S call) {all : Array Oper} {a b : Oper} (hcl : clash S all a b = false) {s : List AV} {H H1 H2 : AH} {u v : AV} (h1 : opK S call s H a pairK = some (u, H1)) (h2 : opK S call s H1 b pairK = some (v, H2)) :
    ∃ H1', opK S call s H b pairK = some (v, H1') ∧ opK S call s H1' a pairK = some (u, H2) := by
  obtain ⟨c1, c2, -, -, -⟩ := clash_spec hcl
  cases ha : touches a with
  | false =>
    have e1 := opK_quiet hc (changes_touches ha) h1
    subst e1
    refine ⟨H2, h2, ?_⟩
    rw [opK_still ha (H2 := H1), h1]
    rfl
  | true =>
    cases hb : touches b with
    | false =>
      have e2 := opK_quiet hc (changes_touches hb) h2
      subst e2
      refine ⟨H, ?_, h1⟩
      rw [opK_still hb (H2 := H2), h2]
      rfl
    | true =>
      have e2 := opK_quiet hc (c1 ha) h2
      cases hca : changes S a with
      | true => rw [c2 hca] at hb; exact absurd hb (by simp)
      | false =>
        have e1 := opK_quiet hc hca h1
        subst e1; subst e2
        exact ⟨_, h2, h1⟩

theorem optK_inv2 {A : Type} {o : Option A} {f : A → Option R} {r : R} (h : optK o f = some r) : ∃ x, o = some x ∧ f x = some r := by
  cases o with
  | none => simp [optK] at h
  | some x => exact ⟨x, rfl, h⟩

theorem swap (hc : CallStill S call) {all : Array Oper} {a b : Oper} (hcl : clash S all a b = false) {s : List AV} {H : AH} {p q : List AV × AH} (h1 : stepD S call all a s H = some p) (h2 : stepD S call all b p.1 p.2 = some q) :
    ∃ p', stepD S call all b s H = some p' ∧ stepD S call all a p'.1 p'.2 = some q := by
  obtain ⟨-, -, d1, d2, d3⟩ := clash_spec hcl
  have d2' : ∀ d, b.dst = some d → a.dst ≠ some d := fun d hb ha => d2 d ha hb
  unfold stepD at h1
  split at h1
  · rename_i hw
    obtain ⟨⟨u, H1⟩, g1, e⟩ := optK_inv2 h1
    simp only [Option.some.injEq] at e
    subst e
    simp only at h2
    unfold stepD at h2
    rw [want_put d1] at h2
    split at h2
    · rename_i hv
      obtain ⟨⟨v, H2⟩, g2, e⟩ := optK_inv2 h2
      rw [op_put d1] at g2
      simp only [Option.some.injEq] at e
      subst e
      obtain ⟨H1', k1, k2⟩ := swap_op hc hcl g1 g2
      refine ⟨(putD b.dst s v, H1'), by simp [stepD, hv, k1, optK], ?_⟩
      simp only [stepD, want_put d3, hw, op_put d3, k2, optK]
      rw [put_comm d2']
    · rename_i hv
      simp only [Option.some.injEq] at h2
      subst h2
      refine ⟨(putD b.dst s (.tuple []), H), by simp [stepD, hv], ?_⟩
      simp only [stepD, want_put d3, hw, op_put d3, g1, optK]
      rw [put_comm d2']
    · simp at h2
  · rename_i hw
    simp only [Option.some.injEq] at h1
    subst h1
    simp only at h2
    unfold stepD at h2
    rw [want_put d1] at h2
    split at h2
    · rename_i hv
      obtain ⟨⟨v, H2⟩, g2, e⟩ := optK_inv2 h2
      rw [op_put d1] at g2
      simp only [Option.some.injEq] at e
      subst e
      refine ⟨(putD b.dst s v, H2), by simp [stepD, hv, g2, optK], ?_⟩
      simp only [stepD, want_put d3, hw]
      rw [put_comm d2']
    · rename_i hv
      simp only [Option.some.injEq] at h2
      subst h2
      refine ⟨(putD b.dst s (.tuple []), H), by simp [stepD, hv], ?_⟩
      simp only [stepD, want_put d3, hw]
      rw [put_comm d2']
    · simp at h2
  · simp at h1

theorem front (hc : CallStill S call) {all : Array Oper} {b : Oper} {post : List Oper} {r : List AV × AH} : ∀ (pre : List Oper), (∀ a, a ∈ pre → clash S all a b = false) → ∀ {s : List AV} {H : AH}, runD S call all (pre ++ b :: post) s H = some r → runD S call all (b :: (pre ++ post)) s H = some r
  | [], _, s, H, h => h
  | a :: pre, hp, s, H, h => by
    simp only [List.cons_append, runD] at h
    obtain ⟨p, h1, h⟩ := optK_inv2 h
    have ih := front hc pre (fun a ha => hp a (List.mem_cons_of_mem _ ha)) h
    simp only [runD] at ih
    obtain ⟨q, h2, h3⟩ := optK_inv2 ih
    obtain ⟨p', k1, k2⟩ := swap hc (hp a (List.mem_cons_self ..)) h1 h2
    simp only [List.cons_append, runD, k1, optK_some, k2, h3]

end Go.Sx

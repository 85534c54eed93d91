/- THE ENGINE, 27b: regions whose order is drawn, with objects that are made in no certain order. -/
import Derived.Test.YtoagnbpmoihojaaDoorSxDraw3
set_option linter.unusedSimpArgs false
set_option linter.unusedVariables false
namespace Go.Sx
variable {R : Type} {S : Sys} {P : Program} {call : Caller}

/-- Calls with trees ask of no object that is not there. -/
def CallMild (S : Sys) (call : Caller) : Prop := ∀ f args (H : AH) v H' id X, S.isPure f = true → H.objs[id]? = some (.dead false) → call f args H = some (v, H') → call f args { H with objs := H.objs.set id X } = some (v, { H with objs := H.objs.set id X })

theorem mild_changes {o : Oper} (h : mild S o = true) : changes S o = false := by
  unfold mild at h
  rw [Bool.or_eq_true] at h
  rcases h with h | h
  · exact changes_touches (by simpa using h)
  · obtain ⟨dst, op, type, pos, after, guard⟩ := o
    cases op <;> simp only at h <;> try (simp at h; done)
    · simp [changes]
    · rename_i c
      unfold changes
      simp only
      split at h
      · rename_i f hf
        rw [hf]; simp [h]
      · simp at h

theorem mild_set (hm : CallMild S call) {o : Oper} (h : mild S o = true) {s : List AV} {H H1 : AH} {u : AV} (hr : opK S call s H o pairK = some (u, H1)) {id : Nat} (hid : H.objs[id]? = some (.dead false)) (X : AObj) :
    opK S call s { H with objs := H.objs.set id X } o pairK = some (u, { H with objs := H.objs.set id X }) := by
  unfold mild at h
  rw [Bool.or_eq_true] at h
  rcases h with h | h
  · rw [opK_still (H2 := H) (by simpa using h), hr]
    rfl
  · obtain ⟨dst, op, type, pos, after, guard⟩ := o
    cases op <;> simp only at h <;> try (simp at h; done)
    · rename_i t a
      simp only [opK] at hr ⊢
      split at hr
      · rename_i i hi
        generalize ev S.G s a = av at hr ⊢
        unfold loadK at hr ⊢
        split at hr
        · split at hr
          · split at hr
            · rename_i hc
              simp only [if_pos hc]
              simp only [pairK, Option.some.injEq, Prod.mk.injEq] at hr ⊢
              exact ⟨hr.1, trivial⟩
            · simp at hr
          · simp at hr
          · simp at hr
          · simp only [pairK, Option.some.injEq, Prod.mk.injEq] at hr ⊢
            simp_all
        · rename_i j off
          split at hr
          · rename_i cs hcs
            have hne : id ≠ j := by
              intro e; subst e
              rw [hid] at hcs; simp at hcs
            simp only [List.getElem?_set_ne hne, hcs]
            rw [partK_nat] at hr ⊢
            cases hp : partK i cs off some with
            | none => rw [hp] at hr; simp [optK] at hr
            | some v =>
              rw [hp] at hr
              simp only [optK_some, pairK, Option.some.injEq, Prod.mk.injEq] at hr ⊢
              exact ⟨hr.1, trivial⟩
          · simp at hr
        · simp at hr
      · simp at hr
    · rename_i c
      split at h
      · rename_i f hf
        simp only [opK, hf, ev, callFn] at hr ⊢
        obtain ⟨p, h1, h2⟩ := optK_inv2 hr
        simp only [pairK, Option.some.injEq, Prod.mk.injEq] at h2
        rw [hm _ _ _ p.1 p.2 id X h hid h1]
        simp only [optK_some, pairK, h2.1]
      · simp at h

theorem slots_spec {all : Array Oper} {a b : Oper} (h : slotsClash all a b = false) : (∀ d, a.dst = some d → d ∉ usesT all b) ∧ (∀ d, a.dst = some d → b.dst ≠ some d) ∧ (∀ d, b.dst = some d → d ∉ usesT all a) := by
  unfold slotsClash at h
  simp only [Bool.or_eq_false_iff] at h
  obtain ⟨h3, h4⟩ := h
  refine ⟨fun d hd => ?_, fun d hd => ?_, fun d hd => ?_⟩
  · rw [hd] at h3; simp at h3; exact h3.1
  · rw [hd] at h3; simp at h3; exact h3.2
  · rw [hd] at h4; simp at h4; exact h4

theorem clashB_slots {bi : Nat → Option Nat} {all : Array Oper} {a b : Oper} (h : clashB bi S all a b = false) : (∀ d, a.dst = some d → d ∉ usesT all b) ∧ (∀ d, a.dst = some d → b.dst ≠ some d) ∧ (∀ d, b.dst = some d → d ∉ usesT all a) := by
  unfold clashB at h
  split at h
  · exact slots_spec h
  · exact slots_spec (by simp at h; exact h.2)
  · exact slots_spec (by simp at h; exact h.2)
  · exact (clash_spec h).2.2

theorem birth_inv {H H' : AH} {t : TypeId} {id : Nat} {v : AV} (h : birthK S H t id = some (v, H')) : ∃ X, v = .ptr id 0 ∧ H.objs[id]? = some (.dead false) ∧ H' = { H with objs := H.objs.set id X } ∧ X ≠ .dead false ∧ ∀ H2 : AH, H2.objs[id]? = some (.dead false) → birthK S H2 t id = some (.ptr id 0, { H2 with objs := H2.objs.set id X }) := by
  unfold birthK at h
  split at h
  · rename_i i hi
    split at h
    · rename_i hz
      split at h
      · rename_i hid
        simp only [Option.some.injEq, Prod.mk.injEq] at h
        exact ⟨_, h.1.symm, hid, h.2.symm, by simp, fun H2 h2 => by unfold birthK; simp only [hi, if_pos hz, h2]⟩
      · simp at h
    · simp at h
  · simp at h

theorem opB_none {bi : Nat → Option Nat} {s : List AV} {H : AH} {o : Oper} (h : bornAt bi o = none) : opB bi S call s H o = opK S call s H o pairK := by
  unfold opB
  rw [h]

theorem opB_some {bi : Nat → Option Nat} {s : List AV} {H : AH} {o : Oper} {p : TypeId × Nat} (h : bornAt bi o = some p) : opB bi S call s H o = birthK S H p.1 p.2 := by
  unfold opB
  rw [h]

/-- Two operations that do not clash: the objects. -/
theorem swap_opB (hc : CallStill S call) (hm : CallMild S call) {bi : Nat → Option Nat} {all : Array Oper} {a b : Oper} (hcl : clashB bi S all a b = false) {s : List AV} {H H1 H2 : AH} {u v : AV} (h1 : opB bi S call s H a = some (u, H1)) (h2 : opB bi S call s H1 b = some (v, H2)) :
    ∃ H1', opB bi S call s H b = some (v, H1') ∧ opB bi S call s H1' a = some (u, H2) := by
  unfold clashB isBirth at hcl
  cases hb : bornAt bi b with
  | some q =>
    rw [opB_some hb] at h2 ⊢
    obtain ⟨X, rfl, g1, rfl, g2, g3⟩ := birth_inv h2
    cases ha : bornAt bi a with
    | some p =>
      rw [opB_some ha] at h1
      obtain ⟨Y, rfl, k1, rfl, k2, k3⟩ := birth_inv h1
      have hlt : p.2 < H.objs.length := by
        rcases Nat.lt_or_ge p.2 H.objs.length with h' | h'
        · exact h'
        · simp [List.getElem?_eq_none h'] at k1
      have hne : p.2 ≠ q.2 := by
        intro e
        simp only [e] at g1 hlt
        rw [← e] at g1
        rw [e] at g1
        simp only [List.getElem?_set_self hlt, Option.some.injEq] at g1
        exact k2 g1
      simp only [List.getElem?_set_ne hne] at g1
      refine ⟨_, g3 H g1, ?_⟩
      rw [opB_some ha, k3 _ (by simp only [List.getElem?_set_ne (Ne.symm hne)]; exact k1)]
      simp only [Option.some.injEq, Prod.mk.injEq, AH.mk.injEq, and_true, true_and]
      exact List.set_comm _ _ (Ne.symm hne)
    | none =>
      rw [hb, ha] at hcl
      simp only [Option.isSome_some, Option.isSome_none, Bool.or_eq_false_iff, Bool.not_eq_false'] at hcl
      rw [opB_none ha] at h1
      have e1 := opK_quiet hc (mild_changes hcl.1) h1
      subst e1
      exact ⟨_, g3 _ g1, by rw [opB_none ha]; exact mild_set hm hcl.1 h1 g1 X⟩
  | none =>
    rw [opB_none hb] at h2 ⊢
    cases ha : bornAt bi a with
    | some p =>
      rw [hb, ha] at hcl
      simp only [Option.isSome_some, Option.isSome_none, Bool.or_eq_false_iff] at hcl
      have e2 := opK_quiet hc (changes_touches hcl.1) h2
      subst e2
      refine ⟨H, ?_, h1⟩
      rw [opK_still hcl.1 (H2 := H2), h2]
      rfl
    | none =>
      rw [hb, ha] at hcl
      simp only [Option.isSome_none] at hcl
      rw [opB_none ha] at h1
      obtain ⟨H1', k1, k2⟩ := swap_op hc hcl h1 h2
      exact ⟨H1', k1, by rw [opB_none ha]; exact k2⟩

theorem opB_put {bi : Nat → Option Nat} {all : Array Oper} {o : Oper} {s : List AV} {H : AH} {dst : Option Nat} {v : AV} (h : ∀ d, dst = some d → d ∉ usesT all o) : opB bi S call (putD dst s v) H o = opB bi S call s H o := by
  unfold opB
  split
  · rfl
  · exact op_put h

theorem swapB (hc : CallStill S call) (hm : CallMild S call) {bi : Nat → Option Nat} {all : Array Oper} {a b : Oper} (hcl : clashB bi S all a b = false) {s : List AV} {H : AH} {p q : List AV × AH} (h1 : stepB bi S call all a s H = some p) (h2 : stepB bi S call all b p.1 p.2 = some q) :
    ∃ p', stepB bi S call all b s H = some p' ∧ stepB bi S call all a p'.1 p'.2 = some q := by
  obtain ⟨d1, d2, d3⟩ := clashB_slots hcl
  have d2' : ∀ d, b.dst = some d → a.dst ≠ some d := fun d hb ha => d2 d ha hb
  unfold stepB at h1
  split at h1
  · rename_i hw
    obtain ⟨⟨u, H1⟩, g1, e⟩ := optK_inv2 h1
    simp only [Option.some.injEq] at e
    subst e
    simp only at h2
    unfold stepB at h2
    rw [want_put d1] at h2
    split at h2
    · rename_i hv
      obtain ⟨⟨v, H2⟩, g2, e⟩ := optK_inv2 h2
      rw [opB_put d1] at g2
      simp only [Option.some.injEq] at e
      subst e
      obtain ⟨H1', k1, k2⟩ := swap_opB hc hm hcl g1 g2
      refine ⟨(putD b.dst s v, H1'), by simp [stepB, hv, k1, optK], ?_⟩
      simp only [stepB, want_put d3, hw, opB_put d3, k2, optK]
      rw [put_comm d2']
    · rename_i hv
      simp only [Option.some.injEq] at h2
      subst h2
      refine ⟨(putD b.dst s (.tuple []), H), by simp [stepB, hv], ?_⟩
      simp only [stepB, want_put d3, hw, opB_put d3, g1, optK]
      rw [put_comm d2']
    · simp at h2
  · rename_i hw
    simp only [Option.some.injEq] at h1
    subst h1
    simp only at h2
    unfold stepB at h2
    rw [want_put d1] at h2
    split at h2
    · rename_i hv
      obtain ⟨⟨v, H2⟩, g2, e⟩ := optK_inv2 h2
      rw [opB_put d1] at g2
      simp only [Option.some.injEq] at e
      subst e
      refine ⟨(putD b.dst s v, H2), by simp [stepB, hv, g2, optK], ?_⟩
      simp only [stepB, want_put d3, hw]
      rw [put_comm d2']
    · rename_i hv
      simp only [Option.some.injEq] at h2
      subst h2
      refine ⟨(putD b.dst s (.tuple []), H), by simp [stepB, hv], ?_⟩
      simp only [stepB, want_put d3, hw]
      rw [put_comm d2']
    · simp at h2
  · simp at h1

theorem frontB (hc : CallStill S call) (hm : CallMild S call) {bi : Nat → Option Nat} {all : Array Oper} {b : Oper} {post : List Oper} {r : List AV × AH} : ∀ (pre : List Oper), (∀ a, a ∈ pre → clashB bi S all a b = false) → ∀ {s : List AV} {H : AH}, runB bi S call all (pre ++ b :: post) s H = some r → runB bi S call all (b :: (pre ++ post)) s H = some r
  | [], _, s, H, h => h
  | a :: pre, hp, s, H, h => by
    simp only [List.cons_append, runB] at h
    obtain ⟨p, h1, h⟩ := optK_inv2 h
    have ih := frontB hc hm pre (fun a ha => hp a (List.mem_cons_of_mem _ ha)) h
    simp only [runB] at ih
    obtain ⟨q, h2, h3⟩ := optK_inv2 ih
    obtain ⟨p', k1, k2⟩ := swapB hc hm (hp a (List.mem_cons_self ..)) h1 h2
    simp only [List.cons_append, runB, k1, optK_some, k2, h3]

theorem opB_sound (ro : Option Nat) (hS : SysOK S P) (hcall : CallOK S P call) {bi : Nat → Option Nat} {H H' : AH} {E : GE} (hr : Rel S H E) {s : List AV} {a : Act} (ha : ARel E s a) {o : Oper} {v : AV} (h : opB bi S call s H o = some (v, H')) : GivesIn ro S P o a E v H' := by
  cases hb : bornAt bi o with
  | none =>
    rw [opB_none hb] at h
    obtain ⟨v', H'', h1, h2⟩ := op_sound ro hS hcall hr ha h
    simp only [pairK, Option.some.injEq, Prod.mk.injEq] at h1
    obtain ⟨rfl, rfl⟩ := h1
    exact h2
  | some p =>
    rw [opB_some hb] at h
    obtain ⟨dst, op, type, pos, after, guard⟩ := o
    unfold bornAt at hb
    split at hb
    · rename_i t d e1 e2
      simp only at e1
      subst e1
      split at hb
      · simp only [Option.some.injEq] at hb
        subst hb
        obtain ⟨E', h1, h2, h3, h4⟩ := birth_sound hS hr.h h
        exact gives_valueI (by simp [execOp, h1]) h2 (hr.mono h2 h3) h4
      · simp at hb
    · simp at hb

theorem stepB_sound (ro : Option Nat) (hS : SysOK S P) (hcall : CallOK S P call) {bi : Nat → Option Nat} {all : Array Oper} {o : Oper} {s : List AV} {H : AH} {p : List AV × AH} (h : stepB bi S call all o s H = some p)
    {E : GE} {a : Act} (hr : Rel S H E) (ha : ARel E s a) (next : Act → World → Prop) (Q : Exit → Act → World → Prop)
    (hn : ∀ a' E', E.le E' → Rel S p.2 E' → ARel E' p.1 a' → next a' E'.w) :
    (if Region.wanted o (yielded all a.tmps) = true then o.wpIn (WR ro) 0 P a E.w next Q else next (a.put o.dst undef) E.w) := by
  unfold stepB wantD at h
  have run : ∀ {s' : List AV}, ARel E s' a → (optK (opB bi S call s H o) fun p => some (putD o.dst s p.1, p.2)) = some p → o.wpIn (WR ro) 0 P a E.w next Q := by
    intro s' _ h
    obtain ⟨⟨v, H'⟩, h1, h2⟩ := optK_inv2 h
    simp only [Option.some.injEq] at h2
    subst h2
    exact opB_sound ro hS hcall hr ha h1 next Q (fun x E' hle hr' hv => hn _ E' hle hr' (put_rel (ha.mono hle) hv o.dst))
  cases hg : o.guard with
  | none =>
    rw [hg] at h
    rw [if_pos (by simp [Region.wanted, hg])]
    exact run ha h
  | some g =>
    obtain ⟨j, want⟩ := g
    rw [hg] at h
    simp only at h
    cases hd : (all[j]?).bind (·.dst) with
    | none => rw [hd] at h; simp at h
    | some d =>
      rw [hd] at h
      simp only at h
      split at h
      · rename_i hw
        split at hw
        · rename_i t ht
          simp only [Option.some.injEq] at hw
          have hy := yielded_of hd (tmp_bool ha ht)
          rw [if_pos (by simp only [Region.wanted, hg, hy]; simpa using hw)]
          exact run ha h
        · simp at hw
        · simp at hw
      · rename_i hw
        simp only [Option.some.injEq] at h
        subst h
        have hno : Region.wanted o (yielded all a.tmps) = false := by
          split at hw
          · rename_i t ht
            simp only [Option.some.injEq] at hw
            have hy := yielded_of hd (tmp_bool ha ht)
            simp only [Region.wanted, hg, hy]
            simpa using hw
          · rename_i ht
            have hy := yielded_undef hd (tmp_undef ha ht)
            simp [Region.wanted, hg, hy]
          · simp at hw
        rw [if_neg (by rw [hno]; simp)]
        exact hn _ E (GE.le.refl E) hr (put_rel ha (rel_undef E) o.dst)
      · simp at h

theorem any_soundB (ro : Option Nat) (hS : SysOK S P) (hcall : CallOK S P call) (hst : CallStill S call) (hm : CallMild S call) {bi : Nat → Option Nat} {ops : Array Oper} (hd : drawGo (clashB bi S ops) ops.toList 0 [] [] = true) {q : List AV × AH} (Q : Exit → Act → World → Prop) {E0 : GE} (hQ : ∀ a' E', E0.le E' → Rel S q.2 E' → ARel E' q.1 a' → Q .normal a' E'.w) :
    ∀ (n : Nat) (listed : Array Bool) (rest : List Nat), rest.length = n → Left ops listed rest → ∀ {s : List AV} {H : AH} {E : GE} {a : Act}, runB bi S call ops (pick ops rest) s H = some q → E0.le E → Rel S H E → ARel E s a → wpAnyIn (WR ro) 0 P .any ops Q n listed a E.w := by
  obtain ⟨M, hM⟩ := draw_good hd
  intro n
  induction n with
  | zero =>
    intro listed rest hn hl s H E a h hle hr ha
    obtain rfl := List.length_eq_zero_iff.1 hn
    have h' : some (s, H) = some q := h
    obtain rfl := Option.some.inj h'
    refine ⟨?_, hQ a E hle hr ha⟩
    apply List.eq_nil_iff_forall_not_mem.2
    intro j hj
    obtain ⟨j1, o, j2, -⟩ := mem_ready.1 hj
    have hlt := (Array.getElem?_eq_some_iff.1 j2).1
    have := (hl.mem j).2 ⟨hlt, by rw [← getD_lists (hl.size ▸ hlt)]; exact j1⟩
    simp at this
  | succ n ih =>
    intro listed rest hn hl s H E a h hle hr ha
    refine ⟨?_, ?_⟩
    · intro hnil
      exfalso
      cases rest with
      | nil => simp at hn
      | cons k rest =>
        have hk := (hl.mem k).1 (List.mem_cons_self ..)
        have : k ∈ Region.ready .any ops listed := by
          refine mem_ready.2 ⟨by rw [getD_lists (hl.size ▸ hk.1)]; exact hk.2, ops[k], by simp [hk.1], ?_⟩
          intro e he hb
          have hlt := (hM k ops[k] (by simp [hk.1])).1 e (by simpa using he) hb
          cases hx : listed.getD e.on false with
          | true => rfl
          | false =>
            have := (hl.mem e.on).2 ⟨Nat.lt_trans hlt hk.1, hx⟩
            rcases List.mem_cons.1 this with h1 | h1
            · omega
            · have := List.rel_of_pairwise_cons hl.asc h1; omega
        rw [hnil] at this
        simp at this
    · intro i hi
      obtain ⟨i1, o, i2, i3⟩ := mem_ready.1 hi
      have hlt := (Array.getElem?_eq_some_iff.1 i2).1
      have hmem := (hl.mem i).2 ⟨hlt, by rw [← getD_lists (hl.size ▸ hlt)]; exact i1⟩
      obtain ⟨pre, post, rfl⟩ := List.append_of_mem hmem
      have hasc := List.pairwise_append.1 hl.asc
      have hpre : ∀ k, k ∈ pre → k < i := fun k hk => hasc.2.2 k hk i (List.mem_cons_self ..)
      have hpost : ∀ k, k ∈ post → i < k := fun k hk => List.rel_of_pairwise_cons hasc.2.1 hk
      have hcl : ∀ a, a ∈ pick ops pre → clashB bi S ops a o = false := by
        intro a' ha'
        obtain ⟨k, hk, hka⟩ := List.mem_filterMap.1 ha'
        rcases (hM i o i2).2.1 k (hpre k hk) with h1 | ⟨a2, h1, h2⟩
        · have := reach hM hl.closed hl.size i o i2 i3 k h1
          have h3 := ((hl.mem k).1 (List.mem_append_left _ hk)).2
          rw [this] at h3; simp at h3
        · have : a2 = a' := by
            have : ops[k]? = some a2 := by simpa using h1
            rw [hka] at this; exact (Option.some.inj this).symm
          subst this
          exact h2
      have hpick : pick ops (pre ++ i :: post) = pick ops pre ++ o :: pick ops post := by
        simp [pick, i2]
      have hpick2 : pick ops (pre ++ post) = pick ops pre ++ pick ops post := by simp [pick]
      have hrun : runB bi S call ops (o :: pick ops (pre ++ post)) s H = some q := by
        rw [hpick] at h
        rw [hpick2]
        exact frontB hst hm _ hcl h
      simp only [runB] at hrun
      obtain ⟨p, g1, g2⟩ := optK_inv2 hrun
      have hl' : Left ops (listed.setIfInBounds i true) (pre ++ post) := by
        refine ⟨by simp [hl.size], ?_, ?_, ?_⟩
        · intro k
          by_cases e : i = k
          · subst e
            constructor
            · intro hk
              rcases List.mem_append.1 hk with h1 | h1
              · exact absurd (hpre i h1) (by omega)
              · exact absurd (hpost i h1) (by omega)
            · rintro ⟨-, h1⟩
              simp [hl.size, hlt] at h1
          · rw [getD_set_ne false e, ← hl.mem k]
            simp [Ne.symm e]
        · rw [List.pairwise_append]
          exact ⟨hasc.1, (List.pairwise_cons.1 hasc.2.1).2, fun x hx y hy => Nat.lt_trans (hpre x hx) (hpost y hy)⟩
        · intro j o' hj hjl e he hb
          by_cases e' : i = j
          · subst e'
            rw [i2] at hj
            obtain rfl := Option.some.inj hj
            exact getD_set_true (i3 e he hb)
          · rw [getD_set_ne false e'] at hjl
            exact getD_set_true (hl.closed j o' hj hjl e he hb)
      have h1 := stepB_sound ro hS hcall g1 hr ha (wpAnyIn (WR ro) 0 P .any ops Q n (listed.setIfInBounds i true)) Q (fun a' E' h2 h3 h4 => ih _ (pre ++ post) (by simp at hn ⊢; omega) hl' g2 (hle.trans h2) h3 h4)
      unfold wpOpIn
      simp only [i2]
      split at h1
      · rename_i hw; rw [if_pos hw]; exact h1
      · rename_i hw; rw [if_neg hw]; exact ⟨fun _ _ => trivial, h1⟩

theorem bornId_shift (k : Nat) : ∀ (l : List Nat) (n d : Nat), bornId (n + k) l d = (bornId n l d).map (· + k)
  | [], n, d => rfl
  | e :: r, n, d => by
    unfold bornId
    cases Nat.beq e d with
    | true => rfl
    | false =>
      simp only
      rw [show n + k + 1 = (n + 1) + k by omega]
      exact bornId_shift k r (n + 1) d

theorem isBirth_shift (k : Nat) (l : List Nat) (o : Oper) : isBirth (bornId (0 + k) l) o = isBirth (bornId 0 l) o := by
  unfold isBirth bornAt
  split
  · rename_i t d _ _
    rw [bornId_shift k l 0 d]
    cases bornId 0 l d <;> rfl
  · rfl

theorem clashB_shift (k : Nat) (l : List Nat) (ops : Array Oper) : clashB (bornId k l) S ops = clashB (bornId 0 l) S ops := by
  funext a b
  have e := isBirth_shift k l
  rw [Nat.zero_add] at e
  unfold clashB
  rw [e a, e b]

theorem resolveC_set {H : AH} {c v : AV} {id : Nat} (hid : H.objs[id]? = some (.dead false)) (X : AObj) (h : resolveC H c = some v) : resolveC { H with objs := H.objs.set id X } c = some v := by
  unfold resolveC at h ⊢
  split at h
  · rename_i j off len cap sz ag
    split at h
    · rename_i cs hcs
      have hne : id ≠ j := by
        intro e; subst e
        rw [hid] at hcs; simp at hcs
      simp only [List.getElem?_set_ne hne, hcs]
      exact h
    · simp at h
  · exact h

theorem resolveCs_set {H : AH} {id : Nat} (hid : H.objs[id]? = some (.dead false)) (X : AObj) : ∀ (cs vs : List AV), resolveCs H cs = some vs → resolveCs { H with objs := H.objs.set id X } cs = some vs
  | [], vs, h => h
  | c :: r, vs, h => by
    simp only [resolveCs] at h ⊢
    split at h
    · rename_i x xs h1 h2
      rw [resolveC_set hid X h1, resolveCs_set hid X r xs h2]
      exact h
    · simp at h

theorem resolve_set {H : AH} {c v : AV} {id : Nat} (hid : H.objs[id]? = some (.dead false)) (X : AObj) (h : resolve H c = some v) : resolve { H with objs := H.objs.set id X } c = some v := by
  unfold resolve at h ⊢
  split at h
  · split at h
    · rename_i xs h1
      rw [resolveCs_set hid X _ _ h1]
      exact h
    · simp at h
  · exact resolveC_set hid X h

theorem resolveL_set {H : AH} {id : Nat} (hid : H.objs[id]? = some (.dead false)) (X : AObj) : ∀ (cs vs : List AV), resolveL H cs = some vs → resolveL { H with objs := H.objs.set id X } cs = some vs
  | [], vs, h => h
  | c :: r, vs, h => by
    simp only [resolveL] at h ⊢
    split at h
    · rename_i x xs h1 h2
      rw [resolve_set hid X h1, resolveL_set hid X r xs h2]
      exact h
    · simp at h

end Go.Sx

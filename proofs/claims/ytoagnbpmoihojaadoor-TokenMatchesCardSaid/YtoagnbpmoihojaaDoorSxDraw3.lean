/- THE ENGINE, 27: a region whose order is drawn. -/
import Derived.Test.YtoagnbpmoihojaaDoorSxDraw2
import Derived.Test.YtoagnbpmoihojaaDoorSxSound17
set_option linter.unusedSimpArgs false
set_option linter.unusedVariables false
namespace Go.Sx
variable {R : Type} {S : Sys} {call : Caller} {P : Program}

theorem force_eq {A : Type} (n : Nat) (k : Nat → A) : force n k = k n := by cases n <;> rfl

theorem mask_bit {acc : List Nat} {k : Nat} : ∀ {es : List Edge}, (maskOf acc es).testBit k = true → ∃ e, e ∈ es ∧ Region.binds .any e = true ∧ (e.on = k ∨ (acc.getD e.on 0).testBit k = true)
  | [], h => by simp [maskOf] at h
  | e :: r, h => by
    simp only [maskOf] at h
    split at h
    · rename_i hb
      rw [Nat.testBit_or, Nat.testBit_or, Bool.or_eq_true, Bool.or_eq_true] at h
      rcases h with (h | h) | h
      · rw [Nat.testBit_two_pow] at h
        exact ⟨e, List.mem_cons_self .., hb, .inl (by simpa using h)⟩
      · exact ⟨e, List.mem_cons_self .., hb, .inr h⟩
      · obtain ⟨e', h1, h2⟩ := mask_bit h
        exact ⟨e', List.mem_cons_of_mem _ h1, h2⟩
    · obtain ⟨e', h1, h2⟩ := mask_bit h
      exact ⟨e', List.mem_cons_of_mem _ h1, h2⟩

/-- What the check says of one operation. -/
def Good (cl : Oper → Oper → Bool) (all : List Oper) (M : List Nat) (i : Nat) (o : Oper) : Prop :=
  (∀ e, e ∈ o.after.toList → Region.binds .any e = true → e.on < i) ∧
  (∀ k, k < i → (M.getD i 0).testBit k = true ∨ ∃ a, all[k]? = some a ∧ cl a o = false) ∧
  (∀ k, (M.getD i 0).testBit k = true → ∃ e, e ∈ o.after.toList ∧ Region.binds .any e = true ∧ (e.on = k ∨ (M.getD e.on 0).testBit k = true))

theorem drawGo_spec {cl : Oper → Oper → Bool} : ∀ (r : List Oper) (n : Nat) (seen : List Oper) (acc : List Nat), drawGo cl r n seen acc = true → seen.length = n → acc.length = n →
    ∃ M : List Nat, (∀ i, i < n → M.getD i 0 = acc.getD i 0) ∧ ∀ i o, r[i]? = some o → Good cl (seen ++ r) M (n + i) o
  | [], n, seen, acc, _, _, _ => ⟨acc, fun _ _ => rfl, fun i o h => by simp at h⟩
  | o :: r, n, seen, acc, h, hs, ha => by
    simp only [drawGo, force_eq, Bool.and_eq_true] at h
    obtain ⟨⟨⟨h1, -⟩, h2⟩, h3⟩ := h
    obtain ⟨M, m1, m2⟩ := drawGo_spec r (n + 1) (seen ++ [o]) (acc ++ [maskOf acc o.after.toList]) h3 (by simp [hs]) (by simp [ha])
    have hn : M.getD n 0 = maskOf acc o.after.toList := by
      rw [m1 n (Nat.lt_succ_self n)]
      simp [List.getD, List.getElem?_append_right, ha]
    have hk : ∀ i, i < n → M.getD i 0 = acc.getD i 0 := by
      intro i hi
      rw [m1 i (Nat.lt_succ_of_lt hi)]
      simp [List.getD, List.getElem?_append_left, ha, hi]
    have hb : ∀ e, e ∈ o.after.toList → Region.binds .any e = true → e.on < n := by
      intro e he hb
      have := List.all_eq_true.1 h1 e he
      simpa [hb] using this
    refine ⟨M, hk, ?_⟩
    intro i o' hi
    cases i with
    | zero =>
      simp only [List.getElem?_cons_zero, Option.some.injEq] at hi
      subst hi
      refine ⟨hb, ?_, ?_⟩
      · intro k hk'
        simp only [Nat.add_zero] at hk' ⊢
        have := List.all_eq_true.1 h2 k (List.mem_range.2 hk')
        rw [Bool.or_eq_true] at this
        rcases this with h | h
        · left; rw [hn]; exact h
        · right
          split at h
          · rename_i a hka
            exact ⟨a, by rw [List.getElem?_append_left (by omega)]; exact hka, by simpa using h⟩
          · simp at h
      · intro k hk'
        simp only [Nat.add_zero] at hk' ⊢
        rw [hn] at hk'
        obtain ⟨e, e1, e2, e3⟩ := mask_bit hk'
        refine ⟨e, e1, e2, ?_⟩
        rw [hk e.on (hb e e1 e2)]
        exact e3
    | succ i =>
      have := m2 i o' (by simpa using hi)
      rw [List.append_assoc] at this
      have e : n + (i + 1) = n + 1 + i := by omega
      rw [e]
      exact this

theorem draw_good {cl : Oper → Oper → Bool} {ops : Array Oper} (h : drawGo cl ops.toList 0 [] [] = true) : ∃ M, ∀ i o, ops[i]? = some o → Good cl ops.toList M i o := by
  obtain ⟨M, -, h2⟩ := drawGo_spec ops.toList 0 [] [] h rfl rfl
  refine ⟨M, fun i o ho => ?_⟩
  have := h2 i o (by simpa using ho)
  simpa using this

/-- Those listed have their forerunners listed. -/
def Closed (ops : Array Oper) (listed : Array Bool) : Prop := ∀ j o, ops[j]? = some o → listed.getD j false = true → ∀ e, e ∈ o.after → Region.binds .any e = true → listed.getD e.on false = true

theorem reach {cl : Oper → Oper → Bool} {ops : Array Oper} {M : List Nat} (hM : ∀ i o, ops[i]? = some o → Good cl ops.toList M i o) {listed : Array Bool} (hc : Closed ops listed) (hsz : listed.size = ops.size) : ∀ (i : Nat) (o : Oper), ops[i]? = some o →
    (∀ e, e ∈ o.after → Region.binds .any e = true → listed.getD e.on false = true) → ∀ k, (M.getD i 0).testBit k = true → listed.getD k false = true := by
  intro i
  induction i using Nat.strongRecOn with
  | _ i ih =>
    intro o ho hall k hk
    obtain ⟨g1, g2, g3⟩ := hM i o ho
    obtain ⟨e, e1, e2, e3⟩ := g3 k hk
    have e1' : e ∈ o.after := by simpa using e1
    rcases e3 with rfl | e3
    · exact hall e e1' e2
    · have hl := hall e e1' e2
      have hlt := g1 e e1 e2
      have hlt2 : e.on < ops.size := Nat.lt_trans hlt (Array.getElem?_eq_some_iff.1 ho).1
      exact ih e.on hlt ops[e.on] (by simp [hlt2]) (hc e.on _ (by simp [hlt2]) hl) k e3

theorem getD_lists {listed : Array Bool} {k : Nat} (h : k < listed.size) : listed.getD k true = listed.getD k false := by
  simp [Array.getD, h]

structure Left (ops : Array Oper) (listed : Array Bool) (rest : List Nat) : Prop where
  size : listed.size = ops.size
  mem : ∀ k, k ∈ rest ↔ k < ops.size ∧ listed.getD k false = false
  asc : rest.Pairwise (· < ·)
  closed : Closed ops listed

def pick (ops : Array Oper) (rest : List Nat) : List Oper := rest.filterMap fun i => ops[i]?

theorem any_sound (ro : Option Nat) (hS : SysOK S P) (hcall : CallOK S P call) (hst : CallStill S call) {ops : Array Oper} (hd : drawOK S ops = true) {K : List AV → AH → Option R} {r : R} (Q : Exit → Act → World → Prop) {E0 : GE} (hQ : ∀ s' H' a' E', K s' H' = some r → E0.le E' → Rel S H' E' → ARel E' s' a' → Q .normal a' E'.w) :
    ∀ (n : Nat) (listed : Array Bool) (rest : List Nat), rest.length = n → Left ops listed rest → ∀ {s : List AV} {H : AH} {E : GE} {a : Act}, opsK S call ops (pick ops rest) s H K = some r → E0.le E → Rel S H E → ARel E s a → wpAnyIn (WR ro) 0 P .any ops Q n listed a E.w := by
  obtain ⟨M, hM⟩ := draw_good hd
  intro n
  induction n with
  | zero =>
    intro listed rest hn hl s H E a h hle hr ha
    obtain rfl := List.length_eq_zero_iff.1 hn
    refine ⟨?_, hQ s H a E h hle hr ha⟩
    apply List.eq_nil_iff_forall_not_mem.2
    intro j hj
    obtain ⟨j1, o, j2, -⟩ := mem_ready.1 hj
    have hlt := (Array.getElem?_eq_some_iff.1 j2).1
    have := (hl.mem j).2 ⟨hlt, by rw [← getD_lists (hl.size ▸ hlt)]; exact j1⟩
    simp at this
  | succ n ih =>
    intro listed rest hn hl s H E a h hle hr ha
    refine ⟨?_, ?_⟩
    · intro hnil
      exfalso
      cases rest with
      | nil => simp at hn
      | cons k rest =>
        have hk := (hl.mem k).1 (List.mem_cons_self ..)
        have : k ∈ Region.ready .any ops listed := by
          refine mem_ready.2 ⟨by rw [getD_lists (hl.size ▸ hk.1)]; exact hk.2, ops[k], by simp [hk.1], ?_⟩
          intro e he hb
          have hlt := (hM k ops[k] (by simp [hk.1])).1 e (by simpa using he) hb
          cases hx : listed.getD e.on false with
          | true => rfl
          | false =>
            have := (hl.mem e.on).2 ⟨Nat.lt_trans hlt hk.1, hx⟩
            rcases List.mem_cons.1 this with h1 | h1
            · omega
            · have := List.rel_of_pairwise_cons hl.asc h1; omega
        rw [hnil] at this
        simp at this
    · intro i hi
      obtain ⟨i1, o, i2, i3⟩ := mem_ready.1 hi
      have hlt := (Array.getElem?_eq_some_iff.1 i2).1
      have hmem := (hl.mem i).2 ⟨hlt, by rw [← getD_lists (hl.size ▸ hlt)]; exact i1⟩
      obtain ⟨pre, post, rfl⟩ := List.append_of_mem hmem
      have hasc := List.pairwise_append.1 hl.asc
      have hpre : ∀ k, k ∈ pre → k < i := fun k hk => hasc.2.2 k hk i (List.mem_cons_self ..)
      have hpost : ∀ k, k ∈ post → i < k := fun k hk => List.rel_of_pairwise_cons hasc.2.1 hk
      have hcl : ∀ a, a ∈ pick ops pre → clash S ops a o = false := by
        intro a' ha'
        obtain ⟨k, hk, hka⟩ := List.mem_filterMap.1 ha'
        rcases (hM i o i2).2.1 k (hpre k hk) with h1 | ⟨a2, h1, h2⟩
        · have := reach hM hl.closed hl.size i o i2 i3 k h1
          have h3 := ((hl.mem k).1 (List.mem_append_left _ hk)).2
          rw [this] at h3; simp at h3
        · have : a2 = a' := by
            have : ops[k]? = some a2 := by simpa using h1
            rw [hka] at this; exact (Option.some.inj this).symm
          subst this
          exact h2
      have hpick : pick ops (pre ++ i :: post) = pick ops pre ++ o :: pick ops post := by
        simp [pick, i2]
      have hpick2 : pick ops (pre ++ post) = pick ops pre ++ pick ops post := by simp [pick]
      have hrun : opsK S call ops (o :: pick ops (pre ++ post)) s H K = some r := by
        rw [hpick, opsK_run] at h
        obtain ⟨p, h1, h2⟩ := optK_inv2 h
        rw [opsK_run, hpick2, front hst _ hcl h1]
        exact h2
      have hl' : Left ops (listed.setIfInBounds i true) (pre ++ post) := by
        refine ⟨by simp [hl.size], ?_, ?_, ?_⟩
        · intro k
          by_cases e : i = k
          · subst e
            constructor
            · intro hk
              rcases List.mem_append.1 hk with h1 | h1
              · exact absurd (hpre i h1) (by omega)
              · exact absurd (hpost i h1) (by omega)
            · rintro ⟨-, h1⟩
              simp [hl.size, hlt] at h1
          · rw [getD_set_ne false e, ← hl.mem k]
            simp [Ne.symm e]
        · rw [List.pairwise_append]
          exact ⟨hasc.1, (List.pairwise_cons.1 hasc.2.1).2, fun x hx y hy => Nat.lt_trans (hpre x hx) (hpost y hy)⟩
        · intro j o' hj hjl e he hb
          by_cases e' : i = j
          · subst e'
            rw [i2] at hj
            obtain rfl := Option.some.inj hj
            exact getD_set_true (i3 e he hb)
          · rw [getD_set_ne false e'] at hjl
            exact getD_set_true (hl.closed j o' hj hjl e he hb)
      have h1 := step_sound ro hS hcall hrun hr ha (wpAnyIn (WR ro) 0 P .any ops Q n (listed.setIfInBounds i true)) Q (fun s' H' a' E' h1 h2 h3 h4 => ih _ (pre ++ post) (by simp at hn ⊢; omega) hl' h1 (hle.trans h2) h3 h4)
      unfold wpOpIn
      simp only [i2]
      split at h1
      · rename_i hw; rw [if_pos hw]; exact h1
      · rename_i hw; rw [if_neg hw]; exact ⟨fun _ _ => trivial, h1⟩

end Go.Sx

/- THE ENGINE, 25: two operations that do not clash may change places. -/
import Derived.Test.YtoagnbpmoihojaaDoorSxNat
set_option linter.unusedSimpArgs false
set_option linter.unusedVariables false
namespace Go.Sx
variable {R : Type} {S : Sys} {call : Caller}

theorem ev_congr {G : Nat → AV} {s1 s2 : List AV} {x : Operand} (h : ∀ t, x = .tmp t → s1[t]? = s2[t]?) : ev G s1 x = ev G s2 x := by
  cases x with
  | tmp t => simp only [ev, List.getD, h t rfl]
  | _ => rfl

theorem map_ev {G : Nat → AV} {s1 s2 : List AV} {l : List Operand} (h : ∀ x, x ∈ l → ev G s1 x = ev G s2 x) : l.map (ev G s1) = l.map (ev G s2) := List.map_congr_left h

/-- What an operation reads. -/
theorem opK_congr {s1 s2 : List AV} {H : AH} {o : Oper} {K : AV → AH → Option R} (h : ∀ x, x ∈ o.op.operands.toList → ev S.G s1 x = ev S.G s2 x) : opK S call s1 H o K = opK S call s2 H o K := by
  obtain ⟨dst, op, type, pos, after, guard⟩ := o
  simp only at h
  unfold opK
  cases op <;> simp only [Op.operands, Array.toList_append, List.mem_append, List.mem_cons, List.not_mem_nil, or_false, forall_eq_or_imp, forall_eq, List.mem_map] at h ⊢
  all_goals try rfl
  all_goals try (simp only [h]; done)
  case build t ps =>
    have e : (ps.toList.map fun p => (p.1, ev S.G s1 p.2)) = ps.toList.map fun p => (p.1, ev S.G s2 p.2) := List.map_congr_left fun p hp => by rw [h p.2 ⟨p, hp, rfl⟩]
    rw [e]
  case buildSlice t n ps =>
    have e : (ps.toList.map fun p => (p.1, ev S.G s1 p.2)) = ps.toList.map fun p => (p.1, ev S.G s2 p.2) := List.map_congr_left fun p hp => by rw [h p.2 ⟨p, hp, rfl⟩]
    rw [e]
  case makeFunc fn as bs => rw [map_ev fun x hx => h x (.inl hx), map_ev fun x hx => h x (.inr hx)]
  case makeMap t r => cases r <;> rfl
  case slice t x lo hi mx =>
    have e : ∀ o : Option Operand, (∀ x, o = some x → ev S.G s1 x = ev S.G s2 x) → o.map (ev S.G s1) = o.map (ev S.G s2) := by
      intro o ho
      cases o with
      | none => rfl
      | some x => simp [ho x rfl]
    rw [h x (.inl (.inl (.inl rfl))), e lo (fun x hx => h x (by subst hx; simp)), e hi (fun x hx => h x (by subst hx; simp)), e mx (fun x hx => h x (by subst hx; simp))]
  case call c =>
    have hargs : ∀ x, x ∈ c.args.toList → ev S.G s1 x = ev S.G s2 x := fun x hx => h x (by unfold Call.operands; simp only [Array.toList_append, List.mem_append]; exact .inr hx)
    rw [map_ev hargs]
    split
    · rename_i f hf
      rw [h f (by unfold Call.operands; rw [hf]; simp)]
    · rfl
    · rfl

theorem convK_still {H H2 : AH} {a b : TypeId} {v : AV} : convK S H a b v pairK = optK (convK S H2 a b v pairK) fun p => some (p.1, H) := by
  unfold convK
  repeat' (first | rfl | (rw [textK_nat, textK_nat (K := fun v => pairK v H2), optK_optK]; rfl) | split)

/-- An operation that does not ask of the objects. -/
theorem opK_still {s : List AV} {H H2 : AH} {o : Oper} (h : touches o = false) : opK S call s H o pairK = optK (opK S call s H2 o pairK) fun p => some (p.1, H) := by
  obtain ⟨dst, op, type, pos, after, guard⟩ := o
  unfold opK
  cases op <;> simp only [touches] at h ⊢ <;> try (simp at h; done)
  case call c =>
    split
    · simp_all
    · rename_i b hb
      rw [hb] at h
      unfold builtinK
      cases b <;> try (simp at h; done)
      all_goals
        split <;> first
          | contradiction
          | rfl
          | (rw [minmaxK_nat, minmaxK_nat (K := fun v => pairK v H2), optK_optK]; rfl)
    · rfl
  all_goals repeat' (first
    | rfl
    | exact convK_still
    | (rw [br_nat]; rfl)
    | (rw [buildK_nat, buildK_nat (K := fun v => pairK v H2), optK_optK]; rfl)
    | (rw [binK_nat, binK_nat (K := fun v => pairK v H2), optK_optK]; rfl)
    | (rw [unK_nat, unK_nat (K := fun v => pairK v H2), optK_optK]; rfl)
    | (rw [sliceK_nat, sliceK_nat (K := fun v => pairK v H2), optK_optK]; rfl)
    | (rw [fieldAddrK_nat, fieldAddrK_nat (K := fun v => pairK v H2), optK_optK]; rfl)
    | (rw [fieldK_nat, fieldK_nat (K := fun v => pairK v H2), optK_optK]; rfl)
    | (rw [indexAddrK_nat, indexAddrK_nat (K := fun v => pairK v H2), optK_optK]; rfl)
    | (rw [indexK_nat, indexK_nat (K := fun v => pairK v H2), optK_optK]; rfl)
    | split)

/-- Calls with trees leave the objects alone. -/
def CallStill (S : Sys) (call : Caller) : Prop := ∀ f args H v H', S.isPure f = true → call f args H = some (v, H') → H' = H

theorem opt_pair {o : Option AV} {H : AH} {v : AV} {H' : AH} (h : optK o (fun v => pairK v H) = some (v, H')) : H' = H := by
  cases o with
  | none => simp [optK] at h
  | some a => simp [optK] at h; exact h.2.symm

theorem opK_quiet (hc : CallStill S call) {s : List AV} {H : AH} {o : Oper} (h : changes S o = false) {v : AV} {H' : AH} (hr : opK S call s H o pairK = some (v, H')) : H' = H := by
  by_cases ht : touches o = false
  · have := opK_still (S := S) (call := call) (s := s) (H := H) (H2 := H) ht
    rw [hr] at this
    simp [optK] at this
    exact this
  · obtain ⟨dst, op, type, pos, after, guard⟩ := o
    unfold opK at hr
    cases op <;> simp only [touches, changes] at h ht hr <;> try (simp at h; done)
    all_goals try (exact absurd trivial ht)
    case buildSlice t n ps =>
      split at hr
      · rename_i i hi
        rw [hi] at h
        simp only at h
        unfold buildSliceK at hr
        split at hr
        · rename_i e hik
          rw [hik] at h
          simp only at h
          split at hr
          · simp at hr
          · split at hr
            · split at hr
              · split at hr
                · rw [if_neg (by rw [h]; simp)] at hr
                  simp at hr; exact hr.2.symm
                · simp at hr
              · simp at hr
            · simp at hr
        · simp at hr
      · simp at hr
    case load t a =>
      split at hr
      · rw [loadK_nat] at hr; exact opt_pair hr
      · simp at hr
    case lookup t x ix ok =>
      split at hr
      · rw [lookupK_nat] at hr; exact opt_pair hr
      · simp at hr
    case call c =>
      split at hr
      · rename_i f hf
        rw [hf] at h
        unfold callFn at hr
        split at hr
        · rename_i fid first caps hfv
          cases f with
          | func g =>
            simp only [Bool.not_eq_false'] at h
            simp only [ev, AV.func.injEq, Fn.func.injEq] at hfv
            obtain ⟨rfl, rfl, rfl⟩ := hfv
            obtain ⟨p, hp, hr⟩ : ∃ p, call g (([] ++ List.map (ev S.G s) c.args.toList) ++ []) H = some p ∧ pairK p.1 p.2 = some (v, H') := by
              generalize call g (([] ++ List.map (ev S.G s) c.args.toList) ++ []) H = q at hr
              cases q with
              | none => simp [optK] at hr
              | some p => exact ⟨p, rfl, hr⟩
            simp at hr
            obtain ⟨rfl, rfl⟩ := hr
            exact hc g _ H p.1 p.2 h hp
          | _ => simp at h
        · rename_i id hfv
          cases f with
          | func g => simp [ev] at hfv
          | _ => simp at h
        · simp at hr
      · rename_i b hb
        rw [hb] at h
        cases b <;> try (simp at h; done)
        all_goals
          unfold builtinK at hr
          split at hr
          all_goals first
            | (simp at hr; done)
            | (rw [lenK_nat] at hr; exact opt_pair hr)
            | (rw [minmaxK_nat] at hr; exact opt_pair hr)
            | contradiction
            | skip
      · simp at hr

end Go.Sx

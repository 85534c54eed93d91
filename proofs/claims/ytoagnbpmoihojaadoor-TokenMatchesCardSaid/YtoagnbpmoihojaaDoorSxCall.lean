/- THE ENGINE, 28: a program's calls. -/
import Derived.Test.YtoagnbpmoihojaaDoorSxDraw4
import Derived.Test.YtoagnbpmoihojaaDoorSxSound19
set_option linter.unusedSimpArgs false
set_option linter.unusedVariables false
namespace Go.Sx
variable {S : Sys} {P : Program}

theorem draw_sound (hS : SysOK S P) (hm : P.follows .mixedOrders = true) {call : Caller} (hcall : CallOK S P call) (hst : CallStill S call) (hml : CallMild S call) : DrawSound S P call := by
  intro ro id ops R s H K r E a h hr ha
  refine wpIn_region_any hm ?_
  have hle : E.le (E.at { E.w with drawn := E.w.drawn + 1 }) := le_heap rfl rfl rfl rfl
  have hr' : Rel S H (E.at { E.w with drawn := E.w.drawn + 1 }) := hr.mono hle (hr.h.heap rfl rfl rfl rfl)
  have hl : Left ops (Array.replicate ops.size false) (List.range ops.size) := by
    refine ⟨by simp, ?_, List.pairwise_lt_range, ?_⟩
    · intro k
      rw [List.mem_range]
      constructor
      · intro hk; exact ⟨hk, by simp [Array.getD, hk]⟩
      · exact fun h => h.1
    · intro j o hj hjl
      have hlt := (Array.getElem?_eq_some_iff.1 hj).1
      simp [Array.getD, hlt] at hjl
  have hp : pick ops (List.range ops.size) = ops.toList := by
    obtain ⟨l⟩ := ops
    simp only [pick, List.size_toArray, List.getElem?_toArray]
    clear hl h
    induction l with
    | nil => rfl
    | cons o r ih =>
      rw [List.length_cons, List.range_succ_eq_map]
      simp only [List.filterMap_cons, List.getElem?_cons_zero, List.filterMap_map]
      rw [show ((fun i => (o :: r)[i]?) ∘ Nat.succ) = fun i => r[i]? from rfl, ih]
  rcases h with ⟨hd, h⟩ | ⟨hd, h⟩
  · have := any_sound ro hS hcall hst hd (K := K) (r := r) (Lands S (fun e s H => match e with | .normal => K s H | _ => none) r E) (E0 := E) (fun s' H' a' E' h1 h2 h3 h4 => ⟨.normal, s', H', E', h1, rfl, rfl, h2, h3, h4⟩) ops.size (Array.replicate ops.size false) (List.range ops.size) (by simp) hl (s := s) (H := H) (E := E.at { E.w with drawn := E.w.drawn + 1 }) (a := a) (by rw [hp]; exact h) hle hr' (ha.mono hle)
    exact this
  · obtain ⟨q, h1, h2⟩ := optK_inv2 h
    obtain ⟨r1, r2⟩ := reserve_sound hr'.h (birthsOf ops.toList).length
    have hr2 : Rel S (reserve H (birthsOf ops.toList).length) ((E.at { E.w with drawn := E.w.drawn + 1 }).reserved (birthsOf ops.toList).length) := hr'.mono r1 r2
    have hd' : drawGo (clashB (bornId H.objs.length (birthsOf ops.toList)) S ops) ops.toList 0 [] [] = true := by rw [clashB_shift]; exact hd
    exact any_soundB ro hS hcall hst hml hd' (q := q) (Lands S (fun e s H => match e with | .normal => K s H | _ => none) r E) (E0 := E) (fun a' E' h3 h4 h5 => ⟨.normal, q.1, q.2, E', h2, rfl, rfl, h3, h4, h5⟩) ops.size (Array.replicate ops.size false) (List.range ops.size) (by simp) hl (by rw [hp]; exact h1) (hle.trans r1) hr2 ((ha.mono hle).mono r1)

theorem enter_still {call : Caller} {lp : Looper} {y : Nat → List AV → AH → Option (AV × AH)} : CallStill S ⟨enterF S call lp, y⟩ := by
  intro f args H v H' hp h
  replace h : enterF S call lp f args H = some (v, H') := h
  unfold enterF at h
  split at h
  · obtain ⟨ts, -, h⟩ := optK_inv h
    obtain ⟨u, -, h⟩ := optK_inv h
    obtain ⟨v', -, h⟩ := optK_inv h
    simp only [Option.some.injEq, Prod.mk.injEq] at h
    exact h.2.symm
  · split at h
    · simp at h
    · rw [if_pos hp] at h
      obtain ⟨ts, -, h⟩ := optK_inv h
      obtain ⟨p, -, h⟩ := optK_inv h
      obtain ⟨v', -, h⟩ := optK_inv h
      simp only [Option.some.injEq, Prod.mk.injEq] at h
      exact h.2.symm

theorem enter_mild {call : Caller} {lp : Looper} {y : Nat → List AV → AH → Option (AV × AH)} : CallMild S ⟨enterF S call lp, y⟩ := by
  intro f args H v H' id X hp hid h
  replace h : enterF S call lp f args H = some (v, H') := h
  show enterF S call lp f args _ = _
  unfold enterF at h ⊢
  split at h
  · obtain ⟨ts, h1, h⟩ := optK_inv h
    obtain ⟨u, h2, h⟩ := optK_inv h
    obtain ⟨v', h3, h⟩ := optK_inv h
    simp only [Option.some.injEq, Prod.mk.injEq] at h
    rw [resolveL_set hid X _ _ h1, optK_some, h2, optK_some, h3, optK_some, h.1]
  · split at h
    · simp at h
    · rw [if_pos hp] at h
      obtain ⟨ts, h1, h⟩ := optK_inv h
      obtain ⟨p, h2, h⟩ := optK_inv h
      obtain ⟨v', h3, h⟩ := optK_inv h
      simp only [Option.some.injEq, Prod.mk.injEq] at h
      rw [if_pos hp, resolveL_set hid X _ _ h1, optK_some, h2, optK_some, h3, optK_some, h.1]

theorem callF_mild : ∀ n, CallMild S (callF S n)
  | 0 => by intro f args H v H' id X hp hid h; simp [callF] at h
  | n + 1 => enter_mild

theorem callF_still : ∀ n, CallStill S (callF S n)
  | 0 => by intro f args H v H' hp h; simp [callF] at h
  | n + 1 => enter_still

/-- THE ENGINE's THEOREM. -/
theorem call_sound (hS : SysOK S P) (hext : ExtOK S P) (hm : P.follows .mixedOrders = true) : ∀ n, CallOK S P (callF S n)
  | 0 => ⟨by intro f args H v H' h; simp [callF] at h, by intro id args H v H' h; simp [callF] at h⟩
  | n + 1 =>
    have ih := call_sound hS hext hm n
    have hd := draw_sound hS hm ih (callF_still n) (callF_mild n)
    ⟨enter_sound hS hext ih hd n, fun id args H v H' h E xs hr hx b hid hb => yield_sound hS ih hd n h hr hx hid hb⟩

#print axioms call_sound
end Go.Sx

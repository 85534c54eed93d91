/- THE ENGINE, 36: without fuel. -/
import Derived.Test.YtedhpikmkoemhaaGreatEh
import Derived.Test.YtedhpikmkoemhaaGreatEe
import Derived.Test.YtedhpikmkoemhaaGreatEf
set_option linter.unusedSimpArgs false
set_option linter.unusedVariables false
namespace Go.Sx
variable {R : Type} {S : Sys}

/-- From some number on. -/
def Evt (p : Nat → Prop) : Prop := ∃ n0, ∀ n, n0 ≤ n → p n
theorem Evt.of {p : Nat → Prop} (h : ∀ n, p n) : Evt p := ⟨0, fun n _ => h n⟩
theorem Evt.mono {p q : Nat → Prop} (hp : Evt p) (h : ∀ n, p n → q n) : Evt q := ⟨hp.choose, fun n hn => h n (hp.choose_spec n hn)⟩
theorem Evt.and {p q : Nat → Prop} (hp : Evt p) (hq : Evt q) : Evt fun n => p n ∧ q n := by
  obtain ⟨a, ha⟩ := hp
  obtain ⟨b, hb⟩ := hq
  exact ⟨max a b, fun n hn => ⟨ha n (by omega), hb n (by omega)⟩⟩
theorem Evt.two {p q r : Nat → Prop} (hp : Evt p) (hq : Evt q) (h : ∀ n, p n → q n → r n) : Evt r := (hp.and hq).mono fun n h' => h n h'.1 h'.2

open Classical in
/-- The answer that a row of answers comes to. -/
noncomputable def limE {A : Type} (g : Nat → Option A) : Option A := if h : ∃ a, Evt fun n => g n = some a then some h.choose else none

theorem limE_some {A : Type} {g : Nat → Option A} {a : A} (h : limE g = some a) : Evt fun n => g n = some a := by
  unfold limE at h
  split at h
  · rename_i hx
    obtain rfl := Option.some.inj h
    exact hx.choose_spec
  · simp at h

theorem limE_of {A : Type} {g : Nat → Option A} {a : A} (h : Evt fun n => g n = some a) : limE g = some a := by
  have hx : ∃ a, Evt fun n => g n = some a := ⟨a, h⟩
  unfold limE
  rw [dif_pos hx]
  obtain ⟨n1, h1⟩ := hx.choose_spec
  obtain ⟨n2, h2⟩ := h
  have e1 : g (max n1 n2) = _ := h1 (max n1 n2) (by omega)
  have e2 : g (max n1 n2) = _ := h2 (max n1 n2) (by omega)
  rw [e1] at e2
  exact e2

noncomputable def loopL (room : Nat) : Looper := fun b s H => limE fun n => iter room b n s H
noncomputable def callL (S : Sys) : Caller := ⟨fun f args H => limE fun n => (callF S n).res f args H, fun id args H => limE fun n => (callF S n).yield id args H⟩

structure Tends (cn : Nat → Caller) (c : Caller) : Prop where
  res : ∀ f args H r, c.res f args H = some r → Evt fun n => (cn n).res f args H = some r
  yield : ∀ id args H r, c.yield id args H = some r → Evt fun n => (cn n).yield id args H = some r

theorem Tends.fn {cn : Nat → Caller} {c : Caller} (h : Tends cn c) : ∀ f args H r, c f args H = some r → Evt fun n => cn n f args H = some r :=
  fun f args H r hr => (h.res _ _ _ _ (Caller.fn_val hr)).mono fun n hn => Caller.fn_of hn
theorem Tends.pan {cn : Nat → Caller} {c : Caller} (h : Tends cn c) : ∀ f args H r, c.pan f args H = some r → Evt fun n => (cn n).pan f args H = some r :=
  fun f args H r hr => (h.res _ _ _ _ (Caller.pan_val hr)).mono fun n hn => Caller.pan_of hn

theorem callL_tends : Tends (callF S) (callL S) := ⟨fun f args H r h => limE_some h, fun id args H r h => limE_some h⟩

theorem callFn_tends {cn : Nat → Caller} {c : Caller} (h : Tends cn c) {f : AV} {args : List AV} {H : AH} {r : AV × AH} (hr : callFn c f args H pairK = some r) : Evt fun n => callFn (cn n) f args H pairK = some r := by
  unfold callFn at hr ⊢
  split at hr
  · obtain ⟨p, h1, h2⟩ := optK_inv2 hr
    exact (h.fn _ _ _ _ h1).mono fun n hn => by simp only [hn, optK_some]; exact h2
  · obtain ⟨p, h1, h2⟩ := optK_inv2 hr
    exact (h.yield _ _ _ _ h1).mono fun n hn => by simp only [hn, optK_some]; exact h2
  · simp at hr

theorem opK_tends {cn : Nat → Caller} {c : Caller} (h : Tends cn c) {s : List AV} {H : AH} {o : Oper} {r : AV × AH} (hr : opK S c s H o pairK = some r) : Evt fun n => opK S (cn n) s H o pairK = some r := by
  obtain ⟨dst, op, type, pos, after, guard⟩ := o
  unfold opK at hr ⊢
  cases op <;> try exact Evt.of fun _ => hr
  case makeMap t0 r0 => cases r0 <;> exact Evt.of fun _ => hr
  case call c0 =>
    simp only at hr ⊢
    split at hr
    · exact callFn_tends h hr
    · exact Evt.of fun _ => hr
    · unfold methK at hr ⊢
      split at hr
      · split at hr
        · rename_i hm
          obtain ⟨p, h1, h2⟩ := optK_inv2 hr
          exact (h.fn _ _ _ _ h1).mono fun n hn => by simp only [hm, hn, optK_some]; exact h2
        · simp at hr
      · simp at hr

theorem panOf_tends {cn : Nat → Caller} {c : Caller} (h : Tends cn c) {s : List AV} {H : AH} {o : Oper} {p : AV × AH} (hp : panOf S c s H o = some p) : Evt fun n => panOf S (cn n) s H o = some p := by
  obtain ⟨dst, op, type, pos, after, guard⟩ := o
  unfold panOf at hp ⊢
  cases op <;> try exact Evt.of fun _ => hp
  case call c0 =>
    simp only at hp ⊢
    split at hp
    · split at hp
      · exact h.pan _ _ _ _ hp
      · simp at hp
    · split at hp
      · split at hp
        · rename_i hm
          exact (h.pan _ _ _ _ hp).mono fun n hn => by simp only [hm, hn]
        · simp at hp
      · simp at hp
    · simp at hp

theorem stepX_tends {cn : Nat → Caller} {c : Caller} (h : Tends cn c) {all : Array Oper} {o : Oper} {s : List AV} {H : AH} {p : Out} (hr : stepX S c all o s H = some p) : Evt fun n => stepX S (cn n) all o s H = some p := by
  unfold stepX at hr ⊢
  split at hr
  · split at hr
    · rename_i q hq
      exact (panOf_tends h hq).mono fun n hn => by simp only [hn]; exact hr
    · rw [opK_nat] at hr
      obtain ⟨q, h1, h2⟩ := optK_inv2 hr
      exact (opK_tends h h1).mono fun n hn => by
        rw [panOf_none hn]
        simp only
        rw [opK_nat, hn]
        exact h2
  · exact Evt.of fun _ => hr
  · simp at hr

theorem runX_tends {cn : Nat → Caller} {c : Caller} (h : Tends cn c) {all : Array Oper} : ∀ (l : List Oper) {s : List AV} {H : AH} {p : Out}, runX S c all l s H = some p → Evt fun n => runX S (cn n) all l s H = some p
  | [], s, H, p, hr => Evt.of fun _ => hr
  | o :: l, s, H, p, hr => by
    simp only [runX] at hr ⊢
    rcases thenX_inv hr with ⟨s1, H1, h1, h2⟩ | ⟨h1, h2⟩
    · exact (stepX_tends h h1).two (runX_tends h l h2) fun n e1 e2 => by rw [e1, thenX_go]; exact e2
    · exact (stepX_tends h h1).mono fun n e1 => by rw [e1, thenX_stop h2]

theorem stepD_tends {cn : Nat → Caller} {c : Caller} (h : Tends cn c) {all : Array Oper} {o : Oper} {s : List AV} {H : AH} {p : List AV × AH} (hr : stepD S c all o s H = some p) : Evt fun n => stepD S (cn n) all o s H = some p := by
  unfold stepD at hr ⊢
  split at hr
  · obtain ⟨q, h1, h2⟩ := optK_inv2 hr
    exact (opK_tends h h1).mono fun n hn => by rw [hn]; exact h2
  · exact Evt.of fun _ => hr
  · simp at hr

theorem runD_tends {cn : Nat → Caller} {c : Caller} (h : Tends cn c) {all : Array Oper} : ∀ (l : List Oper) {s : List AV} {H : AH} {p : List AV × AH}, runD S c all l s H = some p → Evt fun n => runD S (cn n) all l s H = some p
  | [], s, H, p, hr => Evt.of fun _ => hr
  | o :: l, s, H, p, hr => by
    simp only [runD] at hr ⊢
    obtain ⟨q, h1, h2⟩ := optK_inv2 hr
    exact (stepD_tends h h1).two (runD_tends h l h2) fun n e1 e2 => by rw [e1]; exact e2

theorem opB_tends {cn : Nat → Caller} {c : Caller} (h : Tends cn c) {bi : Nat → Option Nat} {s : List AV} {H : AH} {o : Oper} {r : AV × AH} (hr : opB bi S c s H o = some r) : Evt fun n => opB bi S (cn n) s H o = some r := by
  unfold opB at hr ⊢
  split at hr
  · exact Evt.of fun _ => hr
  · exact opK_tends h hr

theorem stepB_tends {cn : Nat → Caller} {c : Caller} (h : Tends cn c) {bi : Nat → Option Nat} {all : Array Oper} {o : Oper} {s : List AV} {H : AH} {p : List AV × AH} (hr : stepB bi S c all o s H = some p) : Evt fun n => stepB bi S (cn n) all o s H = some p := by
  unfold stepB at hr ⊢
  split at hr
  · obtain ⟨q, h1, h2⟩ := optK_inv2 hr
    exact (opB_tends h h1).mono fun n hn => by rw [hn]; exact h2
  · exact Evt.of fun _ => hr
  · simp at hr

theorem runB_tends {cn : Nat → Caller} {c : Caller} (h : Tends cn c) {bi : Nat → Option Nat} {all : Array Oper} : ∀ (l : List Oper) {s : List AV} {H : AH} {p : List AV × AH}, runB bi S c all l s H = some p → Evt fun n => runB bi S (cn n) all l s H = some p
  | [], s, H, p, hr => Evt.of fun _ => hr
  | o :: l, s, H, p, hr => by
    simp only [runB] at hr ⊢
    obtain ⟨q, h1, h2⟩ := optK_inv2 hr
    exact (stepB_tends h h1).two (runB_tends h l h2) fun n e1 e2 => by rw [e1]; exact e2

theorem stepM_tends {cn : Nat → Caller} {c : Caller} (h : Tends cn c) {all : Array Oper} {o : Oper} {s : List AV} {H : AH} {m : Met} {p : (List AV × AH) × Met} (hr : stepM S c all o s H m = some p) : Evt fun n => stepM S (cn n) all o s H m = some p := by
  unfold stepM at hr ⊢
  split at hr
  · obtain ⟨q, h1, h2⟩ := optK_inv2 hr
    exact (opK_tends h h1).mono fun n hn => by rw [show (opK S (cn n) s H o fun v H => some (v, H)) = some q from hn]; exact h2
  · exact Evt.of fun _ => hr
  · simp at hr

theorem runM_tends {cn : Nat → Caller} {c : Caller} (h : Tends cn c) {all : Array Oper} : ∀ (l : List Oper) {s : List AV} {H : AH} {m : Met} {p : (List AV × AH) × Met}, runM S c all l s H m = some p → Evt fun n => runM S (cn n) all l s H m = some p
  | [], s, H, m, p, hr => Evt.of fun _ => hr
  | o :: l, s, H, m, p, hr => by
    simp only [runM] at hr ⊢
    obtain ⟨q, h1, h2⟩ := optK_inv2 hr
    exact (stepM_tends h h1).two (runM_tends h l h2) fun n e1 e2 => by rw [e1]; exact e2
theorem runG_tends {cn : Nat → Caller} {c : Caller} (h : Tends cn c) {ops : Array Oper} {s : List AV} {H : AH} {p : List AV × AH} (hr : runG S c ops s H = some p) : Evt fun n => runG S (cn n) ops s H = some p := by
  unfold runG at hr ⊢
  obtain ⟨q, h1, h2⟩ := optK_inv2 hr
  exact (runM_tends h _ h1).mono fun n hn => by rw [hn]; exact h2

theorem runT_tends {cn : Nat → Caller} {c : Caller} (h : Tends cn c) {ops : Array Oper} : ∀ (r : List Nat) {s : List AV} {H : AH} {l : Lg} {L : List (Nat × Nat)} {q : ((List AV × AH) × Lg) × List (Nat × Nat)}, runT S c ops r s H l L = some q → Evt fun n => runT S (cn n) ops r s H l L = some q
  | [], s, H, l, L, q, hr => Evt.of fun _ => hr
  | i :: r, s, H, l, L, q, hr => by
    simp only [runT] at hr ⊢
    split at hr
    · obtain ⟨p, h1, h2⟩ := optK_inv2 hr
      exact (stepM_tends h h1).two (runT_tends h r h2) fun n e1 e2 => by rw [e1]; exact e2
    · cases hr
theorem stepH_tends {cn : Nat → Caller} {c : Caller} (h : Tends cn c) {L m : List Nat} {all : Array Oper} {o : Oper} {s : List AV} {H : AH} {p : List AV × AH} (hr : stepH L m S c all o s H = some p) : Evt fun n => stepH L m S (cn n) all o s H = some p := by
  unfold stepH at hr ⊢
  split at hr
  · obtain ⟨q, h1, h2⟩ := optK_inv2 hr
    unfold opH at h1 ⊢
    obtain ⟨q', h3, h4⟩ := optK_inv2 h1
    exact (opK_tends h h3).mono fun n hn => by
      rw [show (opK S (cn n) s H _ fun v H => some (v, H)) = some q' from hn]
      simp only [optK] at h4 ⊢
      rw [h4]; exact h2
  · exact Evt.of fun _ => hr
  · simp at hr
theorem stepT_tends {cn : Nat → Caller} {c : Caller} (h : Tends cn c) {L : List (Nat × Nat)} {ops : Array Oper} {i : Nat} {s : List AV} {H : AH} {l : Lg} {q : (List AV × AH) × Lg} (hr : stepT L S c ops i s H l = some q) : Evt fun n => stepT L S (cn n) ops i s H l = some q := by
  unfold stepT at hr ⊢
  split at hr
  · obtain ⟨p, h1, h2⟩ := optK_inv2 hr
    exact (stepH_tends h h1).mono fun n e1 => by rw [e1]; exact h2
  · cases hr
theorem evt_all {p : Nat → Nat → Prop} : ∀ (l : List Nat), (∀ i, i ∈ l → Evt (p i)) → Evt fun n => ∀ i, i ∈ l → p i n
  | [], _ => Evt.of fun _ i hi => by cases hi
  | a :: r, h => (h a (List.mem_cons_self ..)).two (evt_all r fun i hi => h i (List.mem_cons_of_mem _ hi)) fun n h1 h2 i hi => by
    rcases List.mem_cons.1 hi with rfl | hi
    · exact h1
    · exact h2 i hi
theorem allT_tends {cn : Nat → Caller} {c : Caller} (h : Tends cn c) {L : List (Nat × Nat)} {ops : Array Oper} {Q : List AV → AH → Lg → Bool} : ∀ (n : Nat) {r : List Nat} {s : List AV} {H : AH} {l : Lg}, allT L S c ops Q n r s H l = true → Evt fun m => allT L S (cn m) ops Q n r s H l = true
  | 0, r, s, H, l, hr => Evt.of fun _ => by cases r <;> exact hr
  | n + 1, r, s, H, l, hr => by
    unfold allT at hr ⊢
    split at hr
    · obtain ⟨p, h1, h2⟩ := thenT_inv' hr
      exact (stepT_tends h h1).two (allT_tends h n h2) fun m e1 e2 => by rw [e1]; exact e2
    · split at hr
      · refine (evt_all r (p := fun i m => (match readyN ops r i with | true => thenT (stepT L S (cn m) ops i s H l) (allT L S (cn m) ops Q n (dropN i r)) | false => true) = true) fun i hi => ?_).mono fun m hm => List.all_eq_true.2 hm
        have h3 := List.all_eq_true.1 hr i hi
        cases hri : readyN ops r i with
        | true =>
          rw [hri] at h3
          obtain ⟨p, h1, h2⟩ := thenT_inv' h3
          exact (stepT_tends h h1).two (allT_tends h n h2) fun m e1 e2 => by simp only [hri]; rw [e1]; exact e2
        | false => exact Evt.of fun _ => by simp only [hri]
      · cases hr
theorem runP_tends {cn : Nat → Caller} {c : Caller} (h : Tends cn c) {ops : Array Oper} {s : List AV} {H : AH} {p : List AV × AH} (hr : runP S c ops s H = some p) : Evt fun n => runP S (cn n) ops s H = some p := by
  unfold runP at hr ⊢
  obtain ⟨q, h1, h2⟩ := optK_inv2 hr
  split at h2
  · rename_i ha
    exact (runT_tends h _ h1).two (allT_tends h _ ha) fun n e1 e2 => by rw [e1, optK_some, e2]; exact h2
  · cases h2

def KTends (Kn : Nat → Ex → List AV → AH → Option R) (K : Ex → List AV → AH → Option R) : Prop := ∀ e s H r, K e s H = some r → Evt fun n => Kn n e s H = some r

theorem leaveK_tends {id : Nat} {s : List AV} {H : AH} {Kn : Nat → Ex → List AV → AH → Option R} {K : Ex → List AV → AH → Option R} (hK : KTends Kn K) {r : R} (h : leaveK id s H K = some r) : Evt fun n => leaveK id s H (Kn n) = some r := by
  unfold leaveK at h ⊢
  split at h
  · split at h
    · exact hK _ _ _ _ h
    · exact hK _ _ _ _ h
    · exact hK _ _ _ _ h
    · simp at h
  · simp at h

theorem iter_tends {room : Nat} {bn : Nat → List AV → AH → Option Out} {b : List AV → AH → Option Out} (hb : ∀ s H o, b s H = some o → Evt fun n => bn n s H = some o) : ∀ (k : Nat) (s : List AV) (H : AH) (o : Out), iter room b k s H = some o → Evt fun n => ∀ j, k ≤ j → iter room (bn n) j s H = some o
  | 0, s, H, o, h => by simp [iter] at h
  | k + 1, s, H, o, h => by
    simp only [iter] at h
    cases hd : b s H with
    | none => rw [hd] at h; simp at h
    | some q =>
      obtain ⟨e, s1, H1⟩ := q
      rw [hd] at h
      have h1 := hb s H _ hd
      cases e with
      | normal =>
        simp only at h
        refine h1.two (iter_tends hb k _ _ o h) fun n e1 e2 j hj => ?_
        obtain ⟨j, rfl⟩ : ∃ m, j = m + 1 := ⟨j - 1, by omega⟩
        simp only [iter, e1]
        exact e2 j (by omega)
      | _ =>
        refine h1.mono fun n e1 j hj => ?_
        obtain ⟨j, rfl⟩ : ∃ m, j = m + 1 := ⟨j - 1, by omega⟩
        simp only [iter, e1]
        exact h

theorem regK_tends {cn : Nat → Caller} {c : Caller} (h : Tends cn c) {ops : Array Oper} {draw : Bool} {R : Type} {s : List AV} {H : AH} {Kn : Nat → Ex → List AV → AH → Option R} {K : Ex → List AV → AH → Option R} {r : R} (hK : KTends Kn K) (hr : regK S c ops draw s H K = some r) : Evt fun n => regK S (cn n) ops draw s H (Kn n) = some r := by
  unfold regK at hr ⊢
  split at hr
  · rename_i hd
    split at hr
    · rename_i hd2
      obtain ⟨q, h1, h2⟩ := optK_inv2 hr
      exact (runB_tends h _ h1).two (hK _ _ _ _ h2) fun n e1 e2 => by rw [if_pos hd, if_pos hd2, e1]; exact e2
    · rename_i hd2
      split at hr
      · rename_i hd3
        obtain ⟨q, h1, h2⟩ := optK_inv2 hr
        exact (runG_tends h h1).two (hK _ _ _ _ h2) fun n e1 e2 => by rw [if_pos hd, if_neg hd2, if_pos hd3, e1]; exact e2
      · rename_i hd3
        obtain ⟨q, h1, h2⟩ := optK_inv2 hr
        exact (runP_tends h h1).two (hK _ _ _ _ h2) fun n e1 e2 => by rw [if_pos hd, if_neg hd2, if_neg hd3, e1]; exact e2
  · rename_i hd
    obtain ⟨q, h1, h2⟩ := optK_inv2 hr
    split at h2
    · simp at h2
    · rename_i hl
      exact (runX_tends h _ h1).two (hK _ _ _ _ h2) fun n e1 e2 => by rw [if_neg hd, e1, optK_some, if_neg hl]; exact e2

theorem denS_tends {cn : Nat → Caller} {c : Caller} (h : Tends cn c) : ∀ (code : Code) {R : Type} {s : List AV} {H : AH} {Kn : Nat → Ex → List AV → AH → Option R} {K : Ex → List AV → AH → Option R} {r : R}, KTends Kn K →
    denS S c code s H K = some r → Evt fun n => denS S (cn n) code s H (Kn n) = some r
  | .skip, R, s, H, Kn, K, r, hK, hr => hK _ _ _ _ hr
  | .region id ops draw, R, s, H, Kn, K, r, hK, hr => by
    simp only [denS] at hr ⊢
    exact regK_tends h hK hr
  | .seq a b, R, s, H, Kn, K, r, hK, hr => by
    simp only [denS] at hr ⊢
    refine denS_tends h a (K := fun e s H => match e with | .normal => denS S c b s H K | e => K e s H) ?_ hr
    intro e s H r h'
    cases e with
    | normal => exact denS_tends h b hK h'
    | _ => exact hK _ _ _ _ h'
  | .cond x a b, R, s, H, Kn, K, r, hK, hr => by
    simp only [denS] at hr ⊢
    split at hr
    · rename_i t ht
      cases t with
      | true => exact denS_tends h a hK hr
      | false => exact denS_tends h b hK hr
    · simp at hr
  | .exit id, R, s, H, Kn, K, r, hK, hr => hK _ _ _ _ hr
  | .ret, R, s, H, Kn, K, r, hK, hr => hK _ _ _ _ hr
  | .label l, R, s, H, Kn, K, r, hK, hr => hK _ _ _ _ hr
  | .block id x, R, s, H, Kn, K, r, hK, hr => by simp [denS] at hr
  | .loop x, R, s, H, Kn, K, r, hK, hr => by simp [denS] at hr
  | .scope x, R, s, H, Kn, K, r, hK, hr => by simp [denS] at hr
  | .goto l, R, s, H, Kn, K, r, hK, hr => by simp [denS] at hr
  | .rangeFunc g ps x y, R, s, H, Kn, K, r, hK, hr => by simp [denS] at hr
  | .refuse w, R, s, H, Kn, K, r, hK, hr => by simp [denS] at hr

theorem jumpK_tends {cn : Nat → Caller} {c : Caller} (h : Tends cn c) {code : Code} {R : Type} {Kn : Nat → Ex → List AV → AH → Option R} {K : Ex → List AV → AH → Option R} (hK : KTends Kn K) : KTends (fun n => jumpK S (cn n) code (Kn n)) (jumpK S c code K) := by
  intro e s H r hr
  cases e with
  | goto l =>
    simp only [jumpK] at hr ⊢
    split at hr
    · rename_i rest hf
      refine denS_tends h rest (K := fun e s H => match e with | .goto _ => none | e => K e s H) ?_ hr
      intro e s H r h'
      cases e with
      | goto l => simp at h'
      | _ => exact hK _ _ _ _ h'
    · simp at hr
  | _ => exact hK _ _ _ _ hr

theorem denK_tends {cn : Nat → Caller} {c : Caller} (h : Tends cn c) {room : Nat} : ∀ (code : Code) {R : Type} {s : List AV} {H : AH} {Kn : Nat → Ex → List AV → AH → Option R} {K : Ex → List AV → AH → Option R} {r : R}, KTends Kn K →
    denK S c (loopL room) code s H K = some r → Evt fun n => denK S (cn n) (fun b => iter room b n) code s H (Kn n) = some r
  | .skip, R, s, H, Kn, K, r, hK, hr => hK _ _ _ _ hr
  | .region id ops draw, R, s, H, Kn, K, r, hK, hr => by
    simp only [denK] at hr ⊢
    exact regK_tends h hK hr
  | .seq a b, R, s, H, Kn, K, r, hK, hr => by
    simp only [denK] at hr ⊢
    refine denK_tends h a (K := fun e s H => match e with | .normal => denK S c (loopL room) b s H K | e => K e s H) ?_ hr
    intro e s H r h'
    cases e with
    | normal => exact denK_tends h b hK h'
    | _ => exact hK _ _ _ _ h'
  | .cond x a b, R, s, H, Kn, K, r, hK, hr => by
    simp only [denK] at hr ⊢
    split at hr
    · rename_i t ht
      cases t with
      | true => exact denK_tends h a hK hr
      | false => exact denK_tends h b hK hr
    · simp at hr
  | .block id x, R, s, H, Kn, K, r, hK, hr => by
    simp only [denK] at hr ⊢
    refine denK_tends h x (K := fun e s H => match e with | .exit i => if i = id then K .normal s H else K (.exit i) s H | e => K e s H) ?_ hr
    intro e s H r h'
    cases e with
    | exit i =>
      simp only at h' ⊢
      split at h'
      · rename_i hi
        exact (hK _ _ _ _ h').mono fun n hn => by rw [if_pos hi]; exact hn
      · rename_i hi
        exact (hK _ _ _ _ h').mono fun n hn => by rw [if_neg hi]; exact hn
    | _ => exact hK _ _ _ _ h'
  | .loop x, R, s, H, Kn, K, r, hK, hr => by
    simp only [denK] at hr ⊢
    obtain ⟨o, h1, h2⟩ := optK_inv2 hr
    obtain ⟨k, hk⟩ := limE_some h1
    have hit := iter_tends (bn := fun n s H => denK S (cn n) (fun b => iter room b n) x s H retO) (fun s H o ho => denK_tends h x (Kn := fun _ => retO) (fun e s H r h => Evt.of fun _ => h) ho) k s H o (hk k (Nat.le_refl _))
    obtain ⟨m, hm⟩ := hit
    have hev : Evt fun n => iter room (fun s H => denK S (cn n) (fun b => iter room b n) x s H retO) n s H = some o := ⟨max m k, fun n hn => hm n (by omega) n (by omega)⟩
    exact hev.two (hK _ _ _ _ h2) fun n e1 e2 => by rw [e1]; exact e2
  | .scope x, R, s, H, Kn, K, r, hK, hr => by
    simp only [denK] at hr ⊢
    exact denK_tends h x (jumpK_tends h hK) hr
  | .exit id, R, s, H, Kn, K, r, hK, hr => hK _ _ _ _ hr
  | .ret, R, s, H, Kn, K, r, hK, hr => hK _ _ _ _ hr
  | .label l, R, s, H, Kn, K, r, hK, hr => hK _ _ _ _ hr
  | .rangeFunc g ps x y, R, s, H, Kn, K, r, hK, hr => by
    simp only [denK, rangeK] at hr ⊢
    split at hr
    · obtain ⟨p, h1, h2⟩ := optK_inv2 hr
      exact (h.fn _ _ _ _ h1).two (leaveK_tends hK h2) fun n e1 e2 => by rw [e1]; exact e2
    · simp at hr
  | .goto l, R, s, H, Kn, K, r, hK, hr => hK _ _ _ _ hr
  | .refuse w, R, s, H, Kn, K, r, hK, hr => by simp [denK] at hr

theorem runK_tends {cn : Nat → Caller} {c : Caller} (h : Tends cn c) {room : Nat} {fn : Func} {args : List AV} {H : AH} {r : Res} (hr : runK S c (loopL room) fn args H = some r) : Evt fun n => runK S (cn n) (fun b => iter room b n) fn args H = some r := by
  unfold runK at hr ⊢
  split at hr
  · simp at hr
  · exact denK_tends h _ (fun e s H r h => Evt.of fun _ => h) hr

theorem recK_tends {cn : Nat → Caller} {c : Caller} (h : Tends cn c) {room : Nat} {g : FuncId} {args : List AV} {H H' : AH} {x : AV} (hr : recK S c (loopL room) g args H x = some H') : Evt fun n => recK S (cn n) (fun b => iter room b n) g args H x = some H' := by
  unfold recK at hr ⊢
  split at hr
  · split at hr
    · split at hr
      · exact denK_tends h _ (fun e s H r h => Evt.of fun _ => h) hr
      · cases hr
    · cases hr
  · cases hr
theorem endD_tends {cn : Nat → Caller} {c : Caller} (h : Tends cn c) {room : Nat} {fn : Func} {g : FuncId × List AV} : KTends (fun n => endD S (cn n) (fun b => iter room b n) fn g) (endD S c (loopL room) fn g) := by
  intro e s H r hr
  cases e with
  | normal => obtain ⟨H1, h1, h2⟩ := optK_inv2 (show optK (recK S c (loopL room) g.1 g.2 H .niliface) _ = some r from hr); exact (recK_tends h h1).mono fun n hn => by show optK (recK S (cn n) _ g.1 g.2 H .niliface) _ = some r; rw [hn]; exact h2
  | ret => obtain ⟨H1, h1, h2⟩ := optK_inv2 (show optK (recK S c (loopL room) g.1 g.2 H .niliface) _ = some r from hr); exact (recK_tends h h1).mono fun n hn => by show optK (recK S (cn n) _ g.1 g.2 H .niliface) _ = some r; rw [hn]; exact h2
  | panic v => obtain ⟨H1, h1, h2⟩ := optK_inv2 (show optK (recK S c (loopL room) g.1 g.2 H v) _ = some r from hr); exact (recK_tends h h1).mono fun n hn => by show optK (recK S (cn n) _ g.1 g.2 H v) _ = some r; rw [hn]; exact h2
  | exit i => cases hr
  | goto l => cases hr
theorem runDK_tends {cn : Nat → Caller} {c : Caller} (h : Tends cn c) {room : Nat} {fn : Func} {args : List AV} {H : AH} {r : Res} (hr : runDK S c (loopL room) fn args H = some r) : Evt fun n => runDK S (cn n) (fun b => iter room b n) fn args H = some r := by
  unfold runDK at hr ⊢
  split at hr
  · split at hr
    · refine denK_tends h _ ?_ hr
      intro e s H r hr
      cases e with
      | normal =>
        simp only at hr ⊢
        rw [opsK_run] at hr
        obtain ⟨p, h1, h2⟩ := optK_inv2 hr
        obtain ⟨g, h3, h4⟩ := optK_inv2 h2
        refine (runD_tends h _ h1).two (denK_tends h _ (endD_tends h) h4) fun n e1 e2 => ?_
        rw [opsK_run, e1, optK_some, h3, optK_some]; exact e2
      | _ => cases hr
    · cases hr
  · cases hr

theorem enter_tends {cn : Nat → Caller} {c : Caller} (h : Tends cn c) {room : Nat} {f : FuncId} {args : List AV} {H : AH} {r : Res} (hr : enterF S c (loopL room) f args H = some r) : Evt fun n => enterF S (cn n) (fun b => iter room b n) f args H = some r := by
  unfold enterF at hr ⊢
  split at hr
  · exact Evt.of fun _ => hr
  · split at hr
    · split at hr
      · simp at hr
      · split at hr
        · rename_i hp
          obtain ⟨ts, h1, h2⟩ := optK_inv2 hr
          obtain ⟨p, h3, h4⟩ := optK_inv2 h2
          obtain ⟨q, h5, h6⟩ := optK_inv2 h3
          exact (runDK_tends h h5).mono fun n hn => by rw [if_pos hp, h1, optK_some, hn, optK_some, h6, optK_some]; exact h4
        · rename_i hp
          simp only [if_neg hp]
          obtain ⟨p, h3, h4⟩ := optK_inv2 hr
          exact (runDK_tends h h3).mono fun n hn => by rw [hn, optK_some]; exact h4
    · split at hr
      · rename_i hp
        obtain ⟨ts, h1, h2⟩ := optK_inv2 hr
        obtain ⟨p, h3, h4⟩ := optK_inv2 h2
        obtain ⟨q, h5, h6⟩ := optK_inv2 h3
        exact (runK_tends h h5).mono fun n hn => by rw [if_pos hp, h1, optK_some, hn, optK_some, h6, optK_some]; exact h4
      · rename_i hp
        simp only [if_neg hp]
        split at hr
        · exact Evt.of fun _ => hr
        obtain ⟨p, h3, h4⟩ := optK_inv2 hr
        exact (runK_tends h h3).mono fun n hn => by rw [hn, optK_some]; exact h4

theorem Evt.succ {p : Nat → Prop} (h : Evt fun n => p (n + 1)) : Evt p := by
  obtain ⟨n0, h⟩ := h
  refine ⟨n0 + 1, fun n hn => ?_⟩
  obtain ⟨m, rfl⟩ : ∃ m, n = m + 1 := ⟨n - 1, by omega⟩
  exact h m (by omega)

/-- What a call comes to, from its code's. -/
theorem callL_res {f : FuncId} {args : List AV} {H : AH} {r : Res} (h : enterF S (callL S) (loopL S.room) f args H = some r) : (callL S).res f args H = some r :=
  limE_of (Evt.succ ((enter_tends callL_tends h).mono fun n hn => hn))

/-- A function's answer from its code's. -/
theorem callL_enter {f : FuncId} {args : List AV} {H H' : AH} {v : AV} (h : enterF S (callL S) (loopL S.room) f args H = some (.val v H')) : callL S f args H = some (v, H') := Caller.fn_of (callL_res h)

theorem callL_fuel {f : FuncId} {args : List AV} {H : AH} {r : AV × AH} (h : callL S f args H = some r) : ∃ n, callF S n f args H = some r := by
  obtain ⟨n, hn⟩ := limE_some (Caller.fn_val h)
  exact ⟨n, Caller.fn_of (hn n (Nat.le_refl _))⟩

/-! ### Loops -/
theorem loopL_next {room : Nat} {b : List AV → AH → Option Out} {s s' : List AV} {H H' : AH} {o : Out} (h : b s H = some (.normal, s', H')) (hn : loopL room b (back room s H s' H').1 (back room s H s' H').2 = some o) : loopL room b s H = some o :=
  limE_of (Evt.succ ((limE_some hn).mono fun n hn => by simp only [iter, h]; exact hn))

theorem loopL_exit {room : Nat} {b : List AV → AH → Option Out} {s s' : List AV} {H H' : AH} {i : Nat} (h : b s H = some (.exit i, s', H')) : loopL room b s H = some (.exit i, outS room s s', H') :=
  limE_of (Evt.succ (Evt.of fun n => by simp only [iter, h]))

theorem loopL_ret {room : Nat} {b : List AV → AH → Option Out} {s s' : List AV} {H H' : AH} (h : b s H = some (.ret, s', H')) : loopL room b s H = some (.ret, outS room s s', H') :=
  limE_of (Evt.succ (Evt.of fun n => by simp only [iter, h]))

end Go.Sx

/- THE ENGINE, 37: a run with fuel is a run without; functions by a table of answers. -/
set_option linter.unusedSimpArgs false
set_option linter.unusedVariables false
namespace Go.Sx
variable {R : Type} {S : Sys}

theorem iter_loopL {room : Nat} {b : List AV → AH → Option Out} {k : Nat} {s : List AV} {H : AH} {o : Out} (h : iter room b k s H = some o) : loopL room b s H = some o := by
  obtain ⟨n0, hn⟩ := iter_tends (room := room) (bn := fun _ => b) (b := b) (fun s H o h => Evt.of fun _ => h) k s H o h
  exact limE_of ⟨k, fun n hk => hn n0 (Nat.le_refl _) n hk⟩

theorem iter_mono {room : Nat} {b b' : List AV → AH → Option Out} (hb : ∀ s H o, b s H = some o → b' s H = some o) : ∀ (k : Nat) {s : List AV} {H : AH} {o : Out}, iter room b k s H = some o → iter room b' k s H = some o
  | 0, s, H, o, h => by simp [iter] at h
  | k + 1, s, H, o, h => by
    simp only [iter] at h ⊢
    cases hd : b s H with
    | none => rw [hd] at h; simp at h
    | some q =>
      rw [hd] at h
      rw [hb _ _ _ hd]
      obtain ⟨e, s1, H1⟩ := q
      cases e with
      | normal => exact iter_mono hb k h
      | _ => exact h

theorem stepD_mono {c c' : Caller} (h : c.le c') {all : Array Oper} {o : Oper} {s : List AV} {H : AH} {p : List AV × AH} (hr : stepD S c all o s H = some p) : stepD S c' all o s H = some p := by
  unfold stepD at hr ⊢
  split at hr
  · obtain ⟨q, h1, h2⟩ := optK_inv2 hr
    rw [opK_mono h h1]; exact h2
  · exact hr
  · simp at hr

theorem runD_mono {c c' : Caller} (h : c.le c') {all : Array Oper} : ∀ (l : List Oper) {s : List AV} {H : AH} {p : List AV × AH}, runD S c all l s H = some p → runD S c' all l s H = some p
  | [], s, H, p, hr => hr
  | o :: l, s, H, p, hr => by
    simp only [runD] at hr ⊢
    obtain ⟨q, h1, h2⟩ := optK_inv2 hr
    rw [stepD_mono h h1, optK_some]
    exact runD_mono h l h2

theorem leaveK_mono {id : Nat} {s : List AV} {H : AH} {K K' : Ex → List AV → AH → Option R} (hK : ∀ e s H r, K e s H = some r → K' e s H = some r) {r : R} (h : leaveK id s H K = some r) : leaveK id s H K' = some r := by
  unfold leaveK at h ⊢
  split at h
  · split at h
    · exact hK _ _ _ _ h
    · exact hK _ _ _ _ h
    · exact hK _ _ _ _ h
    · simp at h
  · simp at h

theorem regK_mono {c c' : Caller} (h : c.le c') {ops : Array Oper} {draw : Bool} {R : Type} {s : List AV} {H : AH} {K K' : Ex → List AV → AH → Option R} {r : R} (hK : ∀ e s H r, K e s H = some r → K' e s H = some r) (hr : regK S c ops draw s H K = some r) : regK S c' ops draw s H K' = some r := by
  unfold regK at hr ⊢
  split at hr
  · rename_i hd
    split at hr
    · rename_i hd2
      obtain ⟨q, h1, h2⟩ := optK_inv2 hr
      rw [if_pos hd, if_pos hd2, runB_mono h _ h1]; exact hK _ _ _ _ h2
    · rename_i hd2
      split at hr
      · rename_i hd3
        obtain ⟨q, h1, h2⟩ := optK_inv2 hr
        rw [if_pos hd, if_neg hd2, if_pos hd3, runG_mono h h1]; exact hK _ _ _ _ h2
      · rename_i hd3
        obtain ⟨q, h1, h2⟩ := optK_inv2 hr
        rw [if_pos hd, if_neg hd2, if_neg hd3, runP_mono h h1]; exact hK _ _ _ _ h2
  · rename_i hd
    obtain ⟨q, h1, h2⟩ := optK_inv2 hr
    split at h2
    · simp at h2
    · rename_i hl
      rw [if_neg hd, runX_mono h _ h1, optK_some, if_neg hl]; exact hK _ _ _ _ h2

theorem denS_mono {c c' : Caller} (h : c.le c') : ∀ (code : Code) {R : Type} {s : List AV} {H : AH} {K K' : Ex → List AV → AH → Option R} {r : R}, (∀ e s H r, K e s H = some r → K' e s H = some r) →
    denS S c code s H K = some r → denS S c' code s H K' = some r
  | .skip, R, s, H, K, K', r, hK, hr => hK _ _ _ _ hr
  | .region id ops draw, R, s, H, K, K', r, hK, hr => by
    simp only [denS] at hr ⊢
    exact regK_mono h hK hr
  | .seq a b, R, s, H, K, K', r, hK, hr => by
    simp only [denS] at hr ⊢
    refine denS_mono h a ?_ hr
    intro e s H r h'
    cases e with
    | normal => exact denS_mono h b hK h'
    | _ => exact hK _ _ _ _ h'
  | .cond x a b, R, s, H, K, K', r, hK, hr => by
    simp only [denS] at hr ⊢
    split at hr
    · rename_i t ht
      cases t with
      | true => exact denS_mono h a hK hr
      | false => exact denS_mono h b hK hr
    · simp at hr
  | .exit id, R, s, H, K, K', r, hK, hr => hK _ _ _ _ hr
  | .ret, R, s, H, K, K', r, hK, hr => hK _ _ _ _ hr
  | .label l, R, s, H, K, K', r, hK, hr => hK _ _ _ _ hr
  | .block id x, R, s, H, K, K', r, hK, hr => by simp [denS] at hr
  | .loop x, R, s, H, K, K', r, hK, hr => by simp [denS] at hr
  | .scope x, R, s, H, K, K', r, hK, hr => by simp [denS] at hr
  | .goto l, R, s, H, K, K', r, hK, hr => by simp [denS] at hr
  | .rangeFunc g ps x y, R, s, H, K, K', r, hK, hr => by simp [denS] at hr
  | .refuse w, R, s, H, K, K', r, hK, hr => by simp [denS] at hr

theorem jumpK_mono {c c' : Caller} (h : c.le c') {code : Code} {R : Type} {K K' : Ex → List AV → AH → Option R} (hK : ∀ e s H r, K e s H = some r → K' e s H = some r) : ∀ e s H r, jumpK S c code K e s H = some r → jumpK S c' code K' e s H = some r := by
  intro e s H r hr
  cases e with
  | goto l =>
    simp only [jumpK] at hr ⊢
    split at hr
    · rename_i rest hf
      refine denS_mono h rest ?_ hr
      intro e s H r h'
      cases e with
      | goto l => simp at h'
      | _ => exact hK _ _ _ _ h'
    · simp at hr
  | _ => exact hK _ _ _ _ hr

theorem denK_mono {c c' : Caller} (h : c.le c') {room n : Nat} : ∀ (code : Code) {R : Type} {s : List AV} {H : AH} {K K' : Ex → List AV → AH → Option R} {r : R}, (∀ e s H r, K e s H = some r → K' e s H = some r) →
    denK S c (fun b => iter room b n) code s H K = some r → denK S c' (loopL room) code s H K' = some r
  | .skip, R, s, H, K, K', r, hK, hr => hK _ _ _ _ hr
  | .region id ops draw, R, s, H, K, K', r, hK, hr => by
    simp only [denK] at hr ⊢
    exact regK_mono h hK hr
  | .seq a b, R, s, H, K, K', r, hK, hr => by
    simp only [denK] at hr ⊢
    refine denK_mono h a ?_ hr
    intro e s H r h'
    cases e with
    | normal => exact denK_mono h b hK h'
    | _ => exact hK _ _ _ _ h'
  | .cond x a b, R, s, H, K, K', r, hK, hr => by
    simp only [denK] at hr ⊢
    split at hr
    · rename_i t ht
      cases t with
      | true => exact denK_mono h a hK hr
      | false => exact denK_mono h b hK hr
    · simp at hr
  | .block id x, R, s, H, K, K', r, hK, hr => by
    simp only [denK] at hr ⊢
    refine denK_mono h x ?_ hr
    intro e s H r h'
    cases e with
    | exit i =>
      simp only at h' ⊢
      split at h'
      · rename_i hi
        rw [if_pos hi]; exact hK _ _ _ _ h'
      · rename_i hi
        rw [if_neg hi]; exact hK _ _ _ _ h'
    | _ => exact hK _ _ _ _ h'
  | .loop x, R, s, H, K, K', r, hK, hr => by
    simp only [denK] at hr ⊢
    obtain ⟨o, h1, h2⟩ := optK_inv2 hr
    have := iter_loopL (iter_mono (b' := fun s H => denK S c' (loopL room) x s H retO) (fun s H o ho => denK_mono h x (fun e s H r h => h) ho) n h1)
    rw [this]
    exact hK _ _ _ _ h2
  | .scope x, R, s, H, K, K', r, hK, hr => by
    simp only [denK] at hr ⊢
    exact denK_mono h x (jumpK_mono h hK) hr
  | .exit id, R, s, H, K, K', r, hK, hr => hK _ _ _ _ hr
  | .ret, R, s, H, K, K', r, hK, hr => hK _ _ _ _ hr
  | .label l, R, s, H, K, K', r, hK, hr => hK _ _ _ _ hr
  | .rangeFunc g ps x y, R, s, H, K, K', r, hK, hr => by
    simp only [denK, rangeK] at hr ⊢
    split at hr
    · obtain ⟨p, h1, h2⟩ := optK_inv2 hr
      rw [h.fn _ _ _ _ h1]
      exact leaveK_mono hK h2
    · simp at hr
  | .goto l, R, s, H, K, K', r, hK, hr => hK _ _ _ _ hr
  | .refuse w, R, s, H, K, K', r, hK, hr => by simp [denK] at hr

theorem runK_mono {c c' : Caller} (h : c.le c') {room n : Nat} {fn : Func} {args : List AV} {H : AH} {r : Res} (hr : runK S c (fun b => iter room b n) fn args H = some r) : runK S c' (loopL room) fn args H = some r := by
  unfold runK at hr ⊢
  split at hr
  · simp at hr
  · exact denK_mono h _ (fun e s H r h => h) hr

theorem recK_mono {c c' : Caller} (h : c.le c') {room n : Nat} {g : FuncId} {args : List AV} {H H' : AH} {x : AV} (hr : recK S c (fun b => iter room b n) g args H x = some H') : recK S c' (loopL room) g args H x = some H' := by
  unfold recK at hr ⊢
  split at hr
  · split at hr
    · split at hr
      · exact denK_mono h _ (fun e s H r h => h) hr
      · cases hr
    · cases hr
  · cases hr
theorem endD_mono {c c' : Caller} (h : c.le c') {room n : Nat} {fn : Func} {g : FuncId × List AV} : ∀ e s H r, endD S c (fun b => iter room b n) fn g e s H = some r → endD S c' (loopL room) fn g e s H = some r := by
  intro e s H r hr
  cases e with
  | normal => obtain ⟨H1, h1, h2⟩ := optK_inv2 (show optK (recK S c (fun b => iter room b n) g.1 g.2 H .niliface) _ = some r from hr); show optK (recK S c' _ g.1 g.2 H .niliface) _ = some r; rw [recK_mono h h1]; exact h2
  | ret => obtain ⟨H1, h1, h2⟩ := optK_inv2 (show optK (recK S c (fun b => iter room b n) g.1 g.2 H .niliface) _ = some r from hr); show optK (recK S c' _ g.1 g.2 H .niliface) _ = some r; rw [recK_mono h h1]; exact h2
  | panic v => obtain ⟨H1, h1, h2⟩ := optK_inv2 (show optK (recK S c (fun b => iter room b n) g.1 g.2 H v) _ = some r from hr); show optK (recK S c' _ g.1 g.2 H v) _ = some r; rw [recK_mono h h1]; exact h2
  | exit i => cases hr
  | goto l => cases hr
theorem runDK_mono {c c' : Caller} (h : c.le c') {room n : Nat} {fn : Func} {args : List AV} {H : AH} {r : Res} (hr : runDK S c (fun b => iter room b n) fn args H = some r) : runDK S c' (loopL room) fn args H = some r := by
  unfold runDK at hr ⊢
  split at hr
  · split at hr
    · refine denK_mono h _ ?_ hr
      intro e s H r hr
      cases e with
      | normal =>
        simp only at hr ⊢
        rw [opsK_run] at hr ⊢
        obtain ⟨p, h1, h2⟩ := optK_inv2 hr
        obtain ⟨g, h3, h4⟩ := optK_inv2 h2
        rw [runD_mono h _ h1, optK_some, h3, optK_some]
        exact denK_mono h _ (endD_mono h) h4
      | _ => cases hr
    · cases hr
  · cases hr

theorem enter_mono {c c' : Caller} (h : c.le c') {room n : Nat} {f : FuncId} {args : List AV} {H : AH} {r : Res} (hr : enterF S c (fun b => iter room b n) f args H = some r) : enterF S c' (loopL room) f args H = some r := by
  unfold enterF at hr ⊢
  split at hr
  · exact hr
  · split at hr
    · split at hr
      · simp at hr
      · split at hr
        · rename_i hp
          obtain ⟨ts, h1, h2⟩ := optK_inv2 hr
          obtain ⟨p, h3, h4⟩ := optK_inv2 h2
          obtain ⟨q, h5, h6⟩ := optK_inv2 h3
          rw [if_pos hp, h1, optK_some, runDK_mono h h5, optK_some, h6, optK_some]; exact h4
        · rename_i hp
          rw [if_neg hp]
          obtain ⟨p, h3, h4⟩ := optK_inv2 hr
          rw [runDK_mono h h3, optK_some]; exact h4
    · split at hr
      · rename_i hp
        obtain ⟨ts, h1, h2⟩ := optK_inv2 hr
        obtain ⟨p, h3, h4⟩ := optK_inv2 h2
        obtain ⟨q, h5, h6⟩ := optK_inv2 h3
        rw [if_pos hp, h1, optK_some, runK_mono h h5, optK_some, h6, optK_some]; exact h4
      · rename_i hp
        rw [if_neg hp]
        split at hr
        · exact hr
        obtain ⟨p, h3, h4⟩ := optK_inv2 hr
        rw [runK_mono h h3, optK_some]; exact h4

/-- What follows a round's first part. -/
def roundK (S : Sys) (call : Caller) (lp : Looper) (y : Code) (id : Nat) (H : AH) (e : Ex) (s1 : List AV) (H1 : AH) : Option (AV × AH) := match e with
  | .normal => match H1.objs[id]? with
    | some (.loop s' ps' x' y' .ready) => denK S call lp y s1 { H1 with objs := H1.objs.set id (.loop s' ps' x' y' .busy) } fun e _ H2 => optK (exLeft e) fun st => optK (setLoop H2 id st) fun H3 => some (trunc H (.bool e.stays, H3))
    | _ => none
  | _ => none

theorem yieldF_eq (S : Sys) (call : Caller) (lp : Looper) (id : Nat) (args : List AV) (H : AH) : yieldF S call lp id args H = match H.objs[id]? with
    | some (.loop s ps x y .ready) => if args.length = ps.length ∧ plainC x = true ∧ plainC y = true then denK S call lp x ((ps.zip args).foldl (fun s p => s.set p.1 p.2) s) H (roundK S call lp y id H) else none
    | _ => none := by
  unfold yieldF
  rfl

theorem yield_tends {cn : Nat → Caller} {c : Caller} (h : Tends cn c) {room id : Nat} {args : List AV} {H : AH} {r : AV × AH} (hr : yieldF S c (loopL room) id args H = some r) : Evt fun n => yieldF S (cn n) (fun b => iter room b n) id args H = some r := by
  simp only [yieldF_eq] at hr ⊢
  split at hr
  · rename_i s ps x y hob
    split at hr
    · rename_i hc
      have := denK_tends (cn := cn) h (room := room) _ (Kn := fun n => roundK S (cn n) (fun b => iter room b n) y id H) (fun e s1 H1 r h' => by
          unfold roundK at h' ⊢
          cases e with
          | normal =>
            simp only at h' ⊢
            split at h'
            · exact denK_tends h _ (fun e s H r h => Evt.of fun _ => h) h'
            · simp at h'
          | _ => simp at h') hr
      exact this.mono fun n hn => by rw [if_pos hc]; exact hn
    · simp at hr
  · simp at hr

theorem yield_mono {c c' : Caller} (h : c.le c') {room n id : Nat} {args : List AV} {H : AH} {r : AV × AH} (hr : yieldF S c (fun b => iter room b n) id args H = some r) : yieldF S c' (loopL room) id args H = some r := by
  simp only [yieldF_eq] at hr ⊢
  split at hr
  · rename_i s ps x y hob
    split at hr
    · rename_i hc
      rw [if_pos hc]
      refine denK_mono h _ ?_ hr
      intro e s1 H1 r h'
      unfold roundK at h' ⊢
      cases e with
      | normal =>
        simp only at h' ⊢
        split at h'
        · exact denK_mono h _ (fun e s H r h => h) h'
        · simp at h'
      | _ => simp at h'
    · simp at hr
  · simp at hr

theorem callL_yield {id : Nat} {args : List AV} {H : AH} {r : AV × AH} (h : yieldF S (callL S) (loopL S.room) id args H = some r) : (callL S).yield id args H = some r :=
  limE_of (Evt.succ ((yield_tends callL_tends h).mono fun n hn => hn))

/-- A run with fuel is a run without. -/
theorem callF_le : ∀ n, (callF S n).le (callL S)
  | 0 => ⟨by intro f args H r h; simp [callF] at h, by intro id args H r h; simp [callF] at h⟩
  | n + 1 => ⟨fun f args H r h => callL_res (enter_mono (callF_le n) h), fun id args H r h => callL_yield (yield_mono (callF_le n) h)⟩

/-- A table of answers: each is the program's. -/
abbrev Table (S : Sys) (c : Caller) : Prop := c.le (callL S)

theorem Table.tends {c : Caller} (h : Table S c) : Tends (callF S) c :=
  ⟨fun f args H r hr => limE_some (h.res f args H r hr), fun id args H r hr => limE_some (h.yield id args H r hr)⟩

theorem callL_table {c : Caller} (h : Table S c) {f : FuncId} {args : List AV} {H H' : AH} {v : AV} (hr : enterF S c (loopL S.room) f args H = some (.val v H')) : callL S f args H = some (v, H') :=
  Caller.fn_of (limE_of (Evt.succ ((enter_tends (Table.tends h) hr).mono fun n hn => hn)))

/-- A function that is called with trees. -/
theorem callL_pure {c : Caller} (hc : Table S c) {f : FuncId} {fn : Func} {args ts : List AV} {H H' : AH} {v v' : AV} (hext : S.ext f = none) (hF : S.F f = some fn) (hp : S.isPure f = true)
    (hres : resolveL H args = some ts) (hrun : runK S c (loopL S.room) fn ts ⟨[], []⟩ = some (.val v H')) (hout : pureOut args v = some v') : callL S f args H = some (v', H) := by
  refine callL_table hc ?_
  unfold enterF
  rw [hext]
  simp only [hF]
  rw [if_pos hp, hres, optK_some, hrun, optK_some, thaw_of hout, optK_some, hout, optK_some]

/-- What is not its own function but the library's. -/
theorem callL_ext {f : FuncId} {g : List AV → Option AV} {args ts : List AV} {H : AH} {v v' : AV} (hext : S.ext f = some g) (hres : resolveL H args = some ts) (hg : g ts = some v) (hout : pureOut args v = some v') : callL S f args H = some (v', H) := by
  refine callL_enter ?_
  unfold enterF
  rw [hext]
  simp only
  rw [hres, optK_some, hg, optK_some, hout, optK_some]

end Go.Sx

/- THE ENGINE, 38: what a function that is called with trees answers. -/
set_option linter.unusedSimpArgs false
set_option linter.unusedVariables false
namespace Go.Sx
variable {R : Type} {S : Sys}

theorem leaveK_rel {R R' : Type} {Q : R → R' → Prop} {id : Nat} {s : List AV} {H : AH} {K : Ex → List AV → AH → Option R} {K' : Ex → List AV → AH → Option R'} (hK : ∀ e s H r, K e s H = some r → ∃ r', K' e s H = some r' ∧ Q r r') {r : R} (h : leaveK id s H K = some r) :
    ∃ r', leaveK id s H K' = some r' ∧ Q r r' := by
  unfold leaveK at h ⊢
  split at h
  · split at h
    · exact hK _ _ _ _ h
    · exact hK _ _ _ _ h
    · exact hK _ _ _ _ h
    · simp at h
  · simp at h

theorem regK_rel {c : Caller} {ops : Array Oper} {draw : Bool} {R R' : Type} {Q : R → R' → Prop} {s : List AV} {H : AH} {K : Ex → List AV → AH → Option R} {K' : Ex → List AV → AH → Option R'} {r : R} (hK : ∀ e s H r, K e s H = some r → ∃ r', K' e s H = some r' ∧ Q r r')
    (hr : regK S c ops draw s H K = some r) : ∃ r', regK S c ops draw s H K' = some r' ∧ Q r r' := by
  unfold regK at hr ⊢
  split at hr
  · rename_i hd
    split at hr
    · rename_i hd2
      obtain ⟨q, h1, h2⟩ := optK_inv2 hr
      rw [if_pos hd, if_pos hd2, h1]; exact hK _ _ _ _ h2
    · rename_i hd2
      split at hr
      · rename_i hd3
        obtain ⟨q, h1, h2⟩ := optK_inv2 hr
        rw [if_pos hd, if_neg hd2, if_pos hd3, h1]; exact hK _ _ _ _ h2
      · rename_i hd3
        obtain ⟨q, h1, h2⟩ := optK_inv2 hr
        rw [if_pos hd, if_neg hd2, if_neg hd3, h1]; exact hK _ _ _ _ h2
  · rename_i hd
    obtain ⟨q, h1, h2⟩ := optK_inv2 hr
    split at h2
    · simp at h2
    · rename_i hl
      rw [if_neg hd, h1, optK_some, if_neg hl]; exact hK _ _ _ _ h2

theorem denS_rel {c : Caller} : ∀ (code : Code) {R R' : Type} {Q : R → R' → Prop} {s : List AV} {H : AH} {K : Ex → List AV → AH → Option R} {K' : Ex → List AV → AH → Option R'} {r : R}, (∀ e s H r, K e s H = some r → ∃ r', K' e s H = some r' ∧ Q r r') →
    denS S c code s H K = some r → ∃ r', denS S c code s H K' = some r' ∧ Q r r'
  | .skip, R, R', Q, s, H, K, K', r, hK, hr => hK _ _ _ _ hr
  | .region id ops draw, R, R', Q, s, H, K, K', r, hK, hr => by
    simp only [denS] at hr ⊢
    exact regK_rel hK hr
  | .seq a b, R, R', Q, s, H, K, K', r, hK, hr => by
    simp only [denS] at hr ⊢
    refine denS_rel a ?_ hr
    intro e s H r h'
    cases e with
    | normal => exact denS_rel b hK h'
    | _ => exact hK _ _ _ _ h'
  | .cond x a b, R, R', Q, s, H, K, K', r, hK, hr => by
    simp only [denS] at hr ⊢
    split at hr
    · rename_i t ht
      cases t with
      | true => exact denS_rel a hK hr
      | false => exact denS_rel b hK hr
    · simp at hr
  | .exit id, R, R', Q, s, H, K, K', r, hK, hr => hK _ _ _ _ hr
  | .ret, R, R', Q, s, H, K, K', r, hK, hr => hK _ _ _ _ hr
  | .label l, R, R', Q, s, H, K, K', r, hK, hr => hK _ _ _ _ hr
  | .block id x, R, R', Q, s, H, K, K', r, hK, hr => by simp [denS] at hr
  | .loop x, R, R', Q, s, H, K, K', r, hK, hr => by simp [denS] at hr
  | .scope x, R, R', Q, s, H, K, K', r, hK, hr => by simp [denS] at hr
  | .goto l, R, R', Q, s, H, K, K', r, hK, hr => by simp [denS] at hr
  | .rangeFunc g ps x y, R, R', Q, s, H, K, K', r, hK, hr => by simp [denS] at hr
  | .refuse w, R, R', Q, s, H, K, K', r, hK, hr => by simp [denS] at hr

theorem jumpK_rel {c : Caller} {code : Code} {R R' : Type} {Q : R → R' → Prop} {K : Ex → List AV → AH → Option R} {K' : Ex → List AV → AH → Option R'} (hK : ∀ e s H r, K e s H = some r → ∃ r', K' e s H = some r' ∧ Q r r') : ∀ e s H r, jumpK S c code K e s H = some r → ∃ r', jumpK S c code K' e s H = some r' ∧ Q r r' := by
  intro e s H r hr
  cases e with
  | goto l =>
    simp only [jumpK] at hr ⊢
    split at hr
    · rename_i rest hf
      refine denS_rel rest ?_ hr
      intro e s H r h'
      cases e with
      | goto l => simp at h'
      | _ => exact hK _ _ _ _ h'
    · simp at hr
  | _ => exact hK _ _ _ _ hr

theorem denK_rel {c : Caller} {lp : Looper} : ∀ (code : Code) {R R' : Type} {Q : R → R' → Prop} {s : List AV} {H : AH} {K : Ex → List AV → AH → Option R} {K' : Ex → List AV → AH → Option R'} {r : R}, (∀ e s H r, K e s H = some r → ∃ r', K' e s H = some r' ∧ Q r r') →
    denK S c lp code s H K = some r → ∃ r', denK S c lp code s H K' = some r' ∧ Q r r'
  | .skip, R, R', Q, s, H, K, K', r, hK, hr => hK _ _ _ _ hr
  | .region id ops draw, R, R', Q, s, H, K, K', r, hK, hr => by
    simp only [denK] at hr ⊢
    exact regK_rel hK hr
  | .seq a b, R, R', Q, s, H, K, K', r, hK, hr => by
    simp only [denK] at hr ⊢
    refine denK_rel a ?_ hr
    intro e s H r h'
    cases e with
    | normal => exact denK_rel b hK h'
    | _ => exact hK _ _ _ _ h'
  | .cond x a b, R, R', Q, s, H, K, K', r, hK, hr => by
    simp only [denK] at hr ⊢
    split at hr
    · rename_i t ht
      cases t with
      | true => exact denK_rel a hK hr
      | false => exact denK_rel b hK hr
    · simp at hr
  | .block id x, R, R', Q, s, H, K, K', r, hK, hr => by
    simp only [denK] at hr ⊢
    refine denK_rel x ?_ hr
    intro e s H r h'
    cases e with
    | exit i =>
      simp only at h' ⊢
      split at h'
      · rename_i hi
        rw [if_pos hi]; exact hK _ _ _ _ h'
      · rename_i hi
        rw [if_neg hi]; exact hK _ _ _ _ h'
    | _ => exact hK _ _ _ _ h'
  | .loop x, R, R', Q, s, H, K, K', r, hK, hr => by
    simp only [denK] at hr ⊢
    obtain ⟨o, h1, h2⟩ := optK_inv2 hr
    rw [h1]
    exact hK _ _ _ _ h2
  | .scope x, R, R', Q, s, H, K, K', r, hK, hr => by
    simp only [denK] at hr ⊢
    exact denK_rel x (jumpK_rel hK) hr
  | .exit id, R, R', Q, s, H, K, K', r, hK, hr => hK _ _ _ _ hr
  | .ret, R, R', Q, s, H, K, K', r, hK, hr => hK _ _ _ _ hr
  | .label l, R, R', Q, s, H, K, K', r, hK, hr => hK _ _ _ _ hr
  | .rangeFunc g ps x y, R, R', Q, s, H, K, K', r, hK, hr => by
    simp only [denK, rangeK] at hr ⊢
    split at hr
    · obtain ⟨p, h1, h2⟩ := optK_inv2 hr
      rw [h1]
      exact leaveK_rel hK h2
    · simp at hr
  | .goto l, R, R', Q, s, H, K, K', r, hK, hr => hK _ _ _ _ hr
  | .refuse w, R, R', Q, s, H, K, K', r, hK, hr => by simp [denK] at hr

/-- What a function's end makes of the temporaries. -/
def endV (S : Sys) (fn : Func) (e : Ex) (s : List AV) (H : AH) : Option AV := match e with
  | .exit _ | .goto _ | .panic _ => none
  | _ => resultsK S s H fn.results.toList [] fun vs => some (bundle vs)

/-- A function's answer alone. -/
def runV (S : Sys) (call : Caller) (lp : Looper) (fn : Func) (args : List AV) (H : AH) : Option AV :=
  match fn.body with
  | none => none
  | some c => denK S call lp c (args ++ List.replicate (fn.ntmps - args.length) .top) H (endV S fn)

theorem oneResult_rel {R R' : Type} {Q : R → R' → Prop} {s : List AV} {H : AH} {rv : ResultVar} {K : AV → Option R} {K' : AV → Option R'} {r : R} (hK : ∀ v r, K v = some r → ∃ r', K' v = some r' ∧ Q r r') (h : oneResult S s H rv K = some r) : ∃ r', oneResult S s H rv K' = some r' ∧ Q r r' := by
  unfold oneResult at h ⊢
  split at h
  · exact hK _ _ h
  · split at h
    · rw [loadK_nat] at h ⊢
      obtain ⟨v, h1, h2⟩ := optK_inv2 h
      rw [h1]; exact hK _ _ h2
    · simp at h

theorem resultsK_rel {R R' : Type} {Q : R → R' → Prop} {s : List AV} {H : AH} : ∀ (rs : List ResultVar) (acc : List AV) {K : List AV → Option R} {K' : List AV → Option R'} {r : R}, (∀ v r, K v = some r → ∃ r', K' v = some r' ∧ Q r r') → resultsK S s H rs acc K = some r → ∃ r', resultsK S s H rs acc K' = some r' ∧ Q r r'
  | [], acc, K, K', r, hK, h => hK _ _ h
  | rv :: rs, acc, K, K', r, hK, h => by
    simp only [resultsK] at h ⊢
    exact oneResult_rel (fun v r h' => resultsK_rel rs (acc ++ [v]) hK h') h

theorem runV_runK {call : Caller} {lp : Looper} {fn : Func} {args : List AV} {H : AH} {v : AV} (h : runV S call lp fn args H = some v) : ∃ H', runK S call lp fn args H = some (.val v H') := by
  unfold runV at h
  unfold runK
  split at h
  · simp at h
  · rename_i c hb
    have key : ∀ (s : List AV) (H : AH) (r : AV), resultsK S s H fn.results.toList [] (fun vs => some (bundle vs)) = some r → ∃ r', resultsK S s H fn.results.toList [] (fun vs => some (Res.val (bundle vs) H)) = some r' ∧ ∃ H', r' = .val r H' :=
      fun s H r h' => resultsK_rel (Q := fun (v : AV) (p : Res) => ∃ H', p = .val v H') (K' := fun vs => some (.val (bundle vs) H)) _ _ (fun v r h => by obtain rfl := Option.some.inj h; exact ⟨_, rfl, _, rfl⟩) h'
    obtain ⟨r', h1, H', h2⟩ := denK_rel (Q := fun (v : AV) (p : Res) => ∃ H', p = .val v H') (K' := endR S fn) c (fun e s H r h' => by
        cases e with
        | normal => exact key s H r h'
        | ret => exact key s H r h'
        | _ => simp [endV] at h') h
    subst h2
    exact ⟨H', by simp only [hb]; exact h1⟩

theorem le_rfl (c : Caller) : c.le c := ⟨fun _ _ _ _ h => h, fun _ _ _ _ h => h⟩

/-- A function that is called with trees: its answer by a table of answers, loops with fuel. -/
theorem callL_val {c : Caller} (hc : Table S c) (n : Nat) {f : FuncId} {fn : Func} {args ts : List AV} {H : AH} {v v' : AV} (hext : S.ext f = none) (hF : S.F f = some fn) (hp : S.isPure f = true)
    (hres : resolveL H args = some ts) (hrun : runV S c (fun b => iter S.room b n) fn ts ⟨[], []⟩ = some v) (hout : pureOut args v = some v') : callL S f args H = some (v', H) := by
  obtain ⟨H', h⟩ := runV_runK hrun
  exact callL_pure hc hext hF hp hres (runK_mono (le_rfl c) h) hout

/-- The same, loops without fuel. -/
theorem callL_valL {c : Caller} (hc : Table S c) {f : FuncId} {fn : Func} {args ts : List AV} {H : AH} {v v' : AV} (hext : S.ext f = none) (hF : S.F f = some fn) (hp : S.isPure f = true)
    (hres : resolveL H args = some ts) (hrun : runV S c (loopL S.room) fn ts ⟨[], []⟩ = some v) (hout : pureOut args v = some v') : callL S f args H = some (v', H) := by
  obtain ⟨H', h⟩ := runV_runK hrun
  exact callL_pure hc hext hF hp hres h hout

/-- Parts of code. -/
def subC : Code → List Nat → Code
  | c, [] => c
  | .seq a b, n :: r => subC (match n with | 0 => a | _ => b) r
  | .cond _ a b, n :: r => subC (match n with | 0 => a | _ => b) r
  | .block _ c, _ :: r => subC c r
  | .loop c, _ :: r => subC c r
  | .scope c, _ :: r => subC c r
  | c, _ => c

/-- What follows a part of code. -/
def kontK (S : Sys) (call : Caller) (lp : Looper) : Code → List Nat → (Ex → List AV → AH → Option R) → Ex → List AV → AH → Option R
  | _, [], K => K
  | .seq a b, n :: r, K => match n with
    | 0 => kontK S call lp a r fun e s H => match e with
      | .normal => denK S call lp b s H K
      | e => K e s H
    | _ => kontK S call lp b r K
  | .cond _ a b, n :: r, K => kontK S call lp (match n with | 0 => a | _ => b) r K
  | .block id c, _ :: r, K => kontK S call lp c r fun e s H => match e with
    | .exit i => if i = id then K .normal s H else K (.exit i) s H
    | e => K e s H
  | .scope c, _ :: r, K => kontK S call lp c r (jumpK S call c K)
  | _, _, K => K

def bodyOf (fn : Func) : Code := match fn.body with | some c => c | none => .skip

/-- A loop's round. -/
def roundOf (S : Sys) (call : Caller) (lp : Looper) (fn : Func) (path : List Nat) (s : List AV) (H : AH) : Option Out := denK S call lp (subC (bodyOf fn) (path ++ [0])) s H retO
/-- A loop within a function, and what follows it. -/
def loopAt (S : Sys) (call : Caller) (lp : Looper) (fn : Func) (path : List Nat) (s : List AV) (H : AH) : Option AV :=
  optK (lp (roundOf S call lp fn path) s H) fun o => kontK S call lp (bodyOf fn) path (endV S fn) o.1 o.2.1 o.2.2
def afterAt (S : Sys) (call : Caller) (lp : Looper) (fn : Func) (path : List Nat) (o : Out) : Option AV := kontK S call lp (bodyOf fn) path (endV S fn) o.1 o.2.1 o.2.2

theorem loopAt_eq {call : Caller} {lp : Looper} {fn : Func} {path : List Nat} {s : List AV} {H : AH} {o : Out} (h : lp (roundOf S call lp fn path) s H = some o) : loopAt S call lp fn path s H = afterAt S call lp fn path o := by
  unfold loopAt
  rw [h]
  rfl

end Go.Sx

/- THE ENGINE, 39: code in the style of continuations throughout: for runs with unknowns, where a loop's rounds are known in number. -/
set_option linter.unusedSimpArgs false
set_option linter.unusedVariables false
namespace Go.Sx
variable {R : Type} {S : Sys}

def forgetC (H : AH) (s' : List AV) (H' : AH) (K : List AV → AH → Option R) : Option R :=
  match Nat.beq H'.objs.length H.objs.length with
  | true => K s' H'
  | false => br (belowO H.objs.length H'.toks.length (H'.objs.take H.objs.length)) (fun _ => K (s'.map (cutV H.objs.length H'.toks.length)) ⟨H'.objs.take H.objs.length, H'.toks⟩) (fun _ => none)

theorem forgetC_eq {H : AH} {s' : List AV} {H' : AH} {K : List AV → AH → Option R} {r : R} (h : forgetC H s' H' K = some r) : K (forget H s' H').1 (forget H s' H').2 = some r := by
  unfold forgetC at h
  unfold forget
  split at h
  · rename_i e1
    rw [if_pos e1]
    exact h
  · rename_i e1
    rw [if_neg (by rw [e1]; simp)]
    cases hb : belowO H.objs.length H'.toks.length (H'.objs.take H.objs.length) with
    | true => rw [hb] at h; simp only [if_true]; exact h
    | false => rw [hb] at h; simp [br] at h

/-- A round's end, where tests may be unknown. -/
def backC (room : Nat) (s : List AV) (H : AH) (s' : List AV) (H' : AH) (K : List AV → AH → Option R) : Option R :=
  match room with
  | 0 => forgetC H s' H' K
  | 2 => forgetC H (resetL s s') H' K
  | n + 1 => K (back (n + 1) s H s' H').1 (back (n + 1) s H s' H').2

theorem backC_eq {room : Nat} {s : List AV} {H : AH} {s' : List AV} {H' : AH} {K : List AV → AH → Option R} {r : R} (h : backC room s H s' H' K = some r) : K (back room s H s' H').1 (back room s H s' H').2 = some r := by
  unfold backC at h
  split at h
  · exact forgetC_eq h
  · exact forgetC_eq h
  · exact h

def iterC (room : Nat) (body : List AV → AH → (Ex → List AV → AH → Option R) → Option R) : Nat → List AV → AH → (Ex → List AV → AH → Option R) → Option R
  | 0, _, _, _ => none
  | n + 1, s, H, K => body s H fun e s' H' => match e with
    | .normal => backC room s H s' H' fun s H => iterC room body n s H K
    | e => K e (outS room s s') H'

def denC (S : Sys) (call : Caller) (fuel : Nat) : {R : Type} → Code → List AV → AH → (Ex → List AV → AH → Option R) → Option R
  | _, .skip, s, H, K => K .normal s H
  | _, .region _ ops draw, s, H, K =>
    if draw && !drawOK S ops then
      (if drawOK2 S ops then optK (runB (bornId H.objs.length (birthsOf ops.toList)) S call ops ops.toList s (reserve H (birthsOf ops.toList).length)) fun p => K .normal p.1 p.2 else none)
    else opsK S call ops ops.toList s H fun s H => K .normal s H
  | _, .seq a b, s, H, K => denC S call fuel a s H fun e s H => match e with
    | .normal => denC S call fuel b s H K
    | e => K e s H
  | _, .cond c a b, s, H, K => match ev S.G s c with
    | .bool t => br t (fun _ => denC S call fuel a s H K) (fun _ => denC S call fuel b s H K)
    | _ => none
  | _, .block id c, s, H, K => denC S call fuel c s H fun e s H => match e with
    | .exit i => if i = id then K .normal s H else K (.exit i) s H
    | e => K e s H
  | _, .loop c, s, H, K => iterC S.room (fun s H K => denC S call fuel c s H K) fuel s H K
  | _, .scope c, s, H, K => denC S call fuel c s H (jumpK S call c K)
  | _, .goto l, s, H, K => K (.goto l) s H
  | _, .exit id, s, H, K => K (.exit id) s H
  | _, .ret, s, H, K => K .ret s H
  | _, .label _, s, H, K => K .normal s H
  | _, .rangeFunc g ps x y, s, H, K => rangeK call (ev S.G s g) s H ps.toList x y K
  | _, _, _, _, _ => none

theorem denK_eq {c : Caller} {lp : Looper} (code : Code) {R : Type} {s : List AV} {H : AH} {K K' : Ex → List AV → AH → Option R} {r : R} (hK : ∀ e s H r, K e s H = some r → K' e s H = some r) (h : denK S c lp code s H K = some r) : denK S c lp code s H K' = some r := by
  obtain ⟨r', h1, rfl⟩ := denK_rel (Q := fun a b => a = b) code (fun e s H r h => ⟨r, hK _ _ _ _ h, rfl⟩) h
  exact h1

theorem denK_out {c : Caller} {lp : Looper} (code : Code) {R : Type} {s : List AV} {H : AH} {K : Ex → List AV → AH → Option R} {r : R} (h : denK S c lp code s H K = some r) : ∃ o, denK S c lp code s H retO = some o ∧ K o.1 o.2.1 o.2.2 = some r := by
  obtain ⟨o, h1, h2⟩ := denK_rel (Q := fun (a : R) (o : Out) => K o.1 o.2.1 o.2.2 = some a) (K' := retO) code (fun e s H r h => ⟨(e, s, H), rfl, h⟩) h
  exact ⟨o, h1, h2⟩

theorem iterC_iter {room : Nat} {bodyC : List AV → AH → (Ex → List AV → AH → Option R) → Option R} {body : List AV → AH → Option Out}
    (hb : ∀ s H K r, bodyC s H K = some r → ∃ o, body s H = some o ∧ K o.1 o.2.1 o.2.2 = some r) : ∀ (n : Nat) {s : List AV} {H : AH} {K : Ex → List AV → AH → Option R} {r : R}, iterC room bodyC n s H K = some r → ∃ o, iter room body n s H = some o ∧ K o.1 o.2.1 o.2.2 = some r
  | 0, s, H, K, r, h => by simp [iterC] at h
  | n + 1, s, H, K, r, h => by
    simp only [iterC] at h
    obtain ⟨⟨e, s1, H1⟩, h1, h2⟩ := hb _ _ _ _ h
    simp only [iter, h1]
    cases e with
    | normal => exact iterC_iter hb n (backC_eq h2)
    | _ => exact ⟨_, rfl, h2⟩

theorem stepD_X {call : Caller} {all : Array Oper} {o : Oper} {s : List AV} {H : AH} {p : List AV × AH} (h : stepD S call all o s H = some p) : stepX S call all o s H = some (.normal, p.1, p.2) := by
  unfold stepD at h
  unfold stepX
  split at h
  · rename_i hw
    rw [hw]
    obtain ⟨q, h1, h2⟩ := optK_inv2 h
    simp only
    rw [panOf_none h1]
    simp only
    rw [opK_nat, h1]
    simp only [Option.some.injEq] at h2
    simp only [optK_some, ← h2]
  · rename_i hw
    rw [hw]
    simp only [Option.some.injEq] at h
    simp only [← h]
  · simp at h
theorem runD_X {call : Caller} {all : Array Oper} : ∀ (l : List Oper) {s : List AV} {H : AH} {p : List AV × AH}, runD S call all l s H = some p → runX S call all l s H = some (.normal, p.1, p.2)
  | [], s, H, p, h => by
    simp only [runD, Option.some.injEq] at h
    subst h; rfl
  | o :: l, s, H, p, h => by
    simp only [runD] at h
    obtain ⟨q, h1, h2⟩ := optK_inv2 h
    simp only [runX, stepD_X h1, thenX_go]
    exact runD_X l h2
/-- A region without panics. -/
theorem opsK_reg {call : Caller} {ops : Array Oper} {draw : Bool} {s : List AV} {H : AH} {K : Ex → List AV → AH → Option R} {r : R} (hd : ¬ (draw && !drawOK S ops) = true) (h : (opsK S call ops ops.toList s H fun s H => K .normal s H) = some r) : regK S call ops draw s H K = some r := by
  rw [opsK_run] at h
  obtain ⟨p, h1, h2⟩ := optK_inv2 h
  unfold regK
  rw [if_neg hd, runD_X _ h1]
  simpa [optK_some, isPan] using h2

theorem denC_den {c : Caller} {n : Nat} : ∀ (code : Code) {R : Type} {s : List AV} {H : AH} {K : Ex → List AV → AH → Option R} {r : R}, denC S c n code s H K = some r → denK S c (fun b => iter S.room b n) code s H K = some r
  | .skip, R, s, H, K, r, hr => hr
  | .region id ops draw, R, s, H, K, r, hr => by
    simp only [denC, denK] at hr ⊢
    split at hr
    · rename_i hd
      unfold regK
      rw [if_pos hd]
      split at hr
      · rename_i hd2; rw [if_pos hd2]; exact hr
      · simp at hr
    · rename_i hd
      exact opsK_reg hd hr
  | .seq a b, R, s, H, K, r, hr => by
    simp only [denC, denK] at hr ⊢
    refine denK_eq a ?_ (denC_den a hr)
    intro e s H r h'
    cases e with
    | normal => exact denC_den b h'
    | _ => exact h'
  | .cond x a b, R, s, H, K, r, hr => by
    simp only [denC, denK] at hr ⊢
    split at hr
    · rename_i t ht
      rw [ht]
      cases t with
      | true => exact denC_den (n := n) a hr
      | false => exact denC_den (n := n) b hr
    · simp at hr
  | .block id x, R, s, H, K, r, hr => by
    simp only [denC, denK] at hr ⊢
    exact denC_den x hr
  | .loop x, R, s, H, K, r, hr => by
    simp only [denC, denK] at hr ⊢
    obtain ⟨o, h1, h2⟩ := iterC_iter (body := fun s H => denK S c (fun b => iter S.room b n) x s H retO) (fun s H K r h => denK_out x (denC_den x h)) n hr
    rw [h1]; exact h2
  | .scope x, R, s, H, K, r, hr => by
    simp only [denC, denK] at hr ⊢
    exact denC_den x hr
  | .exit id, R, s, H, K, r, hr => hr
  | .ret, R, s, H, K, r, hr => hr
  | .label l, R, s, H, K, r, hr => hr
  | .rangeFunc g ps x y, R, s, H, K, r, hr => by simp only [denC, denK] at hr ⊢; exact hr
  | .goto l, R, s, H, K, r, hr => hr
  | .refuse w, R, s, H, K, r, hr => by simp [denC] at hr

def runC (S : Sys) (call : Caller) (n : Nat) (fn : Func) (args : List AV) (H : AH) : Option AV :=
  match fn.body with
  | none => none
  | some c => denC S call n c (args ++ List.replicate (fn.ntmps - args.length) .top) H (endV S fn)

/-- A function that is called with trees: its answer by a table of answers, every loop's rounds known. -/
theorem callL_C {c : Caller} (hc : Table S c) {n : Nat} {f : FuncId} {fn : Func} {args ts : List AV} {H : AH} {v v' : AV} (hext : S.ext f = none) (hF : S.F f = some fn) (hp : S.isPure f = true)
    (hres : resolveL H args = some ts) (hrun : runC S c n fn ts ⟨[], []⟩ = some v) (hout : pureOut args v = some v') : callL S f args H = some (v', H) := by
  refine callL_val hc n hext hF hp hres ?_ hout
  unfold runC at hrun
  unfold runV
  obtain ⟨b, hb⟩ : ∃ b, fn.body = some b := by
    cases h : fn.body with
    | none => rw [h] at hrun; simp at hrun
    | some b => exact ⟨b, rfl⟩
  rw [hb] at hrun ⊢
  exact denC_den b hrun

end Go.Sx

/- THE ENGINE, 39b: unknown values brought into the form of constructors, by their types: what is unknown stands in tests and in projections. -/
set_option linter.unusedSimpArgs false
set_option linter.unusedVariables false
namespace Go.Sx
variable {R : Type} {S : Sys}

inductive Sh where
  | any
  | bool
  | int (k : IntKind)
  | str

/-- The shapes of a type's cells. -/
def shOf (T : TypeId → Option TI) : Nat → TypeId → List Sh
  | 0, _ => [.any]
  | n + 1, t => match T t with
    | none => [.any]
    | some i => match i.k with
      | .bool => [.bool]
      | .int k => [.int k]
      | .string => [.str]
      | .struct fs => fs.flatMap fun f => shOf T n f.2
      | .array m e => (List.replicate m (shOf T n e)).flatten
      | _ => [.any]

def AV.numOf : AV → Int
  | .int _ n => n
  | _ => 0
def AV.boolOf : AV → Bool
  | .bool b => b
  | _ => false
def AV.strOf : AV → List UInt8
  | .str s => s
  | _ => []
def AV.listOf : AV → List AV
  | .inl _ _ _ xs => xs
  | _ => []
def AV.aggOf : AV → List AV
  | .agg cs => cs
  | _ => []
def AV.isAgg : AV → Bool
  | .agg _ => true
  | _ => false
/-- A slice of elements of n cells, told as a list. -/
def AV.listN (n : Nat) : AV → Bool
  | .nils => true
  | .inl _ _ sz _ => Nat.beq sz n
  | _ => false

def fitS : Sh → AV → Bool
  | .any, _ => true
  | .bool, .bool _ => true
  | .int k, .int k' _ => decide (k = k')
  | .str, .str _ => true
  | _, _ => false
def shS : Sh → AV → AV
  | .any, v => v
  | .bool, v => .bool v.boolOf
  | .int k, v => .int k v.numOf
  | .str, v => .str v.strOf
def fitL : List Sh → List AV → Bool
  | [], [] => true
  | s :: r, v :: l => fitS s v && fitL r l
  | _, _ => false
def hdV : List AV → AV
  | v :: _ => v
  | [] => .top
def tlV : List AV → List AV
  | _ :: r => r
  | [] => []
def shL : List Sh → List AV → List AV
  | [], _ => []
  | s :: r, l => shS s (hdV l) :: shL r (tlV l)

theorem shS_eq : ∀ {s : Sh} {v : AV}, fitS s v = true → shS s v = v
  | .any, _, _ => rfl
  | .bool, v, h => by cases v <;> first | rfl | simp [fitS] at h
  | .int k, v, h => by cases v <;> simp_all [fitS, shS, AV.numOf]
  | .str, v, h => by cases v <;> first | rfl | simp [fitS] at h
theorem shL_eq : ∀ {s : List Sh} {l : List AV}, fitL s l = true → shL s l = l
  | [], [], _ => rfl
  | s :: r, v :: l, h => by
    simp only [fitL, Bool.and_eq_true] at h
    simp only [shL, hdV, tlV]
    rw [shS_eq h.1, shL_eq h.2]
  | [], _ :: _, h => by simp [fitL] at h
  | _ :: _, [], h => by simp [fitL] at h

/-- A value in the form of its type. -/
def etaV (T : TypeId → Option TI) (t : TypeId) (v : AV) (K : AV → Option R) : Option R :=
  match T t with
  | none => none
  | some i => match i.isAgg with
    | true => br (v.isAgg && fitL (shOf T 6 t) v.aggOf) (fun _ => K (.agg (shL (shOf T 6 t) v.aggOf))) (fun _ => none)
    | false => match shOf T 6 t with
      | [s] => br (fitS s v) (fun _ => K (shS s v)) (fun _ => none)
      | _ => none

theorem brb {b : Bool} {f : Unit → Option R} {r : R} (h : br b f (fun _ => none) = some r) : b = true ∧ f () = some r := by
  cases b
  · simp [br] at h
  · exact ⟨rfl, h⟩

theorem etaV_eq {T : TypeId → Option TI} {t : TypeId} {v : AV} {K : AV → Option R} {r : R} (h : etaV T t v K = some r) : K v = some r := by
  unfold etaV at h
  split at h
  · simp at h
  · split at h
    · obtain ⟨h1, h2⟩ := brb h
      simp only [Bool.and_eq_true] at h1
      rw [shL_eq h1.2] at h2
      cases v with
      | agg cs => exact h2
      | _ => simp [AV.isAgg] at h1
    · split at h
      · obtain ⟨h1, h2⟩ := brb h
        rw [shS_eq h1] at h2
        exact h2
      · simp at h

def lenH (S : Sys) (ts : Array TypeId) (x : AV) (H : AH) (K : AV → AH → Option R) : Option R :=
  match ts[0]? with
  | none => none
  | some t => match S.T t with
    | none => none
    | some i => match i.k with
      | .slice e => match S.T e with
        | some j => br (x.listN j.size) (fun _ => K (.int .i64 x.listOf.length) H) (fun _ => none)
        | none => none
      | _ => none

theorem lenH_eq {ts : Array TypeId} {x : AV} {H : AH} {K : AV → AH → Option R} {r : R} (h : lenH S ts x H K = some r) : builtinK S H .len ts [x] K = some r := by
  unfold lenH at h
  show lenK S H ts x (fun v => K v H) = some r
  unfold lenK
  split at h
  · simp at h
  · rename_i t ht
    rw [ht]
    simp only
    split at h
    · simp at h
    · rename_i i hi
      rw [hi]
      simp only
      split at h
      · rename_i e hk
        split at h
        · rename_i j hj
          obtain ⟨h1, h2⟩ := brb h
          rw [hk]
          cases x with
          | nils => exact h2
          | inl f p sz xs => exact h2
          | _ => simp [AV.listN] at h1
        · simp at h
      · simp at h

def idxH (S : Sys) (t : TypeId) (x ix : AV) (H : AH) (K : AV → AH → Option R) : Option R :=
  asIntK ix fun _ n => match S.T t with
    | none => none
    | some i => match i.k with
      | .slice e => match S.T e with
        | some j => br (x.listN j.size && (decide (0 ≤ n) && decide (n < (x.listOf.length : Int)))) (fun _ => match x.listOf[n.toNat]? with
          | some u => etaV S.T e u fun u => K (.rop u) H
          | none => none) (fun _ => none)
        | none => none
      | _ => none

theorem idxH_eq {t : TypeId} {x ix : AV} {H : AH} {K : AV → AH → Option R} {r : R} (h : idxH S t x ix H K = some r) : (match S.T t with | some i => indexAddrK i S.T x ix fun v => K v H | none => none) = some r := by
  unfold idxH at h
  unfold indexAddrK
  unfold asIntK at h ⊢
  split at h
  · rename_i k n
    simp only at h
    split at h
    · simp at h
    · rename_i i hi
      simp only
      split at h
      · rename_i e hk
        split at h
        · rename_i j hj
          obtain ⟨h1, h2⟩ := brb h
          simp only [Bool.and_eq_true, decide_eq_true_eq] at h1
          obtain ⟨h1, h0, h3⟩ := h1
          split at h2
          · rename_i u hu
            have h4 := etaV_eq h2
            simp only [hi, hk, hj]
            cases x with
            | nils => simp [AV.listOf] at hu
            | inl f p sz xs =>
              simp only [AV.listOf] at hu h3
              simp only
              rw [if_pos ⟨h0, h3⟩, if_pos (Nat.eq_of_beq_eq_true h1), hu]
              exact h4
            | _ => simp [AV.listN] at h1
          · simp at h2
        · simp at h
      · simp at h
  · simp at h

def elT (S : Sys) (t : TypeId) : Option (TypeId × TI) := match S.T t with
  | some i => match i.k with
    | .slice e => (S.T e).map fun j => (e, j)
    | _ => none
  | none => none

/-- Elements that are appended, from an unknown slice. -/
def appH (S : Sys) (ts : Array TypeId) (s x : AV) (H : AH) (K : AV → AH → Option R) : Option R :=
  match ts[0]? with
  | none => none
  | some t => match elT S t with
    | some (_, j) => br (x.listN j.size) (fun _ => appendK S H ts s (.inl false .unk j.size x.listOf) K) (fun _ => none)
    | none => none

theorem appH_eq {ts : Array TypeId} {s x : AV} {H : AH} {K : AV → AH → Option R} {r : R} (h : appH S ts s x H K = some r) : builtinK S H .append ts [s, x] K = some r := by
  unfold appH at h
  show appendK S H ts s x K = some r
  split at h
  · simp at h
  · rename_i t ht
    split at h
    · rename_i e j he
      obtain ⟨h1, h2⟩ := brb h
      unfold elT at he
      split at he
      · rename_i i hi
        split at he
        · rename_i e' hk
          obtain ⟨j', hj, he⟩ := Option.map_eq_some_iff.1 he
          simp only [Prod.mk.injEq] at he
          obtain ⟨rfl, rfl⟩ := he
          unfold appendK at h2 ⊢
          simp only [ht, hi, hk, hj] at h2 ⊢
          have e1 : srcOf H j'.size x = srcOf H j'.size (.inl false .unk j'.size x.listOf) := by
            cases x with
            | nils => simp [srcOf, elemsK, AV.listOf]
            | inl f p sz xs => simp [srcOf, elemsK, AV.listOf, Nat.eq_of_beq_eq_true h1]
            | _ => simp [AV.listN] at h1
          rw [e1]
          exact h2
        · simp at he
      · simp at he
    · simp at h

/-- A map's value, or the type's zero. -/
def getM (T : TypeId → Option TI) (kt : TypeId) (k z : AV) (es : List (AV × AV)) : Option AV := match findK T kt k es 0 with
  | some (some (_, v)) => some v
  | some none => some z
  | none => none
def hasM (T : TypeId → Option TI) (kt : TypeId) (k : AV) (es : List (AV × AV)) : Bool := match findK T kt k es 0 with
  | some (some _) => true
  | _ => false
def putM (T : TypeId → Option TI) (kt : TypeId) (k v : AV) (es : List (AV × AV)) : Option (List (AV × AV)) := match findK T kt k es 0 with
  | some (some (n, _)) => match es[n]? with
    | some e => if sameA e.1 k then some (es.set n (e.1, v)) else none
    | none => none
  | some none => some (es ++ [(k, v)])
  | none => none

def lookH (S : Sys) (t : TypeId) (x ix : AV) (ok : Bool) (H : AH) (K : AV → AH → Option R) : Option R :=
  match S.T t with
  | none => none
  | some i => match i.k with
    | .map kt e => match S.T e, S.T kt with
      | some j, some q => br (keyable q && (eqv S.T eqDepth kt ix ix).isSome) (fun _ => match x with
        | .map id => match H.objs[id]? with
          | some (.map es _ _) => optK (getM S.T kt ix j.zero es) fun v => etaV S.T e v fun v => match ok with
            | true => K (.tuple [v, .bool (hasM S.T kt ix es)]) H
            | false => K v H
          | _ => none
        | _ => none) (fun _ => none)
      | _, _ => none
    | _ => none

theorem lookH_eq {t : TypeId} {x ix : AV} {ok : Bool} {H : AH} {K : AV → AH → Option R} {r : R} (h : lookH S t x ix ok H K = some r) : (match S.T t with | some i => lookupK S H i x ix ok fun v => K v H | none => none) = some r := by
  unfold lookH at h
  unfold lookupK
  split at h
  · simp at h
  · rename_i i hi
    split at h
    · rename_i kt e hk
      split at h
      · rename_i j q hj hq
        obtain ⟨h1, h2⟩ := brb h
        simp only [Bool.and_eq_true] at h1
        simp only [hi, hk, hj, hq, h1.1, if_true]
        rw [if_neg (by rw [h1.2]; simp)]
        split at h2
        · rename_i id
          simp only
          split at h2
          · rename_i es bs0 ck0 ho
            rw [ho]
            simp only
            unfold getM hasM at h2
            split at h2
            · rename_i m v hf
              rw [hf]
              simp only [optK] at h2 ⊢
              have h3 := etaV_eq h2
              simp only [hf] at h3
              cases ok <;> exact h3
            · rename_i hf
              rw [hf]
              simp only [optK] at h2 ⊢
              have h3 := etaV_eq h2
              simp only [hf] at h3
              cases ok <;> exact h3
            · simp [optK] at h2
          · simp at h2
        · simp at h2
      · simp at h
    · simp at h

def putBs (old : Bool) (bs : List Nat) (ck : Nat) : List Nat := match old with | true => bs | false => bs ++ [ck]
def putCk (old : Bool) (ck : Nat) : Nat := match old with | true => ck | false => ck + 1
def putH (S : Sys) (t : TypeId) (m k v : AV) (H : AH) (K : AV → AH → Option R) : Option R :=
  match S.T t with
  | none => none
  | some i => match i.k with
    | .map kt _ => match S.T kt with
      | some q => br (keyable q && (eqv S.T eqDepth kt k k).isSome) (fun _ => match m with
        | .map id => match H.objs[id]? with
          | some (.map es bs ck) => optK (putM S.T kt k v es) fun es' => K .top { H with objs := H.objs.set id (.map es' (putBs (hasM S.T kt k es) bs ck) (putCk (hasM S.T kt k es) ck)) }
          | _ => none
        | _ => none) (fun _ => none)
      | none => none
    | _ => none

theorem putH_eq {t : TypeId} {m k v : AV} {H : AH} {K : AV → AH → Option R} {r : R} (h : putH S t m k v H K = some r) : (match S.T t with | some i => mapUpdateK S H i m k v fun H => K .top H | none => none) = some r := by
  unfold putH at h
  unfold mapUpdateK
  split at h
  · simp at h
  · rename_i i hi
    split at h
    · rename_i kt e hk
      split at h
      · rename_i q hq
        obtain ⟨h1, h2⟩ := brb h
        simp only [Bool.and_eq_true] at h1
        simp only [hi, hk, hq, h1.1, if_true]
        rw [if_neg (by rw [h1.2]; simp)]
        split at h2
        · rename_i id
          simp only
          split at h2
          · rename_i es bs0 ck0 ho
            rw [ho]
            simp only
            unfold putM hasM at h2
            split at h2
            · rename_i n v' hf
              simp only [hf, putBs, putCk] at h2
              rw [hf]
              simp only
              split at h2
              · rename_i e' he
                rw [he]
                simp only
                split at h2
                · rename_i hs
                  rw [if_pos hs]
                  exact h2
                · simp [optK] at h2
              · simp [optK] at h2
            · rename_i hf
              simp only [hf, putBs, putCk] at h2
              rw [hf]
              exact h2
            · simp [optK] at h2
          · simp at h2
        · simp at h2
      · simp at h
    · simp at h

/-- The answer of a call, in the form of its types. -/
def etaAll (T : TypeId → Option TI) : List TypeId → List AV → List AV → (List AV → Option R) → Option R
  | [], _, acc, K => K acc
  | t :: ts, vs, acc, K => etaV T t (hdV vs) fun v => etaAll T ts (tlV vs) (acc ++ [v]) K

def AV.tupOf : AV → List AV
  | .tuple vs => vs
  | _ => []
def AV.isTup (n : Nat) : AV → Bool
  | .tuple vs => Nat.beq vs.length n
  | _ => false

def etaRes (S : Sys) (f : FuncId) (v : AV) (K : AV → Option R) : Option R :=
  match S.eta 0 with
  | false => K v
  | true => match S.F f with
    | none => K v
    | some fn => match fn.resultTypes.toList with
      | [] => K v
      | [t] => etaV S.T t v K
      | ts => br (v.isTup ts.length) (fun _ => etaAll S.T ts v.tupOf [] fun vs => K (.tuple vs)) (fun _ => none)

theorem etaAll_eq {T : TypeId → Option TI} : ∀ (ts : List TypeId) (vs acc : List AV) {K : List AV → Option R} {r : R}, vs.length = ts.length → etaAll T ts vs acc K = some r → K (acc ++ vs) = some r
  | [], [], acc, K, r, hl, h => by simpa [etaAll] using h
  | t :: ts, v :: vs, acc, K, r, hl, h => by
    simp only [etaAll, hdV, tlV] at h
    have h1 := etaV_eq h
    have := etaAll_eq ts vs (acc ++ [v]) (by simpa using hl) h1
    simpa using this
  | [], _ :: _, acc, K, r, hl, h => by simp at hl
  | _ :: _, [], acc, K, r, hl, h => by simp at hl

theorem etaRes_eq {f : FuncId} {v : AV} {K : AV → Option R} {r : R} (h : etaRes S f v K = some r) : K v = some r := by
  unfold etaRes at h
  split at h
  · exact h
  · split at h
    · exact h
    · split at h
      · exact h
      · exact etaV_eq h
      · obtain ⟨h1, h2⟩ := brb h
        cases v with
        | tuple vs =>
          have := etaAll_eq _ vs [] (Nat.eq_of_beq_eq_true h1) h2
          simpa using this
        | _ => simp [AV.isTup] at h1

/-- A value of one cell. -/
def AV.isOne : AV → Bool
  | .top => false
  | .tuple _ => false
  | .agg _ => false
  | _ => true
theorem isOne_cells {v : AV} (h : v.isOne = true) : v.cells = [v] ∧ v.solid = true := by
  cases v <;> first | exact ⟨rfl, rfl⟩ | simp [AV.isOne] at h

/-- A store of a value of one cell. -/
def storeH (S : Sys) (t : TypeId) (a v : AV) (H : AH) (K : AV → AH → Option R) : Option R :=
  match S.T t with
  | none => none
  | some i => match i.isAgg with
    | true => if v.solid then storeK H i a v fun H => K .top H else none
    | false => br v.isOne (fun _ => match a with
      | .ptr id off => match H.objs[id]? with
        | some (.cells cs) => if 1 = i.size && off + i.size ≤ cs.length then K .top { H with objs := H.objs.set id (.cells (splice cs off [v])) } else none
        | some (.tcells u cs) => if 1 = i.size && off + i.size ≤ cs.length then K .top { H with objs := H.objs.set id (.tcells u (splice cs off [v])) } else none
        | _ => none
      | _ => none) (fun _ => none)

theorem storeH_eq {t : TypeId} {a v : AV} {H : AH} {K : AV → AH → Option R} {r : R} (h : storeH S t a v H K = some r) : (match S.T t with | some i => if v.solid then storeK H i a v fun H => K .top H else none | none => none) = some r := by
  unfold storeH at h
  split at h
  · simp at h
  · rename_i i hi
    simp only [hi]
    split at h
    · exact h
    · obtain ⟨h1, h2⟩ := brb h
      obtain ⟨h3, h4⟩ := isOne_cells h1
      rw [if_pos h4]
      unfold storeK
      split at h2
      · rename_i id off
        simp only
        split at h2
        · rename_i cs ho
          rw [ho]
          simp only [h3, List.length_singleton]
          exact h2
        · rename_i u cs ho
          rw [ho]
          simp only [h3, List.length_singleton]
          exact h2
        · simp at h2
      · simp at h2

/-- Parts put into cells, by their places' types. -/
def fillT (T : TypeId → Option TI) (ty : Nat → Option (Nat × TypeId)) (cells : List AV) : List (Nat × AV) → (List AV → Option R) → Option R
  | [], K => K cells
  | (i, v) :: rest, K => match ty i with
    | none => none
    | some (off, t) => match T t with
      | none => none
      | some j => match j.isAgg with
        | true => if v.cells.length = j.size && off + j.size ≤ cells.length then fillT T ty (splice cells off v.cells) rest K else none
        | false => br v.isOne (fun _ => if 1 = j.size && off + j.size ≤ cells.length then fillT T ty (splice cells off [v]) rest K else none) (fun _ => none)

theorem fillT_eq {T : TypeId → Option TI} {fs : List (Nat × TypeId)} : ∀ (ps : List (Nat × AV)) {cells : List AV} {K : List AV → Option R} {r : R}, fillT T (fun i => fs[i]?) cells ps K = some r → ∃ cs, fillL (places T fs) cells ps = some cs ∧ K cs = some r
  | [], cells, K, r, h => ⟨cells, rfl, h⟩
  | (i, v) :: rest, cells, K, r, h => by
    simp only [fillT] at h
    simp only [fillL, places]
    split at h
    · simp at h
    · rename_i off t ht
      rw [ht]
      simp only
      split at h
      · simp at h
      · rename_i j hj
        rw [hj]
        simp only [Option.map_some]
        split at h
        · split at h
          · rename_i hc
            rw [if_pos hc]
            exact fillT_eq rest h
          · simp at h
        · obtain ⟨h1, h2⟩ := brb h
          obtain ⟨h3, h4⟩ := isOne_cells h1
          split at h2
          · rename_i hc
            rw [h3, List.length_singleton, if_pos hc]
            exact fillT_eq rest h2
          · simp at h2

def partsOk : List (Nat × AV) → (Unit → Option R) → Option R
  | [], f => f ()
  | p :: r, f => br p.2.solid (fun _ => partsOk r f) (fun _ => none)
theorem partsOk_eq : ∀ {ps : List (Nat × AV)} {f : Unit → Option R} {r : R}, partsOk ps f = some r → (ps.all fun p => p.2.solid) = true ∧ f () = some r
  | [], f, r, h => ⟨rfl, h⟩
  | p :: ps, f, r, h => by
    simp only [partsOk] at h
    obtain ⟨h1, h2⟩ := brb h
    obtain ⟨h3, h4⟩ := partsOk_eq h2
    exact ⟨by simp only [List.all_cons, h1, h3]; rfl, h4⟩

def buildH (S : Sys) (t : TypeId) (ps : List (Nat × AV)) (H : AH) (K : AV → AH → Option R) : Option R :=
  match S.T t with
  | none => none
  | some i => match i.k with
    | .struct fs => partsOk ps fun _ => fillT S.T (fun n => fs[n]?) i.zero.cells ps fun cs => K (.agg cs) H
    | _ => if ps.all fun p => p.2.solid then buildK i S.T ps fun v => K v H else none

theorem buildH_eq {t : TypeId} {ps : List (Nat × AV)} {H : AH} {K : AV → AH → Option R} {r : R} (h : buildH S t ps H K = some r) : (match S.T t with | some i => if ps.all fun p => p.2.solid then buildK i S.T ps fun v => K v H else none | none => none) = some r := by
  unfold buildH at h
  split at h
  · simp at h
  · rename_i i hi
    simp only [hi]
    split at h
    · rename_i fs hk
      obtain ⟨h1, h2⟩ := partsOk_eq h
      obtain ⟨cs, h3, h4⟩ := fillT_eq ps h2
      rw [if_pos h1]
      unfold buildK
      simp only [hk, h3]
      exact h4
    · exact h

/-- A load of one cell of memory that is read only. -/
def loadH (S : Sys) (t : TypeId) (a : AV) (H : AH) (K : AV → AH → Option R) : Option R :=
  match S.T t with
  | none => none
  | some i => match a with
    | .rop v => match i.isAgg with
      | true => loadK H i (.rop v) fun v => K v H
      | false => br v.isOne (fun _ => K v H) (fun _ => none)
    | a => loadK H i a fun v => K v H

theorem loadH_eq {t : TypeId} {a : AV} {H : AH} {K : AV → AH → Option R} {r : R} (h : loadH S t a H K = some r) : (match S.T t with | some i => loadK H i a fun v => K v H | none => none) = some r := by
  unfold loadH at h
  split at h
  · simp at h
  · rename_i i hi
    simp only [hi]
    split at h
    · rename_i v
      split at h
      · exact h
      · rename_i hg
        obtain ⟨h1, h2⟩ := brb h
        unfold loadK
        simp only [hg]
        cases v <;> first | exact h2 | simp [AV.isOne] at h1
    · exact h

/-- A variable for a value of one cell. -/
def boxH (S : Sys) (t : TypeId) (v : AV) (H : AH) (K : AV → AH → Option R) : Option R :=
  match S.T t with
  | none => none
  | some i => match i.isAgg with
    | true => if v.solid then newK H (.cells v.cells) fun id H => K (.ptr id 0) H else none
    | false => br v.isOne (fun _ => newK H (.cells [v]) fun id H => K (.ptr id 0) H) (fun _ => none)

theorem boxH_eq {t : TypeId} {v : AV} {H : AH} {K : AV → AH → Option R} {r : R} (h : boxH S t v H K = some r) : (if v.solid then newK H (.cells v.cells) fun id H => K (.ptr id 0) H else none) = some r := by
  unfold boxH at h
  split at h
  · simp at h
  · split at h
    · exact h
    · obtain ⟨h1, h2⟩ := brb h
      obtain ⟨h3, h4⟩ := isOne_cells h1
      rw [if_pos h4, h3]
      exact h2

/-- An operation whose type is one of those. -/
def etaOp (S : Sys) (s : List AV) (H : AH) (o : Oper) (K : AV → AH → Option R) : Option (Option R) :=
  match o.op with
  | .indexAddr t x ix => match S.eta t with | true => some (idxH S t (ev S.G s x) (ev S.G s ix) H K) | false => none
  | .lookup t x ix ok => match S.eta t with | true => some (lookH S t (ev S.G s x) (ev S.G s ix) ok H K) | false => none
  | .mapUpdate t m k x | .insert t m k x => match S.eta t with | true => some (putH S t (ev S.G s m) (ev S.G s k) (ev S.G s x) H K) | false => none
  | .box t x => match S.eta 0 with | true => some (boxH S t (ev S.G s x) H K) | false => none
  | .load t a => match S.eta 0 with | true => some (loadH S t (ev S.G s a) H K) | false => none
  | .store t a x => match S.eta 0 with | true => some (storeH S t (ev S.G s a) (ev S.G s x) H K) | false => none
  | .build t ps => match S.eta 0 with | true => some (buildH S t (ps.toList.map fun p => (p.1, ev S.G s p.2)) H K) | false => none
  | .call cl => match cl.callee with
    | .builtin .len => match cl.argTypes[0]?, cl.args.toList.map (ev S.G s) with
      | some t, [x] => match S.eta t with | true => some (lenH S cl.argTypes x H K) | false => none
      | _, _ => none
    | .builtin .append => match cl.argTypes[0]?, cl.args.toList.map (ev S.G s) with
      | some t, [a, x] => match S.eta t with | true => some (appH S cl.argTypes a x H K) | false => none
      | _, _ => none
    | _ => none
  | _ => none

theorem etaOp_eq {call : Caller} {s : List AV} {H : AH} {o : Oper} {K : AV → AH → Option R} {p : Option R} {r : R} (h : etaOp S s H o K = some p) (hp : p = some r) : opK S call s H o K = some r := by
  subst hp
  obtain ⟨dst, op, type, pos, after, guard⟩ := o
  unfold etaOp at h
  unfold opK
  simp only at h ⊢
  split at h
  · split at h
    · exact idxH_eq (Option.some.inj h)
    · simp at h
  · split at h
    · exact lookH_eq (Option.some.inj h)
    · simp at h
  · split at h
    · exact putH_eq (Option.some.inj h)
    · simp at h
  · split at h
    · exact putH_eq (Option.some.inj h)
    · simp at h
  · split at h
    · exact boxH_eq (Option.some.inj h)
    · simp at h
  · split at h
    · exact loadH_eq (Option.some.inj h)
    · simp at h
  · split at h
    · exact storeH_eq (Option.some.inj h)
    · simp at h
  · split at h
    · exact buildH_eq (Option.some.inj h)
    · simp at h
  · split at h
    · rename_i hb
      simp only [hb]
      split at h
      · rename_i t x ht hx
        split at h
        · rw [hx]; exact lenH_eq (Option.some.inj h)
        · simp at h
      · simp at h
    · rename_i hb
      simp only [hb]
      split at h
      · rename_i t a x ht hx
        split at h
        · rw [hx]; exact appH_eq (Option.some.inj h)
        · simp at h
      · simp at h
    · simp at h
  · simp at h

end Go.Sx

/- THE ENGINE, 40: calls in the style of continuations too: runs with unknowns through functions. -/
set_option linter.unusedSimpArgs false
set_option linter.unusedVariables false
namespace Go.Sx
variable {R : Type} {S : Sys}

/-- A caller in the style of continuations. -/
abbrev CallI := FuncId → List AV → AH → {R : Type} → (Res → Option R) → Option R

/-- Answers given ahead. -/
abbrev TabT := FuncId → Option ((args : List AV) → (H : AH) → {R : Type} → (Res → Option R) → Option R)

/-- From here on the numbers of loops' yields. -/
def yBase : Nat := 1000000

def keepC (v : AV) (H' : AH) (K : AV × AH → Option R) : Option R := match v with
  | .func _ _ _ => K (v, H')
  | _ => none
/-- What is made of memory behind a call. -/
def truncC (H : AH) (v : AV) (H' : AH) (K : AV × AH → Option R) : Option R :=
  match Nat.beq H'.objs.length H.objs.length && Nat.beq H'.toks.length H.toks.length with
  | true => K (v, H')
  | false => br (below H.objs.length H.toks.length v && belowO H.objs.length H.toks.length (H'.objs.take H.objs.length)) (fun _ => K (v, ⟨H'.objs.take H.objs.length, H'.toks.take H.toks.length⟩)) (fun _ => keepC v H' K)

theorem keepC_eq {v : AV} {H' : AH} {K : AV × AH → Option R} {r : R} (h : keepC v H' K = some r) : K (v, H') = some r := by
  unfold keepC at h
  split at h
  · exact h
  · cases h

theorem truncC_eq {H : AH} {v : AV} {H' : AH} {K : AV × AH → Option R} {r : R} (h : truncC H v H' K = some r) : K (trunc H (v, H')) = some r := by
  unfold truncC at h
  unfold trunc
  split at h
  · rename_i hb
    simp only [Bool.and_eq_true] at hb
    rw [if_pos (by simp [Nat.eq_of_beq_eq_true hb.1, Nat.eq_of_beq_eq_true hb.2])]
    exact h
  · rename_i hb
    have hne : ¬ (decide (H'.objs.length = H.objs.length) && decide (H'.toks.length = H.toks.length)) = true := by
      intro hc
      simp only [Bool.and_eq_true, decide_eq_true_eq] at hc
      rw [hc.1, hc.2] at hb
      simp at hb
    rw [if_neg hne]
    simp only
    cases hc : (below H.objs.length H.toks.length v && belowO H.objs.length H.toks.length (H'.objs.take H.objs.length)) with
    | true => rw [hc] at h; rw [if_pos rfl]; exact h
    | false => rw [hc] at h; rw [if_neg (by simp)]; exact keepC_eq h

def noCall : Caller := ⟨fun _ _ _ => none, fun _ _ _ => none⟩

/-- What follows a call of a function. -/
def gotI (S : Sys) (f : FuncId) (K X : AV → AH → Option R) (r : Res) : Option R := match r with
  | .val v H => etaRes S f v fun v => K v H
  | .pan v H => X v H
/-- What follows a round. -/
def gotY (K : AV → AH → Option R) (r : Res) : Option R := match r with
  | .val v H => K v H
  | .pan _ _ => none

def opI (bi : Nat → Option Nat) (S : Sys) (c : CallI) (s : List AV) (H : AH) (o : Oper) (K X : AV → AH → Option R) : Option R :=
  match bornAt bi o with
  | some p => optK (birthK S H p.1 p.2) fun q => K q.1 q.2
  | none => match etaOp S s H o K with
   | some r => r
   | none => match o.op with
    | .call cl => match cl.callee with
      | .value f => match ev S.G s f with
        | .func (.func f) first caps => match Nat.blt f yBase with
          | true => c f ((first ++ cl.args.toList.map (ev S.G s)) ++ caps) H (gotI S f K X)
          | false => none
        | .func (.yield id) [] [] => c (yBase + id) (cl.args.toList.map (ev S.G s)) H (gotY K)
        | _ => none
      | .builtin b => builtinK S H b cl.argTypes (cl.args.toList.map (ev S.G s)) K
      | .invoke x m => match ev S.G s x with
        | .iface t v => match S.meth t m with
          | some f => match Nat.blt f yBase with
            | true => c f (v :: cl.args.toList.map (ev S.G s)) H (gotI S f K X)
            | false => none
          | none => none
        | _ => none
    | .panic x => match ev S.G s x with
      | .iface t v => X (.iface t v) H
      | _ => none
    | _ => opK S noCall s H o K

def opsI (bi : Nat → Option Nat) (S : Sys) (c : CallI) (all : Array Oper) : List Oper → List AV → AH → (List AV → AH → Option R) → (AV → List AV → AH → Option R) → Option R
  | [], s, H, K, _ => K s H
  | o :: r, s, H, K, X =>
    match o.guard with
    | none => opI bi S c s H o (fun v H => opsI bi S c all r (putD o.dst s v) H K X) (fun v H => X v s H)
    | some (j, want) =>
      match (all[j]?).bind (·.dst) with
      | none => none
      | some d => match s[d]? with
        | some (.bool t) => br t
          (fun _ => if want then opI bi S c (s.set d (.bool true)) H o (fun v H => opsI bi S c all r (putD o.dst (s.set d (.bool true)) v) H K X) (fun v H => X v (s.set d (.bool true)) H)
            else opsI bi S c all r (putD o.dst (s.set d (.bool true)) (.tuple [])) H K X)
          (fun _ => if want then opsI bi S c all r (putD o.dst (s.set d (.bool false)) (.tuple [])) H K X
            else opI bi S c (s.set d (.bool false)) H o (fun v H => opsI bi S c all r (putD o.dst (s.set d (.bool false)) v) H K X) (fun v H => X v (s.set d (.bool false)) H))
        | some (.tuple []) => opsI bi S c all r (putD o.dst s (.tuple [])) H K X
        | _ => none

def noBorn (_ : Nat) : Option Nat := none

/-- A loop over a function. -/
def rangeI (c : CallI) (f : AV) (s : List AV) (H : AH) (ps : List Nat) (x y : Code) (K : Ex → List AV → AH → Option R) : Option R :=
  match f with
  | .func (.func f) first caps => match Nat.blt f yBase with
    | true => c f ((first ++ [.func (.yield H.objs.length) [] []]) ++ caps) { H with objs := H.objs ++ [.loop s ps x y .ready] } (gotY fun _ H' => leaveK H.objs.length s H' K)
    | false => none
  | _ => none

def noX (_ : AV) (_ : List AV) (_ : AH) : Option R := none
/-- Operations with what was met. -/
def opsM (S : Sys) (c : CallI) (all : Array Oper) : List Oper → List AV → AH → Met → (List AV → AH → Met → Option R) → Option R
  | [], s, H, m, K => K s H m
  | o :: r, s, H, m, K =>
    match o.guard with
    | none => opI noBorn S c s H o (fun v H' => opsM S c all r (putD o.dst s v) H' (metOf S s H o H' m) K) (fun _ _ => none)
    | some (j, want) =>
      match (all[j]?).bind (·.dst) with
      | none => none
      | some d => match s[d]? with
        | some (.bool t) => br t
          (fun _ => if want then opI noBorn S c (s.set d (.bool true)) H o (fun v H' => opsM S c all r (putD o.dst (s.set d (.bool true)) v) H' (metOf S (s.set d (.bool true)) H o H' m) K) (fun _ _ => none)
            else opsM S c all r (putD o.dst (s.set d (.bool true)) (.tuple [])) H m K)
          (fun _ => if want then opsM S c all r (putD o.dst (s.set d (.bool false)) (.tuple [])) H m K
            else opI noBorn S c (s.set d (.bool false)) H o (fun v H' => opsM S c all r (putD o.dst (s.set d (.bool false)) v) H' (metOf S (s.set d (.bool false)) H o H' m) K) (fun _ _ => none))
        | some (.tuple []) => opsM S c all r (putD o.dst s (.tuple [])) H m K
        | _ => none

open Classical in
/-- The same content. -/
noncomputable def sameO (x y : Option AObj) : Bool := if contO x = contO y then true else false
theorem sameO_self (x : Option AObj) : sameO x x = true := by simp [sameO]
theorem sameO_of {x y : Option AObj} (h : sameO x y = true) : contO x = contO y := by
  unfold sameO at h
  split at h
  · assumption
  · simp at h
noncomputable def metI1 (H H' : AH) (K : Unit → Option R) : List Nat → Option R
  | [] => K ()
  | id :: L => br (sameO H.objs[id]? H'.objs[id]?) (fun _ => metI1 H H' K L) (fun _ => none)
noncomputable def metI (L : List Nat) (K : Unit → Option R) : List (AH × AH) → Option R
  | [] => K ()
  | p :: r => metI1 p.1 p.2 (fun _ => metI L K r) L

/-- A region. -/
noncomputable def regI (S : Sys) (c : CallI) (ops : Array Oper) (draw : Bool) (s : List AV) (H : AH) (K : Ex → List AV → AH → Option R) : Option R :=
  if draw && !drawOK S ops then
    (if drawOK2 S ops then opsI (bornId H.objs.length (birthsOf ops.toList)) S c ops ops.toList s (reserve H (birthsOf ops.toList).length) (fun s H => K .normal s H) noX
     else if drawOK3 S ops then opsM S c ops ops.toList s H ([], []) (fun s H m => metI m.1 (fun _ => K .normal s H) m.2) else none)
  else opsI noBorn S c ops ops.toList s H (fun s H => K .normal s H) (fun v s H => if draw && !lineOK ops then none else K (.panic v) s H)

/-- Code behind a label. -/
noncomputable def denT (S : Sys) (c : CallI) : {R : Type} → Code → List AV → AH → (Ex → List AV → AH → Option R) → Option R
  | _, .skip, s, H, K => K .normal s H
  | _, .region _ ops draw, s, H, K => regI S c ops draw s H K
  | _, .seq a b, s, H, K => denT S c a s H fun e s H => match e with
    | .normal => denT S c b s H K
    | e => K e s H
  | _, .cond x a b, s, H, K => match ev S.G s x with
    | .bool t => br t (fun _ => denT S c a s H K) (fun _ => denT S c b s H K)
    | _ => none
  | _, .exit id, s, H, K => K (.exit id) s H
  | _, .ret, s, H, K => K .ret s H
  | _, .label _, s, H, K => K .normal s H
  | _, _, _, _, _ => none

noncomputable def jumpI (S : Sys) (c : CallI) (x : Code) (K : Ex → List AV → AH → Option R) : Ex → List AV → AH → Option R := fun e s H => match e with
  | .goto l => match findLabel x l with
    | some rest => denT S c rest s H fun e s H => match e with
      | .goto _ => none
      | e => K e s H
    | none => none
  | e => K e s H

noncomputable def denI (S : Sys) (c : CallI) (fuel : Nat) : {R : Type} → Code → List AV → AH → (Ex → List AV → AH → Option R) → Option R
  | _, .skip, s, H, K => K .normal s H
  | _, .region _ ops draw, s, H, K => regI S c ops draw s H K
  | _, .seq a b, s, H, K => denI S c fuel a s H fun e s H => match e with
    | .normal => denI S c fuel b s H K
    | e => K e s H
  | _, .cond x a b, s, H, K => match ev S.G s x with
    | .bool t => br t (fun _ => denI S c fuel a s H K) (fun _ => denI S c fuel b s H K)
    | _ => none
  | _, .block id x, s, H, K => denI S c fuel x s H fun e s H => match e with
    | .exit i => if i = id then K .normal s H else K (.exit i) s H
    | e => K e s H
  | _, .loop x, s, H, K => iterC S.room (fun s H K => denI S c fuel x s H K) fuel s H K
  | _, .scope x, s, H, K => denI S c fuel x s H (jumpI S c x K)
  | _, .goto l, s, H, K => K (.goto l) s H
  | _, .exit id, s, H, K => K (.exit id) s H
  | _, .ret, s, H, K => K .ret s H
  | _, .label _, s, H, K => K .normal s H
  | _, .rangeFunc g ps x y, s, H, K => rangeI c (ev S.G s g) s H ps.toList x y K
  | _, _, _, _, _ => none

/-- A call of a loop's yield: a round. -/
noncomputable def yieldI (S : Sys) (c : CallI) (fuel : Nat) (id : Nat) (args : List AV) (H : AH) (K : AV × AH → Option R) : Option R :=
  match H.objs[id]? with
  | some (.loop s ps x y .ready) =>
    if args.length = ps.length ∧ plainC x = true ∧ plainC y = true then
      denI S c fuel x ((ps.zip args).foldl (fun s p => s.set p.1 p.2) s) H fun e s1 H1 => match e with
        | .normal => match H1.objs[id]? with
          | some (.loop s' ps' x' y' .ready) => denI S c fuel y s1 { H1 with objs := H1.objs.set id (.loop s' ps' x' y' .busy) } fun e _ H2 =>
              optK (exLeft e) fun st => optK (setLoop H2 id st) fun H3 => truncC H (.bool e.stays) H3 K
          | _ => none
        | _ => none
    else none
  | _ => none

/-- What a function's end makes of the temporaries. -/
def endI (S : Sys) (fn : Func) (K : Res → Option R) (e : Ex) (s : List AV) (H : AH) : Option R := match e with
  | .exit _ | .goto _ => none
  | .panic v => K (.pan v H)
  | _ => resultsK S s H fn.results.toList [] fun vs => K (.val (bundle vs) H)

noncomputable def runI (S : Sys) (c : CallI) (fuel : Nat) (fn : Func) (args : List AV) (H : AH) (K : Res → Option R) : Option R :=
  match fn.body with
  | none => none
  | some x => denI S c fuel x (args ++ List.replicate (fn.ntmps - args.length) .top) H (endI S fn K)

def pureI (args : List AV) (H : AH) (K : Res → Option R) (r : Res) : Option R := match r with
  | .val v _ => optK (pureOut args v) fun v => K (.val v H)
  | .pan _ _ => none
def keepI (H : AH) (K : Res → Option R) (r : Res) : Option R := match r with
  | .val v H' => truncC H v H' fun p => K (.val p.1 p.2)
  | .pan v H' => truncC H v H' fun p => K (.pan p.1 p.2)

/-- Functions gone through, n deep; 'tab': what is answered ahead of that. -/
noncomputable def callI (S : Sys) (tab : TabT) (fuel : Nat) : Nat → CallI
  | 0 => fun _ _ _ _ _ => none
  | n + 1 => fun f args H R K => match Nat.blt f yBase with
   | false => yieldI S (callI S tab fuel n) fuel (f - yBase) args H fun p => K (.val p.1 p.2)
   | true => match tab f with
    | some g => g args H K
    | none => match S.ext f with
      | some g => optK (resolveL H args) fun ts => optK (g ts) fun v => optK (pureOut args v) fun v => K (.val v H)
      | none => match S.F f with
        | none => none
        | some fn =>
          if S.isPure f then optK (resolveL H args) fun ts => runI S (callI S tab fuel n) fuel fn ts ⟨[], []⟩ (pureI args H K)
          else match S.extH f with
            | some g => optK (g args H) fun p => K (.val p.1 p.2)
            | none => match S.thawF f with
              | true => none
              | false => runI S (callI S tab fuel n) fuel fn args H (keepI H K)

/-- What follows a part of code. -/
noncomputable def kontI (S : Sys) (c : CallI) (fuel : Nat) : Code → List Nat → (Ex → List AV → AH → Option R) → Ex → List AV → AH → Option R
  | _, [], K => K
  | .seq a b, n :: r, K => match n with
    | 0 => kontI S c fuel a r fun e s H => match e with
      | .normal => denI S c fuel b s H K
      | e => K e s H
    | _ => kontI S c fuel b r K
  | .cond _ a b, n :: r, K => kontI S c fuel (match n with | 0 => a | _ => b) r K
  | .block id c1, _ :: r, K => kontI S c fuel c1 r fun e s H => match e with
    | .exit i => if i = id then K .normal s H else K (.exit i) s H
    | e => K e s H
  | .scope c1, _ :: r, K => kontI S c fuel c1 r (jumpI S c c1 K)
  | _, _, K => K

/-- A loop within a function, k rounds at most, and what follows it. -/
noncomputable def loopI (S : Sys) (c : CallI) (fuel : Nat) (fn : Func) (path : List Nat) (k : Nat) (s : List AV) (H : AH) (K : Res → Option R) : Option R :=
  iterC S.room (fun s H K => denI S c fuel (subC (bodyOf fn) (path ++ [0])) s H K) k s H (fun e s H => kontI S c fuel (bodyOf fn) path (endI S fn K) e s H)

theorem callI_pure {tab : TabT} {fuel n : Nat} {f : FuncId} {fn : Func} {args ts : List AV} {H : AH} {K : Res → Option R} (h1 : tab f = none) (h2 : S.ext f = none) (h3 : S.F f = some fn) (h4 : S.isPure f = true) (h5 : resolveL H args = some ts) (h0 : Nat.blt f yBase = true := by rfl) :
    callI S tab fuel (n + 1) f args H K = runI S (callI S tab fuel n) fuel fn ts ⟨[], []⟩ (pureI args H K) := by
  simp only [callI, h0, h1, h2, h3]
  rw [if_pos h4, h5]
  rfl

def noC : CallI := fun _ _ _ _ _ => none
theorem callI_zero (S : Sys) (tab : TabT) (fuel : Nat) : (callI S tab fuel 0 : CallI) = noC := rfl

/-- What a call comes to, or a yield's. -/
noncomputable def callX (S : Sys) (f : FuncId) (args : List AV) (H : AH) : Option Res := match Nat.blt f yBase with
  | true => (callL S).res f args H
  | false => optK ((callL S).yield (f - yBase) args H) fun p => some (.val p.1 p.2)

/-- Its answers are the program's. -/
def SoundI (S : Sys) (c : CallI) : Prop := ∀ f args (H : AH) (R : Type) (K : Res → Option R) r, c f args H K = some r → ∃ p, callX S f args H = some p ∧ K p = some r

theorem yBase_not (id : Nat) : Nat.blt (yBase + id) yBase = false := by
  cases h : Nat.blt (yBase + id) yBase with
  | false => rfl
  | true =>
    have : yBase + id + 1 ≤ yBase := Nat.le_of_ble_eq_true h
    omega

/-- A call of a function gone through. -/
theorem gotI_sound {c : CallI} (hc : SoundI S c) {f : FuncId} {args : List AV} {H : AH} {K X : AV → AH → Option R} {r : R} (hy : Nat.blt f yBase = true) (h : c f args H (gotI S f K X) = some r) :
    (∃ p, callL S f args H = some p ∧ K p.1 p.2 = some r) ∨ (∃ p, (callL S).pan f args H = some p ∧ X p.1 p.2 = some r) := by
  obtain ⟨p, h1, h2⟩ := hc _ _ _ _ _ _ h
  unfold callX at h1
  rw [hy] at h1
  simp only at h1
  cases p with
  | val v H' => exact .inl ⟨(v, H'), Caller.fn_of h1, etaRes_eq (K := fun v => K v H') h2⟩
  | pan v H' => exact .inr ⟨(v, H'), Caller.pan_of h1, h2⟩

theorem gotY_sound {c : CallI} (hc : SoundI S c) {id : Nat} {args : List AV} {H : AH} {K : AV → AH → Option R} {r : R} (h : c (yBase + id) args H (gotY K) = some r) : ∃ p, (callL S).yield id args H = some p ∧ K p.1 p.2 = some r := by
  obtain ⟨p, h1, h2⟩ := hc _ _ _ _ _ _ h
  unfold callX at h1
  rw [yBase_not, Nat.add_sub_cancel_left] at h1
  simp only at h1
  obtain ⟨q, h3, h4⟩ := optK_inv2 h1
  simp only [Option.some.injEq] at h4
  subst h4
  exact ⟨q, h3, h2⟩

theorem opI_sound {c : CallI} (hc : SoundI S c) {bi : Nat → Option Nat} {s : List AV} {H : AH} {o : Oper} {K X : AV → AH → Option R} {r : R} (h : opI bi S c s H o K X = some r) :
    (∃ p, opB bi S (callL S) s H o = some p ∧ K p.1 p.2 = some r) ∨ (∃ p, panOf S (callL S) s H o = some p ∧ X p.1 p.2 = some r) := by
  unfold opI at h
  split at h
  · rename_i p hb
    obtain ⟨q, h1, h2⟩ := optK_inv2 h
    exact .inl ⟨q, by rw [opB_some hb]; exact h1, h2⟩
  · rename_i hb
    rw [opB_none hb]
    split at h
    · rename_i p hp
      have h1 := etaOp_eq (call := callL S) hp h
      rw [opK_nat] at h1
      obtain ⟨q, h2, h3⟩ := optK_inv2 h1
      exact .inl ⟨q, h2, h3⟩
    obtain ⟨dst, op, type, pos, after, guard⟩ := o
    split at h
    · rename_i cl hop
      simp only at hop
      subst hop
      unfold opK panOf
      simp only
      split at h
      · rename_i f hf
        rw [hf]
        simp only
        split at h
        · rename_i fid first caps hev
          rw [hev]
          split at h
          · rename_i hy
            unfold callFn
            simp only
            rcases gotI_sound hc hy h with ⟨p, h1, h2⟩ | ⟨p, h1, h2⟩
            · exact .inl ⟨p, by rw [h1]; rfl, h2⟩
            · exact .inr ⟨p, h1, h2⟩
          · simp at h
        · rename_i id hev
          rw [hev]
          obtain ⟨p, h1, h2⟩ := gotY_sound hc h
          unfold callFn
          simp only
          exact .inl ⟨p, by rw [h1]; rfl, h2⟩
        · simp at h
      · rename_i b hb
        rw [hb]
        simp only
        rw [builtinK_nat] at h
        obtain ⟨p, h1, h2⟩ := optK_inv2 h
        exact .inl ⟨p, h1, h2⟩
      · rename_i x m hf
        rw [hf]
        simp only
        split at h
        · rename_i t v hev
          rw [hev]
          split at h
          · rename_i f hm
            split at h
            · rename_i hy
              unfold methK
              simp only [hm]
              rcases gotI_sound hc hy h with ⟨p, h1, h2⟩ | ⟨p, h1, h2⟩
              · exact .inl ⟨p, by rw [h1]; rfl, h2⟩
              · exact .inr ⟨p, h1, h2⟩
            · simp at h
          · simp at h
        · simp at h
    · rename_i x hop
      simp only at hop
      subst hop
      unfold panOf
      simp only
      split at h
      · rename_i t v hev
        exact .inr ⟨_, by rw [hev], h⟩
      · simp at h
    · rw [opK_nat] at h
      obtain ⟨p, h1, h2⟩ := optK_inv2 h
      exact .inl ⟨p, opK_mono (c := noCall) ⟨fun _ _ _ _ h => by simp [noCall] at h, fun _ _ _ _ h => by simp [noCall] at h⟩ h1, h2⟩

/-- What follows a region's operations. -/
def outK (K : List AV → AH → Option R) (X : AV → List AV → AH → Option R) (o : Out) : Option R := match o with
  | (.normal, s, H) => K s H
  | (.panic v, s, H) => X v s H
  | _ => none

theorem bornAt_no (o : Oper) : bornAt noBorn o = none := by
  unfold bornAt
  split <;> rfl

theorem stepX_val {c : Caller} {all : Array Oper} {o : Oper} {s : List AV} {H : AH} {p : AV × AH} (hw : wantD all o s = some true) (h : opB noBorn S c s H o = some p) : stepX S c all o s H = some (.normal, putD o.dst s p.1, p.2) := by
  rw [opB_none (bornAt_no o)] at h
  unfold stepX
  rw [hw]
  simp only
  rw [panOf_none h]
  simp only
  rw [opK_nat, h]
  rfl
theorem stepX_pan {c : Caller} {all : Array Oper} {o : Oper} {s : List AV} {H : AH} {p : AV × AH} (hw : wantD all o s = some true) (h : panOf S c s H o = some p) : stepX S c all o s H = some (.panic p.1, s, p.2) := by
  unfold stepX
  rw [hw]
  simp only
  rw [h]
theorem stepX_no {c : Caller} {all : Array Oper} {o : Oper} {s : List AV} {H : AH} (hw : wantD all o s = some false) : stepX S c all o s H = some (.normal, putD o.dst s (.tuple []), H) := by
  unfold stepX
  rw [hw]

theorem opsI_X {c : CallI} (hc : SoundI S c) {all : Array Oper} : ∀ (l : List Oper) {s : List AV} {H : AH} {K : List AV → AH → Option R} {X : AV → List AV → AH → Option R} {r : R}, opsI noBorn S c all l s H K X = some r → ∃ p, runX S (callL S) all l s H = some p ∧ outK K X p = some r
  | [], s, H, K, X, r, h => ⟨(.normal, s, H), rfl, h⟩
  | o :: l, s, H, K, X, r, h => by
    simp only [opsI] at h
    simp only [runX]
    have go : wantD all o s = some true → opI noBorn S c s H o (fun v H => opsI noBorn S c all l (putD o.dst s v) H K X) (fun v H => X v s H) = some r → ∃ p, thenX (stepX S (callL S) all o s H) (runX S (callL S) all l) = some p ∧ outK K X p = some r := by
      intro hw h
      rcases opI_sound hc h with ⟨p, h1, h2⟩ | ⟨p, h1, h2⟩
      · obtain ⟨q, h3, h4⟩ := opsI_X hc l h2
        exact ⟨q, by rw [stepX_val hw h1, thenX_go]; exact h3, h4⟩
      · exact ⟨(.panic p.1, s, p.2), by rw [stepX_pan hw h1]; rfl, h2⟩
    have no : wantD all o s = some false → opsI noBorn S c all l (putD o.dst s (.tuple [])) H K X = some r → ∃ p, thenX (stepX S (callL S) all o s H) (runX S (callL S) all l) = some p ∧ outK K X p = some r := by
      intro hw h
      obtain ⟨q, h3, h4⟩ := opsI_X hc l h
      exact ⟨q, by rw [stepX_no hw, thenX_go]; exact h3, h4⟩
    cases hg : o.guard with
    | none =>
      rw [hg] at h
      exact go (by simp [wantD, hg]) h
    | some g =>
      obtain ⟨j, want⟩ := g
      rw [hg] at h
      simp only at h
      cases hd : (all[j]?).bind (·.dst) with
      | none => rw [hd] at h; simp at h
      | some d =>
        rw [hd] at h
        simp only at h
        split at h
        · rename_i t ht
          have hw : wantD all o s = some (t == want) := by simp [wantD, hg, hd, ht]
          rcases br_some h with ⟨rfl, h'⟩ | ⟨rfl, h'⟩
          · clear h
            rw [set_same ht] at h'
            cases want with
            | true =>
              simp only [if_true] at h'
              exact go hw h'
            | false =>
              simp only [Bool.false_eq_true, if_false] at h'
              exact no hw h'
          · clear h
            rw [set_same ht] at h'
            cases want with
            | true =>
              simp only [if_true] at h'
              exact no hw h'
            | false =>
              simp only [Bool.false_eq_true, if_false] at h'
              exact go hw h'
        · rename_i ht
          exact no (by simp [wantD, hg, hd, ht]) h
        · simp at h

theorem opsI_B {c : CallI} (hc : SoundI S c) {bi : Nat → Option Nat} {all : Array Oper} : ∀ (l : List Oper) {s : List AV} {H : AH} {K : List AV → AH → Option R} {r : R}, opsI bi S c all l s H K noX = some r → ∃ p, runB bi S (callL S) all l s H = some p ∧ K p.1 p.2 = some r
  | [], s, H, K, r, h => ⟨(s, H), rfl, h⟩
  | o :: l, s, H, K, r, h => by
    simp only [opsI] at h
    simp only [runB]
    have go : wantD all o s = some true → opI bi S c s H o (fun v H => opsI bi S c all l (putD o.dst s v) H K noX) (fun v H => noX v s H) = some r → ∃ p, optK (stepB bi S (callL S) all o s H) (fun p => runB bi S (callL S) all l p.1 p.2) = some p ∧ K p.1 p.2 = some r := by
      intro hw h
      rcases opI_sound hc h with ⟨p, h1, h2⟩ | ⟨p, h1, h2⟩
      · obtain ⟨q, h3, h4⟩ := opsI_B hc l h2
        exact ⟨q, by simp only [stepB, hw, h1, optK_some]; exact h3, h4⟩
      · simp [noX] at h2
    have no : wantD all o s = some false → opsI bi S c all l (putD o.dst s (.tuple [])) H K noX = some r → ∃ p, optK (stepB bi S (callL S) all o s H) (fun p => runB bi S (callL S) all l p.1 p.2) = some p ∧ K p.1 p.2 = some r := by
      intro hw h
      obtain ⟨q, h3, h4⟩ := opsI_B hc l h
      exact ⟨q, by simp only [stepB, hw, optK_some]; exact h3, h4⟩
    cases hg : o.guard with
    | none =>
      rw [hg] at h
      exact go (by simp [wantD, hg]) h
    | some g =>
      obtain ⟨j, want⟩ := g
      rw [hg] at h
      simp only at h
      cases hd : (all[j]?).bind (·.dst) with
      | none => rw [hd] at h; simp at h
      | some d =>
        rw [hd] at h
        simp only at h
        split at h
        · rename_i t ht
          have hw : wantD all o s = some (t == want) := by simp [wantD, hg, hd, ht]
          rcases br_some h with ⟨rfl, h'⟩ | ⟨rfl, h'⟩
          · clear h
            rw [set_same ht] at h'
            cases want with
            | true =>
              simp only [if_true] at h'
              exact go hw h'
            | false =>
              simp only [Bool.false_eq_true, if_false] at h'
              exact no hw h'
          · clear h
            rw [set_same ht] at h'
            cases want with
            | true =>
              simp only [if_true] at h'
              exact no hw h'
            | false =>
              simp only [Bool.false_eq_true, if_false] at h'
              exact go hw h'
        · rename_i ht
          exact no (by simp [wantD, hg, hd, ht]) h
        · simp at h

theorem opsM_sound {c : CallI} (hc : SoundI S c) {all : Array Oper} : ∀ (l : List Oper) {s : List AV} {H : AH} {m : Met} {K : List AV → AH → Met → Option R} {r : R}, opsM S c all l s H m K = some r → ∃ p, runM S (callL S) all l s H m = some p ∧ K p.1.1 p.1.2 p.2 = some r
  | [], s, H, m, K, r, h => ⟨((s, H), m), rfl, h⟩
  | o :: l, s, H, m, K, r, h => by
    simp only [opsM] at h
    simp only [runM]
    have go : wantD all o s = some true → opI noBorn S c s H o (fun v H' => opsM S c all l (putD o.dst s v) H' (metOf S s H o H' m) K) (fun _ _ => none) = some r → ∃ p, optK (stepM S (callL S) all o s H m) (fun p => runM S (callL S) all l p.1.1 p.1.2 p.2) = some p ∧ K p.1.1 p.1.2 p.2 = some r := by
      intro hw h
      rcases opI_sound hc h with ⟨p, h1, h2⟩ | ⟨p, h1, h2⟩
      · obtain ⟨q, h3, h4⟩ := opsM_sound hc l h2
        refine ⟨q, ?_, h4⟩
        have hb0 : bornAt noBorn o = none := by
          unfold bornAt
          split <;> rfl
        have hb : opK S (callL S) s H o pairK = some p := by
          rw [← h1, opB_none hb0]
        simp only [stepM, hw]
        rw [show (opK S (callL S) s H o fun v H => some (v, H)) = some p from hb]
        exact h3
      · simp at h2
    have no : wantD all o s = some false → opsM S c all l (putD o.dst s (.tuple [])) H m K = some r → ∃ p, optK (stepM S (callL S) all o s H m) (fun p => runM S (callL S) all l p.1.1 p.1.2 p.2) = some p ∧ K p.1.1 p.1.2 p.2 = some r := by
      intro hw h
      obtain ⟨q, h3, h4⟩ := opsM_sound hc l h
      exact ⟨q, by simp only [stepM, hw, optK_some]; exact h3, h4⟩
    cases hg : o.guard with
    | none =>
      rw [hg] at h
      exact go (by simp [wantD, hg]) h
    | some g =>
      obtain ⟨j, want⟩ := g
      rw [hg] at h
      simp only at h
      cases hd : (all[j]?).bind (·.dst) with
      | none => rw [hd] at h; simp at h
      | some d =>
        rw [hd] at h
        simp only at h
        split at h
        · rename_i t ht
          have hw : wantD all o s = some (t == want) := by simp [wantD, hg, hd, ht]
          rcases br_some h with ⟨rfl, h'⟩ | ⟨rfl, h'⟩
          · clear h
            rw [set_same ht] at h'
            cases want with
            | true =>
              simp only [if_true] at h'
              exact go hw h'
            | false =>
              simp only [Bool.false_eq_true, if_false] at h'
              exact no hw h'
          · clear h
            rw [set_same ht] at h'
            cases want with
            | true =>
              simp only [if_true] at h'
              exact no hw h'
            | false =>
              simp only [Bool.false_eq_true, if_false] at h'
              exact go hw h'
        · rename_i ht
          exact no (by simp [wantD, hg, hd, ht]) h
        · simp at h

theorem metI1_inv {H H' : AH} {K : Unit → Option R} {r : R} : ∀ {L : List Nat}, metI1 H H' K L = some r → frameI L H.objs H'.objs = true ∧ K () = some r
  | [], h => ⟨rfl, h⟩
  | id :: L, h => by
    simp only [metI1] at h
    rcases br_some h with ⟨h1, h2⟩ | ⟨h1, h2⟩
    · obtain ⟨h3, h4⟩ := metI1_inv h2
      refine ⟨?_, h4⟩
      simp only [frameI, h3, Bool.and_true]
      exact eqOo_of (sameO_of h1)
    · simp at h2
theorem metI_inv {L : List Nat} {K : Unit → Option R} {r : R} : ∀ {ps : List (AH × AH)}, metI L K ps = some r → metB L ps = true ∧ K () = some r
  | [], h => ⟨rfl, h⟩
  | p :: ps, h => by
    simp only [metI] at h
    obtain ⟨h1, h2⟩ := metI1_inv h
    obtain ⟨h3, h4⟩ := metI_inv h2
    exact ⟨by simp only [metB, h1, h3]; rfl, h4⟩

theorem regI_sound {c : CallI} (hc : SoundI S c) {ops : Array Oper} {draw : Bool} {s : List AV} {H : AH} {K : Ex → List AV → AH → Option R} {r : R} (h : regI S c ops draw s H K = some r) : regK S (callL S) ops draw s H K = some r := by
  unfold regI at h
  unfold regK
  split at h
  · rename_i hd
    split at h
    · rename_i hd2
      obtain ⟨p, h1, h2⟩ := opsI_B hc _ h
      rw [if_pos hd, if_pos hd2, h1]
      exact h2
    · rename_i hd2
      split at h
      · rename_i hd3
        obtain ⟨p, h1, h2⟩ := opsM_sound hc _ h
        obtain ⟨h3, h4⟩ := metI_inv h2
        rw [if_pos hd, if_neg hd2, if_pos hd3, runG, h1]
        simp only [optK, h3]
        exact h4
      · simp at h
  · rename_i hd
    obtain ⟨p, h1, h2⟩ := opsI_X hc _ h
    rw [if_neg hd, h1, optK_some]
    obtain ⟨e, s1, H1⟩ := p
    cases e with
    | normal => simpa [isPan, outK] using h2
    | panic v => simpa [isPan, outK] using h2
    | _ => simp [outK] at h2

theorem denT_sound {c : CallI} (hc : SoundI S c) : ∀ (code : Code) {R : Type} {s : List AV} {H : AH} {K : Ex → List AV → AH → Option R} {r : R}, denT S c code s H K = some r → denS S (callL S) code s H K = some r
  | .skip, R, s, H, K, r, hr => hr
  | .region id ops draw, R, s, H, K, r, hr => by
    simp only [denT, denS] at hr ⊢
    exact regI_sound hc hr
  | .seq a b, R, s, H, K, r, hr => by
    simp only [denT, denS] at hr ⊢
    obtain ⟨r', h1, rfl⟩ := denS_rel (Q := fun a b => a = b) (K' := fun e s H => match e with | .normal => denS S (callL S) b s H K | e => K e s H) a (fun e s H r h' => by
      cases e with
      | normal => exact ⟨r, denT_sound hc b h', rfl⟩
      | _ => exact ⟨r, h', rfl⟩) (denT_sound hc a hr)
    exact h1
  | .cond x a b, R, s, H, K, r, hr => by
    simp only [denT, denS] at hr ⊢
    split at hr
    · rename_i t ht
      rw [ht]
      cases t with
      | true => exact denT_sound hc a hr
      | false => exact denT_sound hc b hr
    · simp at hr
  | .exit id, R, s, H, K, r, hr => hr
  | .ret, R, s, H, K, r, hr => hr
  | .label l, R, s, H, K, r, hr => hr
  | .block id x, R, s, H, K, r, hr => by simp [denT] at hr
  | .loop x, R, s, H, K, r, hr => by simp [denT] at hr
  | .scope x, R, s, H, K, r, hr => by simp [denT] at hr
  | .goto l, R, s, H, K, r, hr => by simp [denT] at hr
  | .rangeFunc g ps x y, R, s, H, K, r, hr => by simp [denT] at hr
  | .refuse w, R, s, H, K, r, hr => by simp [denT] at hr

theorem jumpI_sound {c : CallI} (hc : SoundI S c) {code : Code} {K : Ex → List AV → AH → Option R} : ∀ e s H r, jumpI S c code K e s H = some r → jumpK S (callL S) code K e s H = some r := by
  intro e s H r hr
  cases e with
  | goto l =>
    simp only [jumpI, jumpK] at hr ⊢
    split at hr
    · rename_i rest hf
      simp only [hf]
      exact denT_sound hc _ hr
    · simp at hr
  | _ => exact hr

theorem denI_sound {c : CallI} (hc : SoundI S c) {fuel : Nat} : ∀ (code : Code) {R : Type} {s : List AV} {H : AH} {K : Ex → List AV → AH → Option R} {r : R}, denI S c fuel code s H K = some r → denK S (callL S) (loopL S.room) code s H K = some r
  | .skip, R, s, H, K, r, hr => hr
  | .region id ops draw, R, s, H, K, r, hr => by
    simp only [denI, denK] at hr ⊢
    exact regI_sound hc hr
  | .seq a b, R, s, H, K, r, hr => by
    simp only [denI, denK] at hr ⊢
    refine denK_eq a ?_ (denI_sound hc a hr)
    intro e s H r h'
    cases e with
    | normal => exact denI_sound hc b h'
    | _ => exact h'
  | .cond x a b, R, s, H, K, r, hr => by
    simp only [denI, denK] at hr ⊢
    split at hr
    · rename_i t ht
      rw [ht]
      cases t with
      | true => exact denI_sound hc (fuel := fuel) a hr
      | false => exact denI_sound hc (fuel := fuel) b hr
    · simp at hr
  | .block id x, R, s, H, K, r, hr => by
    simp only [denI, denK] at hr ⊢
    exact denI_sound hc x hr
  | .loop x, R, s, H, K, r, hr => by
    simp only [denI, denK] at hr ⊢
    obtain ⟨o, h1, h2⟩ := iterC_iter (body := fun s H => denK S (callL S) (loopL S.room) x s H retO) (fun s H K r h => denK_out x (denI_sound hc x h)) fuel hr
    rw [iter_loopL h1]; exact h2
  | .scope x, R, s, H, K, r, hr => by
    simp only [denI, denK] at hr ⊢
    exact denK_eq x (jumpI_sound hc) (denI_sound hc x hr)
  | .exit id, R, s, H, K, r, hr => hr
  | .ret, R, s, H, K, r, hr => hr
  | .label l, R, s, H, K, r, hr => hr
  | .rangeFunc g ps x y, R, s, H, K, r, hr => by
    simp only [denI, denK] at hr ⊢
    unfold rangeI at hr
    unfold rangeK
    split at hr
    · rename_i f first caps hev
      rw [hev]
      split at hr
      · rename_i hy
        obtain ⟨p, h1, h2⟩ := hc _ _ _ _ _ _ hr
        unfold callX at h1
        rw [hy] at h1
        simp only at h1 ⊢
        cases p with
        | val v H' =>
          rw [Caller.fn_of h1]
          exact h2
        | pan v H' => simp [gotY] at h2
      · simp at hr
    · simp at hr
  | .goto l, R, s, H, K, r, hr => hr
  | .refuse w, R, s, H, K, r, hr => by simp [denI] at hr

theorem runI_sound {c : CallI} (hc : SoundI S c) {fuel : Nat} {fn : Func} {args : List AV} {H : AH} {K : Res → Option R} {r : R} (h : runI S c fuel fn args H K = some r) : ∃ p, runK S (callL S) (loopL S.room) fn args H = some p ∧ K p = some r := by
  unfold runI at h
  unfold runK
  split at h
  · simp at h
  · rename_i x hb
    simp only [hb]
    exact denK_rel (Q := fun (a : R) (p : Res) => K p = some a) (K' := endR S fn) x (fun e s H r h' => by
        cases e with
        | normal => exact resultsK_rel (Q := fun (a : R) (p : Res) => K p = some a) (K' := fun vs => some (.val (bundle vs) H)) _ _ (fun v r h => ⟨_, rfl, h⟩) h'
        | ret => exact resultsK_rel (Q := fun (a : R) (p : Res) => K p = some a) (K' := fun vs => some (.val (bundle vs) H)) _ _ (fun v r h => ⟨_, rfl, h⟩) h'
        | panic v => exact ⟨_, rfl, h'⟩
        | _ => simp [endI] at h') (denI_sound hc x h)

theorem yieldI_sound {c : CallI} (hc : SoundI S c) {fuel id : Nat} {args : List AV} {H : AH} {K : AV × AH → Option R} {r : R} (h : yieldI S c fuel id args H K = some r) : ∃ p, yieldF S (callL S) (loopL S.room) id args H = some p ∧ K p = some r := by
  unfold yieldI at h
  unfold yieldF
  split at h
  · rename_i s ps x y hob
    simp only [hob]
    split at h
    · rename_i hcond
      rw [if_pos hcond]
      have h1 := denI_sound hc x h
      obtain ⟨p, h2, h3⟩ := denK_rel (Q := fun (a : R) (p : AV × AH) => K p = some a) (K' := fun e s1 H1 => match e with
        | .normal => match H1.objs[id]? with
          | some (.loop s' ps' x' y' .ready) => denK S (callL S) (loopL S.room) y s1 { H1 with objs := H1.objs.set id (.loop s' ps' x' y' .busy) } fun e _ H2 =>
              optK (exLeft e) fun st => optK (setLoop H2 id st) fun H3 => some (trunc H (.bool e.stays, H3))
          | _ => none
        | _ => none) x (fun e s1 H1 r h' => by
          cases e with
          | normal =>
            simp only at h'
            split at h'
            · rename_i s' ps' x' y' hob1
              have h4 := denI_sound hc y h'
              refine denK_rel (Q := fun (a : R) (p : AV × AH) => K p = some a) y ?_ h4
              intro e2 s2 H2 r2 h5
              obtain ⟨st, h8, h5⟩ := optK_inv2 h5
              obtain ⟨H3, h6, h7⟩ := optK_inv2 h5
              exact ⟨_, by rw [h8, optK_some, h6, optK_some], truncC_eq h7⟩
            · simp at h'
          | _ => simp at h') h1
      exact ⟨p, h2, h3⟩
    · simp at h
  · simp at h

/-- Answers given ahead are the program's. -/
def TabOK (S : Sys) (tab : TabT) : Prop :=
  ∀ f g, tab f = some g → ∀ args (H : AH) (R : Type) (K : Res → Option R) r, g args H K = some r → ∃ p, (callL S).res f args H = some p ∧ K p = some r

theorem callI_sound {tab : TabT} (ht : TabOK S tab) {fuel : Nat} : ∀ n, SoundI S (callI S tab fuel n)
  | 0 => by intro f args H R K r h; simp [callI] at h
  | n + 1 => by
    intro f args H R K r h
    simp only [callI] at h
    split at h
    · rename_i hy
      obtain ⟨p, h1, h2⟩ := yieldI_sound (callI_sound ht n) h
      refine ⟨.val p.1 p.2, ?_, h2⟩
      unfold callX
      rw [hy]
      simp only
      rw [callL_yield h1]; rfl
    rename_i hy
    suffices hs : ∃ p, (callL S).res f args H = some p ∧ K p = some r by
      obtain ⟨p, h1, h2⟩ := hs
      refine ⟨p, ?_, h2⟩
      unfold callX
      rw [hy]
      exact h1
    split at h
    · rename_i g hg
      exact ht f g hg _ _ _ _ _ h
    · split at h
      · rename_i g hg
        obtain ⟨ts, h1, h⟩ := optK_inv2 h
        obtain ⟨v, h2, h⟩ := optK_inv2 h
        obtain ⟨v', h3, h⟩ := optK_inv2 h
        exact ⟨_, Caller.fn_val (callL_ext hg h1 h2 h3), h⟩
      · rename_i he
        split at h
        · simp at h
        · rename_i fn hF
          split at h
          · rename_i hp
            obtain ⟨ts, h1, h⟩ := optK_inv2 h
            obtain ⟨p, h2, h⟩ := runI_sound (callI_sound ht n) h
            cases p with
            | pan v H' => simp [pureI] at h
            | val v H' =>
            obtain ⟨v', h3, h⟩ := optK_inv2 (show optK (pureOut args v) _ = some r from h)
            refine ⟨_, callL_res ?_, h⟩
            unfold enterF
            rw [he]
            simp only [hF]
            rw [if_pos hp, h1, optK_some, h2, optK_some, thaw_of h3, optK_some, h3, optK_some]
          · rename_i hp
            split at h
            · rename_i g hg
              obtain ⟨p, h2, h⟩ := optK_inv2 h
              refine ⟨_, callL_res ?_, h⟩
              unfold enterF
              rw [he]
              simp only [hF]
              rw [if_neg hp, hg]
              simp only
              rw [h2, optK_some]
            rename_i hg
            split at h
            · simp at h
            rename_i hth
            obtain ⟨p, h2, h⟩ := runI_sound (callI_sound ht n) h
            refine ⟨truncR H p, callL_res ?_, ?_⟩
            · unfold enterF
              rw [he]
              simp only [hF]
              rw [if_neg hp, hg]
              simp only
              rw [h2, optK_some]
              unfold outR
              rw [hth]
            · cases p with
              | val v H' => exact truncC_eq (K := fun p => K (.val p.1 p.2)) h
              | pan v H' => exact truncC_eq (K := fun p => K (.pan p.1 p.2)) h

/-- A call gone through. -/
theorem callL_IR {tab : TabT} (ht : TabOK S tab) {fuel n : Nat} {f : FuncId} {args : List AV} {H : AH} {p : Res} (h : callI S tab fuel n f args H some = some p) (h0 : Nat.blt f yBase = true := by rfl) : (callL S).res f args H = some p := by
  obtain ⟨q, h1, h2⟩ := callI_sound ht n _ _ _ _ _ _ h
  unfold callX at h1
  rw [h0] at h1
  simp only at h1
  rw [h1]; exact h2
theorem callL_I {tab : TabT} (ht : TabOK S tab) {fuel n : Nat} {f : FuncId} {args : List AV} {H H' : AH} {v : AV} (h : callI S tab fuel n f args H some = some (.val v H')) (h0 : Nat.blt f yBase = true := by rfl) : callL S f args H = some (v, H') := Caller.fn_of (callL_IR ht h h0)

/-- The answer alone. -/
def ansR (r : Res) : Option AV := match r with
  | .val v _ => some v
  | .pan _ _ => none

/-- A function that is called with trees, its body gone through. -/
theorem callL_P {tab : TabT} (ht : TabOK S tab) {fuel n : Nat} {f : FuncId} {fn : Func} {args ts : List AV} {H : AH} {v v' : AV} (h1 : S.ext f = none) (h2 : S.F f = some fn) (h3 : S.isPure f = true) (h4 : resolveL H args = some ts)
    (h5 : runI S (callI S tab fuel n) fuel fn ts ⟨[], []⟩ ansR = some v) (h6 : pureOut args v = some v') : callL S f args H = some (v', H) := by
  obtain ⟨p, h7, h8⟩ := runI_sound (callI_sound ht n) h5
  cases p with
  | pan u H' => simp [ansR] at h8
  | val u H' =>
  simp only [ansR, Option.some.injEq] at h8
  subst h8
  refine callL_enter ?_
  unfold enterF
  rw [h1]
  simp only [h2]
  rw [if_pos h3, h4, optK_some, h7, optK_some, thaw_of h6, optK_some, h6, optK_some]

end Go.Sx

/- THE ENGINE, 44: calls of functions that are called with trees, taken as they are. -/
set_option linter.unusedSimpArgs false
set_option linter.unusedVariables false
namespace Go.Sx
variable {R : Type} {S : Sys}

noncomputable def valH (S : Sys) (f : FuncId) (args : List AV) (H : AH) : Option AV := (callL S f args H).map (·.1)

noncomputable def tabP (S : Sys) (p : FuncId → Bool) : TabT := fun f => match p f with
  | true => some fun args H _ K => optK (valH S f args H) fun v => K (.val v H)
  | false => none

theorem callL_still {f : FuncId} {args : List AV} {H H' : AH} {v : AV} (hp : S.isPure f = true) (h : callL S f args H = some (v, H')) : H' = H := by
  obtain ⟨n, hn⟩ := callL_fuel h
  exact callF_still n f args H v H' hp hn

theorem tabP_ok {p : FuncId → Bool} (hp : ∀ f, p f = true → S.isPure f = true) : TabOK S (tabP S p) := by
  intro f g hg args H R K r h
  unfold tabP at hg
  split at hg
  · rename_i hf
    obtain rfl := Option.some.inj hg
    obtain ⟨v, h1, h2⟩ := optK_inv2 h
    obtain ⟨⟨v', H'⟩, h3, rfl⟩ := Option.map_eq_some_iff.1 h1
    obtain rfl := callL_still (hp f hf) h3
    exact ⟨_, Caller.fn_val h3, h2⟩
  · simp at hg

theorem valH_of {f : FuncId} {args : List AV} {H : AH} {v : AV} (h : callL S f args H = some (v, H)) : valH S f args H = some v := by
  unfold valH; rw [h]; rfl

/-- A loop, k rounds at most, and what follows it. -/
noncomputable def loopC (S : Sys) (c : CallI) (fuel : Nat) (body : Code) (k : Nat) (s : List AV) (H : AH) (K : Ex → List AV → AH → Option R) : Option R :=
  iterC S.room (fun s H K => denI S c fuel body s H K) k s H K
/-- What follows a round. -/
noncomputable def stepK (S : Sys) (c : CallI) (fuel : Nat) (body : Code) (k : Nat) (s0 : List AV) (H0 : AH) (K : Ex → List AV → AH → Option R) : Ex → List AV → AH → Option R := fun e s' H' => match e with
  | .normal => backC S.room s0 H0 s' H' fun s H => loopC S c fuel body k s H K
  | e => K e (outS S.room s0 s') H'
/-- A loop in a function. -/
noncomputable def loopF (S : Sys) (c : CallI) (fuel : Nat) (fn : Func) (path : List Nat) (k : Nat) (s : List AV) (H : AH) (K : Res → Option R) : Option R :=
  loopC S c fuel (subC (bodyOf fn) (path ++ [0])) k s H (fun e s H => kontI S c fuel (bodyOf fn) path (endI S fn K) e s H)

end Go.Sx

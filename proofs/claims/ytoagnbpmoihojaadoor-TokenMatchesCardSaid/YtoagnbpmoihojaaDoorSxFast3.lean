/- THE ENGINE, 33: the evaluator for the kernel: code, functions, calls; what it answers is what the engine answers. -/
import Derived.Test.YtoagnbpmoihojaaDoorSxFast2
set_option linter.unusedSimpArgs false
set_option linter.unusedVariables false
namespace Go.Sx
variable {R : Type} {S : Sys}

structure Caller.le (c c' : Caller) : Prop where
  fn : ∀ f args H r, c f args H = some r → c' f args H = some r
  yield : ∀ id args H r, c.yield id args H = some r → c'.yield id args H = some r

theorem callFn_mono {c c' : Caller} (h : c.le c') {f : AV} {args : List AV} {H : AH} {r : AV × AH} (hr : callFn c f args H pairK = some r) : callFn c' f args H pairK = some r := by
  unfold callFn at hr ⊢
  split at hr
  · obtain ⟨p, h1, h2⟩ := optK_inv2 hr
    simp only [h.fn _ _ _ _ h1, optK_some]; exact h2
  · obtain ⟨p, h1, h2⟩ := optK_inv2 hr
    simp only [h.yield _ _ _ _ h1, optK_some]; exact h2
  · simp at hr

theorem opK_mono {c c' : Caller} (h : c.le c') {s : List AV} {H : AH} {o : Oper} {r : AV × AH} (hr : opK S c s H o pairK = some r) : opK S c' s H o pairK = some r := by
  obtain ⟨dst, op, type, pos, after, guard⟩ := o
  unfold opK at hr ⊢
  cases op <;> try exact hr
  case makeMap t0 r0 => cases r0 <;> exact hr
  case call c0 =>
    simp only at hr ⊢
    split at hr
    · exact callFn_mono h hr
    · exact hr
    · simp at hr

/-! ### Slots -/
noncomputable def slot (N : Nat) (t : Tv) (i : Nat) : AV := match Nat.blt i N with | true => t.get i | false => .top
noncomputable def evE (G : Nat → AV) (N : Nat) (t : Tv) (x : Operand) : AV := match x with
  | .tmp i => slot N t i
  | .const v => ofValue v
  | .global g => G g
  | .func f => .func (.func f) [] []

theorem slot_eq {N : Nat} {t : Tv} {s : List AV} (h : Rep N t s) (i : Nat) : slot N t i = s.getD i .top := by
  unfold slot
  split
  · rename_i hb
    have : i < N := Nat.le_of_ble_eq_true hb
    exact (h.2 i this).2
  · rename_i hb
    have : ¬ i < N := by
      intro hi
      have : Nat.blt i N = true := Nat.ble_eq_true_of_le hi
      rw [hb] at this; cases this
    rw [List.getD, List.getElem?_eq_none (by rw [h.1]; omega)]; rfl

theorem evE_eq {G : Nat → AV} {N : Nat} {t : Tv} {s : List AV} (h : Rep N t s) : evE G N t = ev G s := by
  funext x
  cases x with
  | tmp i => exact slot_eq h i
  | _ => rfl

/-! ### Regions -/
noncomputable def putE (dst : Option Nat) (v : AV) (t : Tv) (H : AH) : Option (Tv × AH) := match dst with
  | some d => t.setK v d fun t' => some (t', H)
  | none => some (t, H)

theorem putE_sim {N : Nat} {t t' : Tv} {s : List AV} {dst : Option Nat} {v : AV} {H H' : AH} (h : Rep N t s) (hp : putE dst v t H = some (t', H')) : H' = H ∧ Rep N t' (putD dst s v) := by
  cases dst with
  | none => simp only [putE, Option.some.injEq, Prod.mk.injEq] at hp; obtain ⟨rfl, rfl⟩ := hp; exact ⟨rfl, h⟩
  | some d =>
    simp only [putE, Tv.setK_eq, Option.some.injEq, Prod.mk.injEq] at hp
    obtain ⟨rfl, rfl⟩ := hp
    exact ⟨rfl, h.set d v⟩

noncomputable def doE (S : Sys) (call : Caller) (N : Nat) (o : Oper) (t : Tv) (H : AH) : Option (Tv × AH) := match opE o.op S call (evE S.G N t) H with
  | some p => forceV p.1 fun v => putE o.dst v t p.2
  | none => none

noncomputable def guardE (S : Sys) (call : Caller) (N : Nat) (o : Oper) (t : Tv) (H : AH) (d : Option Nat) (want : Bool) : Option (Tv × AH) := match d with
  | none => none
  | some d => match slot N t d with
    | .bool b => match b == want with
      | true => doE S call N o t H
      | false => putE o.dst (.tuple []) t H
    | .tuple [] => putE o.dst (.tuple []) t H
    | _ => none

noncomputable def stepE (S : Sys) (call : Caller) (all : Array Oper) (N : Nat) (o : Oper) (t : Tv) (H : AH) : Option (Tv × AH) := match o.guard with
  | none => doE S call N o t H
  | some g => guardE S call N o t H ((all[g.1]?).bind (·.dst)) g.2

theorem doE_sim {call call' : Caller} (hle : call.le call') {N : Nat} {t t' : Tv} {s : List AV} {o : Oper} {H H' : AH} (h : Rep N t s) (hd : doE S call N o t H = some (t', H')) :
    ∃ s', (optK (opK S call' s H o pairK) fun p => some (putD o.dst s p.1, p.2)) = some (s', H') ∧ Rep N t' s' := by
  unfold doE at hd
  rw [evE_eq h, opE_eq] at hd
  split at hd
  · rename_i p hp
    rw [forceV_eq] at hd
    obtain ⟨rfl, h2⟩ := putE_sim h hd
    exact ⟨_, by rw [opK_mono hle hp]; rfl, h2⟩
  · simp at hd

theorem slot_bool {N : Nat} {t : Tv} {s : List AV} (h : Rep N t s) {d : Nat} {v : AV} (hv : slot N t d = v) (hn : v ≠ .top) : s[d]? = some v := by
  rw [slot_eq h] at hv
  simp only [List.getD] at hv
  cases hs : s[d]? with
  | none => rw [hs] at hv; exact absurd hv.symm hn
  | some u => rw [hs] at hv; simp at hv; rw [hv]

theorem stepE_sim {call call' : Caller} (hle : call.le call') {all : Array Oper} {N : Nat} {t t' : Tv} {s : List AV} {o : Oper} {H H' : AH} (h : Rep N t s) (hd : stepE S call all N o t H = some (t', H')) :
    ∃ s', stepD S call' all o s H = some (s', H') ∧ Rep N t' s' := by
  unfold stepE at hd
  split at hd
  · rename_i hg
    obtain ⟨s', h1, h2⟩ := doE_sim hle h hd
    exact ⟨s', by simp only [stepD, wantD, hg]; exact h1, h2⟩
  · rename_i g hg
    obtain ⟨j, want⟩ := g
    unfold guardE at hd
    simp only at hd
    split at hd
    · simp at hd
    · rename_i d hdd
      split at hd
      · rename_i b hb
        have hs := slot_bool h hb (by simp)
        split at hd
        · rename_i hw
          obtain ⟨s', h1, h2⟩ := doE_sim hle h hd
          exact ⟨s', by simp only [stepD, wantD, hg, hdd, hs, hw]; exact h1, h2⟩
        · rename_i hw
          obtain ⟨rfl, h2⟩ := putE_sim h hd
          exact ⟨_, by simp only [stepD, wantD, hg, hdd, hs, hw], h2⟩
      · rename_i hb
        have hs := slot_bool h hb (by simp)
        obtain ⟨rfl, h2⟩ := putE_sim h hd
        exact ⟨_, by simp only [stepD, wantD, hg, hdd, hs], h2⟩
      · simp at hd

noncomputable def thenE {A : Type} (o : Option (Tv × AH)) (k : Tv → AH → Option A) : Option A := match o with | some p => k p.1 p.2 | none => none

noncomputable def opsE (S : Sys) (call : Caller) (all : Array Oper) (N : Nat) (l : List Oper) : Tv → AH → Option (Tv × AH) :=
  List.rec (motive := fun _ => Tv → AH → Option (Tv × AH)) (fun t H => some (t, H)) (fun o _ ih t H => thenE (stepE S call all N o t H) ih) l

theorem opsE_sim {call call' : Caller} (hle : call.le call') {all : Array Oper} {N : Nat} : ∀ (l : List Oper) {t t' : Tv} {s : List AV} {H H' : AH}, Rep N t s → opsE S call all N l t H = some (t', H') → ∃ s', runD S call' all l s H = some (s', H') ∧ Rep N t' s'
  | [], t, t', s, H, H', h, hd => by
    have hd' : some (t, H) = some (t', H') := hd
    simp only [Option.some.injEq, Prod.mk.injEq] at hd'
    obtain ⟨rfl, rfl⟩ := hd'
    exact ⟨s, rfl, h⟩
  | o :: r, t, t', s, H, H', h, hd => by
    have hd' : thenE (stepE S call all N o t H) (opsE S call all N r) = some (t', H') := hd
    unfold thenE at hd'
    split at hd'
    · rename_i p hp
      obtain ⟨s1, h1, h2⟩ := stepE_sim hle (t' := p.1) (H' := p.2) h hp
      obtain ⟨s2, h3, h4⟩ := opsE_sim hle r h2 hd'
      exact ⟨s2, by simp only [runD, h1, optK_some, h3], h4⟩
    · simp at hd'

end Go.Sx

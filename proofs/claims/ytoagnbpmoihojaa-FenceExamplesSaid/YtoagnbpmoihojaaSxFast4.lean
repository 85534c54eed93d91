/- THE ENGINE, 34: the evaluator for the kernel: code, functions, calls. -/
import Derived.Test.YtoagnbpmoihojaaSxFast3
set_option linter.unusedSimpArgs false
set_option linter.unusedVariables false
namespace Go.Sx
variable {R : Type} {S : Sys}

abbrev OutE := Option (Ex × Tv × AH)

noncomputable def normE (o : Option (Tv × AH)) : OutE := match o with | some p => some (.normal, p.1, p.2) | none => none
noncomputable def andE (o : OutE) (k : Tv → AH → OutE) : OutE := match o with
  | some (.normal, t, H) => k t H
  | o => o
noncomputable def condE (v : AV) (a b : Unit → OutE) : OutE := match v with
  | .bool true => a ()
  | .bool false => b ()
  | _ => none
noncomputable def blockE (id : Nat) (o : OutE) : OutE := match o with
  | some (.exit i, t, H) => (match Nat.beq i id with | true => some (.normal, t, H) | false => some (.exit i, t, H))
  | o => o
noncomputable def roomB (room : Nat) (H H' : AH) : Bool := Nat.ble 1 room && (Nat.ble H'.objs.length (H.objs.length + room) && Nat.ble H'.toks.length (H.toks.length + room))
noncomputable def iterE (room : Nat) (body : Tv → AH → OutE) : Nat → Tv → AH → OutE
  | 0, _, _ => none
  | n + 1, t, H => match body t H with
    | some (.normal, t', H') => (match roomB room H H' with | true => iterE room body n t' H' | false => none)
    | o => o
noncomputable def toL (N : Nat) (t : Tv) : List AV := forceL ((List.range N).map (slot N t)) fun l => l
noncomputable def leaveE (id : Nat) (t : Tv) (H : AH) : OutE := match H.objs[id]? with
  | some (.loop _ _ _ _ st) => (match st with
    | .ready => forceL (H.objs.set id .dead) fun os => some (.normal, t, { H with objs := os })
    | .left none => forceL (H.objs.set id .dead) fun os => some (.ret, t, { H with objs := os })
    | .left (some i) => forceL (H.objs.set id .dead) fun os => some (.exit i, t, { H with objs := os })
    | .busy => none)
  | _ => none
noncomputable def rangeE (call : Caller) (f : AV) (N : Nat) (t : Tv) (H : AH) (ps : List Nat) (x y : Code) : OutE := match f with
  | .func (.func f) first caps => (match call f ((first ++ [.func (.yield H.objs.length) [] []]) ++ caps) { H with objs := H.objs ++ [.loop (toL N t) ps x y .ready] } with
    | some p => leaveE H.objs.length t p.2
    | none => none)
  | _ => none
noncomputable def regE (S : Sys) (ops : Array Oper) (draw : Bool) (o : OutE) : OutE := match draw && !drawOK S ops with | true => none | false => o

noncomputable def denE (S : Sys) (call : Caller) (fuel N : Nat) : Code → Tv → AH → OutE
  | .skip, t, H => some (.normal, t, H)
  | .region _ ops draw, t, H => regE S ops draw (normE (opsE S call ops N ops.toList t H))
  | .seq a b, t, H => andE (denE S call fuel N a t H) (denE S call fuel N b)
  | .cond c a b, t, H => condE (evE S.G N t c) (fun _ => denE S call fuel N a t H) (fun _ => denE S call fuel N b t H)
  | .block id c, t, H => blockE id (denE S call fuel N c t H)
  | .loop c, t, H => iterE S.room (denE S call fuel N c) fuel t H
  | .scope c, t, H => denE S call fuel N c t H
  | .exit id, t, H => some (.exit id, t, H)
  | .ret, t, H => some (.ret, t, H)
  | .label _, t, H => some (.normal, t, H)
  | .rangeFunc g ps x y, t, H => rangeE call (evE S.G N t g) N t H ps.toList x y
  | _, _, _ => none

theorem toL_eq {N : Nat} {t : Tv} {s : List AV} (h : Rep N t s) : toL N t = s := by
  unfold toL
  rw [forceL_eq]
  apply List.ext_getElem?
  intro i
  by_cases hi : i < N
  · have : i < s.length := h.1 ▸ hi
    simp [hi, slot_eq h, List.getD, this]
  · rw [List.getElem?_eq_none (by simp; omega), List.getElem?_eq_none (by rw [h.1]; omega)]

/-- What it means that the evaluator's answer is the engine's. -/
def SimO (S : Sys) (call : Caller) (lp : Looper) (c : Code) (N : Nat) (s : List AV) (H : AH) (e : Ex) (t' : Tv) (H' : AH) : Prop :=
  ∃ s', Rep N t' s' ∧ ∀ {R : Type} (K : Ex → List AV → AH → Option R), denK S call lp c s H K = K e s' H'

theorem iterE_sim {N n : Nat} {bodyE : Tv → AH → OutE} {body : List AV → AH → Option Out} (hb : ∀ t s H e t' H', Rep N t s → bodyE t H = some (e, t', H') → ∃ s', Rep N t' s' ∧ body s H = some (e, s', H')) :
    ∀ (n : Nat) (t : Tv) (s : List AV) (H : AH) (e : Ex) (t' : Tv) (H' : AH), Rep N t s → iterE S.room bodyE n t H = some (e, t', H') → ∃ s', Rep N t' s' ∧ iter S.room body n s H = some (e, s', H')
  | 0, t, s, H, e, t', H', _, h => by simp [iterE] at h
  | n + 1, t, s, H, e, t', H', hr, h => by
    simp only [iterE] at h
    cases hd : bodyE t H with
    | none => rw [hd] at h; simp at h
    | some r =>
      obtain ⟨e1, t1, H1⟩ := r
      obtain ⟨s1, h1, h2⟩ := hb t s H e1 t1 H1 hr hd
      rw [hd] at h
      simp only [iter, h2]
      cases e1 with
      | normal =>
        simp only at h ⊢
        split at h
        · rename_i hroom
          have hback : back S.room s H s1 H1 = (s1, H1) := by
            unfold back
            rw [if_pos (by exact hroom)]
          rw [hback]
          exact iterE_sim (n := n) hb n t1 s1 H1 e t' H' h1 h
        · simp at h
      | exit i =>
        simp only [Option.some.injEq, Prod.mk.injEq] at h
        obtain ⟨rfl, rfl, rfl⟩ := h
        exact ⟨s1, h1, rfl⟩
      | ret =>
        simp only [Option.some.injEq, Prod.mk.injEq] at h
        obtain ⟨rfl, rfl, rfl⟩ := h
        exact ⟨s1, h1, rfl⟩

theorem leaveE_sim {N : Nat} {t t' : Tv} {s : List AV} {id : Nat} {H H' : AH} {e : Ex} (hr : Rep N t s) (h : leaveE id t H = some (e, t', H')) : t' = t ∧ ∀ {R : Type} (K : Ex → List AV → AH → Option R), leaveK id s H K = K e s H' := by
  unfold leaveE at h
  split at h
  · rename_i s0 ps x y st hob
    split at h
    all_goals first
      | (simp at h; done)
      | (rw [forceL_eq] at h
         simp only [Option.some.injEq, Prod.mk.injEq] at h
         obtain ⟨rfl, rfl, rfl⟩ := h
         exact ⟨rfl, fun K => by simp only [leaveK, hob]⟩)
  · simp at h

theorem denE_sim {call call' : Caller} (hle : call.le call') (fuel N : Nat) : ∀ (c : Code) (t : Tv) (s : List AV) (H : AH) (e : Ex) (t' : Tv) (H' : AH), Rep N t s → denE S call fuel N c t H = some (e, t', H') → SimO S call' (fun b => iter S.room b fuel) c N s H e t' H'
  | .skip, t, s, H, e, t', H', hr, h => by
    simp only [denE, Option.some.injEq, Prod.mk.injEq] at h
    obtain ⟨rfl, rfl, rfl⟩ := h
    exact ⟨s, hr, fun K => rfl⟩
  | .region id ops draw, t, s, H, e, t', H', hr, h => by
    simp only [denE] at h
    unfold regE at h
    split at h
    · simp at h
    · rename_i hd
      unfold normE at h
      split at h
      · rename_i p hp
        simp only [Option.some.injEq, Prod.mk.injEq] at h
        obtain ⟨rfl, rfl, rfl⟩ := h
        obtain ⟨s', h1, h2⟩ := opsE_sim (t' := p.1) (H' := p.2) hle ops.toList hr hp
        refine ⟨s', h2, fun K => ?_⟩
        simp only [denK]
        rw [if_neg (by rw [hd]; simp), opsK_run, h1]
        rfl
      · simp at h
  | .seq a b, t, s, H, e, t', H', hr, h => by
    simp only [denE] at h
    unfold andE at h
    split at h
    · rename_i t1 H1 hx
      obtain ⟨s1, h1, h2⟩ := denE_sim hle fuel N a t s H _ _ _ hr hx
      obtain ⟨s2, h3, h4⟩ := denE_sim hle fuel N b t1 s1 H1 _ _ _ h1 h
      exact ⟨s2, h3, fun K => by simp only [denK]; rw [h2]; exact h4 K⟩
    · rename_i hn
      obtain ⟨s1, h1, h2⟩ := denE_sim hle fuel N a t s H _ _ _ hr h
      refine ⟨s1, h1, fun K => ?_⟩
      simp only [denK]
      rw [h2]
      cases e with
      | normal => exact absurd h (hn t' H')
      | exit i => rfl
      | ret => rfl
  | .cond c a b, t, s, H, e, t', H', hr, h => by
    simp only [denE] at h
    rw [evE_eq hr] at h
    unfold condE at h
    split at h
    · rename_i hv
      obtain ⟨s1, h1, h2⟩ := denE_sim hle fuel N a t s H _ _ _ hr h
      exact ⟨s1, h1, fun K => by simp only [denK, hv, br]; exact h2 K⟩
    · rename_i hv
      obtain ⟨s1, h1, h2⟩ := denE_sim hle fuel N b t s H _ _ _ hr h
      exact ⟨s1, h1, fun K => by simp only [denK, hv, br]; exact h2 K⟩
    · simp at h
  | .block id c, t, s, H, e, t', H', hr, h => by
    simp only [denE] at h
    unfold blockE at h
    split at h
    · rename_i i t1 H1 hx
      obtain ⟨s1, h1, h2⟩ := denE_sim hle fuel N c t s H _ _ _ hr hx
      split at h
      · rename_i hb
        have := Nat.eq_of_beq_eq_true hb
        simp only [Option.some.injEq, Prod.mk.injEq] at h
        obtain ⟨rfl, rfl, rfl⟩ := h
        exact ⟨s1, h1, fun K => by simp only [denK]; rw [h2]; simp [this]⟩
      · rename_i hb
        have : ¬ i = id := fun e => by subst e; simp at hb
        simp only [Option.some.injEq, Prod.mk.injEq] at h
        obtain ⟨rfl, rfl, rfl⟩ := h
        exact ⟨s1, h1, fun K => by simp only [denK]; rw [h2]; simp [this]⟩
    · rename_i hn
      obtain ⟨s1, h1, h2⟩ := denE_sim hle fuel N c t s H _ _ _ hr h
      refine ⟨s1, h1, fun K => ?_⟩
      simp only [denK]
      rw [h2]
      cases e with
      | normal => rfl
      | exit i => exact absurd h (hn i t' H')
      | ret => rfl
  | .loop c, t, s, H, e, t', H', hr, h => by
    simp only [denE] at h
    obtain ⟨s1, h1, h2⟩ := iterE_sim (S := S) (n := fuel) (body := fun s H => denK S call' (fun b => iter S.room b fuel) c s H retO) (fun t s H e t' H' hr h => by
      obtain ⟨s', k1, k2⟩ := denE_sim hle fuel N c t s H e t' H' hr h
      exact ⟨s', k1, k2 retO⟩) fuel t s H e t' H' hr h
    exact ⟨s1, h1, fun K => by simp only [denK]; rw [h2]; rfl⟩
  | .scope c, t, s, H, e, t', H', hr, h => by
    simp only [denE] at h
    obtain ⟨s1, h1, h2⟩ := denE_sim hle fuel N c t s H _ _ _ hr h
    exact ⟨s1, h1, fun K => by simp only [denK]; exact h2 K⟩
  | .exit id, t, s, H, e, t', H', hr, h => by
    simp only [denE, Option.some.injEq, Prod.mk.injEq] at h
    obtain ⟨rfl, rfl, rfl⟩ := h
    exact ⟨s, hr, fun K => rfl⟩
  | .ret, t, s, H, e, t', H', hr, h => by
    simp only [denE, Option.some.injEq, Prod.mk.injEq] at h
    obtain ⟨rfl, rfl, rfl⟩ := h
    exact ⟨s, hr, fun K => rfl⟩
  | .label l, t, s, H, e, t', H', hr, h => by
    simp only [denE, Option.some.injEq, Prod.mk.injEq] at h
    obtain ⟨rfl, rfl, rfl⟩ := h
    exact ⟨s, hr, fun K => rfl⟩
  | .rangeFunc g ps x y, t, s, H, e, t', H', hr, h => by
    simp only [denE] at h
    rw [evE_eq hr] at h
    unfold rangeE at h
    split at h
    · rename_i f first caps hv
      split at h
      · rename_i p hp
        rw [toL_eq hr] at hp
        obtain ⟨rfl, h2⟩ := leaveE_sim hr h
        refine ⟨s, hr, fun K => ?_⟩
        simp only [denK, hv, rangeK]
        rw [show call' f _ _ = some p from hle.fn _ _ _ _ hp]
        exact h2 K
      · simp at h
    · simp at h
  | .goto l, t, s, H, e, t', H', hr, h => by simp [denE] at h
  | .refuse w, t, s, H, e, t', H', hr, h => by simp [denE] at h

end Go.Sx

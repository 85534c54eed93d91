/- THE ENGINE, 19: a region in the order of the text. -/
import Derived.Test.YtoagnbpmoihojaaDoorSxSound14
import Derived.OrdersIn
set_option linter.unusedSimpArgs false
set_option linter.unusedVariables false
namespace Go.Sx
variable {S : Sys} {P : Program} {R : Type}

theorem ARel.refine {E : GE} {s : List AV} {a : Act} (ha : ARel E s a) {d : Nat} {v : AV} {x : Value} (hx : a.tmps[d]? = some x) (hv : VRel E v x) : ARel E (s.set d v) a := by
  refine ⟨⟨by simpa using ha.tmps.1, ?_⟩, ha.defers⟩
  intro i u y hu hy
  simp only [List.getElem?_set] at hu
  by_cases e : d = i
  · subst e
    rw [if_pos rfl] at hu
    split at hu
    · simp only [Option.some.injEq] at hu
      subst hu
      rw [hx] at hy
      obtain rfl := Option.some.inj hy
      exact hv
    · simp at hu
  · rw [if_neg e] at hu
    exact ha.tmps.2 i u y hu hy

theorem tmp_bool {E : GE} {s : List AV} {a : Act} (ha : ARel E s a) {d : Nat} {t : Bool} (h : s[d]? = some (.bool t)) : a.tmps[d]? = some (.bool t) := by
  have hlt : d < s.length := by
    rcases Nat.lt_or_ge d s.length with h' | h'
    · exact h'
    · simp [List.getElem?_eq_none h'] at h
  have hlt' : d < a.tmps.size := ha.tmps.1 ▸ hlt
  have := ha.tmps.2 d _ a.tmps[d] h (by simp [hlt'])
  have e := rel_bool this
  simp [hlt', e]

theorem yielded_of {ops : Array Oper} {a : Act} {j d : Nat} {t : Bool} (hd : (ops[j]?).bind (·.dst) = some d) (h : a.tmps[d]? = some (.bool t)) : yielded ops a.tmps j = some t := by
  unfold yielded
  rw [hd]
  simp [h]

theorem rel_undef (E : GE) : VRel E (.tuple []) undef := .tuple [] #[] rfl (by simp)

theorem tmp_undef {E : GE} {s : List AV} {a : Act} (ha : ARel E s a) {d : Nat} (h : s[d]? = some (.tuple [])) : a.tmps[d]? = some (.tuple #[]) := by
  have hlt : d < s.length := by
    rcases Nat.lt_or_ge d s.length with h' | h'
    · exact h'
    · simp [List.getElem?_eq_none h'] at h
  have hlt' : d < a.tmps.size := ha.tmps.1 ▸ hlt
  have := ha.tmps.2 d _ a.tmps[d] h (by simp [hlt'])
  generalize hx : a.tmps[d] = x at this
  cases this with
  | tuple _ xs h1 _ =>
    have : xs = #[] := by
      obtain ⟨l⟩ := xs
      cases l with
      | nil => rfl
      | cons => simp at h1
    subst this
    simp [hlt', hx]

theorem yielded_undef {ops : Array Oper} {a : Act} {j d : Nat} (hd : (ops[j]?).bind (·.dst) = some d) (h : a.tmps[d]? = some (.tuple #[])) : yielded ops a.tmps j = none := by
  unfold yielded
  rw [hd]
  simp [h]

/-- An operation, or what stands in its place where its guard bars it. -/
theorem step_sound (ro : Option Nat) (hS : SysOK S P) {call : Caller} (hcall : CallOK S P call) {all : Array Oper} {o : Oper} {rest : List Oper} {s : List AV} {H : AH} {K : List AV → AH → Option R} {r : R} (h : opsK S call all (o :: rest) s H K = some r)
    {E : GE} {a : Act} (hr : Rel S H E) (ha : ARel E s a) (next : Act → World → Prop) (Q : Exit → Act → World → Prop)
    (hn : ∀ s' H' a' E', opsK S call all rest s' H' K = some r → E.le E' → Rel S H' E' → ARel E' s' a' → next a' E'.w) :
    (if Region.wanted o (yielded all a.tmps) = true then o.wpIn (WR ro) 0 P a E.w next Q else next (a.put o.dst undef) E.w) := by
  simp only [opsK] at h
  split at h
  · rename_i hg
    obtain ⟨v, H', h1, h2⟩ := op_sound ro hS hcall hr ha h
    rw [if_pos (by simp [Region.wanted, hg])]
    exact h2 next Q (fun x E' hle hr' hv => hn _ _ _ E' h1 hle hr' (put_rel (ha.mono hle) hv o.dst))
  · rename_i j want hg
    split at h
    · simp at h
    · rename_i d hd
      split at h
      · rename_i t ht
        have hb := tmp_bool ha ht
        have hy := yielded_of hd hb
        have h' := br_some h
        clear h
        rcases h' with ⟨rfl, h⟩ | ⟨rfl, h⟩
        · have ha' : ARel E (s.set d (.bool true)) a := ha.refine hb (.bool true)
          split at h
          · rename_i hw
            obtain ⟨v, H', h1, h2⟩ := op_sound ro hS hcall hr ha' h
            rw [if_pos (by simp [Region.wanted, hg, hy, hw])]
            exact h2 next Q (fun x E' hle hr' hv => hn _ _ _ E' h1 hle hr' (put_rel (ha'.mono hle) hv o.dst))
          · rename_i hw
            rw [if_neg (by simp [Region.wanted, hg, hy, hw])]
            exact hn _ _ _ E h (GE.le.refl E) hr (put_rel ha' (rel_undef E) o.dst)
        · have ha' : ARel E (s.set d (.bool false)) a := ha.refine hb (.bool false)
          split at h
          · rename_i hw
            rw [if_neg (by simp [Region.wanted, hg, hy, hw])]
            exact hn _ _ _ E h (GE.le.refl E) hr (put_rel ha' (rel_undef E) o.dst)
          · rename_i hw
            obtain ⟨v, H', h1, h2⟩ := op_sound ro hS hcall hr ha' h
            rw [if_pos (by simp [Region.wanted, hg, hy, hw])]
            exact h2 next Q (fun x E' hle hr' hv => hn _ _ _ E' h1 hle hr' (put_rel (ha'.mono hle) hv o.dst))
      · rename_i ht
        have hy := yielded_undef hd (tmp_undef ha ht)
        rw [if_neg (by simp [Region.wanted, hg, hy])]
        exact hn _ _ _ E h (GE.le.refl E) hr (put_rel ha (rel_undef E) o.dst)
      · simp at h

theorem ops_sound (ro : Option Nat) (hS : SysOK S P) {call : Caller} (hcall : CallOK S P call) {all : Array Oper} {K : List AV → AH → Option R} {r : R} (Q : Exit → Act → World → Prop) {E0 : GE} (hQ : ∀ s' H' a' E', K s' H' = some r → E0.le E' → Rel S H' E' → ARel E' s' a' → Q .normal a' E'.w) :
    ∀ (rest : List Oper) (i : Nat), all.toList.drop i = rest → ∀ {s : List AV} {H : AH} {E : GE} {a : Act}, opsK S call all rest s H K = some r → E0.le E → Rel S H E → ARel E s a → wpOpsIn (WR ro) 0 P all Q (List.range' i rest.length) a E.w
  | [], i, _, s, H, E, a, h, hle, hr, ha => hQ s H a E h hle hr ha
  | o :: rest, i, hd, s, H, E, a, h, hle, hr, ha => by
    have ho : all[i]? = some o := by
      have : (all.toList.drop i)[0]? = some o := by rw [hd]; rfl
      simpa using this
    have hd' : all.toList.drop (i + 1) = rest := by
      have : (all.toList.drop i).drop 1 = rest := by rw [hd]; rfl
      rwa [List.drop_drop] at this
    have h1 := step_sound ro hS hcall h hr ha (wpOpsIn (WR ro) 0 P all Q (List.range' (i + 1) rest.length)) Q (fun s' H' a' E' h1 h2 h3 h4 => ops_sound ro hS hcall Q hQ rest (i + 1) hd' h1 (hle.trans h2) h3 h4)
    show wpOpsIn (WR ro) 0 P all Q (i :: List.range' (i + 1) rest.length) a E.w
    simp only [wpOpsIn, ho]
    split at h1
    · rename_i hw; rw [if_pos hw]; exact h1
    · rename_i hw; rw [if_neg hw]; exact ⟨fun _ _ => trivial, h1⟩

end Go.Sx

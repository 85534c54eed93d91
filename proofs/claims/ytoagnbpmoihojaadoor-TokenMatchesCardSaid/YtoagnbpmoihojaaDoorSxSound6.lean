/- THE ENGINE, 10: aggregates and slices that are made. -/
import Derived.Test.YtoagnbpmoihojaaDoorSxSound5
set_option linter.unusedSimpArgs false
set_option linter.unusedVariables false
namespace Go.Sx
variable {S : Sys} {P : Program} {R : Type}

theorem fold_get (off : Nat) : ∀ (vs : List Value) (n : Nat) (cells : Array Value), off + n + vs.length ≤ cells.size →
    ((vs.zipIdx n).foldl (fun cs (p : Value × Nat) => cs.setIfInBounds (off + p.2) p.1) cells).size = cells.size ∧
    ∀ k : Nat, ((vs.zipIdx n).foldl (fun cs (p : Value × Nat) => cs.setIfInBounds (off + p.2) p.1) cells)[k]? = if off + n ≤ k ∧ k < off + n + vs.length then vs[k - (off + n)]? else cells[k]?
  | [], n, cells, _ => by
    simp
    intro k h1 h2; omega
  | v :: vs, n, cells, h => by
    simp only [List.zipIdx_cons, List.foldl_cons]
    simp only [List.length_cons] at h
    obtain ⟨h1, h2⟩ := fold_get off vs (n + 1) (cells.setIfInBounds (off + n) v) (by simp; omega)
    refine ⟨by simpa using h1, fun k => ?_⟩
    rw [h2]
    simp only [List.length_cons, Array.getElem?_setIfInBounds]
    by_cases e : k = off + n
    · subst e
      rw [if_neg (by omega), if_pos rfl, if_pos (by omega), if_pos (by omega)]
      simp
    · by_cases hin : off + (n + 1) ≤ k ∧ k < off + (n + 1) + vs.length
      · rw [if_pos hin, if_pos (by omega)]
        have : k - (off + n) = (k - (off + (n + 1))) + 1 := by omega
        rw [this, List.getElem?_cons_succ]
      · rw [if_neg hin, if_neg (by omega), if_neg (by omega)]

theorem crel_splice {E : GE} {cs vs : List AV} {xs ys : List Value} (h1 : CRel E cs xs) (h2 : CRel E vs ys) {off : Nat} (hl : off + vs.length ≤ cs.length) {zs : List Value}
    (hlen : zs.length = xs.length) (hz : ∀ k : Nat, zs[k]? = if off ≤ k ∧ k < off + ys.length then ys[k - off]? else xs[k]?) : CRel E (splice cs off vs) zs := by
  have e1 := h1.len
  have e2 := h2.len
  refine ⟨by rw [splice_length hl]; omega, ?_, ?_⟩
  · intro j v x hv hx
    rw [splice_get hl] at hv
    rw [hz] at hx
    split at hv
    · rw [if_pos (by omega)] at hx; exact h2.rel _ _ _ hv hx
    · rw [if_neg (by omega)] at hx; exact h1.rel _ _ _ hv hx
  · intro x hx
    obtain ⟨j, hj⟩ := List.getElem?_of_mem hx
    rw [hz] at hj
    split at hj
    · exact h2.one _ (List.mem_of_getElem? hj)
    · exact h1.one _ (List.mem_of_getElem? hj)

/-- Parts that tell parts. -/
inductive PRel (E : GE) : List (Nat × AV) → List (Nat × Value) → Prop
  | nil : PRel E [] []
  | cons (i : Nat) (v : AV) (x : Value) (us : List (Nat × AV)) (xs : List (Nat × Value)) (h : VRel E v x) (hs : v.solid = true) (hr : PRel E us xs) : PRel E ((i, v) :: us) ((i, x) :: xs)

theorem fill_sound {E : GE} {place : Nat → Option (Nat × Nat)} : ∀ {us : List (Nat × AV)} {xs : List (Nat × Value)}, PRel E us xs → ∀ {cs out : List AV} {cells : Array Value}, CRel E cs cells.toList → fillL place cs us = some out →
    ∃ arr, Instr.fill place cells xs = some arr ∧ CRel E out arr.toList := by
  intro us xs hp
  induction hp with
  | nil =>
    intro cs out cells hc h
    simp only [fillL, Option.some.injEq] at h
    subst h
    exact ⟨cells, rfl, hc⟩
  | cons i v x us xs hv hs hr ih =>
    intro cs out cells hc h
    simp only [fillL] at h
    split at h
    · simp at h
    · rename_i off size hpl
      split at h
      · rename_i hcond
        simp only [Bool.and_eq_true, decide_eq_true_eq] at hcond
        have hcr := cells_crel hv hs
        have hlen1 := hc.len
        have hlen2 := hcr.len
        simp only [Array.length_toList] at hlen1 hlen2
        obtain ⟨hf1, hf2⟩ := fold_get off x.cells.toList 0 cells (by simp; omega)
        have hspl : CRel E (splice cs off v.cells) (((x.cells.toList.zipIdx 0).foldl (fun cs (p : Value × Nat) => cs.setIfInBounds (off + p.2) p.1) cells)).toList := by
          refine crel_splice hc hcr (by omega) (by simpa using hf1) ?_
          intro k
          have := hf2 k
          simp only [Nat.add_zero, Array.getElem?_toList] at this ⊢
          simpa using this
        obtain ⟨arr, h1, h2⟩ := ih hspl h
        refine ⟨arr, ?_, h2⟩
        simp only [Instr.fill, hpl]
        rw [if_neg (by simp; omega)]
        rw [← h1]
        congr 1
        rw [← Array.foldl_toList]
        simp
      · simp at h

theorem fillL_mono {p q : Nat → Option (Nat × Nat)} (hpq : ∀ n x, p n = some x → q n = some x) : ∀ (us : List (Nat × AV)) (cs out : List AV), fillL p cs us = some out → fillL q cs us = some out
  | [], cs, out, h => h
  | (i, v) :: us, cs, out, h => by
    simp only [fillL] at h ⊢
    split at h
    · simp at h
    · rename_i off size hp
      rw [hpq _ _ hp]
      simp only
      split at h
      · rename_i hc
        rw [if_pos hc]
        exact fillL_mono hpq us _ _ h
      · simp at h

theorem mapM_places (w : World) : ∀ (l : List Field), l.all (fun f => (P.info? f.type).isSome) = true →
    (l.mapM (fun f => Prod.mk f.offset <$> sizeOf f.type) : Sem (List (Nat × Nat))).run P w = .ok (l.map fun f => (f.offset, P.cellsOf f.type)) w
  | [], _ => by simp
  | f :: l, h => by
    simp only [List.all_cons, Bool.and_eq_true] at h
    obtain ⟨i, hi⟩ := Option.isSome_iff_exists.1 h.1
    have ih := mapM_places w l h.2
    have hs : (sizeOf f.type).run P w = .ok (P.cellsOf f.type) w := by simp [sizeOf, run_info hi, Program.cellsOf, hi]
    simp only [List.mapM_cons, Sem.run_bind, Sem.run_map, hs, ih, Result.andThen_ok, Sem.run_pure, List.map_cons]

theorem build_sound (hS : SysOK S P) {E : GE} {t : TypeId} {i : TI} (hi : S.T t = some i) {us : List (Nat × AV)} {xs : Array (Nat × Value)} (hp : PRel E us xs.toList) {K : AV → Option R} {r : R} (h : buildK i S.T us K = some r) (w : World) :
    ∃ v y, K v = some r ∧ VRel E v y ∧ (Instr.build t xs).run P w = .ok y w := by
  have hT := hS.type _ _ hi
  have hk := hT.kind
  obtain ⟨z, hz1, hz2, hz3⟩ := zero_rel hT w
  have hzc := cells_crel (hz3 E) hz2
  have toV : ∀ (out : List AV) (arr : Array Value), CRel E out arr.toList → VRel E (.agg out) (.agg arr) := by
    intro out arr hc
    refine .agg _ _ (by have := hc.len; simpa using this) ?_ ?_
    · intro i c x h1 h2; exact hc.rel i c x h1 (by simpa using h2)
    · intro i x h2; exact hc.one x (by simpa using Array.mem_of_getElem? h2)
  unfold buildK at h
  split at h
  · rename_i fs hik
    rw [hik] at hk
    obtain ⟨fields, hu, hf, _, hinf⟩ := hk
    split at h
    · rename_i out hout
      have hpl1 : (fields.mapM (fun f => Prod.mk f.offset <$> sizeOf f.type) : Sem (Array (Nat × Nat))).run P w = .ok (fields.toList.map fun f => (f.offset, P.cellsOf f.type)).toArray w := by
        rw [Array.mapM_eq_mapM_toList]
        simp [mapM_places w fields.toList hinf]
      have hout' : fillL (fun n => (fields.toList.map fun f => (f.offset, P.cellsOf f.type)).toArray[n]?) i.zero.cells us = some out := by
        refine fillL_mono ?_ us _ _ hout
        intro n x hx
        unfold places at hx
        split at hx
        · rename_i off t' hn
          rw [← hf] at hn
          simp only [List.getElem?_map, Option.map_eq_some_iff] at hn
          obtain ⟨f, hf1, hf2⟩ := hn
          simp only [Prod.mk.injEq] at hf2
          obtain ⟨rfl, rfl⟩ := hf2
          simp only [Option.map_eq_some_iff] at hx
          obtain ⟨j, hj, rfl⟩ := hx
          obtain ⟨inf, z', g1, g2, _⟩ := (hS.type _ _ hj).info
          have hf1' : fields[n]? = some f := by simpa using hf1
          simp [hf1', Program.cellsOf, g1, g2]
        · simp at hx
      obtain ⟨arr, h1, h2⟩ := fill_sound hp hzc hout'
      refine ⟨_, _, h, toV _ _ h2, ?_⟩
      have hpl1' : (fields.mapM (fun f => do pure (f.offset, ← sizeOf f.type)) : Sem (Array (Nat × Nat))).run P w = .ok (fields.toList.map fun f => (f.offset, P.cellsOf f.type)).toArray w := hpl1
      simp only [Instr.build, Sem.run_bind, hz1, run_underlying hu, Result.andThen_ok, hpl1', h1, Sem.run_pure]
    · simp at h
  · rename_i n e hik
    rw [hik] at hk
    have hu : P.underlying t = some (.array n e) := hk
    split at h
    · simp at h
    · rename_i j hj
      split at h
      · rename_i out hout
        obtain ⟨arr, h1, h2⟩ := fill_sound hp hzc hout
        refine ⟨_, _, h, toV _ _ h2, ?_⟩
        simp [Instr.build, hz1, run_underlying hu, run_size' hS hj, h1]
      · simp at h
  · simp at h

end Go.Sx

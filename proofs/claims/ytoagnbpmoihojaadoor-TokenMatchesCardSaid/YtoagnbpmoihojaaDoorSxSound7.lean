/- THE ENGINE, 11: lists in memory that is made and never written again. -/
import Derived.Test.YtoagnbpmoihojaaDoorSxSound6
set_option linter.unusedSimpArgs false
set_option linter.unusedVariables false
namespace Go.Sx
variable {S : Sys} {P : Program} {R : Type}

theorem flat_length {sz : Nat} : ∀ (xs : List AV), (∀ v, v ∈ xs → v.cells.length = sz) → (flat xs).length = xs.length * sz
  | [], _ => by simp [flat]
  | v :: xs, h => by
    have := flat_length xs (fun v hv => h v (by simp [hv]))
    have hv := h v (by simp)
    simp only [flat, List.flatMap_cons, List.length_append, List.length_cons] at this ⊢
    rw [this, hv, Nat.add_mul]; omega

theorem flat_get {sz : Nat} : ∀ (xs : List AV), (∀ v, v ∈ xs → v.cells.length = sz) → ∀ (i : Nat) v j c, xs[i]? = some v → v.cells[j]? = some c → (flat xs)[i * sz + j]? = some c
  | [], _, i, v, j, c, hi, _ => by simp at hi
  | u :: xs, h, i, v, j, c, hi, hj => by
    have hu := h u (by simp)
    simp only [flat, List.flatMap_cons]
    cases i with
    | zero =>
      simp only [List.getElem?_cons_zero, Option.some.injEq] at hi
      subst hi
      simp only [Nat.zero_mul, Nat.zero_add]
      rw [List.getElem?_append_left]
      · exact hj
      · rcases Nat.lt_or_ge j u.cells.length with h' | h'
        · exact h'
        · simp [List.getElem?_eq_none h'] at hj
    | succ i =>
      simp only [List.getElem?_cons_succ] at hi
      rw [List.getElem?_append_right (by rw [hu, Nat.add_mul]; omega)]
      have := flat_get xs (fun v hv => h v (by simp [hv])) i v j c hi hj
      rw [← this]
      simp only [flat]
      congr 1
      rw [hu, Nat.add_mul]; omega

/-- What a new row of settled cells, with or without a token for its spare places, makes of the state. -/
def GE.row (E : GE) (o : Obj) (n : Nat) (tk : Option (Nat × Nat)) : GE :=
  { E with
    w := E.w.alloc o
    S := fun b k => E.S b k ∨ (b = E.w.heap.size ∧ k < n)
    nt := match tk with | some _ => E.nt + 1 | none => E.nt
    τ := match tk with
      | some (sz, ce) => fun t g => if t = E.nt then (if g = 0 then some (sz, E.w.heap.size, n, ce) else none) else E.τ t g
      | none => E.τ }

theorem row_w (E : GE) (o : Obj) (n : Nat) (tk : Option (Nat × Nat)) : (E.row o n tk).w = E.w.alloc o := rfl

theorem alloc_size (w : World) (o : Obj) : (w.alloc o).heap.size = w.heap.size + 1 := by
  show (w.heap.push o).size = _; simp

theorem alloc_get (w : World) (o : Obj) : (w.alloc o).heap[w.heap.size]? = some o := by
  show (w.heap.push o)[w.heap.size]? = _; simp

theorem row_le {H : AH} {E : GE} (hr : HRel H E) (o : Obj) (n : Nat) (tk : Option (Nat × Nat)) : E.le (E.row o n tk) where
  nid := Nat.le_refl _
  ρ := fun _ _ _ h => h
  nt := by cases tk <;> simp [GE.row]
  τ := by
    intro t g p ht hp
    cases tk with
    | none => exact hp
    | some q => simp only [GE.row]; rw [if_neg (by omega)]; exact hp
  S := fun _ _ h => .inl h
  cell := fun b k hb => cell_of_block (alloc_block _ _ _ (hr.Slt _ _ hb))
  base := rfl
  low := rfl
  snew := by
    intro b k hb
    rcases hb with h | ⟨rfl, _⟩
    · exact .inl h
    · exact .inr (.inl (Nat.le_refl _))
  own := by
    intro b hb h
    rcases h with ⟨id, hid, hρ⟩ | ⟨t, g, p, ht, hp, hpb⟩
    · exact .inl ⟨id, hid, hρ⟩
    · cases tk with
      | none => exact .inr ⟨t, g, p, ht, hp, hpb⟩
      | some q =>
        simp only [GE.row] at ht hp
        by_cases e : t = E.nt
        · subst e
          simp only [if_true] at hp
          split at hp
          · simp only [Option.some.injEq] at hp; subst hp; simp at hpb; omega
          · simp at hp
        · rw [if_neg e] at hp
          exact .inr ⟨t, g, p, by omega, hp, hpb⟩
  os := rfl
  tape := rfl
  output := rfl
  size := by rw [row_w, alloc_size]; omega
  block := fun b hb _ => alloc_block _ _ _ hb

def AH.addTok (H : AH) : Option (Nat × Nat) → AH
  | some q => { H with toks := H.toks ++ [(0, q.1)] }
  | none => H

theorem row_rel {H : AH} {E : GE} (hr : HRel H E) {arr : Array Value} {el : TypeId} {n : Nat} {tk : Option (Nat × Nat)} (hn : n ≤ arr.size) (h1 : ∀ (j : Nat) x, arr[j]? = some x → x.oneCell' = true) (htk : ∀ q, tk = some q → n ≤ q.2 ∧ q.2 ≤ arr.size) :
    HRel (H.addTok tk) (E.row (.cells arr el) n tk) := by
  have hle := row_le hr (.cells arr el) n tk
  have hidlt : ∀ i b, i < E.nid → E.ρ i = some b → b < E.w.heap.size := fun i b hi hb => hr.lt b (.inl ⟨i, hi, hb⟩)
  have hSl := hr.Slt
  have hτ : ∀ t g p, t < (E.row (.cells arr el) n tk).nt → (E.row (.cells arr el) n tk).τ t g = some p → (t < E.nt ∧ E.τ t g = some p) ∨ (∃ q, tk = some q ∧ t = E.nt ∧ g = 0 ∧ p = (q.1, E.w.heap.size, n, q.2)) := by
    intro t g p ht hp
    cases tk with
    | none => exact .inl ⟨ht, hp⟩
    | some q =>
      simp only [GE.row] at ht hp
      by_cases e : t = E.nt
      · subst e
        simp only [if_true] at hp
        split at hp
        · rename_i hg
          exact .inr ⟨q, rfl, rfl, hg, (Option.some.inj hp).symm⟩
        · simp at hp
      · rw [if_neg e] at hp
        exact .inl ⟨by omega, hp⟩
  have hobjs : (H.addTok tk).objs = H.objs := by cases tk <;> rfl
  constructor
  · rw [hobjs]; exact hr.nid
  · cases tk with
    | none => exact hr.nt
    | some q => simp [GE.row, AH.addTok, hr.nt]
  · intro id o ho
    rw [hobjs] at ho
    have hid := hr.idlt ho
    refine (hr.obj id o ho).mono hle hid (fun b hb => alloc_block _ _ _ (hidlt id b hid hb)) ?_
    intro b o' hb hS
    rcases hS with h | ⟨h, _⟩
    · exact h
    · have := hidlt id b hid hb; omega
  · exact hr.inj
  · intro t g sz ht
    have old : H.toks[t]? = some (g, sz) → ∃ b e ce c el', (E.row (.cells arr el) n tk).τ t g = some (sz, b, e, ce) ∧ (E.row (.cells arr el) n tk).w.heap[b]? = some (.cells c el' (0, 0)) ∧ e ≤ ce ∧ ce ≤ c.size ∧ (∀ (j : Nat) x, c[j]? = some x → x.oneCell' = true) ∧ ∀ o, e ≤ o → ¬ (E.row (.cells arr el) n tk).S b o := by
      intro ht
      obtain ⟨b, e, ce, c, el', g1, g2, g3, g4, g5, g6⟩ := hr.tok t g sz ht
      have hb := hr.lt b (.inr ⟨t, g, _, hr.tlt ht, g1, rfl⟩)
      refine ⟨b, e, ce, c, el', hle.τ t g _ (hr.tlt ht) g1, (alloc_block _ _ _ hb).trans g2, g3, g4, g5, ?_⟩
      intro o ho hS
      rcases hS with h | ⟨h, _⟩
      · exact g6 o ho h
      · omega
    cases tk with
    | none => exact old ht
    | some q =>
      simp only [AH.addTok] at ht
      by_cases e : t = H.toks.length
      · subst e
        simp only [List.getElem?_append_right (Nat.le_refl _), Nat.sub_self, List.getElem?_cons_zero, Option.some.injEq, Prod.mk.injEq] at ht
        obtain ⟨rfl, rfl⟩ := ht
        obtain ⟨k1, k2⟩ := htk q rfl
        refine ⟨E.w.heap.size, n, q.2, arr, el, ?_, alloc_get _ _, k1, k2, h1, ?_⟩
        · simp [GE.row, hr.nt]
        · intro o ho hS
          rcases hS with h | ⟨_, h⟩
          · have := hSl _ _ h; omega
          · omega
      · have ht' : H.toks[t]? = some (g, sz) := by
          rw [List.getElem?_append_left] at ht
          · exact ht
          · rcases Nat.lt_or_ge t H.toks.length with h' | h'
            · exact h'
            · rw [List.getElem?_append_right h'] at ht
              have : t - H.toks.length ≠ 0 := by omega
              obtain ⟨m, hm⟩ : ∃ m, t - H.toks.length = m + 1 := ⟨t - H.toks.length - 1, by omega⟩
              rw [hm] at ht; simp at ht
        exact old ht'
  · intro t g sz g' ht hg
    cases tk with
    | none => exact hr.late t g sz g' ht hg
    | some q =>
      simp only [GE.row]
      by_cases e : t = E.nt
      · subst e
        simp only [if_true]
        rw [if_neg (by omega)]
      · rw [if_neg e]
        simp only [AH.addTok] at ht
        have ht' : H.toks[t]? = some (g, sz) := by
          rw [List.getElem?_append_left] at ht
          · exact ht
          · rcases Nat.lt_or_ge t H.toks.length with h' | h'
            · exact h'
            · rw [List.getElem?_append_right h'] at ht
              have := hr.nt
              obtain ⟨m, hm⟩ : ∃ m, t - H.toks.length = m + 1 := ⟨t - H.toks.length - 1, by omega⟩
              rw [hm] at ht; simp at ht
        exact hr.late t g sz g' ht' hg
  · intro t g p id b ht hp hid hb
    have hb' := hidlt id b hid hb
    rcases hτ t g p ht hp with ⟨h1, h2⟩ | ⟨q, _, _, _, rfl⟩
    · exact hr.tsep t g p id b h1 h2 hid hb
    · simp only; omega
  · intro t g p t' g' p' ht ht' hp hp' e
    rcases hτ t g p ht hp with ⟨a1, a2⟩ | ⟨q, _, rfl, _, rfl⟩ <;> rcases hτ t' g' p' ht' hp' with ⟨b1, b2⟩ | ⟨q', _, rfl, _, rfl⟩
    · exact hr.tinj t g p t' g' p' a1 b1 a2 b2 e
    · have := hr.lt p.2.1 (.inr ⟨t, g, p, a1, a2, rfl⟩); simp only at e; omega
    · have := hr.lt p'.2.1 (.inr ⟨t', g', p', b1, b2, rfl⟩); simp only at e; omega
    · rfl
  · intro t g p ht hp
    rcases hτ t g p ht hp with ⟨a1, a2⟩ | ⟨q, _, _, _, rfl⟩
    · exact hr.tbase t g p a1 a2
    · exact hr.hbase
  · intro b o hS
    rcases hS with h | ⟨rfl, h⟩
    · have := hr.set b o h
      rwa [← cell_of_block (w' := (E.row (.cells arr el) n tk).w) (alloc_block _ _ _ (hSl _ _ h))] at this
    · have : (E.row (.cells arr el) n tk).w.cell? ⟨E.w.heap.size, o, none⟩ = arr[o]? := obj_cell (E := E.row (.cells arr el) n tk) (alloc_get _ _)
      rw [this]
      simp; omega
  · intro b hb
    rw [row_w, alloc_size]
    rcases hb with ⟨id, hid, hρ⟩ | ⟨t, g, p, ht, hp, hpb⟩
    · have := hidlt id b hid hρ; omega
    · rcases hτ t g p ht hp with ⟨a1, a2⟩ | ⟨q, _, _, _, rfl⟩
      · have := hr.lt b (.inr ⟨t, g, p, a1, a2, hpb⟩); omega
      · simp only at hpb; omega
  · exact Nat.le_trans hr.hbase hle.size

/-- The list in it. -/
theorem row_val {H : AH} {E : GE} (hr : HRel H E) {arr : Array Value} {el : TypeId} {sz cap : Nat} {xs : List AV} {tk : Option (Nat × Nat)} (hsz : ∀ v, v ∈ xs → v.cells.length = sz) (hc : CRel E (flat xs) (arr.toList.take (xs.length * sz)))
    (h1 : ∀ (j : Nat) x, arr[j]? = some x → x.oneCell' = true) (hcap : xs.length ≤ cap) (hsize : arr.size = cap * sz) {p : Spare}
    (hp : (p = .unk) ∨ (p = .zero ∧ cap = xs.length) ∨ (p = .tok E.nt 0 ∧ tk = some (sz, cap * sz))) :
    VRel (E.row (.cells arr el) (xs.length * sz) tk) (.inl true p sz xs) (.slice (some ⟨E.w.heap.size, 0, none⟩) xs.length cap) := by
  have hmul : xs.length * sz ≤ arr.size := by rw [hsize]; exact Nat.mul_le_mul_right _ hcap
  have hle := row_le hr (.cells arr el) (xs.length * sz) tk
  refine .inl true p sz xs _ cap (fun i j => arr.getD (i * sz + j) undef) hsz ?_ ?_ hcap (fun _ => hr.hbase) ?_
  · intro i j hi hj
    have hlt : i * sz + j < xs.length * sz := by
      have : (i + 1) * sz ≤ xs.length * sz := Nat.mul_le_mul_right _ hi
      rw [Nat.add_mul] at this; omega
    have hlt' : i * sz + j < arr.size := by omega
    rw [Addr.add_lit, Nat.zero_add, obj_cell (E := E.row (.cells arr el) (xs.length * sz) tk) (alloc_get _ _)]
    refine ⟨by simp [Array.getD, hlt'], ?_, .inr ⟨rfl, hlt⟩⟩
    simp only [Array.getD, hlt', dite_true]
    exact h1 (i * sz + j) _ (by simp [hlt'])
  · intro i v j c hi hj
    have hf := flat_get xs hsz i v j c hi hj
    have hlt : i * sz + j < xs.length * sz := by
      rw [← flat_length xs hsz]
      rcases Nat.lt_or_ge (i * sz + j) (flat xs).length with h' | h'
      · exact h'
      · simp [List.getElem?_eq_none h'] at hf
    have hlt' : i * sz + j < arr.size := by omega
    simp only [Array.getD, hlt', dite_true]
    refine (hc.rel (i * sz + j) c _ hf ?_).mono hle
    rw [List.getElem?_take, if_pos hlt]
    simp [hlt']
  · rcases hp with rfl | ⟨rfl, hcl⟩ | ⟨rfl, rfl⟩
    · trivial
    · exact hcl
    · refine ⟨Nat.lt_succ_self _, rfl, ?_⟩
      simp [GE.row]

end Go.Sx

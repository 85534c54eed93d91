/- THE ENGINE, 23: calls with trees; the program. -/
import Derived.Test.YtoagnbpmoihojaaDoorSxSound18
set_option linter.unusedSimpArgs false
set_option linter.unusedVariables false
namespace Go.Sx
variable {S : Sys} {P : Program}

def GE.bare (E : GE) (T : Nat → Nat → Prop) : GE := { w := E.w, nid := 0, ρ := fun _ => none, nt := 0, τ := fun _ _ => none, S := T, base := E.w.heap.size, low := E.low }

theorem eraseL_get : ∀ (vs : List AV) (i : Nat), (eraseL vs)[i]? = (vs[i]?).map erase
  | [], i => by simp [eraseL]
  | v :: vs, 0 => by simp [eraseL]
  | v :: vs, i + 1 => by simp [eraseL, eraseL_get vs i]
theorem eraseL_length : ∀ (vs : List AV), (eraseL vs).length = vs.length
  | [] => rfl
  | v :: vs => by simp [eraseL, eraseL_length vs]
theorem erase_cells_length (v : AV) : (erase v).cells.length = v.cells.length := by
  cases v <;> simp [erase, AV.cells, eraseL_length]
theorem erase_cells_get (v : AV) (j : Nat) (c : AV) (h : (erase v).cells[j]? = some c) : ∃ d, v.cells[j]? = some d ∧ c = erase d := by
  by_cases ha : ∃ cs, v = .agg cs
  · obtain ⟨cs, rfl⟩ := ha
    simp only [erase, AV.cells, eraseL_get, Option.map_eq_some_iff] at h
    obtain ⟨d, h1, h2⟩ := h
    exact ⟨d, h1, h2.symm⟩
  · have hv : v.cells = [v] := by cases v <;> simp_all [AV.cells]
    have hd : (erase v).cells = [erase v] := by cases v <;> simp_all [AV.cells, erase]
    rw [hd] at h
    rw [hv]
    cases j with
    | zero => simp at h; exact ⟨v, rfl, h.symm⟩
    | succ j => simp at h

theorem erase_rel {E : GE} {T : Nat → Nat → Prop} (hT : ∀ b o, E.S b o → T b o) {v : AV} {x : Value} (hv : VRel E v x) (hb : Go.Sx.below 0 0 (erase v) = true) : VRel (E.bare T) (erase v) x := by
  revert hb
  induction hv with
  | top v => exact fun _ => .top v
  | bool b => exact fun _ => .bool b
  | int k n => exact fun _ => .int k n
  | str s => exact fun _ => .str s
  | ptr id off b hid h => intro hb; simp [erase, Go.Sx.below] at hb
  | nilptr => exact fun _ => .nilptr
  | rop v a x hx hr ih =>
    intro hb
    refine .rop _ a x (fun j hj => ?_) (fun j c hc => ?_)
    · rw [erase_cells_length] at hj
      exact ⟨(hx j hj).1, (hx j hj).2.1, hT _ _ (hx j hj).2.2⟩
    · have hbc := below_cells (v := erase v) hb j c hc
      obtain ⟨d, h1, rfl⟩ := erase_cells_get v j c hc
      exact ih j d h1 hbc
  | nils => exact fun _ => .nils
  | inl f p sz xs a cap x hsz hx hr hcap hf hp ih =>
    intro hb
    simp only [erase, Go.Sx.below, Bool.true_and] at hb
    have hl := eraseL_length xs
    have key : VRel (E.bare T) (.inl false .unk sz (eraseL xs)) (.slice (some a) (eraseL xs).length cap) := by
      refine .inl false .unk sz (eraseL xs) a cap x ?_ (fun i j hi hj => ?_) ?_ (by omega) (by simp) trivial
      · intro v hv
        obtain ⟨i, hi⟩ := List.getElem?_of_mem hv
        rw [eraseL_get, Option.map_eq_some_iff] at hi
        obtain ⟨u, hu, rfl⟩ := hi
        rw [erase_cells_length]; exact hsz u (List.mem_of_getElem? hu)
      · have := hx i j (by omega) hj
        exact ⟨this.1, this.2.1, hT _ _ this.2.2⟩
      · intro i v j c hi hj
        have hbv := belowL_get _ hb i v hi
        have hbc := below_cells hbv j c hj
        rw [eraseL_get, Option.map_eq_some_iff] at hi
        obtain ⟨u, hu, rfl⟩ := hi
        obtain ⟨d, h1, rfl⟩ := erase_cells_get u j c hj
        exact ih i u j d hu h1 hbc
    rw [hl] at key
    exact key
  | sl id off len cap sz ag b c hid h hl hc hag => intro hb; simp [erase, Go.Sx.below] at hb
  | map id b hid h => intro hb; simp [erase, Go.Sx.below] at hb
  | nilmap => exact fun _ => .nilmap
  | yield id b hid h => intro hb; simp [erase, Go.Sx.below] at hb
  | func fn as bs xs ys hfn h1 _ h3 _ ih2 ih4 =>
    intro hb
    have hb' : belowL 0 0 (eraseL as) = true ∧ belowL 0 0 (eraseL bs) = true := by
      unfold erase Go.Sx.below at hb
      split at hb <;> simp_all
    refine .func fn (eraseL as) (eraseL bs) xs ys hfn (by rw [eraseL_length]; exact h1) ?_ (by rw [eraseL_length]; exact h3) ?_
    · intro i v x hv hx
      have hbv := belowL_get _ hb'.1 i v hv
      rw [eraseL_get, Option.map_eq_some_iff] at hv
      obtain ⟨u, hu, rfl⟩ := hv
      exact ih2 i u x hu hx hbv
    · intro i v x hv hx
      have hbv := belowL_get _ hb'.2 i v hv
      rw [eraseL_get, Option.map_eq_some_iff] at hv
      obtain ⟨u, hu, rfl⟩ := hv
      exact ih4 i u x hu hx hbv
  | nilfunc => exact fun _ => .nilfunc
  | iface t v x _ ih => intro hb; exact .iface t _ x (ih hb)
  | niliface => exact fun _ => .niliface
  | agg cs xs h1 _ h3 ih =>
    intro hb
    refine .agg (eraseL cs) xs (by rw [eraseL_length]; exact h1) ?_ h3
    intro i v x hv hx
    have hbv := belowL_get _ hb i v hv
    rw [eraseL_get, Option.map_eq_some_iff] at hv
    obtain ⟨u, hu, rfl⟩ := hv
    exact ih i u x hu hx hbv
  | tuple vs xs h1 _ ih =>
    intro hb
    refine .tuple (eraseL vs) xs (by rw [eraseL_length]; exact h1) ?_
    intro i v x hv hx
    have hbv := belowL_get _ hb i v hv
    rw [eraseL_get, Option.map_eq_some_iff] at hv
    obtain ⟨u, hu, rfl⟩ := hv
    exact ih i u x hu hx hbv

/-- With every cell that there is taken as settled. -/
def GE.all (E : GE) : GE := { E with S := fun b o => (E.w.cell? ⟨b, o, none⟩).isSome = true }

theorem all_rel {H : AH} {E : GE} (hr : HRel H E) {v : AV} {x : Value} (hv : VRel E v x) : VRel E.all v x := by
  have hS : ∀ b o, E.S b o → E.all.S b o := fun b o h => hr.set b o h
  induction hv with
  | top v => exact .top v
  | bool b => exact .bool b
  | int k n => exact .int k n
  | str s => exact .str s
  | ptr id off b hid h => exact .ptr id off b hid h
  | nilptr => exact .nilptr
  | rop v a x hx hr ih => exact .rop v a x (fun j hj => ⟨(hx j hj).1, (hx j hj).2.1, hS _ _ (hx j hj).2.2⟩) ih
  | nils => exact .nils
  | inl f p sz xs a cap x hsz hx hr hcap hf hp ih =>
    refine .inl f p sz xs a cap x hsz (fun i j hi hj => ⟨(hx i j hi hj).1, (hx i j hi hj).2.1, hS _ _ (hx i j hi hj).2.2⟩) ih hcap hf ?_
    cases p with
    | unk => trivial
    | zero => exact hp
    | tok t g => exact hp
  | sl id off len cap sz ag b c hid h hl hc hag => exact .sl id off len cap sz ag b c hid h hl hc hag
  | map id b hid h => exact .map id b hid h
  | nilmap => exact .nilmap
  | func fn as bs xs ys hfn h1 _ h3 _ ih2 ih4 => exact .func fn as bs xs ys hfn h1 ih2 h3 ih4
  | yield id b hid h => exact .yield id b hid h
  | nilfunc => exact .nilfunc
  | iface t v x _ ih => exact .iface t v x ih
  | niliface => exact .niliface
  | agg cs xs h1 _ h3 ih => exact .agg cs xs h1 ih h3
  | tuple vs xs h1 _ ih => exact .tuple vs xs h1 ih

theorem resolve_sl {H : AH} {E : GE} (hr : HRel H E) {id off len : Nat} {cap : Option Nat} {sz : Nat} {ag : Bool} {cs : List AV} (ho : H.objs[id]? = some (.cells cs)) (hlen : off + len * sz ≤ cs.length) {x : Value} (hx : VRel E (.sl id off len cap sz ag) x) :
    VRel E.all (.inl false .unk sz (chunks sz ag len (cs.drop off))) x := by
  cases hx with
  | sl _ _ _ _ _ _ b c hid hb hlc hcap hag =>
  cases hr.obj _ _ ho with
  | cells _ b' arr el hb' hh hl hc h1 hS' =>
  rw [hb] at hb'
  obtain rfl := Option.some.inj hb'
  have hplain : ∀ c, c ∈ cs.drop off → c.cells = [c] := by
    intro d hd
    have hd' := List.mem_of_mem_drop hd
    obtain ⟨m, hm⟩ := List.getElem?_of_mem hd'
    have hlt' : m < arr.size := by
      rcases Nat.lt_or_ge m cs.length with h' | h'
      · omega
      · simp [List.getElem?_eq_none h'] at hm
    exact cell_plain (hc m d arr[m] hm (by simp [hlt'])) (h1 m _ (by simp [hlt']))
  obtain ⟨c1, c2, c3⟩ := chunks_spec (ag := ag) hag len (cs.drop off) (by simp; omega) hplain
  have key : VRel E.all (.inl false .unk sz (chunks sz ag len (cs.drop off))) (.slice (some ⟨b, off, none⟩) (chunks sz ag len (cs.drop off)).length c) := by
    refine .inl false .unk sz _ _ c (fun i j => arr.getD (off + (i * sz + j)) undef) c3 ?_ ?_ (by rw [c2]; exact hlc) (by simp) trivial
    · intro i j hi hj
      rw [c2] at hi
      have : (i + 1) * sz ≤ len * sz := Nat.mul_le_mul_right _ hi
      rw [Nat.add_mul] at this
      have hlt : off + (i * sz + j) < arr.size := by omega
      have hcell : E.w.cell? ⟨b, off + (i * sz + j), none⟩ = some arr[off + (i * sz + j)] := by rw [obj_cell hh]; simp [hlt]
      rw [Addr.add_lit]
      simp only [Array.getD, hlt, dite_true]
      exact ⟨hcell, h1 (off + (i * sz + j)) _ (by simp [hlt]), by show (E.w.cell? _).isSome = true; rw [hcell]; rfl⟩
    · intro i v j d hi hj
      have hf := flat_get _ c3 i v j d hi hj
      rw [c1, List.getElem?_take] at hf
      split at hf
      · rw [List.getElem?_drop] at hf
        have hlt : off + (i * sz + j) < arr.size := by
          rcases Nat.lt_or_ge (off + (i * sz + j)) cs.length with h' | h'
          · omega
          · simp [List.getElem?_eq_none h'] at hf
        simp only [Array.getD, hlt, dite_true]
        exact all_rel hr (hc _ _ _ hf (by simp [hlt]))
      · simp at hf
  rw [c2] at key
  exact key

theorem resolveC_rel {H : AH} {E : GE} (hr : HRel H E) {v u : AV} (h : resolveC H v = some u) {x : Value} (hx : VRel E v x) : VRel E.all u x := by
  unfold resolveC at h
  split at h
  · split at h
    · rename_i cs ho
      split at h
      · rename_i hl
        simp only [Option.some.injEq] at h
        subst h
        exact resolve_sl hr ho hl hx
      · simp at h
    · simp at h
  · simp only [Option.some.injEq] at h
    subst h
    exact all_rel hr hx


theorem resolveCs_rel {H : AH} : ∀ (cs us : List AV), resolveCs H cs = some us → us.length = cs.length ∧ ∀ (i : Nat) u, us[i]? = some u → ∃ c, cs[i]? = some c ∧ resolveC H c = some u
  | [], us, h => by simp [resolveCs] at h; subst h; simp
  | c :: cs, us, h => by
    simp only [resolveCs] at h
    split at h
    · rename_i x xs hx hxs
      simp only [Option.some.injEq] at h
      subst h
      obtain ⟨h1, h2⟩ := resolveCs_rel cs xs hxs
      refine ⟨by simp [h1], ?_⟩
      intro i u hu
      cases i with
      | zero => simp at hu; subst hu; exact ⟨c, rfl, hx⟩
      | succ i => simpa using h2 i u (by simpa using hu)
    · simp at h

theorem resolve_rel {H : AH} {E : GE} (hr : HRel H E) {v u : AV} (h : resolve H v = some u) {x : Value} (hx : VRel E v x) : VRel E.all u x := by
  unfold resolve at h
  split at h
  · rename_i cs
    split at h
    · rename_i us hus
      simp only [Option.some.injEq] at h
      subst h
      obtain ⟨k1, k2⟩ := resolveCs_rel cs us hus
      cases hx with
      | agg _ xs h1 h2 h3 =>
      refine .agg us xs (by omega) ?_ h3
      intro i u x hu hx
      obtain ⟨c, hc, hcu⟩ := k2 i u hu
      exact resolveC_rel hr hcu (h2 i c x hc hx)
    · simp at h
  · exact resolveC_rel hr h hx

theorem resolveC_clean {H : AH} {v u : AV} (h : resolveC H v = some u) (hb : Go.Sx.below 0 0 v = true) : u = v := by
  unfold resolveC at h
  split at h
  · simp [Go.Sx.below] at hb
  · exact (Option.some.inj h).symm

theorem resolveCs_clean {H : AH} : ∀ (cs us : List AV), resolveCs H cs = some us → belowL 0 0 cs = true → us = cs
  | [], us, h, _ => by simp [resolveCs] at h; exact h
  | c :: cs, us, h, hb => by
    simp only [belowL, Bool.and_eq_true] at hb
    simp only [resolveCs] at h
    split at h
    · rename_i x xs hx hxs
      simp only [Option.some.injEq] at h
      subst h
      rw [resolveC_clean hx hb.1, resolveCs_clean cs xs hxs hb.2]
    · simp at h

theorem resolve_clean {H : AH} {v u : AV} (h : resolve H v = some u) (hb : Go.Sx.below 0 0 v = true) : u = v := by
  unfold resolve at h
  split at h
  · rename_i cs
    split at h
    · rename_i us hus
      simp only [Option.some.injEq] at h
      subst h
      rw [resolveCs_clean cs us hus hb]
    · simp at h
  · exact resolveC_clean h hb

/-- What a callee with trees is handed. T: what it may take as settled. -/
def handed (H : AH) (E : GE) (args : List AV) : Nat → Nat → Prop := if belowL 0 0 args = true then E.S else E.all.S

theorem resolveL_rel {H : AH} {E : GE} (hr : HRel H E) : ∀ (args ts : List AV) (xs : List Value) (T : Nat → Nat → Prop), resolveL H args = some ts → args.length = xs.length → (∀ (i : Nat) v x, args[i]? = some v → xs[i]? = some x → VRel E v x) →
    ((∀ b o, E.all.S b o → T b o) ∨ (belowL 0 0 args = true ∧ ∀ b o, E.S b o → T b o)) → ts.length = xs.length ∧ ∀ (i : Nat) v x, ts[i]? = some v → xs[i]? = some x → VRel (E.bare T) v x
  | [], ts, xs, T, h, hl, hv, _ => by
    simp [resolveL] at h; subst h
    exact ⟨hl, by simp⟩
  | v :: args, ts, xs, T, h, hl, hv, hT => by
    cases xs with
    | nil => simp at hl
    | cons x xs =>
    simp only [resolveL] at h
    split at h
    · rename_i u us hu hus
      split at h
      · rename_i hb
        simp only [Option.some.injEq] at h
        subst h
        have hvx := hv 0 v x rfl rfl
        have hT' : (∀ b o, E.all.S b o → T b o) ∨ (belowL 0 0 args = true ∧ ∀ b o, E.S b o → T b o) := by
          rcases hT with h | ⟨h1, h2⟩
          · exact .inl h
          · simp only [belowL, Bool.and_eq_true] at h1
            exact .inr ⟨h1.2, h2⟩
        obtain ⟨g1, g2⟩ := resolveL_rel hr args us xs T hus (by simpa using hl) (fun i v x a b => hv (i + 1) v x (by simpa using a) (by simpa using b)) hT'
        refine ⟨by simp [g1], ?_⟩
        intro i w y hw hy
        cases i with
        | zero =>
          simp at hw hy
          subst hw; subst hy
          rcases hT with h | ⟨h1, h2⟩
          · exact erase_rel (E := E.all) h (resolve_rel hr hu hvx) hb
          · simp only [belowL, Bool.and_eq_true] at h1
            have e := resolve_clean hu h1.1
            subst e
            exact erase_rel h2 hvx hb
        | succ i => exact g2 i w y (by simpa using hw) (by simpa using hy)
      · simp at h
    · simp at h

theorem bare_rel (hS : SysOK S P) {H : AH} {E : GE} (hr : Rel S H E) {T : Nat → Nat → Prop} (h1 : ∀ b o, E.S b o → T b o) (h2 : ∀ b o, T b o → (E.w.cell? ⟨b, o, none⟩).isSome = true) : Rel S ⟨[], []⟩ (E.bare T) := by
  constructor
  · constructor
    · rfl
    · rfl
    · intro id o h; simp at h
    · intro i j b hi; exact absurd hi (Nat.not_lt_zero _)
    · intro t g sz h; simp at h
    · intro t g sz g' h; simp at h
    · intro t g p id b ht; exact absurd ht (Nat.not_lt_zero _)
    · intro t g p t' g' p' ht; exact absurd ht (Nat.not_lt_zero _)
    · intro t g p ht; exact absurd ht (Nat.not_lt_zero _)
    · exact h2
    · intro b hb
      rcases hb with ⟨id, hid, _⟩ | ⟨t, g, p, ht, _⟩
      · exact absurd hid (Nat.not_lt_zero _)
      · exact absurd ht (Nat.not_lt_zero _)
    · exact Nat.le_refl _
  · intro n
    obtain ⟨e1, e2⟩ := hS.glob n
    have := erase_rel h1 (hr.g n) (by rw [e1]; exact e2)
    rwa [e1] at this
  · intro p hp
    obtain ⟨f1, f2, o, f3⟩ := hr.x p hp
    refine ⟨f1, ?_, o, h1 _ _ f3⟩
    rintro (⟨id, hid, _⟩ | ⟨t, g, p, ht, _⟩)
    · exact absurd hid (Nat.not_lt_zero _)
    · exact absurd ht (Nat.not_lt_zero _)

/-- The caller's state behind a call with trees. -/
def GE.behind (E E1 : GE) : GE := { E with w := E1.w, S := fun b o => E.S b o ∨ (E.w.heap.size ≤ b ∧ E1.S b o) }

theorem behind_le {H : AH} {E : GE} (hr : HRel H E) {T : Nat → Nat → Prop} {E1 : GE} (hle : (E.bare T).le E1) : E.le (E.behind E1) := by
  have hno : ∀ b, ¬ (E.bare T).owned b := by
    intro b hb
    rcases hb with ⟨id, hid, _⟩ | ⟨t, g, p, ht, _⟩
    · exact absurd hid (Nat.not_lt_zero _)
    · exact absurd ht (Nat.not_lt_zero _)
  have hblk : ∀ b, b < E.w.heap.size → E1.w.heap[b]? = E.w.heap[b]? := fun b hb => hle.block b hb (hno b)
  refine ⟨⟨?_, ?_, ?_, ?_, ?_, ?_, ?_⟩, rfl, ?_, ?_, ?_, ?_, ?_, ?_, ?_⟩
  · exact Nat.le_refl _
  · exact fun _ _ _ h => h
  · exact Nat.le_refl _
  · exact fun _ _ _ _ h => h
  · exact fun _ _ h => .inl h
  · exact fun b o hb => cell_of_block (hblk b (hr.Slt _ _ hb))
  · rfl
  · intro b o hb
    rcases hb with h | ⟨h, _⟩
    · exact .inl h
    · exact .inr (.inl h)
  · exact fun _ _ h => h
  · exact hle.os
  · exact hle.tape
  · exact hle.output
  · exact hle.size
  · exact fun b hb _ => hblk b hb

theorem behind_rel {H H1 : AH} {E : GE} (hr : Rel S H E) {T : Nat → Nat → Prop} {E1 : GE} (hle : (E.bare T).le E1) (hr1 : HRel H1 E1) : Rel S H (E.behind E1) := by
  have hb := behind_le hr.h hle
  have hno : ∀ b, ¬ (E.bare T).owned b := by
    intro b hb
    rcases hb with ⟨id, hid, _⟩ | ⟨t, g, p, ht, _⟩
    · exact absurd hid (Nat.not_lt_zero _)
    · exact absurd ht (Nat.not_lt_zero _)
  have hblk : ∀ b, b < E.w.heap.size → E1.w.heap[b]? = E.w.heap[b]? := fun b hb => hle.block b hb (hno b)
  refine hr.mono hb ?_
  have h := hr.h
  constructor
  · exact h.nid
  · exact h.nt
  · intro id o ho
    have hid := h.idlt ho
    refine (h.obj id o ho).mono hb hid (fun k hk => hblk k (h.lt k (.inl ⟨id, hid, hk⟩))) ?_
    intro k o' hk hS
    rcases hS with h1 | ⟨h1, _⟩
    · exact h1
    · have := h.lt k (.inl ⟨id, hid, hk⟩); omega
  · exact h.inj
  · intro t g sz ht
    obtain ⟨k, e, ce, c, el, q1, q2, q3, q4, q5, q6⟩ := h.tok t g sz ht
    have hk := h.lt k (.inr ⟨t, g, _, h.tlt ht, q1, rfl⟩)
    refine ⟨k, e, ce, c, el, q1, (hblk k hk).trans q2, q3, q4, q5, ?_⟩
    intro o ho hS
    rcases hS with h1 | ⟨h1, _⟩
    · exact q6 o ho h1
    · omega
  · exact h.late
  · exact h.tsep
  · exact h.tinj
  · exact h.tbase
  · intro b o hS
    rcases hS with h1 | ⟨_, h1⟩
    · have := h.set b o h1
      rwa [← cell_of_block (w' := E1.w) (hblk b (h.Slt _ _ h1))] at this
    · exact hr1.set b o h1
  · intro b hb'
    exact Nat.lt_of_lt_of_le (h.lt b hb') hle.size
  · exact Nat.le_trans h.hbase hle.size

theorem isNewL_get : ∀ (vs : List AV), isNewL vs = true → ∀ (i : Nat) v, vs[i]? = some v → isNew v = true
  | [], _, i, v, h => by simp at h
  | u :: vs, h, 0, v, hv => by
    simp only [isNewL, Bool.and_eq_true] at h
    simp only [List.getElem?_cons_zero, Option.some.injEq] at hv
    subst hv; exact h.1
  | u :: vs, h, i + 1, v, hv => by
    simp only [isNewL, Bool.and_eq_true] at h
    exact isNewL_get vs h.2 i v (by simpa using hv)

theorem isNew_cells {v : AV} (h : isNew v = true) (i : Nat) (c : AV) (hc : v.cells[i]? = some c) : isNew c = true := by
  by_cases ha : ∃ cs, v = .agg cs
  · obtain ⟨cs, rfl⟩ := ha
    exact isNewL_get cs h i c hc
  · have hv : v.cells = [v] := by cases v <;> simp_all [AV.cells]
    rw [hv] at hc
    cases i with
    | zero => simp at hc; subst hc; exact h
    | succ i => simp at hc

/-- What comes back. -/
theorem back_val {H : AH} {E : GE} (hr : HRel H E) {T : Nat → Nat → Prop} {E1 : GE} (hle : (E.bare T).le E1) {v : AV} {x : Value} (hv : VRel E1 v x) (hT : (∀ b o, T b o → E.S b o) ∨ isNew v = true) (hb : Go.Sx.below 0 0 v = true) : VRel (E.behind E1) v x := by
  have hold : (∀ b o, T b o → E.S b o) → ∀ b o, E1.S b o → (E.behind E1).S b o := by
    intro h b o hS
    rcases hle.snew b o hS with h1 | h1 | h1
    · exact .inl (h b o h1)
    · exact .inr ⟨h1, hS⟩
    · rcases h1 with ⟨id, hid, _⟩ | ⟨t, g, p, ht, _⟩
      · exact absurd hid (Nat.not_lt_zero _)
      · exact absurd ht (Nat.not_lt_zero _)
  revert hb hT
  induction hv with
  | top v => exact fun _ _ => .top v
  | bool b => exact fun _ _ => .bool b
  | int k n => exact fun _ _ => .int k n
  | str s => exact fun _ _ => .str s
  | ptr id off b hid h => intro _ hb; simp [Go.Sx.below] at hb
  | nilptr => exact fun _ _ => .nilptr
  | rop v a x hx hr ih =>
    intro hT hb
    rcases hT with h | h
    · exact .rop v a x (fun j hj => ⟨(hx j hj).1, (hx j hj).2.1, hold h _ _ (hx j hj).2.2⟩) (fun j c hc => ih j c hc (.inl h) (below_cells (v := v) hb j c hc))
    · simp [isNew] at h
  | nils => exact fun _ _ => .nils
  | inl f p sz xs a cap x hsz hx hr' hcap hf hp ih =>
    intro hT hb
    simp only [Go.Sx.below, Bool.and_eq_true] at hb
    have hfb : f = true → E.w.heap.size ≤ a.block := by
      intro h
      have := hf h
      rw [hle.base] at this
      exact this
    refine .inl f p sz xs a cap x hsz (fun i j hi hj => ⟨(hx i j hi hj).1, (hx i j hi hj).2.1, ?_⟩) ?_ hcap ?_ ?_
    · rcases hT with h | h
      · exact hold h _ _ (hx i j hi hj).2.2
      · simp only [isNew, Bool.and_eq_true] at h
        exact .inr ⟨hfb h.1, (hx i j hi hj).2.2⟩
    · intro i v j c hi hc
      refine ih i v j c hi hc ?_ (below_cells (belowL_get xs hb.2 i v hi) j c hc)
      rcases hT with h | h
      · exact .inl h
      · simp only [isNew, Bool.and_eq_true] at h
        exact .inr (isNew_cells (isNewL_get xs h.2 i v hi) j c hc)
    · intro h
      exact Nat.le_trans hr.hbase (hfb h)
    · cases p with
      | unk => trivial
      | zero => exact hp
      | tok t g => simp at hb
  | sl id off len cap sz ag b c hid h hl hc hag => intro _ hb; simp [Go.Sx.below] at hb
  | map id b hid h => intro _ hb; simp [Go.Sx.below] at hb
  | nilmap => exact fun _ _ => .nilmap
  | yield id b hid h => intro _ hb; simp [Go.Sx.below] at hb
  | func fn as bs xs ys hfn h1 _ h3 _ ih2 ih4 =>
    intro hT hb
    have hb' : belowL 0 0 as = true ∧ belowL 0 0 bs = true := by
      unfold Go.Sx.below at hb
      split at hb <;> simp_all
    have hT' : ((∀ b o, T b o → E.S b o) ∨ isNewL as = true) ∧ ((∀ b o, T b o → E.S b o) ∨ isNewL bs = true) := by
      rcases hT with h | h
      · exact ⟨.inl h, .inl h⟩
      · simp only [isNew, Bool.and_eq_true] at h; exact ⟨.inr h.1, .inr h.2⟩
    refine .func fn as bs xs ys hfn h1 (fun i v x a b => ih2 i v x a b (hT'.1.imp id (fun h => isNewL_get as h i v a)) (belowL_get as hb'.1 i v a)) h3 (fun i v x a b => ih4 i v x a b (hT'.2.imp id (fun h => isNewL_get bs h i v a)) (belowL_get bs hb'.2 i v a))
  | nilfunc => exact fun _ _ => .nilfunc
  | iface t v x _ ih => intro hT hb; exact .iface t v x (ih hT hb)
  | niliface => exact fun _ _ => .niliface
  | agg cs xs h1 _ h3 ih =>
    intro hT hb
    exact .agg cs xs h1 (fun i v x a b => ih i v x a b (hT.imp id (fun h => isNewL_get cs h i v a)) (belowL_get cs hb i v a)) h3
  | tuple vs xs h1 _ ih =>
    intro hT hb
    exact .tuple vs xs h1 (fun i v x a b => ih i v x a b (hT.imp id (fun h => isNewL_get vs h i v a)) (belowL_get vs hb i v a))

mutual
theorem isNew_detok : ∀ v : AV, isNew (detok v) = isNew v
  | .top => rfl
  | .bool _ => rfl
  | .int _ _ => rfl
  | .str _ => rfl
  | .ptr _ _ => rfl
  | .nilptr => rfl
  | .rop _ => rfl
  | .nils => rfl
  | .inl f p sz xs => by simp only [detok, isNew, isNewL_detok xs]
  | .sl _ _ _ _ _ _ => rfl
  | .map _ => rfl
  | .nilmap => rfl
  | .func _ a b => by simp only [detok, isNew, isNewL_detok a, isNewL_detok b]
  | .nilfunc => rfl
  | .iface _ v => by simp only [detok, isNew, isNew_detok v]
  | .niliface => rfl
  | .agg cs => by simp only [detok, isNew, isNewL_detok cs]
  | .tuple vs => by simp only [detok, isNew, isNewL_detok vs]
theorem isNewL_detok : ∀ vs : List AV, isNewL (detokL vs) = isNewL vs
  | [] => rfl
  | v :: vs => by simp only [detokL, isNewL, isNew_detok v, isNewL_detok vs]
end

/-- What is known of a function of Go's library, say. -/
def ExtOK (S : Sys) (P : Program) : Prop :=
  ∀ f g, S.ext f = some g → (∃ fn, P.funcs[f]? = some fn ∧ fn.body.isSome = true ∧ fn.name ≠ "runtime.NumGoroutine") ∧
    ∀ ts v, g ts = some v → ∀ E xs, Rel S ⟨[], []⟩ E → VRelL E ts xs → Calls P f xs E.w fun e w' => ∃ x E' H', e = .returned x ∧ E'.w = w' ∧ E.le E' ∧ HRel H' E' ∧ VRel E' v x

theorem pure_sound (hS : SysOK S P) {f : FuncId} {args ts : List AV} {v v' : AV} {H : AH} (hts : resolveL H args = some ts) (hout : pureOut args v = some v')
    (hrun : ∀ E xs, Rel S ⟨[], []⟩ E → VRelL E ts xs → Calls P f xs E.w fun e w' => ∃ x E' H', e = .returned x ∧ E'.w = w' ∧ E.le E' ∧ HRel H' E' ∧ VRel E' v x)
    {E : GE} {xs : Array Value} (hr : Rel S H E) (hx : VRelL E args xs) : Calls P f xs E.w fun e w' => ∃ x E', e = .returned x ∧ E'.w = w' ∧ E.le E' ∧ Rel S H E' ∧ VRel E' v' x := by
  unfold pureOut at hout
  split at hout
  · rename_i hc
    simp only [Option.some.injEq] at hout
    subst hout
    simp only [Bool.and_eq_true, Bool.or_eq_true] at hc
    obtain ⟨hb, hclean⟩ := hc
    have main : ∀ T : Nat → Nat → Prop, (∀ b o, E.S b o → T b o) → (∀ b o, T b o → (E.w.cell? ⟨b, o, none⟩).isSome = true) →
        ((∀ b o, E.all.S b o → T b o) ∨ (belowL 0 0 args = true ∧ ∀ b o, E.S b o → T b o)) → ((∀ b o, T b o → E.S b o) ∨ isNew v = true) →
        Calls P f xs E.w fun e w' => ∃ x E', e = .returned x ∧ E'.w = w' ∧ E.le E' ∧ Rel S H E' ∧ VRel E' (detok v) x := by
      intro T t1 t2 t3 t4
      obtain ⟨g1, g2⟩ := resolveL_rel hr.h args ts xs.toList T hts (by simpa using hx.1) (fun i v x a b => hx.2 i v x a (by simpa using b)) t3
      refine (hrun (E.bare T) xs (bare_rel hS hr t1 t2) ⟨by simpa using g1, fun i v x a b => g2 i v x a (by simpa using b)⟩).mono ?_
      rintro e w' ⟨x, E', H', rfl, rfl, q1, q2, q3⟩
      refine ⟨x, E.behind E', rfl, rfl, behind_le hr.h q1, behind_rel hr q1 q2, back_val hr.h q1 (detok_rel q3) ?_ hb⟩
      refine t4.imp id ?_
      intro h
      rw [isNew_detok]; exact h
    rcases hclean with h | h
    · exact main E.S (fun _ _ h => h) (fun b o h => hr.h.set b o h) (.inr ⟨h, fun _ _ h => h⟩) (.inl fun _ _ h => h)
    · exact main E.all.S (fun b o h => hr.h.set b o h) (fun _ _ h => h) (.inl fun _ _ h => h) (.inr h)
  · simp at hout

theorem enter_sound (hS : SysOK S P) (hext : ExtOK S P) {call : Caller} (hcall : CallOK S P call) (hdraw : DrawSound S P call) (n : Nat) : FnOK S P ⟨enterF S call (fun b => iter S.room b n), fun _ _ _ => none⟩ := by
  intro f args H v H' h
  replace h : enterF S call (fun b => iter S.room b n) f args H = some (v, H') := h
  unfold enterF at h
  split at h
  · rename_i g hg
    obtain ⟨ts, hts, h⟩ := optK_inv h
    obtain ⟨u, hu, h⟩ := optK_inv h
    obtain ⟨v', hv', h⟩ := optK_inv h
    simp only [Option.some.injEq, Prod.mk.injEq] at h
    obtain ⟨rfl, rfl⟩ := h
    obtain ⟨e1, e2⟩ := hext f g hg
    exact ⟨e1, fun E xs hr hx => pure_sound hS hts hv' (e2 ts u hu) hr hx⟩
  · split at h
    · simp at h
    · rename_i fn hfn
      refine ⟨⟨fn, hS.func f fn hfn⟩, ?_⟩
      split at h
      · obtain ⟨ts, hts, h⟩ := optK_inv h
        obtain ⟨p, hp, h⟩ := optK_inv h
        obtain ⟨v', hv', h⟩ := optK_inv h
        simp only [Option.some.injEq, Prod.mk.injEq] at h
        obtain ⟨rfl, rfl⟩ := h
        intro E xs hr hx
        refine pure_sound hS hts hv' ?_ hr hx
        intro E1 xs1 hr1 hx1
        refine (run_sound hS hcall hdraw n hfn (v := p.1) (H' := p.2) hp hr1 hx1).mono ?_
        rintro e w' ⟨x, E', rfl, rfl, q1, q2, q3⟩
        exact ⟨x, E', p.2, rfl, rfl, q1, q2.h, q3⟩
      · obtain ⟨p, hp, h⟩ := optK_inv h
        simp only [Option.some.injEq] at h
        intro E xs hr hx
        refine (run_sound hS hcall hdraw n hfn (v := p.1) (H' := p.2) hp hr hx).mono ?_
        rintro e w' ⟨x, E', rfl, rfl, q1, q2, q3⟩
        obtain ⟨E2, k1, k2, k3, k4⟩ := trunc_sound (v := p.1) (H' := p.2) hr q1 q2 q3
        have hp2 : trunc H (p.1, p.2) = (v, H') := h
        rw [hp2] at k3 k4
        exact ⟨x, E2, rfl, k1, k2, k3, k4⟩

end Go.Sx

/- THE ENGINE, 15: append and copy, as operations. -/
import Derived.Test.YtoagnbpmoihojaaDoorSxSound10
set_option linter.unusedSimpArgs false
set_option linter.unusedVariables false
namespace Go.Sx
variable {S : Sys} {P : Program} {R : Type}

theorem ge_at_w (E : GE) : E.at E.w = E := rfl
theorem at_at (E : GE) (w w' : World) : (E.at w).at w' = E.at w' := rfl

/-- A list settled in a new array. -/
theorem append_new {H : AH} {E : GE} (hr : HRel H E) {sz cap : Nat} {zs : List AV} {old new rest : Array Value} {el : TypeId} (hs : ∀ v, v ∈ zs → v.cells.length = sz) (hc : CRel E (flat zs) (old ++ new).toList)
    (hcap : zs.length ≤ cap) (hrest : rest.size = (cap - zs.length) * sz) (h1 : ∀ y, y ∈ rest → y.oneCell' = true) :
    ∃ E', E.le E' ∧ HRel { H with toks := H.toks ++ [(0, sz)] } E' ∧ VRel E' (.inl true (.tok H.toks.length 0) sz zs) (.slice (some ⟨E.w.heap.size, 0, none⟩) zs.length cap) ∧ E'.w = E.w.drew.alloc (.cells (old ++ new ++ rest) el) := by
  have hd := hr.heap (w' := E.w.drew) rfl rfl rfl rfl
  have hdl := le_heap (E := E) (w' := E.w.drew) rfl rfl rfl rfl
  have hlen := hc.len
  rw [flat_length zs hs] at hlen
  have hsize : (old ++ new ++ rest).size = cap * sz := by
    simp only [Array.length_toList, Array.size_append] at hlen ⊢
    rw [hrest, ← hlen, ← Nat.add_mul]
    congr 1; omega
  have h1' : ∀ (j : Nat) x, (old ++ new ++ rest)[j]? = some x → x.oneCell' = true := by
    intro j x hx
    have hm := Array.mem_of_getElem? hx
    rcases Array.mem_append.1 hm with h | h
    · exact hc.one x (by simpa using h)
    · exact h1 x h
  have hle2 := row_le hd (.cells (old ++ new ++ rest) el) (zs.length * sz) (some (sz, cap * sz))
  have hrel2 := row_rel hd (arr := old ++ new ++ rest) (el := el) (n := zs.length * sz) (tk := some (sz, cap * sz)) (by rw [hsize]; exact Nat.mul_le_mul_right _ hcap) h1' (by
    intro q hq
    obtain rfl := Option.some.inj hq
    exact ⟨Nat.mul_le_mul_right _ hcap, by rw [hsize]; exact Nat.le_refl _⟩)
  have hval := row_val hd (arr := old ++ new ++ rest) (el := el) (sz := sz) (cap := cap) (xs := zs) (tk := some (sz, cap * sz)) hs (by
      have : (old ++ new ++ rest).toList.take (zs.length * sz) = (old ++ new).toList := by
        rw [Array.toList_append, List.take_append_of_le_length (by rw [← hlen]; exact Nat.le_refl _), hlen, List.take_length]
      rw [this]; exact hc.mono hdl) h1' hcap hsize (p := .tok E.nt 0) (.inr (.inr ⟨rfl, rfl⟩))
  refine ⟨_, hdl.trans hle2, hrel2, ?_, rfl⟩
  rw [← hr.nt]; exact hval

/-- A token's place moves to a new block. -/
theorem retok {H : AH} {E0 E : GE} (hle0 : E0.le E) (hr : HRel H E) {t g sz : Nat} (ht : H.toks[t]? = some (g, sz)) {b n ce : Nat} {c : Array Value} {el : TypeId} (hnew : E0.w.heap.size ≤ b) (hfree : ¬ E.owned b) (hh : E.w.heap[b]? = some (.cells c el (0, 0)))
    (hn : n ≤ ce) (hce : ce ≤ c.size) (h1 : ∀ (j : Nat) x, c[j]? = some x → x.oneCell' = true) (hS : ∀ o, n ≤ o → ¬ E.S b o) (hb0 : E.base ≤ b) :
    E0.le { E with τ := fun t' g' => if t' = t ∧ g' = g + 1 then some (sz, b, n, ce) else E.τ t' g' } ∧
    HRel { H with toks := H.toks.set t (g + 1, sz) } { E with τ := fun t' g' => if t' = t ∧ g' = g + 1 then some (sz, b, n, ce) else E.τ t' g' } ∧
    (∀ v x, VRel E v x → VRel { E with τ := fun t' g' => if t' = t ∧ g' = g + 1 then some (sz, b, n, ce) else E.τ t' g' } v x) := by
  have htlt := hr.tlt ht
  have hnone := hr.late t g sz (g + 1) ht (Nat.lt_succ_self _)
  have hblt : b < E.w.heap.size := by
    rcases Nat.lt_or_ge b E.w.heap.size with h' | h'
    · exact h'
    · simp [Array.getElem?_eq_none h'] at hh
  have hτ' : ∀ t' g' p, (if t' = t ∧ g' = g + 1 then some (sz, b, n, ce) else E.τ t' g') = some p → (E.τ t' g' = some p) ∨ (t' = t ∧ g' = g + 1 ∧ p = (sz, b, n, ce)) := by
    intro t' g' p hp
    split at hp
    · rename_i h; exact .inr ⟨h.1, h.2, (Option.some.inj hp).symm⟩
    · exact .inl hp
  have hkeep : ∀ t' g' p, E.τ t' g' = some p → (if t' = t ∧ g' = g + 1 then some (sz, b, n, ce) else E.τ t' g') = some p := by
    intro t' g' p hp
    rw [if_neg]
    · exact hp
    · rintro ⟨rfl, rfl⟩
      rw [hnone] at hp; simp at hp
  have hmono : ∀ v x, VRel E v x → VRel { E with τ := fun t' g' => if t' = t ∧ g' = g + 1 then some (sz, b, n, ce) else E.τ t' g' } v x := by
    intro v x hv
    induction hv with
    | top v => exact .top v
    | bool b => exact .bool b
    | int k n => exact .int k n
    | str s => exact .str s
    | ptr id off b hid hb => exact .ptr id off b hid hb
    | nilptr => exact .nilptr
    | rop v a x hx hr ih => exact .rop v a x hx ih
    | nils => exact .nils
    | inl f p sz xs a cap x hsz hx hr hcap hf hp ih =>
      refine .inl f p sz xs a cap x hsz hx ih hcap hf ?_
      cases p with
      | unk => trivial
      | zero => exact hp
      | tok t g => exact ⟨hp.1, hp.2.1, hkeep _ _ _ hp.2.2⟩
    | sl id off len cap sz ag b c hid hb hl hc hag => exact .sl id off len cap sz ag b c hid hb hl hc hag
    | map id b hid hb => exact .map id b hid hb
    | nilmap => exact .nilmap
    | func fn as bs xs ys hfn h1 _ h3 _ ih2 ih4 => exact .func fn as bs xs ys hfn h1 ih2 h3 ih4
    | yield id b hid hb => exact .yield id b hid hb
    | nilfunc => exact .nilfunc
    | iface t v x _ ih => exact .iface t v x ih
    | niliface => exact .niliface
    | agg cs xs h1 _ h3 ih => exact .agg cs xs h1 ih h3
    | tuple vs xs h1 _ ih => exact .tuple vs xs h1 ih
  refine ⟨?_, ?_, hmono⟩
  · refine ⟨⟨?_, ?_, ?_, ?_, ?_, ?_, ?_⟩, hle0.low, ?_, ?_, ?_, ?_, ?_, ?_, ?_⟩
    · exact hle0.nid
    · exact hle0.ρ
    · exact hle0.nt
    · exact fun t' g' p a b => hkeep _ _ _ (hle0.τ t' g' p a b)
    · exact hle0.S
    · exact hle0.cell
    · exact hle0.base
    · exact hle0.snew
    · intro k hk h
      rcases h with ⟨id, hid, hρ⟩ | ⟨t', g', p, ht', hp, hpb⟩
      · exact hle0.own k hk (.inl ⟨id, hid, hρ⟩)
      · rcases hτ' t' g' p hp with h | ⟨_, _, rfl⟩
        · exact hle0.own k hk (.inr ⟨t', g', p, ht', h, hpb⟩)
        · simp only at hpb; omega
    · exact hle0.os
    · exact hle0.tape
    · exact hle0.output
    · exact hle0.size
    · exact hle0.block
  · constructor
    · exact hr.nid
    · simpa using hr.nt
    · intro id o ho
      cases hr.obj id o ho with
      | cells cs k c el hb hh hl hc h1 hS' => exact .cells cs k c el hb hh hl (fun j v x a d => hmono _ _ (hc j v x a d)) h1 hS'
      | map es k ms clock hb hh hl hk hv => exact .map es k ms clock hb hh hl (fun j e m a d => hmono _ _ (hk j e m a d)) (fun j e m a d => hmono _ _ (hv j e m a d))
      | siter s pos k hb hh => exact .siter s pos k hb hh
      | loop s ps x y st k r hb hh h1 h2 h3 h4 h5 => exact .loop s ps x y st k r hb hh ⟨h1.1, fun j v x a d => hmono _ _ (h1.2 j v x a d)⟩ h2 h3 h4 h5
      | dead => exact .dead
      | unborn h0 => exact .unborn h0
    · exact hr.inj
    · intro t' g' sz' ht'
      simp only [List.getElem?_set] at ht'
      by_cases e1 : t = t'
      · subst e1
        rw [if_pos rfl] at ht'
        split at ht'
        · simp only [Option.some.injEq, Prod.mk.injEq] at ht'
          obtain ⟨rfl, rfl⟩ := ht'
          exact ⟨b, n, ce, c, el, by simp, hh, hn, hce, h1, hS⟩
        · simp at ht'
      · rw [if_neg e1] at ht'
        obtain ⟨k, e2, ce2, c2, el2, q1, q2⟩ := hr.tok t' g' sz' ht'
        exact ⟨k, e2, ce2, c2, el2, hkeep _ _ _ q1, q2⟩
    · intro t' g' sz' g'' ht' hg
      simp only [List.getElem?_set] at ht'
      simp only
      by_cases e1 : t = t'
      · subst e1
        rw [if_pos rfl] at ht'
        split at ht'
        · simp only [Option.some.injEq, Prod.mk.injEq] at ht'
          obtain ⟨rfl, rfl⟩ := ht'
          rw [if_neg (by omega)]
          exact hr.late t g sz g'' ht (by omega)
        · simp at ht'
      · rw [if_neg e1] at ht'
        rw [if_neg (fun h => e1 h.1.symm)]
        exact hr.late t' g' sz' g'' ht' hg
    · intro t' g' p id k ht' hp hid hk
      rcases hτ' t' g' p hp with h | ⟨_, _, rfl⟩
      · exact hr.tsep t' g' p id k ht' h hid hk
      · intro e; exact hfree (.inl ⟨id, hid, by rw [hk]; exact congrArg some e.symm⟩)
    · intro t1 g1 p t2 g2 q h1' h2' hp hq e1
      rcases hτ' t1 g1 p hp with h | ⟨rfl, _, rfl⟩ <;> rcases hτ' t2 g2 q hq with h' | ⟨rfl, _, rfl⟩
      · exact hr.tinj t1 g1 p t2 g2 q h1' h2' h h' e1
      · exact absurd (.inr ⟨t1, g1, p, h1', h, e1⟩) hfree
      · exact absurd (.inr ⟨t2, g2, q, h2', h', e1.symm⟩) hfree
      · rfl
    · intro t' g' p ht' hp
      rcases hτ' t' g' p hp with h | ⟨_, _, rfl⟩
      · exact hr.tbase t' g' p ht' h
      · exact hb0
    · exact hr.set
    · intro k hk
      rcases hk with ⟨id, hid, hρ⟩ | ⟨t', g', p, ht', hp, hpb⟩
      · exact hr.lt k (.inl ⟨id, hid, hρ⟩)
      · rcases hτ' t' g' p hp with h | ⟨_, _, rfl⟩
        · exact hr.lt k (.inr ⟨t', g', p, ht', h, hpb⟩)
        · simp only at hpb; show k < E.w.heap.size; omega
    · exact hr.hbase

theorem append_retok {H : AH} {E : GE} (hr : HRel H E) {t g sz cap : Nat} (ht : H.toks[t]? = some (g, sz)) {f : Bool} {zs : List AV} {old new rest : Array Value} {el : TypeId} (hs : ∀ v, v ∈ zs → v.cells.length = sz) (hc : CRel E (flat zs) (old ++ new).toList)
    (hcap : zs.length ≤ cap) (hrest : rest.size = (cap - zs.length) * sz) (h1 : ∀ y, y ∈ rest → y.oneCell' = true) :
    ∃ E', E.le E' ∧ HRel { H with toks := H.toks.set t (g + 1, sz) } E' ∧ VRel E' (.inl f (.tok t (g + 1)) sz zs) (.slice (some ⟨E.w.heap.size, 0, none⟩) zs.length cap) ∧ E'.w = E.w.drew.alloc (.cells (old ++ new ++ rest) el) := by
  have hd := hr.heap (w' := E.w.drew) rfl rfl rfl rfl
  have hdl := le_heap (E := E) (w' := E.w.drew) rfl rfl rfl rfl
  have hlen := hc.len
  rw [flat_length zs hs] at hlen
  have hsize : (old ++ new ++ rest).size = cap * sz := by
    simp only [Array.length_toList, Array.size_append] at hlen ⊢
    rw [hrest, ← hlen, ← Nat.add_mul]
    congr 1; omega
  have h1' : ∀ (j : Nat) x, (old ++ new ++ rest)[j]? = some x → x.oneCell' = true := by
    intro j x hx
    have hm := Array.mem_of_getElem? hx
    rcases Array.mem_append.1 hm with h | h
    · exact hc.one x (by simpa using h)
    · exact h1 x h
  have hle2 := row_le hd (.cells (old ++ new ++ rest) el) (zs.length * sz) none
  have hrel2 := row_rel hd (arr := old ++ new ++ rest) (el := el) (n := zs.length * sz) (tk := none) (by rw [hsize]; exact Nat.mul_le_mul_right _ hcap) h1' (by simp)
  have hval := row_val hd (arr := old ++ new ++ rest) (el := el) (sz := sz) (cap := cap) (xs := zs) (tk := none) hs (by
      have : (old ++ new ++ rest).toList.take (zs.length * sz) = (old ++ new).toList := by
        rw [Array.toList_append, List.take_append_of_le_length (by rw [← hlen]; exact Nat.le_refl _), hlen, List.take_length]
      rw [this]; exact hc.mono hdl) h1' hcap hsize (p := .unk) (.inl rfl)
  have hfree : ¬ ((E.at E.w.drew).row (.cells (old ++ new ++ rest) el) (zs.length * sz) none).owned E.w.heap.size := by
    intro h
    have := hd.lt E.w.heap.size h
    exact Nat.lt_irrefl _ this
  obtain ⟨q1, q2, q3⟩ := retok (hdl.trans hle2) (H := H) hrel2 ht (b := E.w.heap.size) (n := zs.length * sz) (ce := cap * sz) (Nat.le_refl _) hfree (alloc_get _ _) (Nat.mul_le_mul_right _ hcap) (by rw [hsize]; exact Nat.le_refl _) h1' (by
    intro o ho hS
    rcases hS with h | ⟨_, h⟩
    · have := hr.Slt _ _ h; omega
    · omega) hr.hbase
  refine ⟨_, q1, q2, ?_, rfl⟩
  have := q3 _ _ hval
  cases this with
  | inl _ _ _ _ _ _ x a1 a2 a3 a4 a5 a6 =>
  refine .inl f _ sz zs _ cap x a1 a2 a3 a4 (fun _ => hr.hbase) ⟨hr.tlt ht, rfl, ?_⟩
  simp

/-- A new object whose first cells are told. -/
theorem new_prefix {H : AH} {E : GE} (hr : HRel H E) {vs : List AV} {c : Array Value} (hv : CRel E vs (c.toList.take vs.length)) (h1 : ∀ y, y ∈ c → y.oneCell' = true) (el : TypeId) :
    E.le (E.new (.cells c el)) ∧ HRel { H with objs := H.objs ++ [.cells vs] } (E.new (.cells c el)) ∧ (E.new (.cells c el)).ρ H.objs.length = some E.w.heap.size ∧ H.objs.length < (E.new (.cells c el)).nid := by
  have hle := le_new E (.cells c el) hr.Slt
  have hρ : (E.new (.cells c el)).ρ E.nid = some E.w.heap.size := by simp [GE.new]
  have hl := hv.len
  have ho : ORel (E.new (.cells c el)) E.nid (.cells vs) := by
    refine .cells vs E.w.heap.size c el hρ ?_ (by simp at hl; omega) ?_ ?_ ?_
    · show (E.w.heap.push _)[E.w.heap.size]? = _
      simp
    · intro j v x hj hx
      have hlt : j < vs.length := by
        rcases Nat.lt_or_ge j vs.length with h' | h'
        · exact h'
        · simp [List.getElem?_eq_none h'] at hj
      exact (hv.rel j v x hj (by rw [List.getElem?_take, if_pos hlt]; simpa using hx)).mono hle
    · intro j x hx
      exact h1 x (Array.mem_of_getElem? hx)
    · intro o ho
      have := hr.Slt _ _ ho
      omega
  obtain ⟨h1, h2⟩ := hr.new ho
  refine ⟨h1, h2, ?_, ?_⟩
  · rw [← hr.nid]; exact hρ
  · rw [← hr.nid]; exact Nat.lt_succ_self _

/-- .. behind an append. -/
theorem append_obj {H : AH} {E : GE} (hr : HRel H E) {vs : List AV} {old new rest : Array Value} {el : TypeId} (hc : CRel E vs (old ++ new).toList) (h1 : ∀ y, y ∈ rest → y.oneCell' = true) {n cap sz : Nat} {ag : Bool} (hn : n ≤ cap) (hag : ag = false → sz = 1) :
    ∃ E', E.le E' ∧ HRel { H with objs := H.objs ++ [.cells vs] } E' ∧ VRel E' (.sl H.objs.length 0 n none sz ag) (.slice (some ⟨E.w.heap.size, 0, none⟩) n cap) ∧ E'.w = E.w.drew.alloc (.cells (old ++ new ++ rest) el) := by
  have hd := hr.heap (w' := E.w.drew) rfl rfl rfl rfl
  have hdl := le_heap (E := E) (w' := E.w.drew) rfl rfl rfl rfl
  have hl := hc.len
  obtain ⟨q1, q2, q3, q4⟩ := new_prefix hd (vs := vs) (c := old ++ new ++ rest) (by
    have : (old ++ new ++ rest).toList.take vs.length = (old ++ new).toList := by
      rw [Array.toList_append, List.take_append_of_le_length (by omega), hl, List.take_length]
    rw [this]; exact hc.mono hdl) (by
    intro y hy
    rcases Array.mem_append.1 hy with h | h
    · exact hc.one y (by simpa using h)
    · exact h1 y h) el
  exact ⟨_, hdl.trans q1, q2, .sl _ _ _ _ _ _ _ _ q4 q3 hn (by simp) hag, rfl⟩

theorem append_sound (hS : SysOK S P) {H : AH} {E : GE} (hr : HRel H E) {ts : Array TypeId} {ty : TypeId} {s x : AV} {K : AV → AH → Option R} {r : R} (h : appendK S H ts s x K = some r) {xs xx : Value} (hs : VRel E s xs) (hx : VRel E x xx) :
    ∃ v H' E' y, K v H' = some r ∧ E.le E' ∧ HRel H' E' ∧ VRel E' v y ∧ (Builtin.append_ ts ty #[xs, xx]).run P E.w = .ok y E'.w := by
  unfold appendK at h
  split at h
  · simp at h
  · rename_i t ht
    split at h
    · simp at h
    · rename_i i hi
      have hk := (hS.type _ _ hi).kind
      split at h
      · rename_i e hik
        rw [hik] at hk
        have hu : P.underlying t = some (.slice e) := hk
        split at h
        · simp at h
        · rename_i j hj
          split at h
          · simp at h
          · rename_i ys hys
            split at h
            · rename_i hcond
              obtain ⟨hz, hsz, hlt⟩ := hcond
              have hpos : 0 < j.size := Nat.pos_of_ne_zero hsz
              have hsrc := src_sound (P := P) hr hpos hys hx
              obtain ⟨new, hn1, hn2, hn3⟩ := hsrc.first ys.length (Nat.le_refl _)
              rw [List.take_length] at hn3
              have hn1' : (Builtin.firstCells j.size ys.length xx).run P E.w = .ok new E.w := hn1 E.w.drawn
              have hn1d : (Builtin.firstCells j.size ys.length xx).run P E.w.drew = .ok new E.w.drew := hn1 (E.w.drawn + 1)
              have hdt := crel_detok hsrc.sizes hn3
              have hzero : ∀ base c n, n ≤ c → ys.length = 0 → (Builtin.append_ ts ty #[.slice base n c, xx]).run P E.w = .ok (.slice base n c) E.w := by
                intro base c n hnc hy0
                have hnew0 : new = #[] := by
                  rw [hy0, Nat.zero_mul] at hn2
                  exact Array.eq_empty_of_size_eq_zero hn2
                have := append_stay (P := P) hS (ty := ty) ht hu hj hlt (w := E.w) (w' := E.w) (base := base) (n := n) (c := c) hsrc.len hn1' (by omega) (by
                  subst hnew0
                  cases base <;> simp [storeCells])
                simpa [hy0] using this
              split at h
              · rw [rel_nils hs]
                split at h
                · rename_i hy0
                  exact ⟨_, _, E, _, h, GE.le.refl E, hr, .nils, hzero none 0 0 (Nat.le_refl _) hy0⟩
                · rename_i hy0
                  split at h
                  · rename_i hfit
                    obtain ⟨cap, rest, m1, m2, m3, m4⟩ := append_move (P := P) hS (ty := ty) ht hu hj hlt (w := E.w) (base := none) (n := 0) (c := 0) (old := #[]) hsrc.len hn1d (by simp [Builtin.firstCells]) (by omega) (by simpa using hfit) hz
                    rw [Nat.zero_add] at m1 m2 m4
                    split at h
                    · unfold newK at h
                      obtain ⟨E', q1, q2, q3, q4⟩ := append_obj hr (old := #[]) (new := new) (rest := rest) (el := e) (vs := flat ys) (by simpa using hn3) m3 (n := ys.length) (cap := cap) (sz := j.size) (ag := j.isAgg) m1 (hS.type _ _ hj).one
                      exact ⟨_, _, E', _, h, q1, q2, q3, by rw [m4, q4]⟩
                    · obtain ⟨E', q1, q2, q3, q4⟩ := append_new hr (old := #[]) (new := new) (rest := rest) (el := e) hdt.2 (by simpa using hdt.1) (by rw [detokL_length]; exact m1) (by rw [detokL_length]; exact m2) m3
                      rw [detokL_length] at q3
                      exact ⟨_, _, E', _, h, q1, q2, q3, by rw [m4, q4]⟩
                  · simp at h
              · rename_i f p sz zs
                cases hs with
                | inl _ _ _ _ a cap0 g h1 h2 h3 h4 h5 h6 =>
                have hs' : VRel E (.inl f p sz zs) (.slice (some a) zs.length cap0) := .inl f p sz zs a cap0 g h1 h2 h3 h4 h5 h6
                split at h
                · rename_i hy0
                  exact ⟨_, _, E, _, h, GE.le.refl E, hr, hs', hzero (some a) cap0 zs.length h4 hy0⟩
                · rename_i hy0
                  split at h
                  · rename_i hc
                    obtain ⟨hfit, rfl⟩ := hc
                    have hzsrc := src_sound (P := P) hr hpos (v := .inl f p j.size zs) (ys := zs) (by simp [srcOf, elemsK]) hs'
                    obtain ⟨old, ho1, ho2, ho3⟩ := hzsrc.first zs.length (Nat.le_refl _)
                    rw [List.take_length] at ho3
                    have hboth : CRel E (flat (zs ++ detokL ys)) (old ++ new).toList := by
                      rw [flat_append, Array.toList_append]; exact crel_append ho3 hdt.1
                    have hbs : ∀ v, v ∈ zs ++ detokL ys → v.cells.length = j.size := by
                      intro v hv
                      rcases List.mem_append.1 hv with h' | h'
                      · exact h1 v h'
                      · exact hdt.2 v h'
                    have hlen2 : (zs ++ detokL ys).length = zs.length + ys.length := by simp [detokL_length]
                    split at h
                    · have hcz : cap0 = zs.length := h6
                      obtain ⟨cap, rest, m1, m2, m3, m4⟩ := append_move (P := P) hS (ty := ty) ht hu hj hlt (w := E.w) (base := some a) (n := zs.length) (c := cap0) (old := old) hsrc.len hn1d (ho1 (E.w.drawn + 1)) (by omega) hfit hz
                      obtain ⟨E', q1, q2, q3, q4⟩ := append_new hr (old := old) (new := new) (rest := rest) (el := e) hbs hboth (by rw [hlen2]; exact m1) (by rw [hlen2]; exact m2) m3
                      rw [hlen2] at q3
                      exact ⟨_, _, E', _, h, q1, q2, q3, by rw [m4, q4]⟩
                    · rename_i t' g'
                      split at h
                      · rename_i htok
                        obtain ⟨k1, k2, k3⟩ := h6
                        by_cases hroom : zs.length + ys.length ≤ cap0
                        · have hnl : new.toList.length = ys.length * j.size := by simpa using hn2
                          have hmul : (zs.length + ys.length) * j.size ≤ cap0 * j.size := Nat.mul_le_mul_right _ hroom
                          rw [Nat.add_mul] at hmul
                          obtain ⟨w', s1, s2, s3, s4⟩ := grow_sound (P := P) hr htok k3 (xs := new.toList) (by omega) hn3.one
                          have hval := grow_val (H := H) (ys := detokL ys) hs' hdt.1 hdt.2 (by rw [detokL_length]; exact hroom) s2 s4 (hr.tlt htok)
                          rw [hlen2] at hval
                          refine ⟨_, _, _, _, h, s2, s3, hval, ?_⟩
                          have ea : a.add (zs.length * j.size) = ⟨a.block, a.off + zs.length * j.size, none⟩ := by
                            obtain ⟨ab, ao, asp⟩ := a
                            simp only at k2
                            subst k2
                            rw [Addr.add_lit]
                          exact append_stay (P := P) hS (ty := ty) ht hu hj hlt (w := E.w) (base := some a) (n := zs.length) (c := cap0) hsrc.len hn1' hroom (by show (storeCells (a.add (zs.length * j.size)) new.toList).run P E.w = .ok () w'; rw [ea]; exact s1)
                        · obtain ⟨cap, rest, m1, m2, m3, m4⟩ := append_move (P := P) hS (ty := ty) ht hu hj hlt (w := E.w) (base := some a) (n := zs.length) (c := cap0) (old := old) hsrc.len hn1d (ho1 (E.w.drawn + 1)) (by omega) hfit hz
                          obtain ⟨E', q1, q2, q3, q4⟩ := append_retok hr htok (f := f) (old := old) (new := new) (rest := rest) (el := e) hbs hboth (by rw [hlen2]; exact m1) (by rw [hlen2]; exact m2) m3
                          rw [hlen2] at q3
                          exact ⟨_, _, E', _, h, q1, q2, q3, by rw [m4, q4]⟩
                      · simp at h
                    · simp at h
                  · simp at h
              · rename_i id off len cap sz ag
                have hs' := hs
                cases hs with
                | sl _ _ _ _ _ _ b c hid hb hlc hcap hag =>
                split at h
                · rename_i hy0
                  exact ⟨_, _, E, _, h, GE.le.refl E, hr, hs', hzero _ c len hlc hy0⟩
                · rename_i hy0
                  split at h
                  · simp at h
                  · rename_i hszj
                    have hszj' : sz = j.size := by omega
                    subst hszj'
                    split at h
                    · simp at h
                    · rename_i c0
                      have hcc := hcap c0 rfl
                      subst hcc
                      split at h
                      · rename_i cs ho
                        have hfl := flat_length ys hsrc.sizes
                        split at h
                        · rename_i hroom
                          split at h
                          · rename_i hin
                            rw [Nat.add_mul] at hin
                            obtain ⟨w', s1, s2, s3⟩ := write_cells (P := P) hr ho hb hn3 (off := off + len * j.size) (by omega)
                            refine ⟨_, _, E.at w', _, h, s2, s3, ?_, append_stay (P := P) hS (ty := ty) ht hu hj hlt (w := E.w) (base := some ⟨b, off, none⟩) (n := len) (c := c) hsrc.len hn1' hroom ?_⟩
                            · exact .sl _ _ _ _ _ _ b c hid hb hroom hcap hag
                            · show (storeCells ((⟨b, off, none⟩ : Addr).add (len * j.size)) new.toList).run P E.w = .ok () w'
                              rw [Addr.add_lit]; exact s1
                          · simp at h
                        · rename_i hroom
                          split at h
                          · rename_i hc
                            obtain ⟨hfit, hin⟩ := hc
                            have hsl := src_sound (P := P) hr hpos (v := .sl id off len (some c) j.size ag) (ys := chunks j.size ag len (cs.drop off)) (by simp [srcOf, elemsK, ho, hin]) hs'
                            have hplain : ∀ c, c ∈ cs.drop off → c.cells = [c] := by
                              intro d hd
                              have hd' := List.mem_of_mem_drop hd
                              obtain ⟨m, hm⟩ := List.getElem?_of_mem hd'
                              cases hr.obj _ _ ho with
                              | cells _ b' arr el hb' hh hl hc h1 hS' =>
                              have hlt' : m < arr.size := by
                                rcases Nat.lt_or_ge m cs.length with h' | h'
                                · omega
                                · simp [List.getElem?_eq_none h'] at hm
                              exact cell_plain (hc m d arr[m] hm (by simp [hlt'])) (h1 m _ (by simp [hlt']))
                            obtain ⟨c1, c2, c3⟩ := chunks_spec (ag := ag) hag len (cs.drop off) (by simp; omega) hplain
                            obtain ⟨old, ho1, ho2, ho3⟩ := hsl.first len (by rw [c2]; exact Nat.le_refl _)
                            rw [List.take_of_length_le (by rw [c2]; exact Nat.le_refl _), c1] at ho3
                            obtain ⟨cap, rest, m1, m2, m3, m4⟩ := append_move (P := P) hS (ty := ty) ht hu hj hlt (w := E.w) (base := some ⟨b, off, none⟩) (n := len) (c := c) (old := old) hsrc.len hn1d (ho1 (E.w.drawn + 1)) (by omega) hfit hz
                            unfold newK at h
                            have hboth : CRel E ((cs.drop off).take (len * j.size) ++ flat ys) (old ++ new).toList := by
                              rw [Array.toList_append]; exact crel_append ho3 hn3
                            obtain ⟨E', q1, q2, q3, q4⟩ := append_obj hr (old := old) (new := new) (rest := rest) (el := e) hboth m3 (n := len + ys.length) (cap := cap) (sz := j.size) (ag := j.isAgg) m1 (hS.type _ _ hj).one
                            exact ⟨_, _, E', _, h, q1, q2, q3, by rw [m4, q4]⟩
                          · simp at h
                      · simp at h
              · simp at h
            · simp at h
      · simp at h


theorem copy_sound (hS : SysOK S P) {H : AH} {E : GE} (hr : HRel H E) {ts : Array TypeId} {ty : TypeId} {d x : AV} {K : AV → AH → Option R} {r : R} (h : copyK S H ts d x K = some r) {xd xx : Value} (hd : VRel E d xd) (hx : VRel E x xx) :
    ∃ v H' E' y, K v H' = some r ∧ E.le E' ∧ HRel H' E' ∧ VRel E' v y ∧ (Builtin.copy_ ts ty #[xd, xx]).run P E.w = .ok y E'.w := by
  unfold copyK at h
  split at h
  · simp at h
  · rename_i t ht
    split at h
    · simp at h
    · rename_i i hi
      have hk := (hS.type _ _ hi).kind
      split at h
      · rename_i e hik
        rw [hik] at hk
        have hu : P.underlying t = some (.slice e) := hk
        split at h
        · simp at h
        · rename_i j hj
          split at h
          · simp at h
          · rename_i ys hys
            split at h
            · simp at h
            · rename_i hsz
              have hpos : 0 < j.size := Nat.pos_of_ne_zero hsz
              have hsrc := src_sound (P := P) hr hpos hys hx
              have hsize := fun w => run_size' hS hj w
              have hrun : ∀ (base : Option Addr) (n c : Nat) (new : Array Value) (w' : World), (Builtin.firstCells j.size (min ys.length n) xx).run P E.w = .ok new E.w →
                  (match base with | some a => storeCells a new.toList | none => pure () : Sem Unit).run P E.w = .ok () w' →
                  (Builtin.copy_ ts ty #[.slice base n c, xx]).run P E.w = .ok (.int .i64 (min ys.length n : Nat)) w' := by
                intro base n c new w' h1 h2
                have h1' : (Builtin.firstCells j.size (Nat.min ys.length n) xx).run P E.w = .ok new E.w := h1
                cases base with
                | none =>
                  simp only [Sem.run_pure, Result.ok.injEq, true_and] at h2
                  subst h2
                  simp [Builtin.copy_, ht, run_underlying hu, hsrc.len, hsize, h1, goInt]
                | some a =>
                  simp only at h2
                  simp [Builtin.copy_, ht, run_underlying hu, hsrc.len, hsize, h1, goInt, h2]
              have hempty : ∀ base n c, min ys.length n = 0 → (Builtin.copy_ ts ty #[.slice base n c, xx]).run P E.w = .ok (.int .i64 0) E.w := by
                intro base n c h0
                obtain ⟨new, g1, g2, g3⟩ := hsrc.first (min ys.length n) (Nat.min_le_left _ _)
                have hnew : new = #[] := by
                  rw [h0, Nat.zero_mul] at g2
                  exact Array.eq_empty_of_size_eq_zero g2
                have := hrun base n c new E.w (g1 E.w.drawn) (by subst hnew; cases base <;> simp [storeCells])
                rw [h0] at this
                exact this
              split at h
              · rw [rel_nils hd]
                exact ⟨_, _, E, _, h, GE.le.refl E, hr, .int _ _, hempty none 0 0 (by simp)⟩
              · rename_i f p sz zs
                split at h
                · rename_i h0
                  cases hd with
                  | inl _ _ _ _ a cap g h1 h2 h3 h4 h5 h6 =>
                  exact ⟨_, _, E, _, h, GE.le.refl E, hr, .int _ _, hempty _ _ _ h0⟩
                · simp at h
              · rename_i id off len cap sz ag
                cases hd with
                | sl _ _ _ _ _ _ b c hid hb hlc hcap hag =>
                split at h
                · rename_i cs ho
                  split at h
                  · rename_i hc
                    obtain ⟨hin, rfl⟩ := hc
                    obtain ⟨new, g1, g2, g3⟩ := hsrc.first (min ys.length len) (Nat.min_le_left _ _)
                    have hs' : ∀ v, v ∈ ys.take (min ys.length len) → v.cells.length = j.size := fun v hv => hsrc.sizes v (List.mem_of_mem_take hv)
                    have hfl := flat_length _ hs'
                    have hmul : min ys.length len * j.size ≤ len * j.size := Nat.mul_le_mul_right _ (Nat.min_le_right _ _)
                    have hlt : (ys.take (min ys.length len)).length = min ys.length len := by simp
                    rw [hlt] at hfl
                    obtain ⟨w', s1, s2, s3⟩ := write_cells (P := P) hr ho hb g3 (off := off) (by omega)
                    exact ⟨_, _, E.at w', _, h, s2, s3, .int _ _, hrun (some ⟨b, off, none⟩) len c new w' (g1 E.w.drawn) s1⟩
                  · simp at h
                · simp at h
              · simp at h
      · simp at h

end Go.Sx

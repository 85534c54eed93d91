/- THE ENGINE, 9: indexing, slicing, lengths. -/
import Derived.Test.YtoagnbpmoihojaaDoorSxSound4
set_option linter.unusedSimpArgs false
set_option linter.unusedVariables false
namespace Go.Sx
variable {S : Sys} {P : Program} {R : Type}

theorem add_add {w : World} {a : Addr} {k j : Nat} {x : Value} (h : w.cell? (a.add (k + j)) = some x) : (a.add k).add j = a.add (k + j) ∧ (a.add k).block = a.block ∧ (a.add k).off + j = a.off + (k + j) := by
  have e := addr_of_cell h
  by_cases h0 : k = 0
  · subst h0; simp [Addr.add_zero']
  · have e1 : a.add k = ⟨a.block, a.off + k, none⟩ := by simp [Addr.add, h0]
    rw [e1, Addr.add_lit, e]
    exact ⟨by congr 1; omega, rfl, by show a.off + k + j = _; omega⟩

theorem field_sound (hS : SysOK S P) {E : GE} {t : TypeId} {i : TI} (hi : S.T t = some i) {u : AV} {n : Nat} {K : AV → Option R} {r : R} (h : fieldK i S.T u n K = some r) {x : Value} (hx : VRel E u x) (w : World) :
    ∃ v y, K v = some r ∧ VRel E v y ∧ (Instr.field t x n).run P w = .ok y w := by
  have hT := hS.type _ _ hi
  have hk := hT.kind
  unfold fieldK at h
  split at h
  · rename_i fs hik
    rw [hik] at hk
    obtain ⟨fields, hu, hf, _⟩ := hk
    split at h
    · rename_i off ft hfn
      split at h
      · rename_i j hj
        have hfield : ∃ fd, fields[n]? = some fd ∧ fd.offset = off ∧ fd.type = ft := by
          rw [← hf] at hfn
          simp only [List.getElem?_map, Option.map_eq_some_iff, Array.getElem?_toList] at hfn
          obtain ⟨fd, h1, h2⟩ := hfn
          simp only [Prod.mk.injEq] at h2
          exact ⟨fd, h1, h2.1, h2.2⟩
        obtain ⟨fd, hfd, rfl, rfl⟩ := hfield
        split at h
        · rename_i cs
          have hx' := hx
          cases hx with
          | agg _ xs _ _ _ =>
          obtain ⟨v, y, h1, h2, h3⟩ := part_sound (hS.type _ _ hj) hx' h
          exact ⟨v, y, h1, h2, by simp [Instr.field, run_underlying hu, hfd, asAgg, h3]⟩
        · simp at h
      · simp at h
    · simp at h
  · simp at h

theorem asInt_inv {v : AV} {K : IntKind → Int → Option R} {r : R} (h : asIntK v K = some r) : ∃ k n, v = .int k n ∧ K k n = some r := by
  unfold asIntK at h
  split at h
  · exact ⟨_, _, rfl, h⟩
  · simp at h

theorem indexAddr_sound (hS : SysOK S P) {E : GE} {t : TypeId} {i : TI} (hi : S.T t = some i) {u v : AV} {K : AV → Option R} {r : R} (h : indexAddrK i S.T u v K = some r) {x y : Value} (hx : VRel E u x) (hy : VRel E v y) (w : World) :
    ∃ v z, K v = some r ∧ VRel E v z ∧ (Instr.indexAt t x y).run P w = .ok z w := by
  have hT := hS.type _ _ hi
  have hk := hT.kind
  unfold indexAddrK at h
  have h' := asInt_inv h
  clear h
  obtain ⟨k, n, rfl, h⟩ := h'
  have ey := rel_int hy
  subst ey
  split at h
  · rename_i e hik
    rw [hik] at hk
    have hu : P.underlying t = some (.slice e) := hk
    split at h
    · rename_i j hj
      have hsz := fun w => run_size' hS hj w
      split at h
      · rename_i f p sz xs
        split at h
        · rename_i hn
          split at h
          · rename_i hsj
            split at h
            · rename_i v hv
              cases hx with
              | inl _ _ _ _ a cap g h1 h2 h3 h4 h5 h6 =>
              have hlt : n.toNat < xs.length := by omega
              have hvs : v.cells.length = sz := h1 v (List.mem_of_getElem? hv)
              subst hsj
              refine ⟨_, .pointer (some (a.add (n.toNat * j.size))), h, ?_, ?_⟩
              · refine .rop _ _ (fun m => g n.toNat m) ?_ ?_
                · intro m hm
                  have hc' := h2 n.toNat m hlt (by omega)
                  obtain ⟨e1, e2, e3⟩ := add_add hc'.1
                  rw [e1, e2, e3]; exact hc'
                · intro m c hm
                  exact h3 _ _ _ _ hv hm
              · simp [Instr.indexAt, asIntOf, run_underlying hu, hn, hsz]
            · simp at h
          · simp at h
        · simp at h
      · rename_i id off len cap sz ag
        split at h
        · rename_i hn
          split at h
          · rename_i hs
            cases hx with
            | sl _ _ _ _ _ _ b c hid hb hl hc hag =>
            refine ⟨_, .pointer (some ⟨b, off + n.toNat * j.size, none⟩), h, .ptr _ _ b hid hb, ?_⟩
            simp [Instr.indexAt, asIntOf, run_underlying hu, hn, hsz, Addr.add_lit]
          · simp at h
        · simp at h
      · simp at h
    · simp at h
  · rename_i len e hik
    rw [hik] at hk
    have hu : P.underlying t = some (.array len e) := hk
    split at h
    · rename_i j hj
      have hsz := fun w => run_size' hS hj w
      split at h
      · rename_i cs
        split at h
        · rename_i hn
          have hx' := hx
          cases hx with
          | rop _ a f _ _ =>
          obtain ⟨v, h1, h2⟩ := rop_part hS hj hx' h
          exact ⟨_, _, h1, h2, by simp [Instr.indexAt, asIntOf, run_underlying hu, hn, hsz, Instr.sureAddr]⟩
        · simp at h
      · rename_i id o
        split at h
        · rename_i hn
          cases hx with
          | ptr _ _ b hid hb =>
          refine ⟨_, .pointer (some ⟨b, o + n.toNat * j.size, none⟩), h, .ptr _ _ b hid hb, ?_⟩
          simp [Instr.indexAt, asIntOf, run_underlying hu, hn, hsz, Instr.sureAddr, Addr.add_lit]
        · simp at h
      · simp at h
    · simp at h
  · simp at h

theorem index_sound (hS : SysOK S P) {E : GE} {t : TypeId} {i : TI} (hi : S.T t = some i) {u v : AV} {K : AV → Option R} {r : R} (h : indexK i S.T u v K = some r) {x y : Value} (hx : VRel E u x) (hy : VRel E v y) (w : World) :
    ∃ v z, K v = some r ∧ VRel E v z ∧ (Instr.index t x y).run P w = .ok z w := by
  have hT := hS.type _ _ hi
  have hk := hT.kind
  unfold indexK at h
  have h' := asInt_inv h
  clear h
  obtain ⟨k, n, rfl, h⟩ := h'
  have ey := rel_int hy
  subst ey
  split at h
  · rename_i len e cs hik
    rw [hik] at hk
    have hu : P.underlying t = some (.array len e) := hk
    split at h
    · rename_i j hj
      split at h
      · rename_i hn
        have hx' := hx
        cases hx with
        | agg _ xs _ _ _ =>
        obtain ⟨v, y, h1, h2, h3⟩ := part_sound (hS.type _ _ hj) hx' h
        exact ⟨v, y, h1, h2, by simp [Instr.index, asIntOf, run_underlying hu, hn, run_size' hS hj, h3]⟩
      · simp at h
    · simp at h
  · rename_i s hik
    rw [hik] at hk
    have hu : P.underlying t = some .string := hk
    split at h
    · rename_i hn
      split at h
      · rename_i b hb
        have ex := rel_str hx
        subst ex
        have hlt : n.toNat < s.length := by
          rcases Nat.lt_or_ge n.toNat s.length with h' | h'
          · exact h'
          · simp [List.getElem?_eq_none h'] at hb
        have hb' : (⟨s.toArray⟩ : ByteArray)[n.toNat]? = some b := by
          have hsz : (⟨s.toArray⟩ : ByteArray).size = s.length := rfl
          rw [getElem?_pos _ _ (by rw [hsz]; exact hlt)]
          congr 1
          have : s[n.toNat]? = some s[n.toNat] := by simp [hlt]
          rw [this] at hb
          exact Option.some.inj hb
        exact ⟨_, _, h, .int _ _, by simp [Instr.index, asIntOf, run_underlying hu, hn, hb']⟩
      · simp at h
    · simp at h
  · simp at h

theorem len_sound (hS : SysOK S P) {H : AH} {E : GE} (hr : HRel H E) {ts : Array TypeId} {ty : TypeId} {u : AV} {K : AV → Option R} {r : R} (h : lenK S H ts u K = some r) {x : Value} (hx : VRel E u x) :
    ∃ v y, K v = some r ∧ VRel E v y ∧ (Builtin.len_ ts ty #[x]).run P E.w = .ok y E.w := by
  unfold lenK at h
  split at h
  · simp at h
  · rename_i t ht
    split at h
    · simp at h
    · rename_i i hi
      have hk := (hS.type _ _ hi).kind
      split at h
      · rename_i s hik
        rw [hik] at hk
        rw [rel_str hx]
        have hs : (⟨s.toArray⟩ : ByteArray).size = s.length := rfl
        exact ⟨_, _, h, .int _ _, by simp [Builtin.len_, ht, run_underlying hk, goInt, hs]⟩
      · rename_i n _ hik
        rw [hik] at hk
        exact ⟨_, _, h, .int _ _, by simp [Builtin.len_, ht, run_underlying hk, goInt]⟩
      · rename_i e hik
        rw [hik] at hk
        rw [rel_nils hx]
        exact ⟨_, _, h, .int _ _, by simp [Builtin.len_, ht, run_underlying hk, goInt]⟩
      · rename_i e f p sz xs hik
        rw [hik] at hk
        cases hx
        exact ⟨_, _, h, .int _ _, by simp [Builtin.len_, ht, run_underlying hk, goInt]⟩
      · rename_i e _ _ _ _ _ _ hik
        rw [hik] at hk
        cases hx
        exact ⟨_, _, h, .int _ _, by simp [Builtin.len_, ht, run_underlying hk, goInt]⟩
      · rename_i hik
        rw [hik] at hk
        rw [rel_nilmap hx]
        exact ⟨_, _, h, .int _ _, by simp [Builtin.len_, ht, run_underlying hk, goInt]⟩
      · rename_i id hik
        rw [hik] at hk
        split at h
        · rename_i es ho
          cases hx with
          | map _ b hid hb =>
          cases hr.obj _ _ ho with
          | map _ b' ms clock hb' hh hl _ _ =>
          rw [hb] at hb'
          obtain rfl := Option.some.inj hb'
          refine ⟨_, _, h, .int _ _, ?_⟩
          have : (getObj b).run P E.w = .ok (.map ms clock) E.w := by simp [getObj, Sem.run, hh]
          simp [Builtin.len_, ht, run_underlying hk, this, goInt, hl]
        · simp at h
      · simp at h

theorem bound_inv {v : AV} {y : Nat} {K : Nat → Option R} {r : R} (h : boundK v y K = some r) : ∃ k n, v = .int k n ∧ 0 ≤ n ∧ n ≤ (y : Int) ∧ K n.toNat = some r := by
  unfold boundK at h
  have h' := asInt_inv h
  clear h
  obtain ⟨k, n, rfl, h⟩ := h'
  split at h
  · rename_i hn; exact ⟨k, n, rfl, hn.1, hn.2, h⟩
  · simp at h

theorem run_bound (k : IntKind) (n : Int) (y : Nat) (c : BoundsCode) (h0 : 0 ≤ n) (h1 : n ≤ (y : Int)) (w : World) : (Instr.sliceBound (.int k n) y c).run P w = .ok n.toNat w := by
  simp [Instr.sliceBound, asIntOf, h0, h1]


theorem optBound_inv {v : Option AV} {y d : Nat} {K : Nat → Option R} {r : R} (h : optBoundK v y d K = some r) :
    (v = none ∧ K d = some r) ∨ ∃ k n, v = some (.int k n) ∧ 0 ≤ n ∧ n ≤ (y : Int) ∧ K n.toNat = some r := by
  cases v with
  | none => exact .inl ⟨rfl, h⟩
  | some v =>
    obtain ⟨k, n, rfl, h1, h2, h3⟩ := bound_inv h
    exact .inr ⟨k, n, rfl, h1, h2, h3⟩

/-- An optional operand and what it tells. -/
def ORelV (E : GE) (u : Option AV) (x : Option Value) : Prop := (u = none ∧ x = none) ∨ ∃ v y, u = some v ∧ x = some y ∧ VRel E v y

/-- The bounds of a slice expression without a third index. -/
theorem bounds2 {E : GE} {lo hi : Option AV} {xl xh : Option Value} (hl : ORelV E lo xl) (hh : ORelV E hi xh) (isSlice : Bool) (len cap : Nat) {y : Nat} (hy : y ≤ cap) {K : Nat → Nat → Option R} {r : R}
    (h : optBoundK hi y len (fun h => optBoundK lo h 0 fun l => K h l) = some r) :
    ∃ l h, K h l = some r ∧ l ≤ h ∧ (hi = none → h = len) ∧ (h ≤ y ∨ h = len) ∧ ∀ w, (Instr.sliceBounds isSlice len cap xl xh none).run P w = .ok (l, h, cap) w := by
  have low : ∀ (h : Nat) {r : R} {K : Nat → Option R}, optBoundK lo h 0 K = some r → ∃ l, K l = some r ∧ l ≤ h ∧ ∀ w, ((match xl with
    | some v => Instr.sliceBound v h .sliceB
    | none => pure 0 : Sem Nat)).run P w = .ok l w := by
    intro m r K hm
    rcases optBound_inv hm with ⟨h1, h2⟩ | ⟨k, n, h1, h2, h3, h4⟩
    · rcases hl with ⟨_, rfl⟩ | ⟨v, y, e, _⟩
      · exact ⟨0, h2, Nat.zero_le _, fun w => rfl⟩
      · rw [h1] at e; simp at e
    · rcases hl with ⟨e, _⟩ | ⟨v, y, e, rfl, hv⟩
      · rw [h1] at e; simp at e
      · rw [h1] at e
        obtain rfl := Option.some.inj e
        rw [rel_int hv]
        exact ⟨n.toNat, h4, by omega, fun w => run_bound k n m .sliceB h2 h3 w⟩
  rcases optBound_inv h with ⟨h1, h2⟩ | ⟨k, n, h1, h2, h3, h4⟩
  · rcases hh with ⟨_, rfl⟩ | ⟨v, y, e, _⟩
    · obtain ⟨l, g1, g2, g3⟩ := low _ h2
      refine ⟨l, len, g1, g2, fun _ => rfl, .inr rfl, fun w => ?_⟩
      have g3' := g3 w
      cases xl with
      | none => simp only [Sem.run_pure, Result.ok.injEq, and_true] at g3'; subst g3'; simp [Instr.sliceBounds]
      | some v => simp only at g3'; simp [Instr.sliceBounds, g3']
    · rw [h1] at e; simp at e
  · rcases hh with ⟨e, _⟩ | ⟨v, y', e, rfl, hv⟩
    · rw [h1] at e; simp at e
    · rw [h1] at e
      obtain rfl := Option.some.inj e
      rw [rel_int hv]
      obtain ⟨l, g1, g2, g3⟩ := low _ h4
      refine ⟨l, n.toNat, g1, g2, fun e => (by rw [h1] at e; simp at e), .inl (by omega), fun w => ?_⟩
      have g3' := g3 w
      have hb : ∀ c, (Instr.sliceBound (.int k n) cap c).run P w = .ok n.toNat w := fun c => run_bound k n cap c h2 (by omega) w
      cases xl with
      | none => simp only [Sem.run_pure, Result.ok.injEq, and_true] at g3'; subst g3'; simp [Instr.sliceBounds, hb]
      | some v => simp only at g3'; simp [Instr.sliceBounds, hb, g3']

/-- .. and with one. -/
theorem bounds3 {E : GE} {lo : Option AV} {hv mv : AV} {xl : Option Value} {xh xm : Value} (hl : ORelV E lo xl) (hh : VRel E hv xh) (hm : VRel E mv xm) (isSlice : Bool) (len cap : Nat) {y : Nat} (hy : y ≤ cap) {K : Nat → Nat → Nat → Option R} {r : R}
    (h : boundK mv y (fun m => boundK hv m fun h => optBoundK lo h 0 fun l => K m h l) = some r) :
    ∃ l h m, K m h l = some r ∧ l ≤ h ∧ h ≤ m ∧ m ≤ y ∧ ∀ w, (Instr.sliceBounds isSlice len cap xl (some xh) (some xm)).run P w = .ok (l, h, m) w := by
  obtain ⟨k1, n1, rfl, a1, a2, h⟩ := bound_inv h
  obtain ⟨k2, n2, rfl, b1, b2, h⟩ := bound_inv h
  rw [rel_int hh, rel_int hm]
  have q1 : ∀ c w, (Instr.sliceBound (.int k1 n1) cap c).run P w = .ok n1.toNat w := fun c w => run_bound k1 n1 cap c a1 (by omega) w
  have q2 : ∀ c w, (Instr.sliceBound (.int k2 n2) n1.toNat c).run P w = .ok n2.toNat w := fun c w => run_bound k2 n2 n1.toNat c b1 (by omega) w
  rcases optBound_inv h with ⟨h1, h2⟩ | ⟨k, n, h1, h2, h3, h4⟩
  · rcases hl with ⟨_, rfl⟩ | ⟨v, y, e, _⟩
    · exact ⟨0, n2.toNat, n1.toNat, h2, Nat.zero_le _, by omega, by omega, fun w => by simp [Instr.sliceBounds, q1, q2]⟩
    · rw [h1] at e; simp at e
  · rcases hl with ⟨e, _⟩ | ⟨v, y', e, rfl, hv⟩
    · rw [h1] at e; simp at e
    · rw [h1] at e
      obtain rfl := Option.some.inj e
      rw [rel_int hv]
      have q3 : ∀ c w, (Instr.sliceBound (.int k n) n2.toNat c).run P w = .ok n.toNat w := fun c w => run_bound k n n2.toNat c h2 (by omega) w
      exact ⟨n.toNat, n2.toNat, n1.toNat, h4, by omega, by omega, by omega, fun w => by simp [Instr.sliceBounds, q1, q2, q3]⟩

theorem mkstr (l : List UInt8) (a b : Nat) (hab : a ≤ b) : (⟨l.toArray⟩ : ByteArray).extract a b = ⟨((l.drop a).take (b - a)).toArray⟩ := by
  apply ByteArray.ext
  apply Array.ext'
  simp [List.extract_eq_take_drop]


/-- A part of a list in read-only memory. -/
theorem sub_rel {E : GE} {f : Bool} {p : Spare} {sz : Nat} {xs : List AV} {a : Addr} {cap : Nat} (hx : VRel E (.inl f p sz xs) (.slice (some a) xs.length cap)) {l h m : Nat} (hlh : l ≤ h) (hm : h ≤ m) (hc : h ≤ xs.length) {q : Spare}
    (hq : q = .unk ∨ (q = .zero ∧ m = h)) : VRel E (.inl f q sz ((xs.drop l).take (h - l))) (.slice (some (if m = l then a else a.add (l * sz))) (h - l) (m - l)) := by
  cases hx with
  | inl _ _ _ _ _ _ g h1 h2 h3 h4 h5 h6 =>
  have hlen : ((xs.drop l).take (h - l)).length = h - l := by simp; omega
  have key : VRel E (.inl f q sz ((xs.drop l).take (h - l))) (.slice (some (if m = l then a else a.add (l * sz))) ((xs.drop l).take (h - l)).length (m - l)) := by
    refine .inl f q sz _ _ _ (fun i j => g (l + i) j) ?_ ?_ ?_ (by omega) ?_ ?_
    · intro v hv
      exact h1 v (List.mem_of_mem_drop (List.mem_of_mem_take hv))
    · intro i j hi hj
      rw [hlen] at hi
      rw [if_neg (by omega)]
      have hc' := h2 (l + i) j (by omega) hj
      have e0 : (l + i) * sz + j = l * sz + (i * sz + j) := by rw [Nat.add_mul]; omega
      rw [e0] at hc'
      obtain ⟨e1, e2, e3⟩ := add_add hc'.1
      rw [e1, e2, e3]; exact hc'
    · intro i v j c hi hj
      simp only [List.getElem?_take, List.getElem?_drop] at hi
      split at hi
      · exact h3 _ _ _ _ hi hj
      · simp at hi
    · intro hf
      split
      · exact h5 hf
      · have : (a.add (l * sz)).block = a.block := by unfold Addr.add; split <;> rfl
        rw [this]; exact h5 hf
    · rcases hq with rfl | ⟨rfl, rfl⟩
      · trivial
      · show m - l = _; omega
  rwa [hlen] at key

theorem slice_sound (hS : SysOK S P) {E : GE} {t : TypeId} {i : TI} (hi : S.T t = some i) {u : AV} {lo hi' mx : Option AV} {K : AV → Option R} {r : R} (h : sliceK i S.T u lo hi' mx K = some r) {x : Value} {xl xh xm : Option Value}
    (hx : VRel E u x) (hl : ORelV E lo xl) (hh : ORelV E hi' xh) (hm : ORelV E mx xm) (w : World) :
    ∃ v z, K v = some r ∧ VRel E v z ∧ (Instr.sliceAt t x xl xh xm).run P w = .ok z w := by
  have hT := hS.type _ _ hi
  have hk := hT.kind
  unfold sliceK at h
  split at h
  · rename_i hik
    rw [hik] at hk
    have hu : P.underlying t = some .string := hk
    split at h
    · rename_i s
      rw [rel_str hx]
      rcases hm with ⟨_, rfl⟩ | ⟨v, y, e, _⟩
      · have hsz : (⟨s.toArray⟩ : ByteArray).size = s.length := rfl
        obtain ⟨l, h', h1, h2, h3, h4, h5⟩ := bounds2 (P := P) hl hh false s.length s.length (Nat.le_refl _) h
        refine ⟨_, _, h1, .str _, ?_⟩
        simp [Instr.sliceAt, Instr.slice, run_underlying hu, hsz, h5, mkstr s l h' h2]
      · simp at e
    · simp at h
  · rename_i e hik
    rw [hik] at hk
    have hu : P.underlying t = some (.slice e) := hk
    split at h
    · simp at h
    · rename_i j hj
      have hsz := fun w => run_size' hS hj w
      split at h
      · rw [rel_nils hx]
        split at h
        · rcases hm with ⟨_, rfl⟩ | ⟨v, y, e, _⟩
          · obtain ⟨l, h', h1, h2, h3, h4, h5⟩ := bounds2 (P := P) hl hh true 0 0 (Nat.le_refl _) h
            have e1 : l = 0 := by omega
            have e2 : h' = 0 := by omega
            subst e1; subst e2
            exact ⟨_, _, h1, .nils, by simp [Instr.sliceAt, Instr.slice, run_underlying hu, h5, hsz]⟩
          · simp at e
        · rename_i m
          split at h
          · rename_i hv
            rcases hm with ⟨e, _⟩ | ⟨v, y, e, rfl, hmv⟩
            · simp at e
            · obtain rfl := Option.some.inj e
              rcases hh with ⟨e, _⟩ | ⟨v', y', e, rfl, hhv⟩
              · simp at e
              · obtain rfl := Option.some.inj e
                obtain ⟨l, h', m', h1, h2, h3, h4, h5⟩ := bounds3 (P := P) hl hhv hmv true 0 0 (Nat.le_refl _) h
                have e1 : l = 0 := by omega
                have e2 : h' = 0 := by omega
                have e3 : m' = 0 := by omega
                subst e1; subst e2; subst e3
                exact ⟨_, _, h1, .nils, by simp [Instr.sliceAt, Instr.slice, run_underlying hu, h5, hsz]⟩
          · simp at h
      · rename_i f p sz xs
        split at h
        · rename_i hsj
          have hx' := hx
          cases hx with
          | inl _ _ _ _ a cap g h1 h2 h3 h4 h5 h6 =>
          split at h
          · rcases hm with ⟨_, rfl⟩ | ⟨v, y, e, _⟩
            · obtain ⟨l, h', g1, g2, g3, g4, g5⟩ := bounds2 (P := P) hl hh true xs.length cap h4 h
              have hle : h' ≤ xs.length := by omega
              have hrun : ∀ w, (Instr.sliceAt t (.slice (some a) xs.length cap) xl xh none).run P w = .ok (.slice (some (if cap = l then a else a.add (l * sz))) (h' - l) (cap - l)) w := by
                intro w
                subst hsj
                simp only [Instr.sliceAt, Instr.slice, Sem.run_bind, run_underlying hu, Result.andThen_ok, g5, hsz]
                by_cases e : cap = l <;> simp [e]
              split at g1
              · rename_i hc
                obtain ⟨rfl, rfl⟩ := hc
                refine ⟨_, _, g1, ?_, hrun w⟩
                have : (if cap = 0 then a else a.add (0 * sz)) = a := by simp [Addr.add_zero']
                rw [this]; simpa using hx'
              · exact ⟨_, _, g1, sub_rel hx' g2 (by omega) hle (.inl rfl), hrun w⟩
            · simp at e
          · rename_i m
            split at h
            · rename_i hv
              rcases hm with ⟨e, _⟩ | ⟨v, y, e, rfl, hmv⟩
              · simp at e
              · obtain rfl := Option.some.inj e
                rcases hh with ⟨e, _⟩ | ⟨v', y', e, rfl, hhv⟩
                · simp at e
                · obtain rfl := Option.some.inj e
                  obtain ⟨l, h', m', g1, g2, g3, g4, g5⟩ := bounds3 (P := P) hl hhv hmv true xs.length cap h4 h
                  refine ⟨_, .slice (some (if m' = l then a else a.add (l * sz))) (h' - l) (m' - l), g1, sub_rel hx' g2 g3 (by omega) ?_, ?_⟩
                  · split
                    · exact .inr ⟨rfl, by assumption⟩
                    · exact .inl rfl
                  · subst hsj
                    simp only [Instr.sliceAt, Instr.slice, Sem.run_bind, run_underlying hu, Result.andThen_ok, g5, hsz]
                    by_cases e : m' = l <;> simp [e]
            · simp at h
        · simp at h
      · rename_i id off len cap sz ag
        cases hx with
        | sl _ _ _ _ _ _ b c hid hb hlc hc hag =>
        have hgd : cap.getD len ≤ c := by
          cases cap with
          | none => exact hlc
          | some c' => have := hc c' rfl; simp; omega
        split at h
        · rcases hm with ⟨_, rfl⟩ | ⟨v, y, e, _⟩
          · obtain ⟨l, h', g1, g2, g3, g4, g5⟩ := bounds2 (P := P) hl hh true len c hgd h
            have hle : h' ≤ c := by omega
            split at g1
            · rename_i hcl
              have hrun : (Instr.sliceAt t (.slice (some ⟨b, off, none⟩) len c) xl xh none).run P w = .ok (.slice (some ⟨b, if c = l then off else off + l * j.size, none⟩) (h' - l) (c - l)) w := by
                simp only [Instr.sliceAt, Instr.slice, Sem.run_bind, run_underlying hu, Result.andThen_ok, g5, hsz]
                by_cases e : c = l <;> simp [e, Addr.add_lit]
              have hoff : (if c = l then off else off + l * j.size) = (if cap = some l then off else off + l * j.size) := by
                cases cap with
                | some c' =>
                  have := hc c' rfl
                  subst this
                  simp
                | none =>
                  simp only [reduceCtorEq, if_false]
                  split
                  · rename_i e
                    rcases hcl with h0 | h0 | h0
                    · simp at h0
                    · subst h0; simp
                    · omega
                  · rfl
              rw [hoff] at hrun
              refine ⟨_, _, g1, .sl _ _ _ _ _ _ b _ hid hb (by omega) ?_ hag, hrun⟩
              intro c' hc'
              cases cap with
              | none => simp at hc'
              | some c0 => have := hc c0 rfl; simp at hc'; omega
            · simp at g1
          · simp at e
        · rename_i m
          split at h
          · rename_i hv
            rcases hm with ⟨e, _⟩ | ⟨v, y, e, rfl, hmv⟩
            · simp at e
            · obtain rfl := Option.some.inj e
              rcases hh with ⟨e, _⟩ | ⟨v', y', e, rfl, hhv⟩
              · simp at e
              · obtain rfl := Option.some.inj e
                obtain ⟨l, h', m', g1, g2, g3, g4, g5⟩ := bounds3 (P := P) hl hhv hmv true len c hgd h
                refine ⟨_, .slice (some ⟨b, if m' = l then off else off + l * j.size, none⟩) (h' - l) (m' - l), g1, .sl _ _ _ _ _ _ b _ hid hb (by omega) ?_ hag, ?_⟩
                · intro c' hc'; exact Option.some.inj hc'
                · simp only [Instr.sliceAt, Instr.slice, Sem.run_bind, run_underlying hu, Result.andThen_ok, g5, hsz]
                  by_cases e : m' = l <;> simp [e, Addr.add_lit]
          · simp at h
      · simp at h
  · rename_i n e hik
    rw [hik] at hk
    have hu : P.underlying t = some (.array n e) := hk
    split at h
    · simp at h
    · rename_i j hj
      have hsz := fun w => run_size' hS hj w
      split at h
      · rename_i id off
        cases hx with
        | ptr _ _ b hid hb =>
        rcases hm with ⟨_, rfl⟩ | ⟨v, y, e, _⟩
        · obtain ⟨l, h', g1, g2, g3, g4, g5⟩ := bounds2 (P := P) hl hh false n n (Nat.le_refl _) h
          refine ⟨_, .slice (some ⟨b, if n = l then off else off + l * j.size, none⟩) (h' - l) (n - l), g1, .sl _ _ _ _ _ _ b _ hid hb (by omega) ?_ ((hS.type _ _ hj).one), ?_⟩
          · intro c' hc'; exact Option.some.inj hc'
          · simp only [Instr.sliceAt, Sem.run_bind, run_underlying hu, Result.andThen_ok, g5, hsz, Instr.sureAddr, Sem.run_pure]
            by_cases e : n = l <;> simp [e, Addr.add_lit]
        · simp at e
      · simp at h
  · simp at h
end Go.Sx

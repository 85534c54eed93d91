/- THE ENGINE, 6: equality, and the operators. -/
import Derived.Test.YtoagnbpmoihojaaDoorSxSound1
import Derived.ChangeKeysEq
import Derived.Laws.StructEq
import Derived.Laws.Pointers
set_option linter.unusedSimpArgs false
set_option linter.unusedVariables false
namespace Go.Sx
variable {S : Sys} {P : Program}

theorem fields_sound (hS : SysOK S P) {E : GE} {n : Nat} {xs ys : List AV} {us vs : Array Value} (hx : VRel E (.agg xs) (.agg us)) (hy : VRel E (.agg ys) (.agg vs)) (w : World) (d : Nat)
    (ih : ∀ t u v b x y, eqv S.T n t u v = some b → VRel E u x → VRel E v y → (Op.equalIn d t x y).run P w = .ok b w) :
    ∀ (fields : List Field) (b : Bool), fields.all (fun f => f.name != "_") = true →
      (fields.map fun f => (f.offset, f.type)).foldr (fun f acc => match S.T f.2 with
            | none => none
            | some j => partK j xs f.1 fun a => partK j ys f.1 fun b => match eqv S.T n f.2 a b, acc with
              | some p, some q => some (p && q)
              | _, _ => none) (some true) = some b →
      (Op.eqFields d us vs fields).run P w = .ok b w
  | [], b, _, h => by
    simp at h; subst h; simp [Op.eqFields]
  | f :: fs, b, hn, h => by
    simp only [List.all_cons, Bool.and_eq_true, bne_iff_ne, ne_eq] at hn
    simp only [List.map_cons, List.foldr_cons] at h
    split at h
    · simp at h
    · rename_i j hj
      obtain ⟨a, x, ha, hax, hpx⟩ := part_sound (hS.type _ _ hj) hx h
      obtain ⟨c, y, hc, hcy, hpy⟩ := part_sound (hS.type _ _ hj) hy ha
      split at hc
      · rename_i p q hp hq
        have ih' := fields_sound hS hx hy w d ih fs q hn.2 hq
        simp only [Op.eqFields, hn.1, not_false_eq_true, if_true, ne_eq, Sem.run_bind, hpx w, hpy w, Result.andThen_ok, ih _ _ _ _ _ _ hp hax hcy]
        simp only [Option.some.injEq] at hc
        subst hc
        cases p
        · simp
        · simpa using ih'
      · simp at hc

theorem items_sound (hS : SysOK S P) {E : GE} {n : Nat} {xs ys : List AV} {us vs : Array Value} (hx : VRel E (.agg xs) (.agg us)) (hy : VRel E (.agg ys) (.agg vs)) (w : World) (d : Nat) {e : TypeId} {j : TI} (hj : S.T e = some j) (sz : Nat) (hsz : sz = j.size)
    (ih : ∀ t u v b x y, eqv S.T n t u v = some b → VRel E u x → VRel E v y → (Op.equalIn d t x y).run P w = .ok b w) :
    ∀ (is : List Nat) (b : Bool),
      is.foldr (fun m acc => partK j xs (m * j.size) fun a => partK j ys (m * j.size) fun b => match eqv S.T n e a b, acc with
              | some p, some q => some (p && q)
              | _, _ => none) (some true) = some b →
      (Op.eqItems d e sz us vs is).run P w = .ok b w
  | [], b, h => by
    simp at h; subst h; simp [Op.eqItems]
  | m :: is, b, h => by
    simp only [List.foldr_cons] at h
    obtain ⟨a, x, ha, hax, hpx⟩ := part_sound (hS.type _ _ hj) hx h
    obtain ⟨c, y, hc, hcy, hpy⟩ := part_sound (hS.type _ _ hj) hy ha
    split at hc
    · rename_i p q hp hq
      have ih' := items_sound hS hx hy w d hj sz hsz ih is q hq
      subst hsz
      simp only [Op.eqItems, Sem.run_bind, hpx w, hpy w, Result.andThen_ok, ih _ _ _ _ _ _ hp hax hcy]
      simp only [Option.some.injEq] at hc
      subst hc
      cases p
      · simp
      · simpa using ih'
    · simp at hc

theorem eqv_sound (hS : SysOK S P) (w : World) : ∀ (n : Nat) (t : TypeId) (u v : AV) (b : Bool) (x y : Value) (E : GE), eqv S.T n t u v = some b → VRel E u x → VRel E v y → ∀ d, n ≤ d → (Op.equalIn d t x y).run P w = .ok b w
  | 0, _, _, _, _, _, _, _, h, _, _ => by simp [eqv] at h
  | n + 1, t, u, v, b, x, y, E, h, hx, hy => by
    intro d hd
    obtain ⟨d, rfl⟩ : ∃ m, d = m + 1 := ⟨d - 1, by omega⟩
    have ih := fun t u v b x y (h : eqv S.T n t u v = some b) (hx : VRel E u x) (hy : VRel E v y) => eqv_sound hS w n t u v b x y E h hx hy d (by omega)
    unfold eqv at h
    split at h
    · simp at h
    · rename_i i hi
      have hT := hS.type _ _ hi
      have hk := hT.kind
      split at h <;> (rename_i hik) <;> (try rw [hik] at hk) <;> (try simp only [kindOK] at hk)
      case h_1 =>
        rw [rel_bool hx, rel_bool hy]; simp only [Option.some.injEq] at h; subst h
        exact run_equalIn_bool w d t _ _ hk
      case h_2 =>
        rw [rel_int hx, rel_int hy]
        split at h
        · rename_i e; subst e; simp only [Option.some.injEq] at h; subst h; exact run_equalIn_int w d t _ _ _ _ hk
        · simp at h
      case h_3 =>
        rw [rel_str hx, rel_str hy]; simp only [Option.some.injEq] at h; subst h
        rw [run_equalIn_string w d t _ _ hk]
        congr 1
        rw [ByteArray.toList_eq, ByteArray.toList_eq]
      all_goals first
        | (exfalso; simp at h; done)
        | (obtain ⟨e, hk⟩ := hk; cases hx; cases hy; simp only [Option.some.injEq] at h; subst h; simp [Op.equalIn, run_underlying hk]; done)
        | (obtain ⟨a1, a2, a3, hk⟩ := hk; cases hx <;> cases hy <;> (simp only [Option.some.injEq] at h; subst h; simp [Op.equalIn, run_underlying hk]; done))
        | (cases hx; cases hy; simp only [Option.some.injEq] at h; subst h; simp [Op.equalIn, run_underlying hk]; done)
        | skip
      case h_20 =>
        split at h
        · rename_i hc
          obtain ⟨fields, hu, hf, hn, _⟩ := hk
          have hfo : P.fieldsOf t = fields := by simp [Program.fieldsOf, hu]
          cases hx with
          | agg _ us _ _ _ =>
          cases hy with
          | agg _ vs _ _ _ =>
          rw [run_equalIn_struct (P := P) w d t us vs (by rw [hfo]; exact hu) (hT.cmp hc).2, hfo]
          refine fields_sound hS (E := E) (.agg _ _ (by assumption) (by assumption) (by assumption)) (.agg _ _ (by assumption) (by assumption) (by assumption)) w d (fun t u v b x y h hx hy => ih t u v b x y h hx hy) fields.toList b hn ?_
          rw [hf]; exact h
        · simp at h
      case h_21 =>
        split at h
        · rename_i hc
          split at h
          · simp at h
          · rename_i j hj
            cases hx with
            | agg _ us _ _ _ =>
            cases hy with
            | agg _ vs _ _ _ =>
            obtain ⟨inf, z, hi1, hi2, _⟩ := (hS.type _ _ hj).info
            rw [run_equalIn_array (P := P) w d us vs hk hi1]
            exact items_sound hS (E := E) (.agg _ _ (by assumption) (by assumption) (by assumption)) (.agg _ _ (by assumption) (by assumption) (by assumption)) w d hj _ (by simp [Program.cellsOf, hi1, hi2]) (fun t u v b x y h hx hy => ih t u v b x y h hx hy) _ b h
        · simp at h

variable {R : Type}

theorem guard_sound (hS : SysOK S P) {E : GE} (w : World) {op : BinOp} {t : TypeId} {n : Nat} {u v : AV} {b : Bool} {x y : Value} (xo yo : Operand) (h : eqv S.T n t u v = some b) (hx : VRel E u x) (hy : VRel E v y) :
    (eqGuard op t xo yo x y).run P w = .ok () w := by
  cases n with
  | zero => simp [eqv] at h
  | succ n =>
  unfold eqv at h
  split at h
  · simp at h
  · rename_i i hi
    split at h
    all_goals first
      | (exfalso; simp at h; done)
      | (cases hx <;> cases hy <;> (simp [go_sem]; done))
      | skip
    all_goals
      split at h
      · rename_i hc
        have hT := hS.type _ _ hi
        cases hx
        cases hy
        cases op <;> simp [eqGuard, (hT.cmp hc).1]
      · simp at h

theorem int_sound {op : BinOp} {k : IntKind} {a b : Int} {K : AV → Option R} {r : R} (h : intK op k a b K = some r) (t : TypeId) (w : World) :
    ∃ v x, K v = some r ∧ (∀ E, VRel E v x) ∧ (binOp op t (.int k a) (.int k b)).run P w = .ok x w := by
  cases op <;> simp only [intK] at h
  case quo =>
    split at h
    · simp at h
    · rename_i hb
      exact ⟨_, _, h, fun _ => .int _ _, by simp [binOp, Op.intDiv, hb]⟩
  case rem =>
    split at h
    · simp at h
    · rename_i hb
      exact ⟨_, _, h, fun _ => .int _ _, by simp [binOp, Op.intDiv, hb]⟩
  case shl => simp at h
  case shr => simp at h
  case add => exact ⟨_, _, h, fun _ => .int _ _, by simp [binOp, Op.intArith]⟩
  case sub => exact ⟨_, _, h, fun _ => .int _ _, by simp [binOp, Op.intArith]⟩
  case mul => exact ⟨_, _, h, fun _ => .int _ _, by simp [binOp, Op.intArith]⟩
  case and => exact ⟨_, _, h, fun _ => .int _ _, by simp [binOp, Op.intBits, bits2]⟩
  case or => exact ⟨_, _, h, fun _ => .int _ _, by simp [binOp, Op.intBits, bits2]⟩
  case xor => exact ⟨_, _, h, fun _ => .int _ _, by simp [binOp, Op.intBits, bits2]⟩
  case andNot => exact ⟨_, _, h, fun _ => .int _ _, by simp [binOp, Op.intBits, bits2]⟩
  all_goals exact ⟨_, _, h, fun _ => .bool _, by simp [binOp, Op.intCmp]⟩

theorem shift_sound {left : Bool} {k k' : IntKind} {a b : Int} {K : AV → Option R} {r : R} (h : shiftK left k a b K = some r) (t : TypeId) (w : World) :
    ∃ v x, K v = some r ∧ (∀ E, VRel E v x) ∧ (binOp (if left then .shl else .shr) t (.int k a) (.int k' b)).run P w = .ok x w := by
  unfold shiftK at h
  split at h
  · simp at h
  · rename_i hb
    split at h
    · rename_i hl; subst hl
      exact ⟨_, _, h, fun _ => .int _ _, by simp [binOp, Op.shift, hb]⟩
    · rename_i hl
      have : left = false := by simpa using hl
      subst this
      exact ⟨_, _, h, fun _ => .int _ _, by simp [binOp, Op.shift, hb]⟩

theorem strLess_eq : ∀ a b : List UInt8, Op.bytesLess a b = strLess a b
  | [], [] => rfl
  | _ :: _, [] => rfl
  | [], _ :: _ => rfl
  | a :: x, b :: y => by simp [Op.bytesLess, strLess, strLess_eq x y]

theorem bytes_append (a b : List UInt8) : (⟨a.toArray⟩ : ByteArray) ++ ⟨b.toArray⟩ = ⟨(a ++ b).toArray⟩ := by
  apply ByteArray.ext
  simp

theorem str_sound {op : BinOp} {a b : List UInt8} {K : AV → Option R} {r : R} (h : strK op a b K = some r) (t : TypeId) (w : World) :
    ∃ v x, K v = some r ∧ (∀ E, VRel E v x) ∧ (binOp op t (.string ⟨a.toArray⟩) (.string ⟨b.toArray⟩)).run P w = .ok x w := by
  have e1 : ∀ l : List UInt8, (⟨l.toArray⟩ : ByteArray).toList = l := fun l => by rw [ByteArray.toList_eq]
  cases op <;> simp only [strK] at h
  case add =>
    split at h
    · rename_i hl
      refine ⟨_, _, h, fun _ => .str _, ?_⟩
      have hl' : ¬ ((9223372036854775807 : Int) < (a.length : Int) + (b.length : Int)) := by omega
      simp [binOp, Op.stringOp, ByteArray.size, hl', bytes_append]
    · simp at h
  case eql => exact ⟨_, _, h, fun _ => .bool _, by simp [binOp, Op.stringOp, e1]⟩
  case neq => exact ⟨_, _, h, fun _ => .bool _, by simp [binOp, Op.stringOp, e1]⟩
  case lss => exact ⟨_, _, h, fun _ => .bool _, by simp [binOp, Op.stringOp, e1, strLess_eq]⟩
  case leq => exact ⟨_, _, h, fun _ => .bool _, by simp [binOp, Op.stringOp, e1, strLess_eq]⟩
  case gtr => exact ⟨_, _, h, fun _ => .bool _, by simp [binOp, Op.stringOp, e1, strLess_eq]⟩
  case geq => exact ⟨_, _, h, fun _ => .bool _, by simp [binOp, Op.stringOp, e1, strLess_eq]⟩
  all_goals simp at h

theorem eql_form {T : TypeId → Option TI} {E : GE} {t : TypeId} {n : Nat} {u v : AV} {b : Bool} {x y : Value} (h : eqv T n t u v = some b) (hx : VRel E u x) (hy : VRel E v y)
    (h1 : ∀ k a k' b, u = .int k a → v = .int k' b → False) (h2 : ∀ a b, u = .str a → v = .str b → False) :
    binOp .eql t x y = (do pure (.bool (← Op.equal t x y))) ∧ binOp .neq t x y = (do pure (.bool (!(← Op.equal t x y)))) := by
  cases n with
  | zero => simp [eqv] at h
  | succ n =>
  unfold eqv at h
  split at h
  · simp at h
  · split at h
    all_goals first
      | (exfalso; simp at h; done)
      | (exfalso; exact h1 _ _ _ _ rfl rfl)
      | (exfalso; exact h2 _ _ rfl rfl)
      | (cases hx <;> cases hy <;> exact ⟨by simp only [binOp], by simp only [binOp]⟩)

theorem bin_sound (hS : SysOK S P) {E : GE} {op : BinOp} {t : TypeId} {u v : AV} {K : AV → Option R} {r : R} (h : binK S.T op t u v K = some r) {x y : Value} (hx : VRel E u x) (hy : VRel E v y) (xo yo : Operand) (w : World) :
    ∃ a z, K a = some r ∧ (∀ E, VRel E a z) ∧ (eqGuard op t xo yo x y).run P w = .ok () w ∧ (binOp op t x y).run P w = .ok z w := by
  unfold binK at h
  split at h
  · rename_i k a k' b
    have e1 := rel_int hx
    have e2 := rel_int hy
    subst e1; subst e2
    split at h
    · obtain ⟨a, z, h1, h2, h3⟩ := shift_sound (P := P) (k' := k') h t w
      exact ⟨a, z, h1, h2, by simp [go_sem], by simpa using h3⟩
    · obtain ⟨a, z, h1, h2, h3⟩ := shift_sound (P := P) (k' := k') h t w
      exact ⟨a, z, h1, h2, by simp [go_sem], by simpa using h3⟩
    · split at h
      · rename_i e; subst e
        obtain ⟨a, z, h1, h2, h3⟩ := int_sound (P := P) h t w
        exact ⟨a, z, h1, h2, by simp [go_sem], h3⟩
      · simp at h
  · rename_i a b
    have e1 := rel_str hx
    have e2 := rel_str hy
    subst e1; subst e2
    obtain ⟨a, z, h1, h2, h3⟩ := str_sound (P := P) h t w
    exact ⟨a, z, h1, h2, by simp [go_sem], h3⟩
  · rename_i hn1 hn2
    split at h
    · split at h
      · rename_i b hb
        have hg := guard_sound hS w (op := .eql) xo yo hb hx hy
        have he := eqv_sound hS w _ _ _ _ _ _ _ _ hb hx hy 10000 (by simp [eqDepth])
        have hf := eql_form hb hx hy (fun k a k' b e1 e2 => hn1 _ _ _ _ e1 e2) (fun a b e1 e2 => hn2 _ _ e1 e2)
        refine ⟨_, _, h, fun _ => .bool _, hg, ?_⟩
        rw [hf.1]
        simp [Op.equal, Op.maxDepth, he]
      · simp at h
    · split at h
      · rename_i b hb
        have hg := guard_sound hS w (op := .neq) xo yo hb hx hy
        have he := eqv_sound hS w _ _ _ _ _ _ _ _ hb hx hy 10000 (by simp [eqDepth])
        have hf := eql_form hb hx hy (fun k a k' b e1 e2 => hn1 _ _ _ _ e1 e2) (fun a b e1 e2 => hn2 _ _ e1 e2)
        refine ⟨_, _, h, fun _ => .bool _, hg, ?_⟩
        rw [hf.2]
        simp [Op.equal, Op.maxDepth, he]
      · simp at h
    · simp at h

theorem un_sound {op : UnOp} {u : AV} {K : AV → Option R} {r : R} {E : GE} {x : Value} (h : unK op u K = some r) (hx : VRel E u x) (w : World) :
    ∃ a z, K a = some r ∧ (∀ E, VRel E a z) ∧ (Op.unary op x).run P w = .ok z w := by
  unfold unK at h
  split at h
  · rw [rel_int hx]; exact ⟨_, _, h, fun _ => .int _ _, by simp [Op.unary, Op.intArith]⟩
  · rw [rel_int hx]; exact ⟨_, _, h, fun _ => .int _ _, by simp [Op.unary, Op.intBits, bits2]⟩
  · rw [rel_bool hx]; exact ⟨_, _, h, fun _ => .bool _, by simp [Op.unary]⟩
  · simp at h

theorem minmax_sound {mx : Bool} {E : GE} : ∀ (u : AV) (us : List AV) (K : AV → Option R) (r : R) (x : Value) (xs : List Value), minmaxK mx u us K = some r → VRel E u x →
    us.length = xs.length → (∀ (i : Nat) v y, us[i]? = some v → xs[i]? = some y → VRel E v y) → ∀ w : World,
    ∃ a z, K a = some r ∧ (∀ E, VRel E a z) ∧ (xs.foldlM (if mx then Builtin.max2 else Builtin.min2) x).run P w = .ok z w
  | u, [], K, r, x, xs, h, hx, hl, hv, w => by
    obtain rfl : xs = [] := by simpa using hl.symm
    unfold minmaxK at h
    split at h
    · rw [rel_int hx]; exact ⟨_, _, h, fun _ => .int _ _, by simp⟩
    · simp_all
    · simp at h
  | u, v :: us, K, r, x, xs, h, hx, hl, hv, w => by
    cases xs with
    | nil => simp at hl
    | cons y xs =>
    unfold minmaxK at h
    split at h
    · simp_all
    · rename_i k a k' b r' heq
      simp only [List.cons.injEq] at heq
      obtain ⟨rfl, rfl⟩ := heq
      have hy := rel_int (hv 0 _ _ rfl rfl)
      subst hy
      have e1 := rel_int hx
      subst e1
      obtain ⟨p, z, h1, h2, h3⟩ := minmax_sound _ _ _ _ _ xs h (.int (E := E) _ _) (by simpa using hl) (fun i v y h1 h2 => hv (i + 1) v y (by simpa using h1) (by simpa using h2)) w
      refine ⟨p, z, h1, h2, ?_⟩
      rw [List.foldlM_cons, Sem.run_bind]
      cases mx
      · simp only [Bool.false_eq_true, if_false] at h3 ⊢
        simpa [Builtin.min2] using h3
      · simp only [if_true] at h3 ⊢
        simpa [Builtin.max2] using h3
    · simp at h
end Go.Sx

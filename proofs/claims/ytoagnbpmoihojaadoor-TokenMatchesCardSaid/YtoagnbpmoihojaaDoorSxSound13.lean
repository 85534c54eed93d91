/- THE ENGINE, 17: maps. -/
import Derived.Test.YtoagnbpmoihojaaDoorSxSound12
import Derived.MapKept
set_option linter.unusedSimpArgs false
set_option linter.unusedVariables false
namespace Go.Sx
variable {S : Sys} {P : Program} {R : Type}

theorem partK_det {i : TI} {cs : List AV} {off : Nat} {K : AV → Option R} {r : R} (h : partK i cs off K = some r) : ∃ v, K v = some r ∧ ∀ {R' : Type} (K' : AV → Option R'), partK i cs off K' = K' v := by
  unfold partK at h
  split at h
  · rename_i h1
    split at h
    · rename_i h2
      exact ⟨_, h, fun K' => by unfold partK; rw [if_pos h1, if_pos h2]⟩
    · simp at h
  · rename_i h1
    split at h
    · rename_i v hv
      exact ⟨v, h, fun K' => by unfold partK; rw [if_neg h1, hv]⟩
    · simp at h

/-- A key that can be told can be asked for. -/
theorem checkFields (hS : SysOK S P) {E : GE} {n : Nat} {xs ys : List AV} {us : Array Value} (hx : VRel E (.agg xs) (.agg us)) (w : World) (em : Bool) (d : Nat)
    (ih : ∀ t u v b x, eqv S.T n t u v = some b → VRel E u x → (Instr.checkKey em d t x).run P w = .ok () w) :
    ∀ (fields : List Field) (b : Bool),
      (fields.map fun f => (f.offset, f.type)).foldr (fun f acc => match S.T f.2 with
            | none => none
            | some j => partK j xs f.1 fun a => partK j ys f.1 fun b => match eqv S.T n f.2 a b, acc with
              | some p, some q => some (p && q)
              | _, _ => none) (some true) = some b →
      (forIn fields PUnit.unit (fun f _ => if f.name ≠ "_" then (do
          let x ← part f.type us f.offset
          Instr.checkKey em d f.type x
          pure (ForInStep.yield PUnit.unit)) else pure (ForInStep.yield PUnit.unit)) : Sem PUnit).run P w = .ok PUnit.unit w
  | [], b, _ => by simp
  | f :: fs, b, h => by
    simp only [List.map_cons, List.foldr_cons] at h
    split at h
    · simp at h
    · rename_i j hj
      obtain ⟨a, x, ha, hax, hpx⟩ := part_sound (hS.type _ _ hj) hx h
      obtain ⟨v, hv1, hv2⟩ := partK_det ha
      split at hv1
      · rename_i p q hp hq
        have ih' := checkFields hS hx w em d ih fs q hq
        simp only [List.forIn_cons, Sem.run_bind, Sem.run_ite, hpx w, ih _ _ _ _ _ hp hax, Result.andThen_ok, Sem.run_pure]
        split <;> simpa using ih'
      · simp at hv1

theorem checkItems (hS : SysOK S P) {E : GE} {n : Nat} {xs ys : List AV} {us : Array Value} (hx : VRel E (.agg xs) (.agg us)) (w : World) (em : Bool) (d : Nat) {e : TypeId} {j : TI} (hj : S.T e = some j)
    (ih : ∀ t u v b x, eqv S.T n t u v = some b → VRel E u x → (Instr.checkKey em d t x).run P w = .ok () w) :
    ∀ (is : List Nat) (b : Bool),
      is.foldr (fun m acc => partK j xs (m * j.size) fun a => partK j ys (m * j.size) fun b => match eqv S.T n e a b, acc with
              | some p, some q => some (p && q)
              | _, _ => none) (some true) = some b →
      (forIn is PUnit.unit (fun i _ => do
        let s ← sizeOf e
        let x ← part e us (i * s)
        Instr.checkKey em d e x
        pure (ForInStep.yield PUnit.unit)) : Sem PUnit).run P w = .ok PUnit.unit w
  | [], b, _ => by simp
  | m :: is, b, h => by
    simp only [List.foldr_cons] at h
    obtain ⟨a, x, ha, hax, hpx⟩ := part_sound (hS.type _ _ hj) hx h
    obtain ⟨v, hv1, hv2⟩ := partK_det ha
    split at hv1
    · rename_i p q hp hq
      have ih' := checkItems hS hx w em d hj ih is q hq
      simp only [List.forIn_cons, Sem.run_bind, run_size' hS hj, hpx w, ih _ _ _ _ _ hp hax, Result.andThen_ok, Sem.run_pure]
      simpa using ih'
    · simp at hv1

theorem check_sound (hS : SysOK S P) (w : World) (em : Bool) : ∀ (n : Nat) (t : TypeId) (u v : AV) (b : Bool) (x : Value) (E : GE), eqv S.T n t u v = some b → VRel E u x → ∀ d, n ≤ d → (Instr.checkKey em d t x).run P w = .ok () w
  | 0, _, _, _, _, _, _, h, _ => by simp [eqv] at h
  | n + 1, t, u, v, b, x, E, h, hx => by
    intro d hd
    obtain ⟨d, rfl⟩ : ∃ m, d = m + 1 := ⟨d - 1, by omega⟩
    have ih := fun t u v b x (h : eqv S.T n t u v = some b) (hx : VRel E u x) => check_sound hS w em n t u v b x E h hx d (by omega)
    unfold eqv at h
    split at h
    · simp at h
    · rename_i i hi
      have hT := hS.type _ _ hi
      have hk := hT.kind
      split at h <;> (rename_i hik) <;> (try rw [hik] at hk) <;> (try simp only [kindOK] at hk)
      case h_20 =>
        split at h
        · obtain ⟨fields, hu, hf, hn, _⟩ := hk
          cases hx with
          | agg _ us h1 h2 h3 =>
          have := checkFields hS (E := E) (.agg _ us h1 h2 h3) w em d ih fields.toList b (by rw [hf]; exact h)
          simp only [Instr.checkKey, Sem.run_bind, run_underlying hu, Result.andThen_ok]
          rw [← Array.forIn_toList]
          rw [this]
          simp
        · simp at h
      case h_21 =>
        split at h
        · split at h
          · simp at h
          · rename_i j hj
            cases hx with
            | agg _ us h1 h2 h3 =>
            have := checkItems hS (E := E) (.agg _ us h1 h2 h3) w em d hj ih _ b h
            simp only [Instr.checkKey, Sem.run_bind, run_underlying hk, Result.andThen_ok]
            simp only [Std.Legacy.Range.forIn_eq_forIn_range', Std.Legacy.Range.size, Nat.sub_zero, Nat.add_one_sub_one, Nat.div_one]
            rw [← List.range_eq_range', this]
            simp
        · simp at h
      all_goals first
        | (exfalso; simp at h; done)
        | (obtain ⟨e, hk⟩ := hk; cases hx; simp [Instr.checkKey, run_underlying hk]; done)
        | (obtain ⟨a1, a2, a3, hk⟩ := hk; cases hx <;> (simp [Instr.checkKey, run_underlying hk]; done))
        | (cases hx; simp [Instr.checkKey, run_underlying hk]; done)
        | skip


/-- The entries of a map that an abstract map tells. -/
structure ERel (E : GE) (es : List (AV × AV)) (ms : List MapEntry) : Prop where
  len : es.length = ms.length
  key : ∀ (j : Nat) e m, es[j]? = some e → ms[j]? = some m → VRel E e.1 m.key
  val : ∀ (j : Nat) e m, es[j]? = some e → ms[j]? = some m → VRel E e.2 m.val

theorem ERel.tail {E : GE} {e : AV × AV} {es : List (AV × AV)} {m : MapEntry} {ms : List MapEntry} (h : ERel E (e :: es) (m :: ms)) : ERel E es ms :=
  ⟨by have := h.len; simpa using this, fun j a b h1 h2 => h.key (j + 1) a b (by simpa using h1) (by simpa using h2), fun j a b h1 h2 => h.val (j + 1) a b (by simpa using h1) (by simpa using h2)⟩

def plainKey (k : TK) (cmp : Bool) : Bool := match k with | .bool | .int _ | .string => true | .struct _ | .array _ _ => cmp | _ => false

/-- What is found. -/
def FRel (E : GE) (u : Option (Nat × AV)) (x : Option (Nat × Value)) : Prop := (u = none ∧ x = none) ∨ ∃ i v y, u = some (i, v) ∧ x = some (i, y) ∧ VRel E v y

theorem findAsking_sound (hS : SysOK S P) {E : GE} {kt : TypeId} {k : AV} {kx : Value} (hk : VRel E k kx) (w : World) : ∀ (es : List (AV × AV)) (ms : List MapEntry) (n : Nat) (u : Option (Nat × AV)), ERel E es ms → findK S.T kt k es n = some u →
    ∃ x, (Instr.findAsking kt kx ms n).run P w = .ok x w ∧ FRel E u x
  | [], ms, n, u, hr, h => by
    obtain rfl : ms = [] := by have := hr.len; simpa using this.symm
    simp only [findK, Option.some.injEq] at h
    subst h
    exact ⟨none, by simp [Instr.findAsking], .inl ⟨rfl, rfl⟩⟩
  | e :: es, ms, n, u, hr, h => by
    cases ms with
    | nil => have := hr.len; simp at this
    | cons m ms =>
    simp only [findK] at h
    have hke := hr.key 0 e m rfl rfl
    split at h
    · rename_i he
      simp only [Option.some.injEq] at h
      subst h
      have := eqv_sound hS w _ _ _ _ _ _ _ _ he hk hke 10000 (by simp [eqDepth])
      exact ⟨some (n, m.val), by simp [Instr.findAsking, Op.equal, Op.maxDepth, this], .inr ⟨n, e.2, m.val, rfl, rfl, hr.val 0 e m rfl rfl⟩⟩
    · rename_i he
      have := eqv_sound hS w _ _ _ _ _ _ _ _ he hk hke 10000 (by simp [eqDepth])
      obtain ⟨x, h1, h2⟩ := findAsking_sound hS hk w es ms (n + 1) u hr.tail h
      exact ⟨x, by simp [Instr.findAsking, Op.equal, Op.maxDepth, this, h1], h2⟩
    · simp at h

theorem findNow_sound (hS : SysOK S P) {E : GE} {kt : TypeId} {q : TI} (hq : S.T kt = some q) {d : TypeDesc} (hd : P.underlying kt = some d) {k : AV} {kx : Value} (hk : VRel E k kx) (hsc : q.k = .bool ∨ (∃ kk, q.k = .int kk) ∨ q.k = .string) :
    ∀ (es : List (AV × AV)) (ms : List MapEntry) (n : Nat) (u : Option (Nat × AV)), ERel E es ms → findK S.T kt k es n = some u → ∃ x, Instr.findNow d kx ms n = some x ∧ FRel E u x
  | [], ms, n, u, hr, h => by
    obtain rfl : ms = [] := by have := hr.len; simpa using this.symm
    simp only [findK, Option.some.injEq] at h
    subst h
    exact ⟨none, by simp [Instr.findNow], .inl ⟨rfl, rfl⟩⟩
  | e :: es, ms, n, u, hr, h => by
    cases ms with
    | nil => have := hr.len; simp at this
    | cons m ms =>
    simp only [findK] at h
    have hke := hr.key 0 e m rfl rfl
    have hkd := (hS.type _ _ hq).kind
    have hsame : ∀ b, eqv S.T eqDepth kt k e.1 = some b → Instr.sameNow d kx m.key = some b := by
      intro b hb
      unfold eqDepth at hb
      unfold eqv at hb
      rw [hq] at hb
      simp only at hb
      rcases hsc with hk' | ⟨kk, hk'⟩ | hk' <;> rw [hk'] at hb hkd <;> simp only [kindOK] at hkd <;> rw [hd] at hkd <;> obtain rfl := Option.some.inj hkd
      · split at hb <;> first | contradiction | (simp at hb; done) | skip
        · rename_i he1
          rw [rel_bool hk]
          rw [he1] at hke
          rw [rel_bool hke]
          simpa [Instr.sameNow] using hb
      · split at hb <;> first | contradiction | (simp at hb; done) | skip
        · rename_i he1
          rw [rel_int hk]
          rw [he1] at hke
          rw [rel_int hke]
          simpa [Instr.sameNow] using hb
      · split at hb <;> first | contradiction | (simp at hb; done) | skip
        · rename_i he1
          rw [rel_str hk]
          rw [he1] at hke
          rw [rel_str hke]
          simp only [Option.some.injEq] at hb
          subst hb
          simp only [Instr.sameNow, Option.some.injEq]
          rw [beq_toListBytes, ByteArray.toList_eq, ByteArray.toList_eq]
    split at h
    · rename_i he
      simp only [Option.some.injEq] at h
      subst h
      exact ⟨some (n, m.val), by simp [Instr.findNow, hsame _ he], .inr ⟨n, e.2, m.val, rfl, rfl, hr.val 0 e m rfl rfl⟩⟩
    · rename_i he
      obtain ⟨x, h1, h2⟩ := findNow_sound hS hq hd hk hsc es ms (n + 1) u hr.tail h
      exact ⟨x, by simp [Instr.findNow, hsame _ he, h1], h2⟩
    · simp at h


theorem findKey_sound (hS : SysOK S P) {E : GE} {kt : TypeId} {q : TI} (hq : S.T kt = some q) {k : AV} {kx : Value} (hk : VRel E k kx) (w : World)
    (hpl : keyable q = true) {es : List (AV × AV)} {ms : List MapEntry} {u : Option (Nat × AV)} (hr : ERel E es ms) (h : findK S.T kt k es 0 = some u) :
    ∃ x, (Instr.findKey kt kx ms).run P w = .ok x w ∧ FRel E u x := by
  have hkd := (hS.type _ _ hq).kind
  by_cases hsc : q.k = .bool ∨ (∃ kk, q.k = .int kk) ∨ q.k = .string
  · obtain ⟨d, hd⟩ : ∃ d, P.underlying kt = some d := by
      rcases hsc with hk' | ⟨kk, hk'⟩ | hk' <;> rw [hk'] at hkd <;> exact ⟨_, hkd⟩
    obtain ⟨x, h1, h2⟩ := findNow_sound hS hq hd hk hsc es ms 0 u hr h
    exact ⟨x, by simp [Instr.findKey, run_underlying hd, h1], h2⟩
  · have hagg : (∃ fs, P.underlying kt = some (.struct fs)) ∨ ∃ n e, P.underlying kt = some (.array n e) := by
      unfold keyable at hpl
      split at hpl
      · rename_i h'; exact absurd (.inl h') hsc
      · rename_i kk h'; exact absurd (.inr (.inl ⟨kk, h'⟩)) hsc
      · rename_i h'; exact absurd (.inr (.inr h')) hsc
      · rename_i fs h'; rw [h'] at hkd; obtain ⟨f, hf, _⟩ := hkd; exact .inl ⟨f, hf⟩
      · rename_i n e h'; rw [h'] at hkd; exact .inr ⟨n, e, hkd⟩
      · simp at hpl
    obtain ⟨x, h1, h2⟩ := findAsking_sound hS hk w es ms 0 u hr h
    cases ms with
    | nil =>
      simp only [Instr.findAsking, Sem.run_pure, Result.ok.injEq, and_true] at h1
      subst h1
      refine ⟨none, ?_, h2⟩
      rcases hagg with ⟨fs, hd⟩ | ⟨n, e, hd⟩ <;> simp [Instr.findKey, run_underlying hd, Instr.findNow]
    | cons m ms =>
      refine ⟨x, ?_, h2⟩
      rcases hagg with ⟨fs, hd⟩ | ⟨n, e, hd⟩ <;> simp [Instr.findKey, run_underlying hd, Instr.findNow, Instr.sameNow, h1]

theorem run_getObj {w : World} {b : Nat} {o : Obj} (h : w.heap[b]? = some o) (ho : ∀ c e f, o ≠ .cells c e f) : (getObj b).run P w = .ok o w := by
  unfold getObj
  simp only [Sem.run, h]
  all_goals (cases o <;> first | rfl | exact absurd rfl (ho _ _ _))

theorem lookup_sound (hS : SysOK S P) {H : AH} {E : GE} (hr : HRel H E) {t : TypeId} {i : TI} (hi : S.T t = some i) {u v : AV} {ok : Bool} {K : AV → Option R} {r : R} (h : lookupK S H i u v ok K = some r) {x y : Value} (hx : VRel E u x) (hy : VRel E v y) :
    ∃ v z, K v = some r ∧ VRel E v z ∧ (Instr.lookup t x y ok).run P E.w = .ok z E.w := by
  have hk := (hS.type _ _ hi).kind
  unfold lookupK at h
  split at h
  · rename_i kt et hik
    rw [hik] at hk
    have hu : P.underlying t = some (.map kt et) := hk
    split at h
    · rename_i j q hj hq
      obtain ⟨z, hz1, hz2, hz3⟩ := zero_rel (hS.type _ _ hj) E.w
      split at h
      · rename_i hpl
        split at h
        · simp at h
        · rename_i hself
          have hself' : ∃ b, eqv S.T eqDepth kt v v = some b := by
            cases he : eqv S.T eqDepth kt v v with
            | none => simp [he] at hself
            | some b => exact ⟨b, rfl⟩
          obtain ⟨b, hb⟩ := hself'
          have hchk : ∀ em, (Instr.checkKey em 10000 kt y).run P E.w = .ok () E.w := fun em => check_sound hS E.w em _ _ _ _ _ _ _ hb hy 10000 (by simp [eqDepth])
          split at h
          · rw [rel_nilmap hx]
            have hf : (Instr.findKey kt y []).run P E.w = .ok none E.w := by
              obtain ⟨x, h1, h2⟩ := findKey_sound hS hq hy E.w hpl (es := []) (ms := []) (u := none) ⟨rfl, by simp, by simp⟩ (by simp [findK])
              rcases h2 with ⟨_, rfl⟩ | ⟨i, v, y, e, _⟩
              · exact h1
              · simp at e
            cases ok
            · exact ⟨_, _, h, hz3 E, by simp [Instr.lookup, run_underlying hu, hchk, hf, hz1]⟩
            · refine ⟨_, .tuple #[z, .bool false], h, .tuple _ _ rfl ?_, by simp [Instr.lookup, run_underlying hu, hchk, hf, hz1]⟩
              intro i v x h1 h2
              match i with
              | 0 => simp at h1 h2; subst h1; subst h2; exact hz3 E
              | 1 => simp at h1 h2; subst h1; subst h2; exact .bool false
              | i + 2 => simp at h1
          · rename_i id
            split at h
            · rename_i es ho
              cases hx with
              | map _ b' hid hb' =>
              cases hr.obj _ _ ho with
              | map _ b2 ms clock hb2 hh hl hkk hvv =>
              rw [hb'] at hb2
              obtain rfl := Option.some.inj hb2
              have hg : (getObj b').run P E.w = .ok (.map ms clock) E.w := run_getObj hh (by intro c e f; simp)
              have her : ERel E es ms.toList := ⟨by simpa using hl, fun j e m a d => hkk j e m a (by simpa using d), fun j e m a d => hvv j e m a (by simpa using d)⟩
              split at h
              · rename_i n v' hfk
                obtain ⟨x, h1, h2⟩ := findKey_sound hS hq hy E.w hpl her hfk
                rcases h2 with ⟨e, _⟩ | ⟨i, v0, y0, e, rfl, hv0⟩
                · simp at e
                · simp only [Option.some.injEq, Prod.mk.injEq] at e
                  obtain ⟨rfl, rfl⟩ := e
                  cases ok
                  · exact ⟨_, _, h, hv0, by simp [Instr.lookup, run_underlying hu, hg, hchk, h1]⟩
                  · refine ⟨_, .tuple #[y0, .bool true], h, .tuple _ _ rfl ?_, by simp [Instr.lookup, run_underlying hu, hg, hchk, h1]⟩
                    intro i v x h1 h2
                    match i with
                    | 0 => simp at h1 h2; subst h1; subst h2; exact hv0
                    | 1 => simp at h1 h2; subst h1; subst h2; exact .bool true
                    | i + 2 => simp at h1
              · rename_i hfk
                obtain ⟨x, h1, h2⟩ := findKey_sound hS hq hy E.w hpl her hfk
                rcases h2 with ⟨_, rfl⟩ | ⟨i, v0, y0, e, _⟩
                · cases ok
                  · exact ⟨_, _, h, hz3 E, by simp [Instr.lookup, run_underlying hu, hg, hchk, h1, hz1]⟩
                  · refine ⟨_, .tuple #[z, .bool false], h, .tuple _ _ rfl ?_, by simp [Instr.lookup, run_underlying hu, hg, hchk, h1, hz1]⟩
                    intro i v x h1 h2
                    match i with
                    | 0 => simp at h1 h2; subst h1; subst h2; exact hz3 E
                    | 1 => simp at h1 h2; subst h1; subst h2; exact .bool false
                    | i + 2 => simp at h1
                · simp at e
              · simp at h
            · simp at h
          · simp at h
      · simp at h
    · simp at h
  · simp at h


theorem sameS_sound {E : GE} {u v : AV} (h : sameS u v = true) {x y : Value} (hx : VRel E u x) (hy : VRel E v y) : x = y ∧ ∀ n, Instr.sameBits n x y = true := by
  unfold sameS at h
  split at h
  · rw [rel_int hx, rel_int hy]
    simp only [Bool.and_eq_true, decide_eq_true_eq, beq_iff_eq] at h
    obtain ⟨rfl, rfl⟩ := h
    exact ⟨rfl, fun n => by cases n <;> simp [Instr.sameBits]⟩
  · rw [rel_bool hx, rel_bool hy]
    simp only [beq_iff_eq] at h
    subst h
    exact ⟨rfl, fun n => by cases n <;> simp [Instr.sameBits]⟩
  · rw [rel_str hx, rel_str hy]
    simp only [beq_iff_eq] at h
    subst h
    exact ⟨rfl, fun n => by cases n <;> simp [Instr.sameBits, beq_toListBytes]⟩
  · simp at h

theorem sameL_sound {E : GE} : ∀ (us vs : List AV) (xs ys : List Value), sameL us vs = true → us.length = xs.length → vs.length = ys.length → (∀ (i : Nat) u x, us[i]? = some u → xs[i]? = some x → VRel E u x) → (∀ (i : Nat) v y, vs[i]? = some v → ys[i]? = some y → VRel E v y) →
    xs = ys ∧ ∀ n, ((xs.zip ys).all fun (x, y) => Instr.sameBits n x y) = true
  | [], [], xs, ys, _, h1, h2, _, _ => by
    obtain rfl : xs = [] := by simpa using h1.symm
    obtain rfl : ys = [] := by simpa using h2.symm
    exact ⟨rfl, by simp⟩
  | u :: us, v :: vs, xs, ys, h, h1, h2, hu, hv => by
    cases xs with
    | nil => simp at h1
    | cons x xs =>
    cases ys with
    | nil => simp at h2
    | cons y ys =>
    simp only [sameL, Bool.and_eq_true] at h
    obtain ⟨e1, e2⟩ := sameS_sound h.1 (hu 0 u x rfl rfl) (hv 0 v y rfl rfl)
    obtain ⟨e3, e4⟩ := sameL_sound us vs xs ys h.2 (by simpa using h1) (by simpa using h2) (fun i u x a b => hu (i + 1) u x (by simpa using a) (by simpa using b)) (fun i v y a b => hv (i + 1) v y (by simpa using a) (by simpa using b))
    exact ⟨by rw [e1, e3], fun n => by simp [e2 n]; simpa using e4 n⟩
  | [], _ :: _, _, _, h, _, _, _, _ => by simp [sameL] at h
  | _ :: _, [], _, _, h, _, _, _, _ => by simp [sameL] at h

theorem sameA_sound {E : GE} {u v : AV} (h : sameA u v = true) {x y : Value} (hx : VRel E u x) (hy : VRel E v y) : x = y ∧ Instr.sameBits 10000 x y = true := by
  unfold sameA at h
  split at h
  · cases hx with
    | agg _ xs h1 h2 h3 =>
    cases hy with
    | agg _ ys k1 k2 k3 =>
    obtain ⟨e1, e2⟩ := sameL_sound _ _ xs.toList ys.toList h (by simpa using h1) (by simpa using k1) (fun i u x a b => h2 i u x a (by simpa using b)) (fun i u x a b => k2 i u x a (by simpa using b))
    have e3 : xs = ys := by simpa using e1
    subst e3
    refine ⟨rfl, ?_⟩
    show (xs.size == xs.size && (xs.toList.zip xs.toList).all fun (x, y) => Instr.sameBits 9999 x y) = true
    rw [e2]; simp
  · exact ⟨(sameS_sound h hx hy).1, (sameS_sound h hx hy).2 _⟩

theorem write_map {H : AH} {E : GE} (hr : HRel H E) {id b : Nat} {es : List (AV × AV)} (ho : H.objs[id]? = some (.map es)) (hb : E.ρ id = some b) {es' : List (AV × AV)} {ms' : Array MapEntry} {clock : Nat} (her : ERel E es' ms'.toList) :
    ∃ w', (setObj b (.map ms' clock)).run P E.w = .ok () w' ∧ E.le (E.at w') ∧ HRel { H with objs := H.objs.set id (.map es') } (E.at w') := by
  have hid := hr.idlt ho
  cases hr.obj _ _ ho with
  | map _ b2 ms clock0 hb2 hh hl hkk hvv =>
  rw [hb] at hb2
  obtain rfl := Option.some.inj hb2
  have hlt : b < E.w.heap.size := by
    rcases Nat.lt_or_ge b E.w.heap.size with h' | h'
    · exact h'
    · simp [Array.getElem?_eq_none h'] at hh
  have honly : Only b E.w { E.w with heap := E.w.heap.setIfInBounds b (.map ms' clock) } := by
    constructor <;> try rfl
    · simp
    · intro k hk
      simp only [Array.getElem?_setIfInBounds]
      rw [if_neg (by omega)]
  have hS : ∀ o, ¬ E.S b o := by
    intro o hS
    have := hr.set b o hS
    simp [World.cell?, hh] at this
  have hle := le_write (.inl ⟨id, hid, hb⟩) hS honly
  refine ⟨_, ?_, hr.write hid hb hS honly (.map es' b ms' clock hb ?_ (by have := her.len; simpa using this) ?_ ?_)⟩
  · simp [setObj, Sem.run, hh]
  · show (E.w.heap.setIfInBounds b _)[b]? = _
    simp [Array.getElem?_setIfInBounds, hlt]
  · intro j e m h1 h2
    exact (her.key j e m h1 (by simpa using h2)).mono hle
  · intro j e m h1 h2
    exact (her.val j e m h1 (by simpa using h2)).mono hle

theorem findK_index {T : TypeId → Option TI} {kt : TypeId} {k : AV} : ∀ (es : List (AV × AV)) (n i : Nat) (v : AV), findK T kt k es n = some (some (i, v)) → n ≤ i ∧ i < n + es.length
  | [], n, i, v, h => by simp [findK] at h
  | e :: es, n, i, v, h => by
    simp only [findK] at h
    split at h
    · simp only [Option.some.injEq, Prod.mk.injEq] at h
      simp; omega
    · have := findK_index es (n + 1) i v h
      simp; omega
    · simp at h

theorem mapUpdate_sound (hS : SysOK S P) {H : AH} {E : GE} (hr : HRel H E) {t : TypeId} {i : TI} (hi : S.T t = some i) {m k v : AV} {K : AH → Option R} {r : R} (h : mapUpdateK S H i m k v K = some r) {mx kx vx : Value} (hm : VRel E m mx) (hk : VRel E k kx) (hv : VRel E v vx) :
    ∃ H' w', K H' = some r ∧ (Instr.mapUpdate t mx kx vx).run P E.w = .ok () w' ∧ E.le (E.at w') ∧ HRel H' (E.at w') := by
  have hkd := (hS.type _ _ hi).kind
  unfold mapUpdateK at h
  split at h
  · rename_i kt et hik
    rw [hik] at hkd
    have hu : P.underlying t = some (.map kt et) := hkd
    split at h
    · rename_i q hq
      split at h
      · rename_i hpl
        split at h
        · simp at h
        · rename_i hself
          have hself' : ∃ b, eqv S.T eqDepth kt k k = some b := by
            cases he : eqv S.T eqDepth kt k k with
            | none => simp [he] at hself
            | some b => exact ⟨b, rfl⟩
          obtain ⟨b, hb⟩ := hself'
          have hchk : ∀ em, (Instr.checkKey em 10000 kt kx).run P E.w = .ok () E.w := fun em => check_sound hS E.w em _ _ _ _ _ _ _ hb hk 10000 (by simp [eqDepth])
          split at h
          · rename_i id
            split at h
            · rename_i es ho
              cases hm with
              | map _ b' hid hb' =>
              have hob := hr.obj _ _ ho
              cases hob with
              | map _ b2 ms clock hb2 hh hl hkk hvv =>
              rw [hb'] at hb2
              obtain rfl := Option.some.inj hb2
              have hg : (getObj b').run P E.w = .ok (.map ms clock) E.w := run_getObj hh (by intro c e f; simp)
              have her : ERel E es ms.toList := ⟨by simpa using hl, fun j e m a d => hkk j e m a (by simpa using d), fun j e m a d => hvv j e m a (by simpa using d)⟩
              split at h
              · rename_i n v' hfk
                have hidx := findK_index es 0 n v' hfk
                split at h
                · rename_i e he
                  split at h
                  · rename_i hsame
                    obtain ⟨x, h1, h2⟩ := findKey_sound hS hq hk E.w hpl her hfk
                    rcases h2 with ⟨e', _⟩ | ⟨j, v0, y0, e', rfl, hv0⟩
                    · simp at e'
                    · simp only [Option.some.injEq, Prod.mk.injEq] at e'
                      obtain ⟨rfl, rfl⟩ := e'
                      have hlt : n < ms.size := by omega
                      have hmn : ms[n]? = some ms[n] := by simp [hlt]
                      obtain ⟨s1, s2⟩ := sameA_sound hsame (hkk n e ms[n] he hmn) hk
                      have hbits : Instr.sameBits 10000 ms[n].key kx = true := s2
                      have her' : ERel E (es.set n (e.1, v)) (ms.modify n fun m => { m with key := kx, val := vx }).toList := by
                        refine ⟨by simpa using hl, ?_, ?_⟩
                        · intro j a m h1 h2
                          simp only [List.getElem?_set, Array.getElem?_toList, Array.getElem?_modify] at h1 h2
                          by_cases e1 : n = j
                          · subst e1
                            rw [if_pos rfl, if_pos (by omega)] at h1
                            rw [if_pos rfl, hmn] at h2
                            simp only [Option.some.injEq, Option.map_some] at h1 h2
                            subst h1; subst h2
                            have := hkk n e ms[n] he hmn
                            rw [s1] at this; exact this
                          · rw [if_neg e1] at h1 h2
                            exact hkk j a m h1 h2
                        · intro j a m h1 h2
                          simp only [List.getElem?_set, Array.getElem?_toList, Array.getElem?_modify] at h1 h2
                          by_cases e1 : n = j
                          · subst e1
                            rw [if_pos rfl, if_pos (by omega)] at h1
                            rw [if_pos rfl, hmn] at h2
                            simp only [Option.some.injEq, Option.map_some] at h1 h2
                            subst h1; subst h2
                            exact hv
                          · rw [if_neg e1] at h1 h2
                            exact hvv j a m h1 h2
                      obtain ⟨w', w1, w2, w3⟩ := write_map (P := P) hr ho hb' (clock := clock) her'
                      refine ⟨_, w', h, ?_, w2, w3⟩
                      simp [Instr.mapUpdate, run_underlying hu, hg, hchk, h1, hlt, Instr.keyThatStays, hbits, w1]
                  · simp at h
                · simp at h
              · rename_i hfk
                obtain ⟨x, h1, h2⟩ := findKey_sound hS hq hk E.w hpl her hfk
                rcases h2 with ⟨_, rfl⟩ | ⟨j, v0, y0, e', _⟩
                · have her' : ERel E (es ++ [(k, v)]) (ms.push { key := kx, val := vx, born := clock }).toList := by
                    refine ⟨by simp [hl], ?_, ?_⟩
                    · intro j a m h1 h2
                      rw [Array.toList_push] at h2
                      by_cases e1 : j < es.length
                      · rw [List.getElem?_append_left e1] at h1
                        rw [List.getElem?_append_left (by simp; omega)] at h2
                        exact her.key j a m h1 h2
                      · rw [List.getElem?_append_right (by omega)] at h1
                        rw [List.getElem?_append_right (by simp; omega)] at h2
                        simp only [Array.length_toList, ← hl] at h2
                        cases hj : j - es.length with
                        | zero => rw [hj] at h1 h2; simp at h1 h2; subst h1; subst h2; exact hk
                        | succ j' => rw [hj] at h1; simp at h1
                    · intro j a m h1 h2
                      rw [Array.toList_push] at h2
                      by_cases e1 : j < es.length
                      · rw [List.getElem?_append_left e1] at h1
                        rw [List.getElem?_append_left (by simp; omega)] at h2
                        exact her.val j a m h1 h2
                      · rw [List.getElem?_append_right (by omega)] at h1
                        rw [List.getElem?_append_right (by simp; omega)] at h2
                        simp only [Array.length_toList, ← hl] at h2
                        cases hj : j - es.length with
                        | zero => rw [hj] at h1 h2; simp at h1 h2; subst h1; subst h2; exact hv
                        | succ j' => rw [hj] at h1; simp at h1
                  obtain ⟨w', w1, w2, w3⟩ := write_map (P := P) hr ho hb' (clock := clock + 1) her'
                  exact ⟨_, w', h, by simp [Instr.mapUpdate, run_underlying hu, hg, hchk, h1, w1], w2, w3⟩
                · simp at e'
              · simp at h
            · simp at h
          · simp at h
      · simp at h
    · simp at h
  · simp at h

end Go.Sx

/- THE ENGINE, 18: an operation. -/
import Derived.Test.YtoagnbpmoihojaaDoorSxSound13
import Derived.RangeFuncRecord
import Derived.Laws.BytesArg
set_option linter.unusedSimpArgs false
set_option linter.unusedVariables false
namespace Go.Sx
variable {S : Sys} {P : Program} {R : Type}

/-- Calls that are known. -/
def FnOK (S : Sys) (P : Program) (call : Caller) : Prop :=
  ∀ f args H v H', call f args H = some (v, H') → (∃ fn, P.funcs[f]? = some fn ∧ fn.body.isSome = true ∧ fn.name ≠ "runtime.NumGoroutine") ∧
    ∀ E xs, Rel S H E → VRelL E args xs → Calls P f xs E.w fun e w' => ∃ x E', e = .returned x ∧ E'.w = w' ∧ E.le E' ∧ Rel S H' E' ∧ VRel E' v x

/-- A round's temporaries. -/
def Loop.roundTmps (r : Loop) (xs : Array Value) : Array Value := (r.params.zip xs).foldl (fun tmps (p : Tmp × Value) => tmps.setIfInBounds p.1 p.2) r.tmps

/-- Rounds that are known. -/
def YieldOK (S : Sys) (P : Program) (call : Caller) : Prop :=
  ∀ id args H v H', call.yield id args H = some (v, H') → ∀ E xs, Rel S H E → VRelL E args xs → ∀ b, id < E.nid → E.ρ id = some b →
    ∃ r, E.w.heap[b]? = some (.loop r) ∧ xs.size = r.params.size ∧
      RoundIn Fence.wide 0 P b r.fn (Loop.roundTmps r xs) r.assign r.body E.w fun e w' => ∃ x E', e = .returned x ∧ E'.w = w' ∧ E.le E' ∧ Rel S H' E' ∧ VRel E' v x

structure CallOK (S : Sys) (P : Program) (call : Caller) : Prop where
  fn : FnOK S P call
  yield : YieldOK S P call

/-- Where an operation may stand: in a function's own frame, or in a round. -/
def WR (ro : Option Nat) : Fence := { Fence.wide with round := ro }

/-- What an operation comes to. -/
def GivesIn (ro : Option Nat) (S : Sys) (P : Program) (o : Oper) (a : Act) (E : GE) (v : AV) (H' : AH) : Prop :=
  ∀ (next : Act → World → Prop) (Q : Exit → Act → World → Prop), (∀ x E', E.le E' → Rel S H' E' → VRel E' v x → next (a.put o.dst x) E'.w) → o.wpIn (WR ro) 0 P a E.w next Q

theorem callsIn_WR {ro : Option Nat} {n : Nat} {f : FuncId} {args : Array Value} {w : World} {Q : Ending → World → Prop} (h : Calls P f args w Q) : CallsIn (WR ro) n P f args w Q := callsIn_wide.2 h
theorem rowsIn_WR {ro : Option Nat} {n : Nat} {row : String} {args : Array Value} {w : World} {Q : Value → World → Prop} (h : Rows P row args w Q) : RowsIn (WR ro) n P row args w Q :=
  fun c cs _ => let ⟨v, w', r, s⟩ := h c cs; ⟨v, w', r, stepsIn_wide.2 s⟩

theorem Oper.in_of_wp {ro : Option Nat} {o : Oper} {a : Act} {w : World} {next : Act → World → Prop} {Q : Exit → Act → World → Prop} (hd : ∀ c, o.op ≠ .defer c) (h : o.wp P a w next Q) : o.wpIn (WR ro) 0 P a w next Q := by
  refine ⟨fun _ _ => trivial, ?_⟩
  rw [Oper.semAt_eq _ _ _ hd]
  unfold Oper.wp at h
  generalize (execOp a.eval o).run P w = r at h
  cases r with
  | ok n w' =>
    cases n <;> simp only [Oper.upon] at h <;> simp only [Oper.uponIn] <;> first
      | exact h
      | exact ⟨fun hd => by simp [WR, Fence.wide] at hd, callsIn_WR h⟩
      | exact ⟨fun hd => by simp [WR, Fence.wide] at hd, rowsIn_WR h⟩
      | exact h.elim
  | halt x w' => cases x <;> simp only [Oper.upon] at h <;> simp only [Oper.uponIn] <;> exact h

theorem Gives.inn {ro : Option Nat} {o : Oper} {a : Act} {E : GE} {v : AV} {H' : AH} (h : Gives S P o a E v H') (hd : ∀ c, o.op ≠ .defer c) : GivesIn ro S P o a E v H' := fun next Q hn => Oper.in_of_wp hd (h next Q hn)

theorem gives_valueI {ro : Option Nat} {o : Oper} {a : Act} {E E' : GE} {v : AV} {H' : AH} {x : Value} (hx : (execOp a.eval o).run P E.w = .ok (.value x) E'.w) (hle : E.le E') (hr : Rel S H' E') (hv : VRel E' v x) (hd : ∀ c, o.op ≠ .defer c := by intro c; simp) :
    GivesIn ro S P o a E v H' := (gives_value hx hle hr hv).inn hd
theorem gives_pureI {ro : Option Nat} {o : Oper} {a : Act} {E : GE} {v : AV} {H : AH} {x : Value} (hx : (execOp a.eval o).run P E.w = .ok (.value x) E.w) (hr : Rel S H E) (hv : VRel E v x) (hd : ∀ c, o.op ≠ .defer c := by intro c; simp) :
    GivesIn ro S P o a E v H := (gives_pure hx hr hv).inn hd
theorem gives_skipI {ro : Option Nat} {o : Oper} {a : Act} {E E' : GE} {H' : AH} (hx : (execOp a.eval o).run P E.w = .ok .skip E'.w) (hle : E.le E') (hr : Rel S H' E') (hd : ∀ c, o.op ≠ .defer c := by intro c; simp) : GivesIn ro S P o a E .top H' := (gives_skip hx hle hr).inn hd

theorem vrelL_map {H : AH} {E : GE} {s : List AV} {a : Act} (hr : Rel S H E) (ha : ARel E s a) (ops : Array Operand) : VRelL E (ops.toList.map (ev S.G s)) (ops.map a.eval) := by
  refine ⟨by simp, ?_⟩
  intro i v x hv hx
  simp only [List.getElem?_map, Array.getElem?_toList, Array.getElem?_map, Option.map_eq_some_iff] at hv hx
  obtain ⟨o, ho, rfl⟩ := hv
  obtain ⟨o', ho', rfl⟩ := hx
  rw [ho] at ho'
  obtain rfl := Option.some.inj ho'
  exact ev_rel hr ha o

theorem vrelL_append {E : GE} {us vs : List AV} {xs ys : Array Value} (h1 : VRelL E us xs) (h2 : VRelL E vs ys) : VRelL E (us ++ vs) (xs ++ ys) := by
  have e := h1.1
  refine ⟨by simp [h1.1, h2.1], ?_⟩
  intro i v x hv hx
  by_cases hi : i < us.length
  · rw [List.getElem?_append_left hi] at hv
    rw [Array.getElem?_append_left (by omega)] at hx
    exact h1.2 i v x hv hx
  · rw [List.getElem?_append_right (by omega)] at hv
    rw [Array.getElem?_append_right (by omega)] at hx
    rw [← e] at hx
    exact h2.2 _ v x hv hx

theorem parts_rel {H : AH} {E : GE} {s : List AV} {a : Act} (hr : Rel S H E) (ha : ARel E s a) : ∀ (ps : List (Nat × Operand)), ((ps.map fun p => (p.1, ev S.G s p.2)).all fun p => p.2.solid) = true →
    PRel E (ps.map fun p => (p.1, ev S.G s p.2)) (ps.map fun p => (p.1, a.eval p.2))
  | [], _ => .nil
  | p :: ps, h => by
    simp only [List.map_cons, List.all_cons, Bool.and_eq_true] at h
    exact .cons _ _ _ _ _ (ev_rel hr ha p.2) h.1 (parts_rel hr ha ps h.2)

theorem orel_map {H : AH} {E : GE} {s : List AV} {a : Act} (hr : Rel S H E) (ha : ARel E s a) (o : Option Operand) : ORelV E (o.map (ev S.G s)) (o.map a.eval) := by
  cases o with
  | none => exact .inl ⟨rfl, rfl⟩
  | some x => exact .inr ⟨_, _, rfl, rfl, ev_rel hr ha x⟩

theorem gives_call {call : Caller} (hcall : CallOK S P call) {H : AH} {E : GE} (hr : Rel S H E) {f : FuncId} {args : List AV} {xs : Array Value} (hx : VRelL E args xs) {v : AV} {H' : AH} (h : call f args H = some (v, H')) {o : Oper} {a : Act}
    (hrun : (execOp a.eval o).run P E.w = (callFunc f xs).run P E.w) : Gives S P o a E v H' := by
  obtain ⟨⟨fn, h1, h2, h3⟩, h4⟩ := hcall.fn f args H v H' h
  intro next Q hn
  unfold Oper.wp
  have hb : ¬ fn.body = none := by
    intro e
    rw [e] at h2; simp at h2
  have hcf : (callFunc f xs).run P E.w = .ok (.enter f xs) E.w := by
    simp [callFunc, h1, h3, hb]
  rw [hrun, hcf, Oper.upon_enter]
  refine (h4 E xs hr hx).mono ?_
  rintro e w' ⟨x, E', rfl, rfl, hle, hr', hv⟩
  exact hn x E' hle hr' hv

theorem underlying_some {t : TypeId} {i : TI} (hT : TypeOK P t i) : ∃ d, P.underlying t = some d ∧ (i.k ≠ .iface → ∀ ms, d ≠ .interface ms) := by
  have hk := hT.kind
  cases hi : i.k <;> rw [hi] at hk <;> simp only [kindOK] at hk
  · exact ⟨_, hk, by simp⟩
  · exact ⟨_, hk, by simp⟩
  · exact ⟨_, hk, by simp⟩
  · obtain ⟨e, hk⟩ := hk; exact ⟨_, hk, by simp⟩
  · obtain ⟨a, b, c, hk⟩ := hk; exact ⟨_, hk, by simp⟩
  · obtain ⟨ms, hk⟩ := hk; exact ⟨_, hk, by simp⟩
  · obtain ⟨f, hk, _⟩ := hk; exact ⟨_, hk, by simp⟩
  · exact ⟨_, hk, by simp⟩
  · exact ⟨_, hk, by simp⟩
  · exact ⟨_, hk, by simp⟩

theorem arr1 {E : GE} {u : AV} {xs : Array Value} (h : VRelL E [u] xs) : ∃ x, xs = #[x] ∧ VRel E u x := by
  obtain ⟨l⟩ := xs
  obtain ⟨h1, h2⟩ := h
  match l with
  | [] => simp at h1
  | [x] => exact ⟨x, rfl, h2 0 u x rfl rfl⟩
  | x :: y :: l => simp at h1
theorem arr2 {E : GE} {u v : AV} {xs : Array Value} (h : VRelL E [u, v] xs) : ∃ x y, xs = #[x, y] ∧ VRel E u x ∧ VRel E v y := by
  obtain ⟨l⟩ := xs
  obtain ⟨h1, h2⟩ := h
  match l with
  | [] => simp at h1
  | [x] => simp at h1
  | [x, y] => exact ⟨x, y, rfl, h2 0 u x rfl rfl, h2 1 v y rfl rfl⟩
  | x :: y :: z :: l => simp at h1
theorem arrN {E : GE} {u : AV} {us : List AV} {xs : Array Value} (h : VRelL E (u :: us) xs) : ∃ x l, xs = (x :: l).toArray ∧ VRel E u x ∧ us.length = l.length ∧ ∀ (i : Nat) v y, us[i]? = some v → l[i]? = some y → VRel E v y := by
  obtain ⟨l⟩ := xs
  obtain ⟨h1, h2⟩ := h
  match l with
  | [] => simp at h1
  | x :: l => exact ⟨x, l, rfl, h2 0 u x rfl rfl, by simpa using h1, fun i v y a b => h2 (i + 1) v y (by simpa using a) (by simpa using b)⟩

theorem gives_yield {ro : Option Nat} {call : Caller} (hcall : CallOK S P call) {H : AH} {E : GE} (hr : Rel S H E) {id b : Nat} (hid : id < E.nid) (hb : E.ρ id = some b) {args : List AV} {xs : Array Value} (hx : VRelL E args xs) {v : AV} {H' : AH} (h : call.yield id args H = some (v, H')) {o : Oper} {a : Act} (hd : ∀ c, o.op ≠ .defer c)
    (hrun : (execOp a.eval o).run P E.w = (Instr.yield b xs).run P E.w) : GivesIn ro S P o a E v H' := by
  intro next Q hn
  obtain ⟨r, h1, h2, h3⟩ := hcall.yield id args H v H' h E xs hr hx b hid hb
  refine ⟨fun _ _ => trivial, ?_⟩
  rw [Oper.semAt_eq _ _ _ hd, hrun, run_yield h1 h2, Oper.uponIn_round]
  refine ⟨fun hd => by simp [WR, Fence.wide] at hd, ?_⟩
  refine RoundIn.mono (F := Fence.wide) h3 ?_
  rintro e w' ⟨x, E', rfl, rfl, hle, hr', hv⟩
  exact hn x E' hle hr' hv

theorem bytes_list {E : GE} : ∀ (xs : List AV) (b : List UInt8) (f : Nat → Value), bytesOf xs = some b → (∀ i v, xs[i]? = some v → VRel E v (f i)) → ∃ ns : List Int, b = ns.map (fun n => UInt8.ofNat n.toNat) ∧ ns.length = xs.length ∧ ∀ i, i < xs.length → f i = .int .u8 (ns.getD i 0)
  | [], b, f, h, _ => by
    simp only [bytesOf, Option.some.injEq] at h
    subst h
    exact ⟨[], rfl, rfl, fun i hi => absurd hi (Nat.not_lt_zero _)⟩
  | v :: r, b, f, h, hf => by
    simp only [bytesOf] at h
    split at h
    · rename_i n bs h1
      simp only [Option.some.injEq] at h
      subst h
      obtain ⟨ns, h2, h3, h4⟩ := bytes_list r bs (fun i => f (i + 1)) h1 (fun i v hv => hf (i + 1) v (by simpa using hv))
      refine ⟨n :: ns, by simp [h2], by simp [h3], ?_⟩
      intro i hi
      cases i with
      | zero => simpa using rel_int (hf 0 _ rfl)
      | succ i => simpa using h4 i (by simpa using hi)
    · simp at h

theorem text_sound (hS : SysOK S P) {E : GE} {t1 t2 : TypeId} {i j : TI} (hi : S.T t1 = some i) (hj : S.T t2 = some j) {v : AV} {K : AV → Option R} {r : R} (h : textK i j S.T v K = some r) {x : Value} (hx : VRel E v x) :
    ∃ u y, K u = some r ∧ VRel E u y ∧ (convert t1 t2 x).run P E.w = .ok y E.w := by
  unfold textK at h
  have k1 := (hS.type _ _ hi).kind
  have k2 := (hS.type _ _ hj).kind
  split at h
  · rename_i e hik hjk
    rw [hik] at k1; rw [hjk] at k2
    have u1 : P.underlying t1 = some (.slice e) := k1
    have u2 : P.underlying t2 = some .string := k2
    split at h
    · rename_i q hq
      have k3 := (hS.type _ _ hq).kind
      split at h
      · rename_i hqk
        rw [hqk] at k3
        have u3 : P.underlying e = some (.int .u8) := k3
        split at h
        · have := rel_nils hx
          subst this
          refine ⟨_, _, h, .str [], ?_⟩
          rw [run_convert_bytes_string E.w t1 t2 e _ _ _ u1 u3 u2]
          simp [Conv.bytesToString, ByteArray.empty, ByteArray.emptyWithCapacity]
          rfl
        · rename_i f p sz xs
          split at h
          · rename_i hsz
            subst hsz
            split at h
            · rename_i b hb
              cases hx with
              | inl _ _ _ _ a cap g h1 h2 h3 h4 h5 h6 =>
                have hone : ∀ (i : Nat) v, xs[i]? = some v → v.cells = [v] := by
                  intro i v hv
                  have hl := h1 v (List.mem_of_getElem? hv)
                  have hlt : i < xs.length := by
                    rcases Nat.lt_or_ge i xs.length with h' | h'
                    · exact h'
                    · simp [List.getElem?_eq_none h'] at hv
                  have key : ∀ (l : List AV) (bs : List UInt8), bytesOf l = some bs → ∀ v, v ∈ l → v.cells = [v] := by
                    intro l
                    induction l with
                    | nil => intro bs _ v hv; simp at hv
                    | cons u l ih =>
                      intro bs hbs v hv
                      simp only [bytesOf] at hbs
                      split at hbs
                      · rename_i hl
                        rcases List.mem_cons.1 hv with rfl | hv
                        · rfl
                        · exact ih _ hl v hv
                      · simp at hbs
                  exact key xs b hb v (List.mem_of_getElem? hv)
                obtain ⟨ns, e1, e2, e3⟩ := bytes_list (E := E) xs b (fun i => g i 0) hb (fun i v hv => h3 i v 0 v hv (by rw [hone i v hv]; rfl))
                have hload := run_loadCells (P := P) E.w a xs.length (fun m => g m 0) (fun m hm => by simpa using (h2 m 0 hm Nat.one_pos).1)
                have hmap : ((List.range xs.length).map fun m => g m 0) = ns.map (Value.int .u8) := by
                  apply List.ext_getElem
                  · simp [e2]
                  · intro m q1 q2
                    simp only [List.length_map, List.length_range] at q1
                    have q3 : m < ns.length := by omega
                    simp [e3 m q1, List.getD, q3]
                rw [hmap] at hload
                refine ⟨_, _, h, .str b, ?_⟩
                rw [run_convert_bytes_string E.w t1 t2 e _ _ _ u1 u3 u2, run_bytesToString E.w a _ cap ns hload, foldl_push_bytes, e1]
                simp [ByteArray.empty, ByteArray.emptyWithCapacity]
                rfl
            · simp at h
          · simp at h
        · simp at h
      · simp at h
    · simp at h
  · simp at h

theorem rangeStr_sound (hS : SysOK S P) {H : AH} {E : GE} (hr : HRel H E) {t : TypeId} {i : TI} (hi : S.T t = some i) {v : AV} {K : AV → AH → Option R} {r : R} (h : rangeStrK H i v K = some r) {x : Value} (hx : VRel E v x) :
    ∃ u H' E' y, K u H' = some r ∧ E.le E' ∧ HRel H' E' ∧ VRel E' u y ∧ (Instr.range t x).run P E.w = .ok y E'.w := by
  unfold rangeStrK at h
  have k1 := (hS.type _ _ hi).kind
  split at h
  · rename_i s hik
    rw [hik] at k1
    have u1 : P.underlying t = some .string := k1
    have hx2 := rel_str hx
    subst hx2
    simp only [newK] at h
    have ho : ORel (E.new (.stringIter ⟨s.toArray⟩ 0)) E.nid (.siter s 0) := .siter s 0 E.w.heap.size (by simp [GE.new]) (alloc_get _ _)
    obtain ⟨h1, h2⟩ := hr.new ho
    refine ⟨_, _, E.new (.stringIter ⟨s.toArray⟩ 0), .pointer (some ⟨E.w.heap.size, 0, none⟩), h, h1, h2, .ptr _ _ _ ?_ ?_, ?_⟩
    · rw [← hr.nid]; exact Nat.lt_succ_self _
    · rw [← hr.nid]; simp [GE.new]
    · simp [Instr.range, run_underlying u1]; rfl
  · simp at h

theorem next_sound {H : AH} {E : GE} (hr : HRel H E) {v : AV} {isS : Bool} {K : AV → AH → Option R} {r : R} (h : nextK H v isS K = some r) {x : Value} (hx : VRel E v x) (ty : TypeId) :
    ∃ u H' w' y, K u H' = some r ∧ E.le (E.at w') ∧ HRel H' (E.at w') ∧ VRel (E.at w') u y ∧ (Instr.next x isS ty).run P E.w = .ok y w' := by
  unfold nextK at h
  split at h
  · rename_i id
    cases hx with
    | ptr _ _ b hid hb =>
    split at h
    · rename_i s pos ho
      cases hr.obj _ _ ho with
      | siter _ _ b2 hb2 hh =>
      rw [hb] at hb2
      obtain rfl := Option.some.inj hb2
      have hget : (getObj b).run P E.w = .ok (.stringIter ⟨s.toArray⟩ pos) E.w := run_getObj hh (by intro c e f; simp)
      have hsz : (⟨s.toArray⟩ : ByteArray).size = s.length := by simp [ByteArray.size]
      split at h
      · rename_i hlt
        have hltb : b < E.w.heap.size := heap_lt hh
        have honly : Only b E.w { E.w with heap := E.w.heap.setIfInBounds b (.stringIter ⟨s.toArray⟩ (pos + (stepRune s pos).2)) } := by
          constructor <;> try rfl
          · simp
          · intro k hk
            simp only [Array.getElem?_setIfInBounds]
            rw [if_neg (by omega)]
        have hS : ∀ o, ¬ E.S b o := by
          intro o hS
          have := hr.set b o hS
          simp [World.cell?, hh] at this
        have hle := le_write (.inl ⟨id, hid, hb⟩) hS honly
        refine ⟨_, _, _, .tuple #[.bool true, .int .i64 pos, .int .i32 (stepRune s pos).1], h, hle, (hr.write hid hb hS honly (.siter _ _ b hb ?_)).2, .tuple _ _ rfl ?_, ?_⟩
        · show (E.w.heap.setIfInBounds b _)[b]? = _
          simp [Array.getElem?_setIfInBounds, hltb]
        · intro i v x hv hx
          rcases i with _ | _ | _ | i
          · simp at hv hx; subst hv; subst hx; exact .bool _
          · simp at hv hx; subst hv; subst hx; exact .int _ _
          · simp at hv hx; subst hv; subst hx; exact .int _ _
          · simp at hv
        · have hset : (setObj b (.stringIter ⟨s.toArray⟩ (pos + (stepRune s pos).2))).run P E.w = .ok () { E.w with heap := E.w.heap.setIfInBounds b (.stringIter ⟨s.toArray⟩ (pos + (stepRune s pos).2)) } := by
            simp [setObj, Sem.run, hh]
          simp only [Instr.next, Sem.run_bind, hget, Result.andThen_ok, hsz, if_pos hlt]
          simp only [stepRune] at hset ⊢
          simp only [Sem.run_bind, hset, Result.andThen_ok, Sem.run_pure, goInt]
      · rename_i hlt
        refine ⟨_, _, E.w, .tuple #[.bool false], h, GE.le.refl _, hr, .tuple _ _ rfl ?_, ?_⟩
        · intro i v x hv hx
          rcases i with _ | i
          · simp at hv hx; subst hv; subst hx; exact .bool _
          · simp at hv
        · simp only [Instr.next, Sem.run_bind, hget, Result.andThen_ok, hsz, if_neg hlt, Sem.run_pure]
    · simp at h
  · simp at h

theorem op_sound (ro : Option Nat) (hS : SysOK S P) {call : Caller} (hcall : CallOK S P call) {H : AH} {E : GE} (hr : Rel S H E) {s : List AV} {a : Act} (ha : ARel E s a) {o : Oper} {K : AV → AH → Option R} {r : R} (h : opK S call s H o K = some r) :
    ∃ v H', K v H' = some r ∧ GivesIn ro S P o a E v H' := by
  have hev := fun x => ev_rel hr ha x
  obtain ⟨dst, op, type, pos, after, guard⟩ := o
  unfold opK at h
  cases op <;> simp only at h <;> try (simp at h; done)
  case move x => exact ⟨_, _, h, gives_pureI (x := a.eval x) (by simp [execOp]) hr (hev x)⟩
  case assign x => exact ⟨_, _, h, gives_pureI (x := a.eval x) (by simp [execOp]) hr (hev x)⟩
  case pick c x y =>
    split at h
    · rename_i t ht
      have hc := hev c
      rw [ht] at hc
      have hc' := rel_bool hc
      rcases br_some h with ⟨rfl, h⟩ | ⟨rfl, h⟩
      · exact ⟨_, _, h, gives_pureI (x := a.eval x) (by simp [execOp, hc', asBool]) hr (hev x)⟩
      · exact ⟨_, _, h, gives_pureI (x := a.eval y) (by simp [execOp, hc', asBool]) hr (hev y)⟩
    · simp at h
  case alloc t =>
    split at h
    · rename_i i hi
      split at h
      · obtain ⟨E', h1, h2, h3, h4⟩ := alloc_sound hS hr.h hi
        exact ⟨_, _, h, gives_valueI (by simp [execOp, h1]) h2 (hr.mono h2 h3) h4⟩
      · simp at h
    · simp at h
  case box t x =>
    split at h
    · rename_i hs
      obtain ⟨E', h1, h2, h3, h4⟩ := box_sound (P := P) hr.h (hev x) hs t
      exact ⟨_, _, h, gives_valueI (by simp [execOp, h1]) h2 (hr.mono h2 h3) h4⟩
    · simp at h
  case build t ps =>
    split at h
    · rename_i i hi
      split at h
      · rename_i hs
        obtain ⟨v, y, h1, h2, h3⟩ := build_sound hS (E := E) hi (us := ps.toList.map fun p => (p.1, ev S.G s p.2)) (xs := ps.map fun p => (p.1, a.eval p.2)) (by simpa using parts_rel hr ha ps.toList hs) h E.w
        refine ⟨_, _, h1, gives_pureI (x := y) ?_ hr h2⟩
        have : (Instr.build t (ps.map fun (i, x) => (i, a.eval x))).run P E.w = .ok y E.w := h3
        simp only [execOp, Sem.run_bind, this, Result.andThen_ok, Sem.run_pure]
      · simp at h
    · simp at h
  case buildSlice t n ps =>
    split at h
    · rename_i i hi
      obtain ⟨v, H', E', y, h1, h2, h3, h4, h5⟩ := buildSlice_sound hS hr.h hi (us := ps.toList.map fun p => (p.1, ev S.G s p.2)) (xs := ps.map fun p => (p.1, a.eval p.2)) (fun hs => by simpa using parts_rel hr ha ps.toList hs) h
      refine ⟨_, _, h1, gives_valueI (x := y) (E' := E') ?_ h2 (hr.mono h2 h3) h4⟩
      have : (Instr.buildSlice t n (ps.map fun (i, x) => (i, a.eval x))).run P E.w = .ok y E'.w := h5
      simp only [execOp, Sem.run_bind, this, Result.andThen_ok, Sem.run_pure]
    · simp at h
  case load t x =>
    split at h
    · rename_i i hi
      obtain ⟨v, y, h1, h2, h3⟩ := load_sound hS hr.h hi h (hev x)
      exact ⟨_, _, h1, gives_pureI (by simp [execOp, h3]) hr h2⟩
    · simp at h
  case store t x y =>
    split at h
    · rename_i i hi
      split at h
      · rename_i hs
        obtain ⟨H', w', h1, h2, h3, h4⟩ := store_sound hS hr.h hi h (hev x) (hev y) hs
        exact ⟨_, _, h1, gives_skipI (E' := E.at w') (by simp [execOp, h2]; rfl) h3 (hr.mono h3 h4)⟩
      · simp at h
    · simp at h
  case nilCheck x =>
    have hx := hev x
    split at h
    · rename_i id off hx'
      rw [hx'] at hx
      obtain ⟨ad, had⟩ : ∃ ad, a.eval x = .pointer (some ad) := by
        generalize a.eval x = X at hx ⊢
        cases hx; exact ⟨_, rfl⟩
      exact ⟨_, _, h, gives_pureI (x := a.eval x) (by simp [execOp, had]) hr hx⟩
    · rename_i v hx'
      rw [hx'] at hx
      obtain ⟨ad, had⟩ : ∃ ad, a.eval x = .pointer (some ad) := by
        generalize a.eval x = X at hx ⊢
        cases hx; exact ⟨_, rfl⟩
      exact ⟨_, _, h, gives_pureI (x := a.eval x) (by simp [execOp, had]) hr hx⟩
    · simp at h
  case binOp op t x y yt =>
    obtain ⟨v, z, h1, h2, h3, h4⟩ := bin_sound hS h (hev x) (hev y) x y E.w
    exact ⟨_, _, h1, gives_pureI (x := z) (by simp only [execOp, Sem.run_bind, h3, h4, Result.andThen_ok, Sem.run_pure]) hr (h2 E)⟩
  case unOp op t x =>
    obtain ⟨v, z, h1, h2, h3⟩ := un_sound (P := P) h (hev x) E.w
    exact ⟨_, _, h1, gives_pureI (x := z) (by simp only [execOp, Sem.run_bind, h3, Result.andThen_ok, Sem.run_pure]) hr (h2 E)⟩
  case convert t1 t2 x =>
    have hx := hev x
    unfold convK at h
    split at h
    · rename_i i j hi hj
      split at h
      · rename_i k n hx'
        rw [hx'] at hx
        have hx2 := rel_int hx
        obtain ⟨d, hd, _⟩ := underlying_some (hS.type _ _ hi)
        have hk := (hS.type _ _ hj).kind
        split at h
        · rename_i k' hjk
          rw [hjk] at hk
          have hk' : P.underlying t2 = some (.int k') := hk
          exact ⟨_, _, h, gives_pureI (x := .int k' (k'.wrap n)) (by simp [execOp, convert, run_underlying hd, run_underlying hk', hx2, Conv.intToInt]) hr (.int _ _)⟩
        · simp at h
      · rename_i b hx'
        rw [hx'] at hx
        have hx2 := rel_str hx
        obtain ⟨d, hd, _⟩ := underlying_some (hS.type _ _ hi)
        have hk := (hS.type _ _ hj).kind
        split at h
        · rename_i hik hjk
          rw [hjk] at hk
          have hk' : P.underlying t2 = some .string := hk
          exact ⟨_, _, h, gives_pureI (x := .string ⟨b.toArray⟩) (by simp [execOp, convert, run_underlying hd, run_underlying hk', hx2]) hr (.str _)⟩
        · simp at h
      · obtain ⟨u, y, h1, h2, h3⟩ := text_sound hS hi hj h hx
        exact ⟨_, _, h1, gives_pureI (x := y) (by simp only [execOp, Sem.run_bind, h3, Result.andThen_ok, Sem.run_pure]) hr h2⟩
    · simp at h
  case range t x =>
    split at h
    · rename_i i hi
      obtain ⟨v, H', E', z, h1, h2, h3, h4, h5⟩ := rangeStr_sound hS hr.h hi h (hev x)
      exact ⟨_, _, h1, gives_valueI (x := z) (E' := E') (by simp only [execOp, Sem.run_bind, h5, Result.andThen_ok, Sem.run_pure]) h2 (hr.mono h2 h3) h4⟩
    · simp at h
  case next x isS =>
    obtain ⟨v, H', w', z, h1, h2, h3, h4, h5⟩ := next_sound (P := P) hr.h h (hev x) type
    exact ⟨_, _, h1, gives_valueI (x := z) (E' := E.at w') (by simp only [execOp, Sem.run_bind, h5, Result.andThen_ok, Sem.run_pure]; rfl) h2 (hr.mono h2 h3) h4⟩
  case makeInterface t x =>
    split at h
    · rename_i i hi
      obtain ⟨d, hd, hdi⟩ := underlying_some (hS.type _ _ hi)
      have hrun : i.k ≠ .iface → (Instr.makeInterface t (a.eval x)).run P E.w = .ok (.iface t (a.eval x)) E.w := by
        intro hne
        have := hdi hne
        cases d <;> first | (simp [Instr.makeInterface, run_underlying hd]; done) | exact absurd rfl (this _)
      split at h
      · simp at h
      · rename_i hne
        exact ⟨_, _, h, gives_pureI (x := .iface t (a.eval x)) (by simp only [execOp, Sem.run_bind, hrun hne, Result.andThen_ok, Sem.run_pure]) hr (.iface t _ _ (hev x))⟩
    · simp at h
  case makeFunc fn as bs =>
    split at h
    · rename_i f
      have h1 := vrelL_map hr ha as
      have h2 := vrelL_map hr ha bs
      exact ⟨_, _, h, gives_pureI (x := .func (.func f) (as.map a.eval) (bs.map a.eval)) (by simp [execOp, Instr.makeFunc]) hr (.func (.func f) _ _ _ _ (by simp) h1.1 h1.2 h2.1 h2.2)⟩
    · simp at h
  case makeMap t res =>
    cases res with
    | some _ => simp at h
    | none =>
      simp only [newK] at h
      have ho : ORel (E.new (.map #[] 0)) E.nid (.map []) := by
        refine .map [] E.w.heap.size #[] 0 (by simp [GE.new]) (alloc_get _ _) rfl ?_ ?_
        · intro j e m h1; simp at h1
        · intro j e m h1; simp at h1
      obtain ⟨h1, h2⟩ := hr.h.new ho
      refine ⟨_, _, h, gives_valueI (x := .map (some E.w.heap.size)) (E' := E.new (.map #[] 0)) (by simp [execOp, Instr.makeMap]; rfl) h1 (hr.mono h1 h2) (.map _ _ ?_ ?_)⟩
      · rw [← hr.h.nid]; exact Nat.lt_succ_self _
      · rw [← hr.h.nid]; simp [GE.new]
  case makeSlice t x y =>
    split at h
    · rename_i i hi
      obtain ⟨v, H', E', z, h1, h2, h3, h4, h5⟩ := makeSlice_sound hS hr.h hi h (hev x) (hev y)
      exact ⟨_, _, h1, gives_valueI (x := z) (E' := E') (by simp only [execOp, Sem.run_bind, h5, Result.andThen_ok, Sem.run_pure]) h2 (hr.mono h2 h3) h4⟩
    · simp at h
  case slice t x lo hi' mx =>
    split at h
    · rename_i i hi
      obtain ⟨v, z, h1, h2, h3⟩ := slice_sound (P := P) hS (E := E) hi h (hev x) (orel_map hr ha lo) (orel_map hr ha hi') (orel_map hr ha mx) E.w
      exact ⟨_, _, h1, gives_pureI (x := z) (by simp only [execOp, Sem.run_bind, h3, Result.andThen_ok, Sem.run_pure]) hr h2⟩
    · simp at h
  case fieldAddr t x f =>
    split at h
    · rename_i i hi
      obtain ⟨v, z, h1, h2, h3⟩ := fieldAddr_sound (P := P) hS (E := E) hi h (hev x)
      exact ⟨_, _, h1, gives_pureI (x := z) (by simp only [execOp, Sem.run_bind, h3, Result.andThen_ok, Sem.run_pure]) hr h2⟩
    · simp at h
  case field t x f =>
    split at h
    · rename_i i hi
      obtain ⟨v, z, h1, h2, h3⟩ := field_sound (P := P) hS (E := E) hi h (hev x) E.w
      exact ⟨_, _, h1, gives_pureI (x := z) (by simp only [execOp, Sem.run_bind, h3, Result.andThen_ok, Sem.run_pure]) hr h2⟩
    · simp at h
  case indexAddr t x y =>
    split at h
    · rename_i i hi
      obtain ⟨v, z, h1, h2, h3⟩ := indexAddr_sound (P := P) hS (E := E) hi h (hev x) (hev y) E.w
      exact ⟨_, _, h1, gives_pureI (x := z) (by simp only [execOp, Sem.run_bind, h3, Result.andThen_ok, Sem.run_pure]) hr h2⟩
    · simp at h
  case index t x y =>
    split at h
    · rename_i i hi
      obtain ⟨v, z, h1, h2, h3⟩ := index_sound (P := P) hS (E := E) hi h (hev x) (hev y) E.w
      exact ⟨_, _, h1, gives_pureI (x := z) (by simp only [execOp, Sem.run_bind, h3, Result.andThen_ok, Sem.run_pure]) hr h2⟩
    · simp at h
  case lookup t x y ok =>
    split at h
    · rename_i i hi
      obtain ⟨v, z, h1, h2, h3⟩ := lookup_sound hS hr.h hi h (hev x) (hev y)
      exact ⟨_, _, h1, gives_pureI (x := z) (by simp only [execOp, Sem.run_bind, h3, Result.andThen_ok, Sem.run_pure]) hr h2⟩
    · simp at h
  case mapUpdate t m k x =>
    split at h
    · rename_i i hi
      obtain ⟨H', w', h1, h2, h3, h4⟩ := mapUpdate_sound hS hr.h hi h (hev m) (hev k) (hev x)
      exact ⟨_, _, h1, gives_skipI (E' := E.at w') (by simp only [execOp, Sem.run_bind, h2, Result.andThen_ok, Sem.run_pure]; rfl) h3 (hr.mono h3 h4)⟩
    · simp at h
  case insert t m k x =>
    split at h
    · rename_i i hi
      obtain ⟨H', w', h1, h2, h3, h4⟩ := mapUpdate_sound hS hr.h hi h (hev m) (hev k) (hev x)
      exact ⟨_, _, h1, gives_skipI (E' := E.at w') (by simp only [execOp, Sem.run_bind, h2, Result.andThen_ok, Sem.run_pure]; rfl) h3 (hr.mono h3 h4)⟩
    · simp at h
  case extract x ix =>
    have hx := hev x
    split at h
    · rename_i vs hx'
      rw [hx'] at hx
      split at h
      · rename_i v hv
        generalize hX : a.eval x = X at hx
        cases hx with
        | tuple _ xs h1 h2 =>
        have hlt : ix < vs.length := by
          rcases Nat.lt_or_ge ix vs.length with h' | h'
          · exact h'
          · simp [List.getElem?_eq_none h'] at hv
        have hx2 : xs[ix]? = some (xs[ix]'(h1 ▸ hlt)) := by simp [h1 ▸ hlt]
        exact ⟨_, _, h, gives_pureI (x := xs[ix]'(h1 ▸ hlt)) (by simp [execOp, hX, Instr.extract, hx2]) hr (h2 ix v _ hv hx2)⟩
      · simp at h
    · simp at h
  case call c =>
    have hargs := vrelL_map hr ha c.args
    split at h
    · rename_i f hcal
      have hf := hev f
      unfold callFn at h
      split at h
      · rename_i fid first caps hfv
        rw [hfv] at hf
        obtain ⟨p, hp, h⟩ := optK_inv h
        generalize hX : a.eval f = X at hf
        cases hf with
        | func _ _ _ xs ys hfn h1 h2 h3 h4 =>
          have hx := vrelL_append (vrelL_append (E := E) ⟨h1, h2⟩ hargs) (vs := caps) (ys := ys) ⟨h3, h4⟩
          refine ⟨_, _, h, (gives_call hcall hr hx hp ?_).inn (by intro c; simp)⟩
          simp [execOp, Go.resolve, hcal, Deferred.ofValue, hX, invoke]
      · rename_i id hfv
        rw [hfv] at hf
        obtain ⟨p, hp, h⟩ := optK_inv h
        generalize hX : a.eval f = X at hf
        cases hf with
        | func _ _ _ xs ys hfn h1 h2 h3 h4 => exact absurd rfl (hfn id)
        | yield _ b hid hb =>
          refine ⟨_, _, h, gives_yield hcall hr hid hb hargs hp (by intro c; simp) ?_⟩
          simp [execOp, Go.resolve, hcal, Deferred.ofValue, hX, invoke]
      · simp at h
    · rename_i b hcal
      unfold builtinK at h
      have hrun : ∀ (s : Sem Value) (y : Value) (w' : World), s.run P E.w = .ok y w' → (do pure (.value (← s)) : Sem Next).run P E.w = .ok (.value y) w' := by
        intro s y w' hs
        simp only [Sem.run_bind, hs, Result.andThen_ok, Sem.run_pure]
      split at h
      · rename_i x hxs
        rw [hxs] at hargs
        obtain ⟨x1, e1, hx1⟩ := arr1 hargs
        obtain ⟨v, y, h1, h2, h3⟩ := len_sound hS (P := P) hr.h (ty := type) h hx1
        refine ⟨_, _, h1, gives_pureI (x := y) ?_ hr h2⟩
        have hr1 := hrun _ _ _ h3
        simpa [execOp, Go.resolve, hcal, invoke, builtin, e1] using hr1
      · rename_i x1 x2 hxs
        rw [hxs] at hargs
        obtain ⟨y1, y2, e1, hx1, hx2⟩ := arr2 hargs
        obtain ⟨v, H', E', y, h1, h2, h3, h4, h5⟩ := append_sound hS (P := P) hr.h (ty := type) h hx1 hx2
        refine ⟨_, _, h1, gives_valueI (x := y) (E' := E') ?_ h2 (hr.mono h2 h3) h4⟩
        have hr1 := hrun _ _ _ h5
        simpa [execOp, Go.resolve, hcal, invoke, builtin, e1] using hr1
      · rename_i x1 x2 hxs
        rw [hxs] at hargs
        obtain ⟨y1, y2, e1, hx1, hx2⟩ := arr2 hargs
        obtain ⟨v, H', E', y, h1, h2, h3, h4, h5⟩ := copy_sound hS (P := P) hr.h (ty := type) h hx1 hx2
        refine ⟨_, _, h1, gives_valueI (x := y) (E' := E') ?_ h2 (hr.mono h2 h3) h4⟩
        have hr1 := hrun _ _ _ h5
        simpa [execOp, Go.resolve, hcal, invoke, builtin, e1] using hr1
      · rename_i x1 us hxs
        rw [hxs] at hargs
        obtain ⟨y1, l, e1, hx1, hl, hus⟩ := arrN hargs
        obtain ⟨v, y, h1, h2, h3⟩ := minmax_sound (P := P) (mx := true) _ _ _ _ _ l h hx1 hl hus E.w
        refine ⟨_, _, h1, gives_pureI (x := y) ?_ hr (h2 E)⟩
        have hr1 := hrun (Builtin.max_ c.argTypes type (y1 :: l).toArray) y E.w (by simpa [Builtin.max_] using h3)
        simpa [execOp, Go.resolve, hcal, invoke, builtin, e1] using hr1
      · rename_i x1 us hxs
        rw [hxs] at hargs
        obtain ⟨y1, l, e1, hx1, hl, hus⟩ := arrN hargs
        obtain ⟨v, y, h1, h2, h3⟩ := minmax_sound (P := P) (mx := false) _ _ _ _ _ l h hx1 hl hus E.w
        refine ⟨_, _, h1, gives_pureI (x := y) ?_ hr (h2 E)⟩
        have hr1 := hrun (Builtin.min_ c.argTypes type (y1 :: l).toArray) y E.w (by simpa [Builtin.min_] using h3)
        simpa [execOp, Go.resolve, hcal, invoke, builtin, e1] using hr1
      · simp at h
    · simp at h
end Go.Sx

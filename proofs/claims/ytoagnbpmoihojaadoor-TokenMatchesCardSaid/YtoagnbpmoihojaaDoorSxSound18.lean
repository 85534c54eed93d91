/- THE ENGINE, 22: functions, and calls with trees. -/
import Derived.Test.YtoagnbpmoihojaaDoorSxSound17
set_option linter.unusedSimpArgs false
set_option linter.unusedVariables false
namespace Go.Sx
variable {S : Sys} {P : Program}

theorem getD_rel {E : GE} {s : List AV} {a : Act} (ha : ARel E s a) (t : Nat) : VRel E (s.getD t .top) (a.tmps.getD t undef) := by
  by_cases ht : t < s.length
  · have ht' : t < a.tmps.size := ha.tmps.1 ▸ ht
    have := ha.tmps.2 t s[t] a.tmps[t] (by simp [ht]) (by simp [ht'])
    simpa [List.getD, Array.getD, ht, ht'] using this
  · have : s.getD t .top = .top := by simp [List.getD, Nat.le_of_not_lt ht]
    rw [this]; exact .top _

def oneSem (tmps : Array Value) : ResultVar → Sem Value
  | .tmp t => pure (tmps.getD t undef)
  | .cell c t => do loadVar t (← asAddr (tmps.getD c undef))

theorem oneResult_sound {R : Type} (hS : SysOK S P) {H : AH} {E : GE} (hr : HRel H E) {s : List AV} {a : Act} (ha : ARel E s a) {rv : ResultVar} {K : AV → Option R} {r : R} (h : oneResult S s H rv K = some r) :
    ∃ v x, K v = some r ∧ VRel E v x ∧ (oneSem a.tmps rv).run P E.w = .ok x E.w := by
  unfold oneResult at h
  cases rv with
  | tmp t => exact ⟨_, _, h, getD_rel ha t, rfl⟩
  | cell c t =>
    simp only at h
    split at h
    · rename_i i hi
      have hx := getD_rel ha c
      obtain ⟨v, y, h1, h2, h3⟩ := load_sound hS hr hi h hx
      refine ⟨v, y, h1, h2, ?_⟩
      show (do loadVar t (← asAddr (a.tmps.getD c undef)) : Sem Value).run P E.w = _
      generalize a.tmps.getD c undef = X at hx h3 ⊢
      have : ∃ ad, X = .pointer (some ad) := by
        unfold Instr.loadAt at h3
        cases X with
        | pointer ad => cases ad with
          | some ad => exact ⟨ad, rfl⟩
          | none => simp [Instr.sureAddr] at h3
        | _ => simp [Instr.sureAddr] at h3
      obtain ⟨ad, rfl⟩ := this
      simpa [Instr.loadAt, Instr.sureAddr, asAddr] using h3
    · simp at h

theorem resultsK_sound {R : Type} (hS : SysOK S P) {H : AH} {E : GE} (hr : HRel H E) {s : List AV} {a : Act} (ha : ARel E s a) : ∀ (rs : List ResultVar) (acc : List AV) {K : List AV → Option R} {r : R}, resultsK S s H rs acc K = some r →
    ∃ vs xs, K (acc ++ vs) = some r ∧ vs.length = xs.length ∧ (∀ (i : Nat) v x, vs[i]? = some v → xs[i]? = some x → VRel E v x) ∧
      (rs.mapM (oneSem a.tmps) : Sem (List Value)).run P E.w = .ok xs E.w
  | [], acc, K, r, h => ⟨[], [], by simpa [resultsK] using h, rfl, by simp, by simp⟩
  | rv :: rs, acc, K, r, h => by
    simp only [resultsK] at h
    obtain ⟨v, x, h1, h2, h3⟩ := oneResult_sound hS hr ha h
    obtain ⟨vs, xs, g1, g2, g3, g4⟩ := resultsK_sound hS hr ha rs _ h1
    refine ⟨v :: vs, x :: xs, by simpa using g1, by simp [g2], ?_, ?_⟩
    · intro i u y hu hy
      cases i with
      | zero => simp at hu hy; subst hu; subst hy; exact h2
      | succ i => exact g3 i u y (by simpa using hu) (by simpa using hy)
    · rw [List.mapM_cons, Sem.run_bind, h3]
      simp only [Result.andThen_ok, Sem.run_bind, g4, Sem.run_pure]

theorem bundle_rel {E : GE} {vs : List AV} {xs : List Value} (hl : vs.length = xs.length) (h : ∀ (i : Nat) v x, vs[i]? = some v → xs[i]? = some x → VRel E v x) :
    VRel E (bundle vs) (if h : xs.toArray.size = 1 then xs.toArray[0] else .tuple xs.toArray) := by
  match vs, xs with
  | [], [] => exact .tuple _ _ rfl (by simp)
  | [v], [x] => exact h 0 v x rfl rfl
  | v :: u :: vs, x :: y :: xs =>
    rw [dif_neg (by simp)]
    exact .tuple _ _ (by simpa using hl) (fun i v x a b => h i v x a (by simpa using b))
  | [], _ :: _ => simp at hl
  | _ :: _, [] => simp at hl
  | [_], _ :: _ :: _ => simp at hl
  | _ :: _ :: _, [_] => simp at hl

/-- Out of a function, past the marks of its loops. -/
theorem leaves_marks {fn : Func} {tmps : Array Value} {s' : List AV} {H1 : AH} {E1 : GE} {Rr : Ending → World → Prop} (hlow : E1.low = E1.w.heap.size)
    (hfin : ∀ E'', E1.le E'' → Rel S H1 E'' → VRelL E'' s' tmps → LeavesIn Fence.wide 0 P fn tmps Rr [] .returning E''.w) :
    ∀ (bs : List Nat) (E' : GE), E1.le E' → Rel S H1 E' → VRelL E' s' tmps → bs.Nodup → (∀ b, b ∈ bs → E'.low ≤ b ∧ E'.w.heap[b]? = some (.deferred (some [])) ∧ ¬ E'.owned b) → LeavesInM Fence.wide 0 P fn tmps Rr (bs.map mark) .returning E'.w
  | [], E', h1, h2, h3, _, _ => hfin E' h1 h2 h3
  | b :: bs, E', h1, h2, h3, hn, hb => by
    obtain ⟨q1, q2, q3⟩ := hb b (List.mem_cons_self ..)
    have hS := no_settled h2.h q2 (by intro c el fr e; cases e)
    have hw := only_put (w := E'.w) (b := b) (.deferred Option.none)
    have hle : E1.le (E'.at (E'.w.putObj b (.deferred Option.none))) := le_still h2.h h1 (by rw [← hlow, ← h1.low]; exact q1) hS hw
    have hsm : ∀ k, E'.owned k ∨ (∃ o, E'.S k o) → (E'.w.putObj b (.deferred Option.none)).heap[k]? = E'.w.heap[k]? := fun k hk => hw.block k (by
      rintro rfl
      rcases hk with hk | ⟨o, hk⟩
      · exact q3 hk
      · exact hS o hk)
    obtain ⟨p1, p2⟩ := h2.h.still (w' := E'.w.putObj b (.deferred Option.none)) hsm (Nat.le_of_eq hw.size.symm)
    refine ⟨by simp, .inl ⟨b, _, rfl, run_takeDeferred q2, ?_⟩⟩
    refine leaves_marks hlow hfin bs (E'.at (E'.w.putObj b (.deferred Option.none))) hle (h2.pmono p1 p2 fun p hp => (h2.x p hp).still hsm) (h3.pmono p1) (List.nodup_cons.1 hn).2 ?_
    intro k hk
    obtain ⟨r1, r2, r3⟩ := hb k (List.mem_cons_of_mem _ hk)
    have hkb : k ≠ b := fun e => (List.nodup_cons.1 hn).1 (e ▸ hk)
    exact ⟨r1, (hw.block k hkb).trans r2, r3⟩

/-- A function's body, run in the caller's own state. -/
theorem run_sound (hS : SysOK S P) {call : Caller} (hcall : CallOK S P call) (hdraw : DrawSound S P call) (n : Nat) {f : FuncId} {fn : Func} (hf : S.F f = some fn) {args : List AV} {H H' : AH} {v : AV} (h : runK S call (fun b => iter S.room b n) fn args H = some (v, H'))
    {E : GE} (hr : Rel S H E) {xs : Array Value} (hx : VRelL E args xs) : Calls P f xs E.w fun e w' => ∃ x E', e = .returned x ∧ E'.w = w' ∧ E.le E' ∧ Rel S H' E' ∧ VRel E' v x := by
  obtain ⟨h1, h2, h3⟩ := hS.func f fn hf
  unfold runK at h
  split at h
  · simp at h
  · rename_i c hc
    have hr1 := hr.lowed E.w.heap.size
    have hx1 := hx.pmono (pre_lowed E E.w.heap.size)
    have ha : ARel (E.lowed E.w.heap.size) (args ++ List.replicate (fn.ntmps - args.length) .top) { tmps := xs ++ Array.replicate (fn.ntmps - xs.size) undef, defers := [] } := by
      refine ⟨?_, Marks.nil (Nat.le_refl _)⟩
      refine vrelL_append hx1 ⟨by rw [hx.1]; simp, ?_⟩
      intro i u y hu hy
      have := List.eq_of_mem_replicate (List.mem_of_getElem? hu)
      subst this
      exact .top _
    refine callsIn_wide.1 (callsIn_of_wp_marks (F := Fence.wide) (n := 0) h1 hc trivial (wpIn_mono (den_sound none hS hcall hdraw n c _ H _ _ (E.lowed E.w.heap.size) _ h hr1 ha (.inl rfl)) ?_))
    rintro e a' w' ⟨ex, s', H1, E', g1, rfl, rfl, g2, g3, g4⟩
    have fin : ∀ {H2 : AH}, resultsK S s' H1 fn.results.toList [] (fun vs => some (bundle vs, H1)) = some (v, H') → LeavesInM Fence.wide 0 P fn a'.tmps (fun e w' => ∃ x E', e = .returned x ∧ E'.w = w' ∧ E.le E' ∧ Rel S H' E' ∧ VRel E' v x) a'.defers .returning E'.w := by
      intro _ hres
      obtain ⟨m0, bs, m1, m2, m3⟩ := g4.defers
      rw [m1]
      refine leaves_marks (S := S) (H1 := H1) (E1 := E.lowed E.w.heap.size) rfl ?_ bs E' g2 g3 g4.tmps m2 m3
      intro E'' k0 kr kt
      have g4' : ARel E'' s' { tmps := a'.tmps, defers := [] } := ⟨kt, Marks.nil (by rw [k0.low]; exact k0.size)⟩
      obtain ⟨vs, ys, k1, k2, k3, k4⟩ := resultsK_sound hS kr.h g4' fn.results.toList [] hres
      simp only [List.nil_append, Option.some.injEq, Prod.mk.injEq] at k1
      obtain ⟨rfl, rfl⟩ := k1
      have hres2 : results fn a'.tmps = (do let vs ← fn.results.mapM (oneSem a'.tmps); pure (if h : vs.size = 1 then vs[0] else .tuple vs)) := by
        unfold results
        rfl
      refine ⟨_, ?_, _, E''.lowed E.low, rfl, rfl, le_lowed k0, kr.lowed _, (bundle_rel k2 k3).pmono (pre_lowed _ _)⟩
      rw [hres2, Array.mapM_eq_mapM_toList]
      simp only [Sem.run_bind, Sem.run_map, k4, Result.andThen_ok, Sem.run_pure]
    cases ex with
    | normal => exact fin (H2 := H1) g1
    | ret => exact fin (H2 := H1) g1
    | exit id => simp at g1

theorem fold_rel {E : GE} : ∀ (l : List Nat) (us : List AV) (xs : List Value) (s : List AV) (a : Act), us.length = xs.length → (∀ (i : Nat) v x, us[i]? = some v → xs[i]? = some x → VRel E v x) → ARel E s a →
    ARel E ((l.zip us).foldl (fun s p => s.set p.1 p.2) s) { a with tmps := (l.zip xs).foldl (fun (tmps : Array Value) (p : Tmp × Value) => tmps.setIfInBounds p.1 p.2) a.tmps }
  | [], us, xs, s, a, _, _, ha => by simpa using ha
  | d :: l, [], [], s, a, _, _, ha => by simpa using ha
  | d :: l, u :: us, x :: xs, s, a, hl, h, ha => by
    have := fold_rel l us xs (s.set d u) { a with tmps := a.tmps.setIfInBounds d x } (by simpa using hl) (fun i v y p q => h (i + 1) v y (by simpa using p) (by simpa using q)) (put_rel ha (h 0 u x rfl rfl) (some d))
    simpa using this
  | d :: l, [], x :: xs, s, a, hl, _, _ => by simp at hl
  | d :: l, u :: us, [], s, a, hl, _, _ => by simp at hl

theorem roundTmps_eq (r : Loop) (xs : Array Value) : Loop.roundTmps r xs = (r.params.toList.zip xs.toList).foldl (fun (tmps : Array Value) (p : Tmp × Value) => tmps.setIfInBounds p.1 p.2) r.tmps := by
  unfold Loop.roundTmps
  rw [← Array.foldl_toList, Array.toList_zip]

/-- A round. -/
theorem yield_sound (hS : SysOK S P) {call : Caller} (hcall : CallOK S P call) (hdraw : DrawSound S P call) (n : Nat) {id : Nat} {args : List AV} {H H' : AH} {v : AV} (h : yieldF S call (fun b => iter S.room b n) id args H = some (v, H'))
    {E : GE} (hr : Rel S H E) {xs : Array Value} (hx : VRelL E args xs) {b : Nat} (hid : id < E.nid) (hb : E.ρ id = some b) :
    ∃ r, E.w.heap[b]? = some (.loop r) ∧ xs.size = r.params.size ∧
      RoundIn Fence.wide 0 P b r.fn (Loop.roundTmps r xs) r.assign r.body E.w fun e w' => ∃ x E', e = .returned x ∧ E'.w = w' ∧ E.le E' ∧ Rel S H' E' ∧ VRel E' v x := by
  unfold yieldF at h
  split at h
  · rename_i s ps x y hob
    split at h
    · rename_i hc
      obtain ⟨hlen, hpx, hpy⟩ := hc
      cases hr.h.obj id _ hob with
      | loop _ _ _ _ _ b' r hb' hh h1 h2 h3 h4 h5 =>
      rw [hb] at hb'
      obtain rfl := Option.some.inj hb'
      subst h3; subst h4
      refine ⟨r, hh, ?_, ?_⟩
      · rw [← hx.1, hlen, ← h2]; simp
      · refine roundIn_of_wpIn (F := Fence.wide) trivial ?_
        have hr1 := hr.lowed E.w.heap.size
        have ha0 : ARel (E.lowed E.w.heap.size) s { tmps := r.tmps, defers := [] } := ⟨h1.pmono (pre_lowed _ _), Marks.nil (Nat.le_refl _)⟩
        have hx1 := hx.pmono (pre_lowed E E.w.heap.size)
        have ha := fold_rel ps args xs.toList s _ (by simpa using hx1.1) (fun i v x p q => hx1.2 i v x p (by simpa using q)) ha0
        rw [← h2] at ha
        rw [show (r.params.toList.zip xs.toList).foldl (fun (tmps : Array Value) (p : Tmp × Value) => tmps.setIfInBounds p.1 p.2) r.tmps = Loop.roundTmps r xs from (roundTmps_eq r xs).symm] at ha
        rw [← h2] at h
        refine wpIn_mono (den_sound (some b) hS hcall hdraw n r.assign _ H _ _ (E.lowed E.w.heap.size) _ h hr1 ha (.inr hpx)) ?_
        rintro e a1 w1 ⟨ex, s1, H1, E1, g1, rfl, rfl, g2, g3, g4⟩
        cases ex with
        | exit i => simp at g1
        | ret => simp at g1
        | normal =>
        simp only at g1
        split at g1
        · rename_i s' ps' x' y' hob1
          have hid1 : id < E1.nid := Nat.lt_of_lt_of_le hid g2.nid
          have hb1 : E1.ρ id = some b := g2.ρ id b hid hb
          cases g3.h.obj id _ hob1 with
          | loop _ _ _ _ _ b2 r1 hb2 hh1 k1 k2 k3 k4 k5 =>
          rw [hb1] at hb2
          obtain rfl := Option.some.inj hb2
          have hset := no_settled g3.h hh1 (by intro c el fr e; cases e)
          have hlt := heap_lt hh1
          have hw := only_put (w := E1.w) (b := b) (.loop { r1 with state := .busy })
          have hle1 := le_write (.inl ⟨id, hid1, hb1⟩) hset hw
          obtain ⟨_, hr2⟩ := g3.h.write hid1 hb1 hset hw (o' := .loop s' ps' x' y' .busy) (.loop s' ps' x' y' .busy b { r1 with state := .busy } hb1 (World.putObj_heap_same hlt) (k1.mono hle1) k2 k3 k4 rfl)
          refine ⟨_, run_beginRound hh1 k5.1, ?_⟩
          have hr2' : Rel S _ (E1.at (E1.w.putObj b (.loop { r1 with state := .busy }))) := g3.mono hle1 hr2
          refine wpIn_mono (den_sound (some b) hS hcall hdraw n r.body _ _ _ _ (E1.at (E1.w.putObj b (.loop { r1 with state := .busy }))) _ g1 hr2' (g4.mono hle1) (.inr hpy)) ?_
          rintro e a2 w2 ⟨ex, s2, H2, E2, m1, rfl, rfl, m2, m3, m4⟩
          obtain ⟨H3, hH3, m1⟩ := optK_inv m1
          simp only [Option.some.injEq] at m1
          have hid2 : id < E2.nid := Nat.lt_of_lt_of_le hid1 (hle1.trans m2).nid
          have hb3 : E2.ρ id = some b := (hle1.trans m2).ρ id b hid1 hb1
          unfold setLoop at hH3
          split at hH3
          · rename_i s3 ps3 x3 y3 st3 hob2
            simp only [Option.some.injEq] at hH3
            subst hH3
            cases m3.h.obj id _ hob2 with
            | loop _ _ _ _ _ b4 r2 hb4 hh2 l1 l2 l3 l4 l5 =>
            rw [hb3] at hb4
            obtain rfl := Option.some.inj hb4
            have hset2 := no_settled m3.h hh2 (by intro c el fr e; cases e)
            have hlt2 := heap_lt hh2
            have done : ∀ (jump : Option Code) (st : LSt), lstOK st { r2 with state := if jump.isNone then .ready else .done, pending := jump } → exLeft ex = st → ex.stays = jump.isNone →
                ∃ v' w', (Instr.endRound b jump).run P E2.w = .ok v' w' ∧ ∃ x E', Ending.returned v' = .returned x ∧ E'.w = w' ∧ E.le E' ∧ Rel S H' E' ∧ VRel E' v x := by
              intro jump st q1 q2 q3
              have hw2 := only_put (w := E2.w) (b := b) (.loop { r2 with state := if jump.isNone then .ready else .done, pending := jump })
              have hle2 := le_write (.inl ⟨id, hid2, hb3⟩) hset2 hw2
              obtain ⟨_, hr3⟩ := m3.h.write hid2 hb3 hset2 hw2 (o' := .loop s3 ps3 x3 y3 st) (.loop s3 ps3 x3 y3 st b _ hb3 (World.putObj_heap_same hlt2) (l1.mono hle2) l2 l3 l4 q1)
              refine ⟨_, _, run_endRound jump hh2, ?_⟩
              rw [q2, q3] at m1
              obtain ⟨E5, t1, t2, t3, t4⟩ := trunc_sound (v := .bool jump.isNone) (x := .bool jump.isNone) hr1 (((g2.trans hle1).trans m2).trans hle2) (m3.mono hle2 hr3) (.bool _)
              rw [m1] at t3 t4
              exact ⟨_, E5.lowed E.low, rfl, t1, le_lowed t2, t3.lowed _, t4.pmono (pre_lowed _ _)⟩
            cases ex with
            | normal => exact done Option.none .ready ⟨rfl, rfl⟩ rfl rfl
            | ret => exact done (some .ret) (.left Option.none) ⟨rfl, rfl⟩ rfl rfl
            | exit i => exact done (some (.exit i)) (.left (some i)) ⟨rfl, rfl⟩ rfl rfl
          · simp at hH3
        · simp at g1
    · simp at h
  · simp at h

end Go.Sx

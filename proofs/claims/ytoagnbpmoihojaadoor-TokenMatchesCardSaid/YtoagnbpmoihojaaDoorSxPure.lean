/- THE ENGINE, 38: what a function that is called with trees answers. -/
import Derived.Test.YtoagnbpmoihojaaDoorSxMono
set_option linter.unusedSimpArgs false
set_option linter.unusedVariables false
namespace Go.Sx
variable {R : Type} {S : Sys}

theorem leaveK_rel {R R' : Type} {Q : R → R' → Prop} {id : Nat} {s : List AV} {H : AH} {K : Ex → List AV → AH → Option R} {K' : Ex → List AV → AH → Option R'} (hK : ∀ e s H r, K e s H = some r → ∃ r', K' e s H = some r' ∧ Q r r') {r : R} (h : leaveK id s H K = some r) :
    ∃ r', leaveK id s H K' = some r' ∧ Q r r' := by
  unfold leaveK at h ⊢
  split at h
  · split at h
    · exact hK _ _ _ _ h
    · exact hK _ _ _ _ h
    · exact hK _ _ _ _ h
    · simp at h
  · simp at h

theorem denK_rel {c : Caller} {lp : Looper} : ∀ (code : Code) {R R' : Type} {Q : R → R' → Prop} {s : List AV} {H : AH} {K : Ex → List AV → AH → Option R} {K' : Ex → List AV → AH → Option R'} {r : R}, (∀ e s H r, K e s H = some r → ∃ r', K' e s H = some r' ∧ Q r r') →
    denK S c lp code s H K = some r → ∃ r', denK S c lp code s H K' = some r' ∧ Q r r'
  | .skip, R, R', Q, s, H, K, K', r, hK, hr => hK _ _ _ _ hr
  | .region id ops draw, R, R', Q, s, H, K, K', r, hK, hr => by
    simp only [denK] at hr ⊢
    split at hr
    · rename_i hd
      split at hr
      · rename_i hd2
        obtain ⟨q, h1, h2⟩ := optK_inv2 hr
        rw [if_pos hd, if_pos hd2, h1]; exact hK _ _ _ _ h2
      · simp at hr
    · rename_i hd
      rw [opsK_run] at hr
      obtain ⟨q, h1, h2⟩ := optK_inv2 hr
      rw [if_neg hd, opsK_run, h1]; exact hK _ _ _ _ h2
  | .seq a b, R, R', Q, s, H, K, K', r, hK, hr => by
    simp only [denK] at hr ⊢
    refine denK_rel a ?_ hr
    intro e s H r h'
    cases e with
    | normal => exact denK_rel b hK h'
    | exit i => exact hK _ _ _ _ h'
    | ret => exact hK _ _ _ _ h'
  | .cond x a b, R, R', Q, s, H, K, K', r, hK, hr => by
    simp only [denK] at hr ⊢
    split at hr
    · rename_i t ht
      cases t with
      | true => exact denK_rel a hK hr
      | false => exact denK_rel b hK hr
    · simp at hr
  | .block id x, R, R', Q, s, H, K, K', r, hK, hr => by
    simp only [denK] at hr ⊢
    refine denK_rel x ?_ hr
    intro e s H r h'
    cases e with
    | normal => exact hK _ _ _ _ h'
    | exit i =>
      simp only at h' ⊢
      split at h'
      · rename_i hi
        rw [if_pos hi]; exact hK _ _ _ _ h'
      · rename_i hi
        rw [if_neg hi]; exact hK _ _ _ _ h'
    | ret => exact hK _ _ _ _ h'
  | .loop x, R, R', Q, s, H, K, K', r, hK, hr => by
    simp only [denK] at hr ⊢
    obtain ⟨o, h1, h2⟩ := optK_inv2 hr
    rw [h1]
    exact hK _ _ _ _ h2
  | .scope x, R, R', Q, s, H, K, K', r, hK, hr => by
    simp only [denK] at hr ⊢
    exact denK_rel x hK hr
  | .exit id, R, R', Q, s, H, K, K', r, hK, hr => hK _ _ _ _ hr
  | .ret, R, R', Q, s, H, K, K', r, hK, hr => hK _ _ _ _ hr
  | .label l, R, R', Q, s, H, K, K', r, hK, hr => hK _ _ _ _ hr
  | .rangeFunc g ps x y, R, R', Q, s, H, K, K', r, hK, hr => by
    simp only [denK, rangeK] at hr ⊢
    split at hr
    · obtain ⟨p, h1, h2⟩ := optK_inv2 hr
      rw [h1]
      exact leaveK_rel hK h2
    · simp at hr
  | .goto l, R, R', Q, s, H, K, K', r, hK, hr => by simp [denK] at hr
  | .refuse w, R, R', Q, s, H, K, K', r, hK, hr => by simp [denK] at hr

/-- What a function's end makes of the temporaries. -/
def endV (S : Sys) (fn : Func) (e : Ex) (s : List AV) (H : AH) : Option AV := match e with
  | .exit _ => none
  | _ => resultsK S s H fn.results.toList [] fun vs => some (bundle vs)

/-- A function's answer alone. -/
def runV (S : Sys) (call : Caller) (lp : Looper) (fn : Func) (args : List AV) (H : AH) : Option AV :=
  match fn.body with
  | none => none
  | some c => denK S call lp c (args ++ List.replicate (fn.ntmps - args.length) .top) H (endV S fn)

theorem oneResult_rel {R R' : Type} {Q : R → R' → Prop} {s : List AV} {H : AH} {rv : ResultVar} {K : AV → Option R} {K' : AV → Option R'} {r : R} (hK : ∀ v r, K v = some r → ∃ r', K' v = some r' ∧ Q r r') (h : oneResult S s H rv K = some r) : ∃ r', oneResult S s H rv K' = some r' ∧ Q r r' := by
  unfold oneResult at h ⊢
  split at h
  · exact hK _ _ h
  · split at h
    · rw [loadK_nat] at h ⊢
      obtain ⟨v, h1, h2⟩ := optK_inv2 h
      rw [h1]; exact hK _ _ h2
    · simp at h

theorem resultsK_rel {R R' : Type} {Q : R → R' → Prop} {s : List AV} {H : AH} : ∀ (rs : List ResultVar) (acc : List AV) {K : List AV → Option R} {K' : List AV → Option R'} {r : R}, (∀ v r, K v = some r → ∃ r', K' v = some r' ∧ Q r r') → resultsK S s H rs acc K = some r → ∃ r', resultsK S s H rs acc K' = some r' ∧ Q r r'
  | [], acc, K, K', r, hK, h => hK _ _ h
  | rv :: rs, acc, K, K', r, hK, h => by
    simp only [resultsK] at h ⊢
    exact oneResult_rel (fun v r h' => resultsK_rel rs (acc ++ [v]) hK h') h

theorem runV_runK {call : Caller} {lp : Looper} {fn : Func} {args : List AV} {H : AH} {v : AV} (h : runV S call lp fn args H = some v) : ∃ H', runK S call lp fn args H = some (v, H') := by
  unfold runV at h
  unfold runK
  split at h
  · simp at h
  · rename_i c hb
    obtain ⟨r', h1, H', h2⟩ := denK_rel (Q := fun (v : AV) (p : AV × AH) => ∃ H', p = (v, H')) (K' := fun e s H => match e with
      | .exit _ => none
      | _ => resultsK S s H fn.results.toList [] fun vs => some (bundle vs, H)) c (fun e s H r h' => by
        cases e with
        | normal => exact resultsK_rel (Q := fun (v : AV) (p : AV × AH) => ∃ H', p = (v, H')) (K' := fun vs => some (bundle vs, H)) _ _ (fun v r h => by obtain rfl := Option.some.inj h; exact ⟨_, rfl, _, rfl⟩) h'
        | exit i => simp [endV] at h'
        | ret => exact resultsK_rel (Q := fun (v : AV) (p : AV × AH) => ∃ H', p = (v, H')) (K' := fun vs => some (bundle vs, H)) _ _ (fun v r h => by obtain rfl := Option.some.inj h; exact ⟨_, rfl, _, rfl⟩) h') h
    subst h2
    exact ⟨H', by simp only [hb]; exact h1⟩

theorem le_rfl (c : Caller) : c.le c := ⟨fun _ _ _ _ h => h, fun _ _ _ _ h => h⟩

/-- A function that is called with trees: its answer by a table of answers, loops with fuel. -/
theorem callL_val {c : Caller} (hc : Table S c) (n : Nat) {f : FuncId} {fn : Func} {args ts : List AV} {H : AH} {v v' : AV} (hext : S.ext f = none) (hF : S.F f = some fn) (hp : S.isPure f = true)
    (hres : resolveL H args = some ts) (hrun : runV S c (fun b => iter S.room b n) fn ts ⟨[], []⟩ = some v) (hout : pureOut args v = some v') : callL S f args H = some (v', H) := by
  obtain ⟨H', h⟩ := runV_runK hrun
  exact callL_pure hc hext hF hp hres (runK_mono (le_rfl c) h) hout

/-- The same, loops without fuel. -/
theorem callL_valL {c : Caller} (hc : Table S c) {f : FuncId} {fn : Func} {args ts : List AV} {H : AH} {v v' : AV} (hext : S.ext f = none) (hF : S.F f = some fn) (hp : S.isPure f = true)
    (hres : resolveL H args = some ts) (hrun : runV S c (loopL S.room) fn ts ⟨[], []⟩ = some v) (hout : pureOut args v = some v') : callL S f args H = some (v', H) := by
  obtain ⟨H', h⟩ := runV_runK hrun
  exact callL_pure hc hext hF hp hres h hout

/-- Parts of code. -/
def subC : Code → List Nat → Code
  | c, [] => c
  | .seq a b, n :: r => subC (match n with | 0 => a | _ => b) r
  | .cond _ a b, n :: r => subC (match n with | 0 => a | _ => b) r
  | .block _ c, _ :: r => subC c r
  | .loop c, _ :: r => subC c r
  | .scope c, _ :: r => subC c r
  | c, _ => c

/-- What follows a part of code. -/
def kontK (S : Sys) (call : Caller) (lp : Looper) : Code → List Nat → (Ex → List AV → AH → Option R) → Ex → List AV → AH → Option R
  | _, [], K => K
  | .seq a b, n :: r, K => match n with
    | 0 => kontK S call lp a r fun e s H => match e with
      | .normal => denK S call lp b s H K
      | e => K e s H
    | _ => kontK S call lp b r K
  | .cond _ a b, n :: r, K => kontK S call lp (match n with | 0 => a | _ => b) r K
  | .block id c, _ :: r, K => kontK S call lp c r fun e s H => match e with
    | .exit i => if i = id then K .normal s H else K (.exit i) s H
    | e => K e s H
  | .scope c, _ :: r, K => kontK S call lp c r K
  | _, _, K => K

def bodyOf (fn : Func) : Code := match fn.body with | some c => c | none => .skip

/-- A loop's round. -/
def roundOf (S : Sys) (call : Caller) (lp : Looper) (fn : Func) (path : List Nat) (s : List AV) (H : AH) : Option Out := denK S call lp (subC (bodyOf fn) (path ++ [0])) s H retO
/-- A loop within a function, and what follows it. -/
def loopAt (S : Sys) (call : Caller) (lp : Looper) (fn : Func) (path : List Nat) (s : List AV) (H : AH) : Option AV :=
  optK (lp (roundOf S call lp fn path) s H) fun o => kontK S call lp (bodyOf fn) path (endV S fn) o.1 o.2.1 o.2.2
def afterAt (S : Sys) (call : Caller) (lp : Looper) (fn : Func) (path : List Nat) (o : Out) : Option AV := kontK S call lp (bodyOf fn) path (endV S fn) o.1 o.2.1 o.2.2

theorem loopAt_eq {call : Caller} {lp : Looper} {fn : Func} {path : List Nat} {s : List AV} {H : AH} {o : Out} (h : lp (roundOf S call lp fn path) s H = some o) : loopAt S call lp fn path s H = afterAt S call lp fn path o := by
  unfold loopAt
  rw [h]
  rfl

end Go.Sx

/- THE ENGINE, 40: calls in the style of continuations too: runs with unknowns through functions. -/
import Derived.Test.YtoagnbpmoihojaaDoorSxCps
import Derived.Test.YtoagnbpmoihojaaDoorSxCall
set_option linter.unusedSimpArgs false
set_option linter.unusedVariables false
namespace Go.Sx
variable {R : Type} {S : Sys}

/-- A caller in the style of continuations. -/
abbrev CallI := FuncId → List AV → AH → {R : Type} → (AV × AH → Option R) → Option R

/-- Answers given ahead. -/
abbrev TabT := FuncId → Option ((args : List AV) → (H : AH) → {R : Type} → (AV × AH → Option R) → Option R)

def noCall : Caller := ⟨fun _ _ _ => none, fun _ _ _ => none⟩

def opI (bi : Nat → Option Nat) (S : Sys) (c : CallI) (s : List AV) (H : AH) (o : Oper) (K : AV → AH → Option R) : Option R :=
  match bornAt bi o with
  | some p => optK (birthK S H p.1 p.2) fun q => K q.1 q.2
  | none => match o.op with
    | .call cl => match cl.callee with
      | .value f => match ev S.G s f with
        | .func (.func f) first caps => c f ((first ++ cl.args.toList.map (ev S.G s)) ++ caps) H fun p => K p.1 p.2
        | _ => none
      | .builtin b => builtinK S H b cl.argTypes (cl.args.toList.map (ev S.G s)) K
      | .invoke _ _ => none
    | _ => opK S noCall s H o K

def opsI (bi : Nat → Option Nat) (S : Sys) (c : CallI) (all : Array Oper) : List Oper → List AV → AH → (List AV → AH → Option R) → Option R
  | [], s, H, K => K s H
  | o :: r, s, H, K =>
    match o.guard with
    | none => opI bi S c s H o fun v H => opsI bi S c all r (putD o.dst s v) H K
    | some (j, want) =>
      match (all[j]?).bind (·.dst) with
      | none => none
      | some d => match s[d]? with
        | some (.bool t) => br t
          (fun _ => if want then opI bi S c (s.set d (.bool true)) H o fun v H => opsI bi S c all r (putD o.dst (s.set d (.bool true)) v) H K
            else opsI bi S c all r (putD o.dst (s.set d (.bool true)) (.tuple [])) H K)
          (fun _ => if want then opsI bi S c all r (putD o.dst (s.set d (.bool false)) (.tuple [])) H K
            else opI bi S c (s.set d (.bool false)) H o fun v H => opsI bi S c all r (putD o.dst (s.set d (.bool false)) v) H K)
        | some (.tuple []) => opsI bi S c all r (putD o.dst s (.tuple [])) H K
        | _ => none

def noBorn (_ : Nat) : Option Nat := none

def denI (S : Sys) (c : CallI) (fuel : Nat) : {R : Type} → Code → List AV → AH → (Ex → List AV → AH → Option R) → Option R
  | _, .skip, s, H, K => K .normal s H
  | _, .region _ ops draw, s, H, K =>
    if draw && !drawOK S ops then
      (if drawOK2 S ops then opsI (bornId H.objs.length (birthsOf ops.toList)) S c ops ops.toList s (reserve H (birthsOf ops.toList).length) fun s H => K .normal s H else none)
    else opsI noBorn S c ops ops.toList s H fun s H => K .normal s H
  | _, .seq a b, s, H, K => denI S c fuel a s H fun e s H => match e with
    | .normal => denI S c fuel b s H K
    | e => K e s H
  | _, .cond x a b, s, H, K => match ev S.G s x with
    | .bool t => br t (fun _ => denI S c fuel a s H K) (fun _ => denI S c fuel b s H K)
    | _ => none
  | _, .block id x, s, H, K => denI S c fuel x s H fun e s H => match e with
    | .exit i => if i = id then K .normal s H else K (.exit i) s H
    | e => K e s H
  | _, .loop x, s, H, K => iterC S.room (fun s H K => denI S c fuel x s H K) fuel s H K
  | _, .scope x, s, H, K => denI S c fuel x s H K
  | _, .exit id, s, H, K => K (.exit id) s H
  | _, .ret, s, H, K => K .ret s H
  | _, .label _, s, H, K => K .normal s H
  | _, _, _, _, _ => none

/-- What a function's end makes of the temporaries. -/
def endI (S : Sys) (fn : Func) (K : AV → AH → Option R) (e : Ex) (s : List AV) (H : AH) : Option R := match e with
  | .exit _ => none
  | _ => resultsK S s H fn.results.toList [] fun vs => K (bundle vs) H

def runI (S : Sys) (c : CallI) (fuel : Nat) (fn : Func) (args : List AV) (H : AH) (K : AV → AH → Option R) : Option R :=
  match fn.body with
  | none => none
  | some x => denI S c fuel x (args ++ List.replicate (fn.ntmps - args.length) .top) H (endI S fn K)

/-- Functions gone through, n deep; 'tab': what is answered ahead of that. -/
def callI (S : Sys) (tab : TabT) (fuel : Nat) : Nat → CallI
  | 0 => fun _ _ _ _ _ => none
  | n + 1 => fun f args H R K => match tab f with
    | some g => g args H K
    | none => match S.ext f with
      | some g => optK (resolveL H args) fun ts => optK (g ts) fun v => optK (pureOut args v) fun v => K (v, H)
      | none => match S.F f with
        | none => none
        | some fn =>
          if S.isPure f then optK (resolveL H args) fun ts => runI S (callI S tab fuel n) fuel fn ts ⟨[], []⟩ fun v _ => optK (pureOut args v) fun v => K (v, H)
          else runI S (callI S tab fuel n) fuel fn args H fun v H' => K (trunc H (v, H'))

/-- Its answers are the program's. -/
def SoundI (S : Sys) (c : CallI) : Prop := ∀ f args (H : AH) (R : Type) (K : AV × AH → Option R) r, c f args H K = some r → ∃ p, callL S f args H = some p ∧ K p = some r

theorem opI_sound {c : CallI} (hc : SoundI S c) {bi : Nat → Option Nat} {s : List AV} {H : AH} {o : Oper} {K : AV → AH → Option R} {r : R} (h : opI bi S c s H o K = some r) : ∃ p, opB bi S (callL S) s H o = some p ∧ K p.1 p.2 = some r := by
  unfold opI at h
  split at h
  · rename_i p hb
    obtain ⟨q, h1, h2⟩ := optK_inv2 h
    exact ⟨q, by rw [opB_some hb]; exact h1, h2⟩
  · rename_i hb
    rw [opB_none hb]
    obtain ⟨dst, op, type, pos, after, guard⟩ := o
    split at h
    · rename_i cl hop
      simp only at hop
      subst hop
      unfold opK
      simp only
      split at h
      · rename_i f hf
        rw [hf]
        simp only
        split at h
        · rename_i fid first caps hev
          rw [hev]
          obtain ⟨p, h1, h2⟩ := hc _ _ _ _ _ _ h
          unfold callFn
          simp only
          rw [h1]
          exact ⟨p, rfl, h2⟩
        · simp at h
      · rename_i b hb
        rw [hb]
        simp only
        rw [builtinK_nat] at h
        obtain ⟨p, h1, h2⟩ := optK_inv2 h
        exact ⟨p, h1, h2⟩
      · simp at h
    · rw [opK_nat] at h
      obtain ⟨p, h1, h2⟩ := optK_inv2 h
      exact ⟨p, opK_mono (c := noCall) ⟨fun _ _ _ _ h => by simp [noCall] at h, fun _ _ _ _ h => by simp [noCall] at h⟩ h1, h2⟩

theorem opsI_sound {c : CallI} (hc : SoundI S c) {bi : Nat → Option Nat} {all : Array Oper} : ∀ (l : List Oper) {s : List AV} {H : AH} {K : List AV → AH → Option R} {r : R}, opsI bi S c all l s H K = some r → ∃ p, runB bi S (callL S) all l s H = some p ∧ K p.1 p.2 = some r
  | [], s, H, K, r, h => ⟨(s, H), rfl, h⟩
  | o :: l, s, H, K, r, h => by
    simp only [opsI] at h
    simp only [runB, stepB, wantD]
    cases hg : o.guard with
    | none =>
      rw [hg] at h
      simp only at h ⊢
      obtain ⟨p, h1, h2⟩ := opI_sound hc h
      obtain ⟨q, h3, h4⟩ := opsI_sound hc l h2
      refine ⟨q, ?_, h4⟩
      rw [h1]
      exact h3
    | some g =>
      obtain ⟨j, want⟩ := g
      rw [hg] at h
      simp only at h ⊢
      cases hd : (all[j]?).bind (·.dst) with
      | none => rw [hd] at h; simp at h
      | some d =>
        rw [hd] at h
        simp only at h ⊢
        split at h
        · rename_i t ht
          rw [ht]
          simp only
          rcases br_some h with ⟨rfl, h'⟩ | ⟨rfl, h'⟩
          · clear h
            have h := h'
            clear h'
            rw [set_same ht] at h
            cases want with
            | true =>
              simp only [if_true] at h
              obtain ⟨p, h1, h2⟩ := opI_sound hc h
              obtain ⟨q, h3, h4⟩ := opsI_sound hc l h2
              refine ⟨q, ?_, h4⟩
              show optK (optK (opB bi S (callL S) s H o) _) _ = _
              rw [h1]
              exact h3
            | false =>
              simp only [Bool.false_eq_true, if_false] at h
              exact opsI_sound hc l h
          · clear h
            have h := h'
            clear h'
            rw [set_same ht] at h
            cases want with
            | true =>
              simp only [if_true] at h
              exact opsI_sound hc l h
            | false =>
              simp only [Bool.false_eq_true, if_false] at h
              obtain ⟨p, h1, h2⟩ := opI_sound hc h
              obtain ⟨q, h3, h4⟩ := opsI_sound hc l h2
              refine ⟨q, ?_, h4⟩
              show optK (optK (opB bi S (callL S) s H o) _) _ = _
              rw [h1]
              exact h3
        · rename_i ht
          rw [ht]
          exact opsI_sound hc l h
        · simp at h

theorem runB_none {c : Caller} {all : Array Oper} : ∀ (l : List Oper) (s : List AV) (H : AH), runB noBorn S c all l s H = runD S c all l s H
  | [], s, H => rfl
  | o :: l, s, H => by
    simp only [runB, runD]
    have e : stepB noBorn S c all o s H = stepD S c all o s H := by
      unfold stepB stepD
      have hb : bornAt noBorn o = none := by
        unfold bornAt
        split <;> rfl
      simp only [opB_none hb]
      cases wantD all o s with
      | none => rfl
      | some b => cases b <;> rfl
    rw [e]
    exact optK_congr fun p => runB_none l p.1 p.2

theorem denI_sound {c : CallI} (hc : SoundI S c) {fuel : Nat} : ∀ (code : Code) {R : Type} {s : List AV} {H : AH} {K : Ex → List AV → AH → Option R} {r : R}, denI S c fuel code s H K = some r → denK S (callL S) (loopL S.room) code s H K = some r
  | .skip, R, s, H, K, r, hr => hr
  | .region id ops draw, R, s, H, K, r, hr => by
    simp only [denI, denK] at hr ⊢
    split at hr
    · rename_i hd
      split at hr
      · rename_i hd2
        obtain ⟨p, h1, h2⟩ := opsI_sound hc _ hr
        rw [if_pos hd, if_pos hd2, h1]
        exact h2
      · simp at hr
    · rename_i hd
      obtain ⟨p, h1, h2⟩ := opsI_sound hc _ hr
      rw [runB_none] at h1
      rw [if_neg hd, opsK_run, h1]
      exact h2
  | .seq a b, R, s, H, K, r, hr => by
    simp only [denI, denK] at hr ⊢
    refine denK_eq a ?_ (denI_sound hc a hr)
    intro e s H r h'
    cases e with
    | normal => exact denI_sound hc b h'
    | exit i => exact h'
    | ret => exact h'
  | .cond x a b, R, s, H, K, r, hr => by
    simp only [denI, denK] at hr ⊢
    split at hr
    · rename_i t ht
      rw [ht]
      cases t with
      | true => exact denI_sound hc (fuel := fuel) a hr
      | false => exact denI_sound hc (fuel := fuel) b hr
    · simp at hr
  | .block id x, R, s, H, K, r, hr => by
    simp only [denI, denK] at hr ⊢
    exact denI_sound hc x hr
  | .loop x, R, s, H, K, r, hr => by
    simp only [denI, denK] at hr ⊢
    obtain ⟨o, h1, h2⟩ := iterC_iter (body := fun s H => denK S (callL S) (loopL S.room) x s H retO) (fun s H K r h => denK_out x (denI_sound hc x h)) fuel hr
    rw [iter_loopL h1]; exact h2
  | .scope x, R, s, H, K, r, hr => by
    simp only [denI, denK] at hr ⊢
    exact denI_sound hc x hr
  | .exit id, R, s, H, K, r, hr => hr
  | .ret, R, s, H, K, r, hr => hr
  | .label l, R, s, H, K, r, hr => hr
  | .rangeFunc g ps x y, R, s, H, K, r, hr => by simp [denI] at hr
  | .goto l, R, s, H, K, r, hr => by simp [denI] at hr
  | .refuse w, R, s, H, K, r, hr => by simp [denI] at hr

theorem runI_sound {c : CallI} (hc : SoundI S c) {fuel : Nat} {fn : Func} {args : List AV} {H : AH} {K : AV → AH → Option R} {r : R} (h : runI S c fuel fn args H K = some r) : ∃ p, runK S (callL S) (loopL S.room) fn args H = some p ∧ K p.1 p.2 = some r := by
  unfold runI at h
  unfold runK
  split at h
  · simp at h
  · rename_i x hb
    simp only [hb]
    obtain ⟨p, h1, h2⟩ := denK_rel (Q := fun (a : R) (p : AV × AH) => K p.1 p.2 = some a) (K' := fun e s H => match e with
      | .exit _ => none
      | _ => resultsK S s H fn.results.toList [] fun vs => some (bundle vs, H)) x (fun e s H r h' => by
        cases e with
        | normal => exact resultsK_rel (Q := fun (a : R) (p : AV × AH) => K p.1 p.2 = some a) (K' := fun vs => some (bundle vs, H)) _ _ (fun v r h => ⟨_, rfl, h⟩) h'
        | exit i => simp [endI] at h'
        | ret => exact resultsK_rel (Q := fun (a : R) (p : AV × AH) => K p.1 p.2 = some a) (K' := fun vs => some (bundle vs, H)) _ _ (fun v r h => ⟨_, rfl, h⟩) h') (denI_sound hc x h)
    exact ⟨p, h1, h2⟩

/-- Answers given ahead are the program's. -/
def TabOK (S : Sys) (tab : TabT) : Prop :=
  ∀ f g, tab f = some g → ∀ args (H : AH) (R : Type) (K : AV × AH → Option R) r, g args H K = some r → ∃ p, callL S f args H = some p ∧ K p = some r

theorem callI_sound {tab : TabT} (ht : TabOK S tab) {fuel : Nat} : ∀ n, SoundI S (callI S tab fuel n)
  | 0 => by intro f args H R K r h; simp [callI] at h
  | n + 1 => by
    intro f args H R K r h
    simp only [callI] at h
    split at h
    · rename_i g hg
      exact ht f g hg _ _ _ _ _ h
    · split at h
      · rename_i g hg
        obtain ⟨ts, h1, h⟩ := optK_inv2 h
        obtain ⟨v, h2, h⟩ := optK_inv2 h
        obtain ⟨v', h3, h⟩ := optK_inv2 h
        exact ⟨_, callL_ext hg h1 h2 h3, h⟩
      · rename_i he
        split at h
        · simp at h
        · rename_i fn hF
          split at h
          · rename_i hp
            obtain ⟨ts, h1, h⟩ := optK_inv2 h
            obtain ⟨p, h2, h⟩ := runI_sound (callI_sound ht n) h
            obtain ⟨v', h3, h⟩ := optK_inv2 h
            refine ⟨_, callL_enter ?_, h⟩
            unfold enterF
            rw [he]
            simp only [hF]
            rw [if_pos hp, h1, optK_some, h2, optK_some, h3, optK_some]
          · rename_i hp
            obtain ⟨p, h2, h⟩ := runI_sound (callI_sound ht n) h
            refine ⟨_, callL_enter ?_, h⟩
            unfold enterF
            rw [he]
            simp only [hF]
            rw [if_neg hp, h2, optK_some]

/-- A call gone through. -/
theorem callL_I {tab : TabT} (ht : TabOK S tab) {fuel n : Nat} {f : FuncId} {args : List AV} {H : AH} {p : AV × AH} (h : callI S tab fuel n f args H some = some p) : callL S f args H = some p := by
  obtain ⟨q, h1, h2⟩ := callI_sound ht n _ _ _ _ _ _ h
  rw [h1]; exact h2

end Go.Sx

/- THE ENGINE, 39: code in the style of continuations throughout: for runs with unknowns, where a loop's rounds are known in number. -/
import Derived.Test.YtoagnbpmoihojaaDoorSxPure
set_option linter.unusedSimpArgs false
set_option linter.unusedVariables false
namespace Go.Sx
variable {R : Type} {S : Sys}

def iterC (room : Nat) (body : List AV → AH → (Ex → List AV → AH → Option R) → Option R) : Nat → List AV → AH → (Ex → List AV → AH → Option R) → Option R
  | 0, _, _, _ => none
  | n + 1, s, H, K => body s H fun e s' H' => match e with
    | .normal => iterC room body n (back room s H s' H').1 (back room s H s' H').2 K
    | e => K e (outS room s s') H'

def denC (S : Sys) (call : Caller) (fuel : Nat) : {R : Type} → Code → List AV → AH → (Ex → List AV → AH → Option R) → Option R
  | _, .skip, s, H, K => K .normal s H
  | _, .region _ ops draw, s, H, K =>
    if draw && !drawOK S ops then
      (if drawOK2 S ops then optK (runB (bornId H.objs.length (birthsOf ops.toList)) S call ops ops.toList s (reserve H (birthsOf ops.toList).length)) fun p => K .normal p.1 p.2 else none)
    else opsK S call ops ops.toList s H fun s H => K .normal s H
  | _, .seq a b, s, H, K => denC S call fuel a s H fun e s H => match e with
    | .normal => denC S call fuel b s H K
    | e => K e s H
  | _, .cond c a b, s, H, K => match ev S.G s c with
    | .bool t => br t (fun _ => denC S call fuel a s H K) (fun _ => denC S call fuel b s H K)
    | _ => none
  | _, .block id c, s, H, K => denC S call fuel c s H fun e s H => match e with
    | .exit i => if i = id then K .normal s H else K (.exit i) s H
    | e => K e s H
  | _, .loop c, s, H, K => iterC S.room (fun s H K => denC S call fuel c s H K) fuel s H K
  | _, .scope c, s, H, K => denC S call fuel c s H K
  | _, .exit id, s, H, K => K (.exit id) s H
  | _, .ret, s, H, K => K .ret s H
  | _, .label _, s, H, K => K .normal s H
  | _, .rangeFunc g ps x y, s, H, K => rangeK call (ev S.G s g) s H ps.toList x y K
  | _, _, _, _, _ => none

theorem denK_eq {c : Caller} {lp : Looper} (code : Code) {R : Type} {s : List AV} {H : AH} {K K' : Ex → List AV → AH → Option R} {r : R} (hK : ∀ e s H r, K e s H = some r → K' e s H = some r) (h : denK S c lp code s H K = some r) : denK S c lp code s H K' = some r := by
  obtain ⟨r', h1, rfl⟩ := denK_rel (Q := fun a b => a = b) code (fun e s H r h => ⟨r, hK _ _ _ _ h, rfl⟩) h
  exact h1

theorem denK_out {c : Caller} {lp : Looper} (code : Code) {R : Type} {s : List AV} {H : AH} {K : Ex → List AV → AH → Option R} {r : R} (h : denK S c lp code s H K = some r) : ∃ o, denK S c lp code s H retO = some o ∧ K o.1 o.2.1 o.2.2 = some r := by
  obtain ⟨o, h1, h2⟩ := denK_rel (Q := fun (a : R) (o : Out) => K o.1 o.2.1 o.2.2 = some a) (K' := retO) code (fun e s H r h => ⟨(e, s, H), rfl, h⟩) h
  exact ⟨o, h1, h2⟩

theorem iterC_iter {room : Nat} {bodyC : List AV → AH → (Ex → List AV → AH → Option R) → Option R} {body : List AV → AH → Option Out}
    (hb : ∀ s H K r, bodyC s H K = some r → ∃ o, body s H = some o ∧ K o.1 o.2.1 o.2.2 = some r) : ∀ (n : Nat) {s : List AV} {H : AH} {K : Ex → List AV → AH → Option R} {r : R}, iterC room bodyC n s H K = some r → ∃ o, iter room body n s H = some o ∧ K o.1 o.2.1 o.2.2 = some r
  | 0, s, H, K, r, h => by simp [iterC] at h
  | n + 1, s, H, K, r, h => by
    simp only [iterC] at h
    obtain ⟨⟨e, s1, H1⟩, h1, h2⟩ := hb _ _ _ _ h
    simp only [iter, h1]
    cases e with
    | normal => exact iterC_iter hb n h2
    | exit i => exact ⟨_, rfl, h2⟩
    | ret => exact ⟨_, rfl, h2⟩

theorem denC_den {c : Caller} {n : Nat} : ∀ (code : Code) {R : Type} {s : List AV} {H : AH} {K : Ex → List AV → AH → Option R} {r : R}, denC S c n code s H K = some r → denK S c (fun b => iter S.room b n) code s H K = some r
  | .skip, R, s, H, K, r, hr => hr
  | .region id ops draw, R, s, H, K, r, hr => by simp only [denC, denK] at hr ⊢; exact hr
  | .seq a b, R, s, H, K, r, hr => by
    simp only [denC, denK] at hr ⊢
    refine denK_eq a ?_ (denC_den a hr)
    intro e s H r h'
    cases e with
    | normal => exact denC_den b h'
    | exit i => exact h'
    | ret => exact h'
  | .cond x a b, R, s, H, K, r, hr => by
    simp only [denC, denK] at hr ⊢
    split at hr
    · rename_i t ht
      rw [ht]
      cases t with
      | true => exact denC_den (n := n) a hr
      | false => exact denC_den (n := n) b hr
    · simp at hr
  | .block id x, R, s, H, K, r, hr => by
    simp only [denC, denK] at hr ⊢
    exact denC_den x hr
  | .loop x, R, s, H, K, r, hr => by
    simp only [denC, denK] at hr ⊢
    obtain ⟨o, h1, h2⟩ := iterC_iter (body := fun s H => denK S c (fun b => iter S.room b n) x s H retO) (fun s H K r h => denK_out x (denC_den x h)) n hr
    rw [h1]; exact h2
  | .scope x, R, s, H, K, r, hr => by
    simp only [denC, denK] at hr ⊢
    exact denC_den x hr
  | .exit id, R, s, H, K, r, hr => hr
  | .ret, R, s, H, K, r, hr => hr
  | .label l, R, s, H, K, r, hr => hr
  | .rangeFunc g ps x y, R, s, H, K, r, hr => by simp only [denC, denK] at hr ⊢; exact hr
  | .goto l, R, s, H, K, r, hr => by simp [denC] at hr
  | .refuse w, R, s, H, K, r, hr => by simp [denC] at hr

def runC (S : Sys) (call : Caller) (n : Nat) (fn : Func) (args : List AV) (H : AH) : Option AV :=
  match fn.body with
  | none => none
  | some c => denC S call n c (args ++ List.replicate (fn.ntmps - args.length) .top) H (endV S fn)

/-- A function that is called with trees: its answer by a table of answers, every loop's rounds known. -/
theorem callL_C {c : Caller} (hc : Table S c) {n : Nat} {f : FuncId} {fn : Func} {args ts : List AV} {H : AH} {v v' : AV} (hext : S.ext f = none) (hF : S.F f = some fn) (hp : S.isPure f = true)
    (hres : resolveL H args = some ts) (hrun : runC S c n fn ts ⟨[], []⟩ = some v) (hout : pureOut args v = some v') : callL S f args H = some (v', H) := by
  refine callL_val hc n hext hF hp hres ?_ hout
  unfold runC at hrun
  unfold runV
  split at hrun
  · simp at hrun
  · rename_i b hb
    rw [hb]
    exact denC_den b hrun

end Go.Sx

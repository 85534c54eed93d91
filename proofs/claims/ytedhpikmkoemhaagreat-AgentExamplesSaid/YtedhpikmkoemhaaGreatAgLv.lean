/- The system of the agent's examples, with what is told ahead in levels. -/
import Derived.Test.YtedhpikmkoemhaaGreatAgDat
import Derived.Test.YtedhpikmkoemhaaGreatAgGen
set_option maxRecDepth 100000
set_option linter.unusedSimpArgs false
set_option linter.unusedVariables false
namespace Go.Proofs.YtedhpikmkoemhaaGreat
open Go.Sx Go.RowKit
noncomputable def bT (e : FuncId → Option (List AV → Option AV)) : Go.Sx.Sys := tabS Tryz.btypes_ Tryz.bfuncs_ .nil Tryz.bpure_ Tryz.bobjs_ e 100000
noncomputable def bD (e : FuncId → Option (List AV → Option AV)) : Go.Sx.Sys := { bT e with dfn := fun f => Tryz.bdfns_.get f }
noncomputable def bM (e : FuncId → Option (List AV → Option AV)) : Go.Sx.Sys := { bD e with meth := methA }
abbrev HTA := FuncId → Option (List AV → AH → Option (AV × AH))
def hN : HTA := fun _ => none
noncomputable def bS (e : FuncId → Option (List AV → Option AV)) (h : HTA) : Go.Sx.Sys := { bM e with thawF := fun f => Nat.beq f 56, extH := h }
theorem bT.ok (e : FuncId → Option (List AV → Option AV)) : SysOK (bT e) Tryz.prog := tab_ok Tryz.btypes_ok Tryz.bfuncs_ok trivial
theorem bD.ok (e : FuncId → Option (List AV → Option AV)) : SysOK (bD e) Tryz.prog := withDfn (bT.ok e) (fun f fn h => Tr.get_allP _ Tryz.bdfns_ok f fn h)
theorem bM.ok (e : FuncId → Option (List AV → Option AV)) : SysOK (bM e) Tryz.prog := withMeth (bD.ok e) methA_ok
theorem bS.ok (e : FuncId → Option (List AV → Option AV)) (h : HTA) : SysOK (bS e h) Tryz.prog := ⟨(bM.ok e).type, (bM.ok e).func, (bM.ok e).glob, (bM.ok e).meth, (bM.ok e).dfn⟩
def tellsV (o : OutV) (v : AV) : Bool := match o with
  | some p => eqA p.1 v
  | none => false
theorem tells_v {S : Go.Sx.Sys} {n : Nat} {f : FuncId} {args : List AV} {H : AH} {v : AV} (h : tellsV (callE S n f args H) v = true) : ∃ H', callF S n f args H = some (v, H') := by
  unfold tellsV at h
  split at h
  · rename_i p hc
    obtain ⟨u, H'⟩ := p
    have e : u = v := eqA_eq h
    subst e
    exact ⟨H', (callE_le n).fn _ _ _ _ hc⟩
  · cases h
def eqTL : List (Nat × Nat × TypeId) → List (Nat × Nat × TypeId) → Bool
  | [], [] => true
  | a :: x, b :: y => eqTk a b && eqTL x y
  | _, _ => false
theorem eqTL_eq : ∀ {a b : List (Nat × Nat × TypeId)}, eqTL a b = true → a = b
  | [], [], _ => rfl
  | [], _ :: _, h => by cases h
  | _ :: _, [], h => by cases h
  | (a1, a2, a3) :: x, (b1, b2, b3) :: y, h => by
    simp only [eqTL, eqTk, Bool.and_eq_true] at h
    rw [eqTL_eq h.2, Nat.eq_of_beq_eq_true h.1.1, Nat.eq_of_beq_eq_true h.1.2.1, Nat.eq_of_beq_eq_true h.1.2.2]
theorem eqXL_eq' : ∀ {a b : List AObj}, eqXL a b = true → a = b
  | [], [], _ => rfl
  | [], _ :: _, h => by cases h
  | _ :: _, [], h => by cases h
  | a :: x, b :: y, h => by
    simp only [eqXL, Bool.and_eq_true] at h
    rw [eqX_eq h.1, eqXL_eq' h.2]
def eqH (a b : AH) : Bool := eqXL a.objs b.objs && eqTL a.toks b.toks
theorem eqH_eq {a b : AH} (h : eqH a b = true) : a = b := by
  obtain ⟨a1, a2⟩ := a
  obtain ⟨b1, b2⟩ := b
  simp only [eqH, Bool.and_eq_true] at h
  rw [eqXL_eq' h.1, eqTL_eq h.2]
def tellsH (o : OutV) (v : AV) (H' : AH) : Bool := match o with
  | some p => eqA p.1 v && eqH p.2 H'
  | none => false
theorem tells_h {S : Go.Sx.Sys} {n : Nat} {f : FuncId} {args : List AV} {H H' : AH} {v : AV} (h : tellsH (callE S n f args H) v H' = true) : callF S n f args H = some (v, H') := by
  unfold tellsH at h
  split at h
  · rename_i p hc
    obtain ⟨u, G⟩ := p
    simp only [Bool.and_eq_true] at h
    have e : u = v := eqA_eq h.1
    have e2 : G = H' := eqH_eq h.2
    subst e; subst e2
    exact (callE_le n).fn _ _ _ _ hc
  · cases h
/-- A call's answer is the program's. -/
def Told (f : FuncId) (ts : List AV) (v : AV) : Prop := ∀ e h E xs, Rel (bS e h) ⟨[], []⟩ E → VRelL E ts xs → Calls Tryz.prog f xs E.w fun e w' => ∃ x E' H', e = .returned x ∧ E'.w = w' ∧ E.le E' ∧ HRel H' E' ∧ VRel E' v x
theorem told_of {e : FuncId → Option (List AV → Option AV)} {h : HTA} (hx : ExtOK (bS e h) Tryz.prog) {n : Nat} {f : FuncId} {ts : List AV} {v : AV} (hr : tellsV (callE (bS e h) n f ts ⟨[], []⟩) v = true) : Told f ts v := by
  intro e' h' E xs hr' hv
  obtain ⟨H', hn⟩ := tells_v hr
  obtain ⟨_, h2⟩ := (call_sound (bS.ok e h) hx Tryz.bmixed n).fn f ts ⟨[], []⟩ v H' hn
  have hr2 : Rel (bS e h) ⟨[], []⟩ E := ⟨hr'.h, hr'.g, hr'.x⟩
  refine (h2 E xs hr2 hv).mono ?_
  rintro e W' ⟨x, E', h3, h4, h5, h6, h7⟩
  exact ⟨x, E', H', h3, h4, h5, h6.h, h7⟩
def ToldH (f : FuncId) (ts : List AV) (H : AH) (v : AV) (H' : AH) : Prop := ∀ e h E xs, Rel (bS e h) H E → VRelL E ts xs → Calls Tryz.prog f xs E.w fun e w' => ∃ x E', e = .returned x ∧ E'.w = w' ∧ E.le E' ∧ HRel H' E' ∧ VRel E' v x
theorem toldH_of {e : FuncId → Option (List AV → Option AV)} {h : HTA} (hx : ExtOK (bS e h) Tryz.prog) {n : Nat} {f : FuncId} {ts : List AV} {H H' : AH} {v : AV} (hr : tellsH (callE (bS e h) n f ts H) v H' = true) : ToldH f ts H v H' := by
  intro e' h' E xs hr' hv
  have hn := tells_h hr
  obtain ⟨_, h2⟩ := (call_sound (bS.ok e h) hx Tryz.bmixed n).fn f ts H v H' hn
  have hr2 : Rel (bS e h) H E := ⟨hr'.h, hr'.g, hr'.x⟩
  refine (h2 E xs hr2 hv).mono ?_
  rintro e W' ⟨x, E', h3, h4, h5, h6, h7⟩
  exact ⟨x, E', h3, h4, h5, h6.h, h7⟩
theorem ext0 : ExtOK (bS extA hN) Tryz.prog := ⟨extA_ok Tryz.bmixed rfl rfl, fun f g h => by cases h⟩
def g44 (ts : List AV) : Option AV := match eqAL ts qp44_0a with | true => some qp44_0v | false => (match eqAL ts qp44_1a with | true => some qp44_1v | false => none)
def g206 (ts : List AV) : Option AV := match eqAL ts qp206_0a with | true => some qp206_0v | false => none
def g363 (ts : List AV) : Option AV := match eqAL ts qp363_0a with | true => some qp363_0v | false => (match eqAL ts qp363_1a with | true => some qp363_1v | false => (match eqAL ts qp363_2a with | true => some qp363_2v | false => (match eqAL ts qp363_3a with | true => some qp363_3v | false => (match eqAL ts qp363_4a with | true => some qp363_4v | false => none))))
def g342 (ts : List AV) : Option AV := match eqAL ts qp342_0a with | true => some qp342_0v | false => (match eqAL ts qp342_1a with | true => some qp342_1v | false => (match eqAL ts qp342_2a with | true => some qp342_2v | false => (match eqAL ts qp342_3a with | true => some qp342_3v | false => (match eqAL ts qp342_4a with | true => some qp342_4v | false => none))))
def g131 (ts : List AV) : Option AV := match eqAL ts qp131_0a with | true => some qp131_0v | false => (match eqAL ts qp131_1a with | true => some qp131_1v | false => (match eqAL ts qp131_2a with | true => some qp131_2v | false => none))
def g134 (ts : List AV) : Option AV := match eqAL ts qp134_0a with | true => some qp134_0v | false => (match eqAL ts qp134_1a with | true => some qp134_1v | false => (match eqAL ts qp134_2a with | true => some qp134_2v | false => (match eqAL ts qp134_3a with | true => some qp134_3v | false => none)))
def g199 (ts : List AV) : Option AV := match eqAL ts qp199_0a with | true => some qp199_0v | false => (match eqAL ts qp199_1a with | true => some qp199_1v | false => (match eqAL ts qp199_2a with | true => some qp199_2v | false => (match eqAL ts qp199_3a with | true => some qp199_3v | false => none)))
def e1 (f : FuncId) : Option (List AV → Option AV) := match Nat.beq f 44 with | true => some g44 | false => (match Nat.beq f 206 with | true => some g206 | false => (match Nat.beq f 363 with | true => some g363 | false => (match Nat.beq f 342 with | true => some g342 | false => (match Nat.beq f 131 with | true => some g131 | false => (match Nat.beq f 134 with | true => some g134 | false => (match Nat.beq f 199 with | true => some g199 | false => (extA f)))))))
def g130 (ts : List AV) : Option AV := match eqAL ts qp130_0a with | true => some qp130_0v | false => (match eqAL ts qp130_1a with | true => some qp130_1v | false => (match eqAL ts qp130_2a with | true => some qp130_2v | false => (match eqAL ts qp130_3a with | true => some qp130_3v | false => (match eqAL ts qp130_4a with | true => some qp130_4v | false => none))))
def e2 (f : FuncId) : Option (List AV → Option AV) := match Nat.beq f 130 with | true => some g130 | false => (e1 f)
def g122 (ts : List AV) : Option AV := match eqAL ts qp122_0a with | true => some qp122_0v | false => (match eqAL ts qp122_1a with | true => some qp122_1v | false => (match eqAL ts qp122_2a with | true => some qp122_2v | false => (match eqAL ts qp122_3a with | true => some qp122_3v | false => none)))
def e3 (f : FuncId) : Option (List AV → Option AV) := match Nat.beq f 122 with | true => some g122 | false => (e2 f)
def g61 (ts : List AV) : Option AV := match eqAL ts qp61_0a with | true => some qp61_0v | false => (match eqAL ts qp61_1a with | true => some qp61_1v | false => (match eqAL ts qp61_2a with | true => some qp61_2v | false => (match eqAL ts qp61_3a with | true => some qp61_3v | false => none)))
def e4 (f : FuncId) : Option (List AV → Option AV) := match Nat.beq f 61 with | true => some g61 | false => (e3 f)
def gh8 (ts : List AV) (H : AH) : Option (AV × AH) := match eqAL ts qc8_0a && eqH H qh0 with | true => some (qc8_0v, qh0) | false => (match eqAL ts qc8_1a && eqH H qh0 with | true => some (qc8_1v, qh0) | false => (match eqAL ts qc8_2a && eqH H qh0 with | true => some (qc8_2v, qh1) | false => (match eqAL ts qc8_3a && eqH H qh2 with | true => some (qc8_3v, qh3) | false => (match eqAL ts qc8_4a && eqH H qh4 with | true => some (qc8_4v, qh5) | false => none))))
def gh10 (ts : List AV) (H : AH) : Option (AV × AH) := match eqAL ts qc10_0a && eqH H qh1 with | true => some (qc10_0v, qh6) | false => (match eqAL ts qc10_1a && eqH H qh6 with | true => some (qc10_1v, qh6) | false => (match eqAL ts qc10_2a && eqH H qh6 with | true => some (qc10_2v, qh6) | false => (match eqAL ts qc10_3a && eqH H qh6 with | true => some (qc10_3v, qh6) | false => (match eqAL ts qc10_4a && eqH H qh7 with | true => some (qc10_4v, qh7) | false => (match eqAL ts qc10_5a && eqH H qh3 with | true => some (qc10_5v, qh3) | false => (match eqAL ts qc10_6a && eqH H qh5 with | true => some (qc10_6v, qh8) | false => none))))))
def gh11 (ts : List AV) (H : AH) : Option (AV × AH) := match eqAL ts qc11_0a && eqH H qh6 with | true => some (qc11_0v, qh9) | false => (match eqAL ts qc11_1a && eqH H qh10 with | true => some (qc11_1v, qh11) | false => (match eqAL ts qc11_2a && eqH H qh12 with | true => some (qc11_2v, qh7) | false => (match eqAL ts qc11_3a && eqH H qh7 with | true => some (qc11_3v, qh7) | false => (match eqAL ts qc11_4a && eqH H qh3 with | true => some (qc11_4v, qh3) | false => (match eqAL ts qc11_5a && eqH H qh8 with | true => some (qc11_5v, qh13) | false => (match eqAL ts qc11_6a && eqH H qh14 with | true => some (qc11_6v, qh15) | false => none))))))
def gh17 (ts : List AV) (H : AH) : Option (AV × AH) := match eqAL ts qc17_0a && eqH H qh16 with | true => some (qc17_0v, qh16) | false => (match eqAL ts qc17_1a && eqH H qh16 with | true => some (qc17_1v, qh10) | false => (match eqAL ts qc17_2a && eqH H qh3 with | true => some (qc17_2v, qh3) | false => (match eqAL ts qc17_3a && eqH H qh13 with | true => some (qc17_3v, qh14) | false => none)))
def hX : HTA := fun f => match Nat.beq f 8 with | true => some gh8 | false => (match Nat.beq f 10 with | true => some gh10 | false => (match Nat.beq f 11 with | true => some gh11 | false => (match Nat.beq f 17 with | true => some gh17 | false => (none))))
end Go.Proofs.YtedhpikmkoemhaaGreat

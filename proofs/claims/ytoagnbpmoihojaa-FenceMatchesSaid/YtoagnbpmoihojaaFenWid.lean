/- The law of FenceWider. -/
import Derived.Test.YtoagnbpmoihojaaFenShort
set_option maxRecDepth 100000
set_option linter.unusedSimpArgs false
set_option linter.unusedVariables false
namespace Go.Proofs.Ytoagnbpmoihojaa
open Go.Sx
theorem len_erase {n : Nat} {e : DT} {a : AV} (h : tyV (.sl n e) a) : (erase a).listOf.length = a.listOf.length := by rw [listOf_erase h, List.length_map]
theorem smallU_erase {u : AV} (h : tyV dtMom u) (hs : smallU (erase u)) : smallU u := by
  have h9 := len_erase (pj_dtMom_9 h)
  have h10 := len_erase (pj_dtMom_10 h)
  have h12 := len_erase (pj_dtMom_12 h)
  have h13 := len_erase (pj_dtMom_13 h)
  have h8 := tyV_nrm (pj_dtMom_8 h)
  obtain ⟨m0, m1, m2, m3, m4, m5, m6, m7, m8, m9, m10, m11, m12, m13, rfl, w⟩ := un_dtMom h
  simp only [smallU, erase, eraseL, AV.aggOf, hdV, tlV, shS] at hs h9 h10 h12 h13 h8 ⊢
  exact ⟨by omega, by omega, by omega, by omega, bnd_same h8.symm hs.2.2.2.2⟩
theorem smallL_erase {l : AV} (hl : tyV (.sl 14 dtMom) l) (hs : smallL (erase l)) : smallL l := by
  refine ⟨by rw [← len_erase hl]; exact hs.1, fun u hu => smallU_erase ((sl_facts hl).2.2.1 u hu) (hs.2 _ ?_)⟩
  rw [listOf_erase hl]
  exact List.mem_map_of_mem hu

theorem k6 {l : AV} (hl : tyV (.sl 14 dtMom) l) : ∃ b, (∀ H : AH, callL Try.D 6 [l] H = some (.bool b, H)) ∧ (b = true → smallL l) := by
  have key : Good (runI Try.D (cF (fuelF (erase l))) (fuelF (erase l)) Try.f6 [erase l] ⟨[], []⟩ (fun v _ => some v)) (smallL (erase l)) := by
    have hl' := tyV_erase hl
    generalize erase l = l at hl' ⊢
    rw [sh_pre, (sl_facts hl').1]
    simp only [br]
    by_cases hc : l.listOf.length > 40
    · rw [dec_t (p := (l.listOf.length : Int) > 40) (by omega)]
      exact ⟨false, rfl, by simp⟩
    rw [dec_f (p := (l.listOf.length : Int) > 40) (by omega)]
    exact sh_loop (fuelF l) hl' false (smallL l) (fun h => ⟨by omega, h⟩) l.listOf.length 0 (fuelF l) 0 rfl (by omega) (by unfold fuelF; omega) (by simp)
  obtain ⟨b, h1, h2⟩ := key
  refine ⟨b, fun H => ?_, fun hb => smallL_erase hl (h2 hb)⟩
  exact callL_D tabF_ok (fuel := fuelF (erase l)) (n := 6) (fn := Try.f6) (ds := [.sl 14 dtMom]) (v := .bool b) (by kernel_rfl) (by kernel_rfl) (by kernel_rfl) ⟨hl, trivial⟩ h1 rfl
end Go.Proofs.Ytoagnbpmoihojaa

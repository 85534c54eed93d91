/- Calls told ahead, level 1: their soundness. -/
import Derived.Test.YtedhpikmkoemhaaGreatAgLv
import Derived.Test.YtedhpikmkoemhaaGreatAgR1a
import Derived.Test.YtedhpikmkoemhaaGreatAgR1b
import Derived.Test.YtedhpikmkoemhaaGreatAgR1c
set_option maxRecDepth 100000
set_option linter.unusedSimpArgs false
set_option linter.unusedVariables false
namespace Go.Proofs.YtedhpikmkoemhaaGreat
open Go.Sx Go.RowKit
theorem g44_ok {ts : List AV} {v : AV} (h : g44 ts = some v) : Told 44 ts v := by
  unfold g44 at h
  split at h
  · rename_i he
    obtain rfl := Option.some.inj h
    rw [eqAL_eq he]
    exact told_of ext0 qp44_0_run
  split at h
  · rename_i he
    obtain rfl := Option.some.inj h
    rw [eqAL_eq he]
    exact told_of ext0 qp44_1_run
  cases h
theorem g206_ok {ts : List AV} {v : AV} (h : g206 ts = some v) : Told 206 ts v := by
  unfold g206 at h
  split at h
  · rename_i he
    obtain rfl := Option.some.inj h
    rw [eqAL_eq he]
    exact told_of ext0 qp206_0_run
  cases h
theorem g363_ok {ts : List AV} {v : AV} (h : g363 ts = some v) : Told 363 ts v := by
  unfold g363 at h
  split at h
  · rename_i he
    obtain rfl := Option.some.inj h
    rw [eqAL_eq he]
    exact told_of ext0 qp363_0_run
  split at h
  · rename_i he
    obtain rfl := Option.some.inj h
    rw [eqAL_eq he]
    exact told_of ext0 qp363_1_run
  split at h
  · rename_i he
    obtain rfl := Option.some.inj h
    rw [eqAL_eq he]
    exact told_of ext0 qp363_2_run
  split at h
  · rename_i he
    obtain rfl := Option.some.inj h
    rw [eqAL_eq he]
    exact told_of ext0 qp363_3_run
  split at h
  · rename_i he
    obtain rfl := Option.some.inj h
    rw [eqAL_eq he]
    exact told_of ext0 qp363_4_run
  cases h
theorem g342_ok {ts : List AV} {v : AV} (h : g342 ts = some v) : Told 342 ts v := by
  unfold g342 at h
  split at h
  · rename_i he
    obtain rfl := Option.some.inj h
    rw [eqAL_eq he]
    exact told_of ext0 qp342_0_run
  split at h
  · rename_i he
    obtain rfl := Option.some.inj h
    rw [eqAL_eq he]
    exact told_of ext0 qp342_1_run
  split at h
  · rename_i he
    obtain rfl := Option.some.inj h
    rw [eqAL_eq he]
    exact told_of ext0 qp342_2_run
  split at h
  · rename_i he
    obtain rfl := Option.some.inj h
    rw [eqAL_eq he]
    exact told_of ext0 qp342_3_run
  split at h
  · rename_i he
    obtain rfl := Option.some.inj h
    rw [eqAL_eq he]
    exact told_of ext0 qp342_4_run
  cases h
theorem g131_ok {ts : List AV} {v : AV} (h : g131 ts = some v) : Told 131 ts v := by
  unfold g131 at h
  split at h
  · rename_i he
    obtain rfl := Option.some.inj h
    rw [eqAL_eq he]
    exact told_of ext0 qp131_0_run
  split at h
  · rename_i he
    obtain rfl := Option.some.inj h
    rw [eqAL_eq he]
    exact told_of ext0 qp131_1_run
  split at h
  · rename_i he
    obtain rfl := Option.some.inj h
    rw [eqAL_eq he]
    exact told_of ext0 qp131_2_run
  cases h
theorem g134_ok {ts : List AV} {v : AV} (h : g134 ts = some v) : Told 134 ts v := by
  unfold g134 at h
  split at h
  · rename_i he
    obtain rfl := Option.some.inj h
    rw [eqAL_eq he]
    exact told_of ext0 qp134_0_run
  split at h
  · rename_i he
    obtain rfl := Option.some.inj h
    rw [eqAL_eq he]
    exact told_of ext0 qp134_1_run
  split at h
  · rename_i he
    obtain rfl := Option.some.inj h
    rw [eqAL_eq he]
    exact told_of ext0 qp134_2_run
  split at h
  · rename_i he
    obtain rfl := Option.some.inj h
    rw [eqAL_eq he]
    exact told_of ext0 qp134_3_run
  cases h
theorem g199_ok {ts : List AV} {v : AV} (h : g199 ts = some v) : Told 199 ts v := by
  unfold g199 at h
  split at h
  · rename_i he
    obtain rfl := Option.some.inj h
    rw [eqAL_eq he]
    exact told_of ext0 qp199_0_run
  split at h
  · rename_i he
    obtain rfl := Option.some.inj h
    rw [eqAL_eq he]
    exact told_of ext0 qp199_1_run
  split at h
  · rename_i he
    obtain rfl := Option.some.inj h
    rw [eqAL_eq he]
    exact told_of ext0 qp199_2_run
  split at h
  · rename_i he
    obtain rfl := Option.some.inj h
    rw [eqAL_eq he]
    exact told_of ext0 qp199_3_run
  cases h
theorem ext1 : ExtOK (bS e1 hN) Tryz.prog := by
  refine ⟨?_, fun f g h => by cases h⟩
  intro f g h
  replace h : e1 f = some g := h
  unfold e1 at h
  split at h
  · rename_i hf
    obtain rfl := Nat.eq_of_beq_eq_true hf
    obtain rfl := Option.some.inj h
    exact ⟨⟨_, Tryz.func44, rfl, of_decide_eq_true (by kernel_rfl)⟩, fun ts v hv E xs hr hx => g44_ok hv e1 hN E xs hr hx⟩
  split at h
  · rename_i hf
    obtain rfl := Nat.eq_of_beq_eq_true hf
    obtain rfl := Option.some.inj h
    exact ⟨⟨_, Tryz.func206, rfl, of_decide_eq_true (by kernel_rfl)⟩, fun ts v hv E xs hr hx => g206_ok hv e1 hN E xs hr hx⟩
  split at h
  · rename_i hf
    obtain rfl := Nat.eq_of_beq_eq_true hf
    obtain rfl := Option.some.inj h
    exact ⟨⟨_, Tryz.func363, rfl, of_decide_eq_true (by kernel_rfl)⟩, fun ts v hv E xs hr hx => g363_ok hv e1 hN E xs hr hx⟩
  split at h
  · rename_i hf
    obtain rfl := Nat.eq_of_beq_eq_true hf
    obtain rfl := Option.some.inj h
    exact ⟨⟨_, Tryz.func342, rfl, of_decide_eq_true (by kernel_rfl)⟩, fun ts v hv E xs hr hx => g342_ok hv e1 hN E xs hr hx⟩
  split at h
  · rename_i hf
    obtain rfl := Nat.eq_of_beq_eq_true hf
    obtain rfl := Option.some.inj h
    exact ⟨⟨_, Tryz.func131, rfl, of_decide_eq_true (by kernel_rfl)⟩, fun ts v hv E xs hr hx => g131_ok hv e1 hN E xs hr hx⟩
  split at h
  · rename_i hf
    obtain rfl := Nat.eq_of_beq_eq_true hf
    obtain rfl := Option.some.inj h
    exact ⟨⟨_, Tryz.func134, rfl, of_decide_eq_true (by kernel_rfl)⟩, fun ts v hv E xs hr hx => g134_ok hv e1 hN E xs hr hx⟩
  split at h
  · rename_i hf
    obtain rfl := Nat.eq_of_beq_eq_true hf
    obtain rfl := Option.some.inj h
    exact ⟨⟨_, Tryz.func199, rfl, of_decide_eq_true (by kernel_rfl)⟩, fun ts v hv E xs hr hx => g199_ok hv e1 hN E xs hr hx⟩
  obtain ⟨h1, h2⟩ := ext0.val f g h
  exact ⟨h1, fun ts v hv E xs hr hx => h2 ts v hv E xs ⟨hr.h, hr.g, hr.x⟩ hx⟩
end Go.Proofs.YtedhpikmkoemhaaGreat

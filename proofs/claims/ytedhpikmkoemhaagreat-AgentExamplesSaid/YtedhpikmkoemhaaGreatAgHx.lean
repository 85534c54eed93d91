/- Calls with objects told ahead: their soundness. -/
import Derived.Test.YtedhpikmkoemhaaGreatAgE4
import Derived.Test.YtedhpikmkoemhaaGreatAgHa
import Derived.Test.YtedhpikmkoemhaaGreatAgHb
import Derived.Test.YtedhpikmkoemhaaGreatAgHc
import Derived.Test.YtedhpikmkoemhaaGreatAgHd
import Derived.Test.YtedhpikmkoemhaaGreatAgHe
import Derived.Test.YtedhpikmkoemhaaGreatAgHf
import Derived.Test.YtedhpikmkoemhaaGreatAgHg
import Derived.Test.YtedhpikmkoemhaaGreatAgHh
set_option maxRecDepth 100000
set_option linter.unusedSimpArgs false
set_option linter.unusedVariables false
namespace Go.Proofs.YtedhpikmkoemhaaGreat
open Go.Sx Go.RowKit
theorem gh8_ok {ts : List AV} {H : AH} {v : AV} {H' : AH} (h : gh8 ts H = some (v, H')) : ToldH 8 ts H v H' := by
  unfold gh8 at h
  split at h
  · rename_i he
    simp only [Option.some.injEq, Prod.mk.injEq] at h
    obtain ⟨rfl, rfl⟩ := h
    simp only [Bool.and_eq_true] at he
    rw [eqAL_eq he.1, eqH_eq he.2]
    exact toldH_of ext4 qc8_0_run
  split at h
  · rename_i he
    simp only [Option.some.injEq, Prod.mk.injEq] at h
    obtain ⟨rfl, rfl⟩ := h
    simp only [Bool.and_eq_true] at he
    rw [eqAL_eq he.1, eqH_eq he.2]
    exact toldH_of ext4 qc8_1_run
  split at h
  · rename_i he
    simp only [Option.some.injEq, Prod.mk.injEq] at h
    obtain ⟨rfl, rfl⟩ := h
    simp only [Bool.and_eq_true] at he
    rw [eqAL_eq he.1, eqH_eq he.2]
    exact toldH_of ext4 qc8_2_run
  split at h
  · rename_i he
    simp only [Option.some.injEq, Prod.mk.injEq] at h
    obtain ⟨rfl, rfl⟩ := h
    simp only [Bool.and_eq_true] at he
    rw [eqAL_eq he.1, eqH_eq he.2]
    exact toldH_of ext4 qc8_3_run
  split at h
  · rename_i he
    simp only [Option.some.injEq, Prod.mk.injEq] at h
    obtain ⟨rfl, rfl⟩ := h
    simp only [Bool.and_eq_true] at he
    rw [eqAL_eq he.1, eqH_eq he.2]
    exact toldH_of ext4 qc8_4_run
  cases h
theorem gh10_ok {ts : List AV} {H : AH} {v : AV} {H' : AH} (h : gh10 ts H = some (v, H')) : ToldH 10 ts H v H' := by
  unfold gh10 at h
  split at h
  · rename_i he
    simp only [Option.some.injEq, Prod.mk.injEq] at h
    obtain ⟨rfl, rfl⟩ := h
    simp only [Bool.and_eq_true] at he
    rw [eqAL_eq he.1, eqH_eq he.2]
    exact toldH_of ext4 qc10_0_run
  split at h
  · rename_i he
    simp only [Option.some.injEq, Prod.mk.injEq] at h
    obtain ⟨rfl, rfl⟩ := h
    simp only [Bool.and_eq_true] at he
    rw [eqAL_eq he.1, eqH_eq he.2]
    exact toldH_of ext4 qc10_1_run
  split at h
  · rename_i he
    simp only [Option.some.injEq, Prod.mk.injEq] at h
    obtain ⟨rfl, rfl⟩ := h
    simp only [Bool.and_eq_true] at he
    rw [eqAL_eq he.1, eqH_eq he.2]
    exact toldH_of ext4 qc10_2_run
  split at h
  · rename_i he
    simp only [Option.some.injEq, Prod.mk.injEq] at h
    obtain ⟨rfl, rfl⟩ := h
    simp only [Bool.and_eq_true] at he
    rw [eqAL_eq he.1, eqH_eq he.2]
    exact toldH_of ext4 qc10_3_run
  split at h
  · rename_i he
    simp only [Option.some.injEq, Prod.mk.injEq] at h
    obtain ⟨rfl, rfl⟩ := h
    simp only [Bool.and_eq_true] at he
    rw [eqAL_eq he.1, eqH_eq he.2]
    exact toldH_of ext4 qc10_4_run
  split at h
  · rename_i he
    simp only [Option.some.injEq, Prod.mk.injEq] at h
    obtain ⟨rfl, rfl⟩ := h
    simp only [Bool.and_eq_true] at he
    rw [eqAL_eq he.1, eqH_eq he.2]
    exact toldH_of ext4 qc10_5_run
  split at h
  · rename_i he
    simp only [Option.some.injEq, Prod.mk.injEq] at h
    obtain ⟨rfl, rfl⟩ := h
    simp only [Bool.and_eq_true] at he
    rw [eqAL_eq he.1, eqH_eq he.2]
    exact toldH_of ext4 qc10_6_run
  cases h
theorem gh11_ok {ts : List AV} {H : AH} {v : AV} {H' : AH} (h : gh11 ts H = some (v, H')) : ToldH 11 ts H v H' := by
  unfold gh11 at h
  split at h
  · rename_i he
    simp only [Option.some.injEq, Prod.mk.injEq] at h
    obtain ⟨rfl, rfl⟩ := h
    simp only [Bool.and_eq_true] at he
    rw [eqAL_eq he.1, eqH_eq he.2]
    exact toldH_of ext4 qc11_0_run
  split at h
  · rename_i he
    simp only [Option.some.injEq, Prod.mk.injEq] at h
    obtain ⟨rfl, rfl⟩ := h
    simp only [Bool.and_eq_true] at he
    rw [eqAL_eq he.1, eqH_eq he.2]
    exact toldH_of ext4 qc11_1_run
  split at h
  · rename_i he
    simp only [Option.some.injEq, Prod.mk.injEq] at h
    obtain ⟨rfl, rfl⟩ := h
    simp only [Bool.and_eq_true] at he
    rw [eqAL_eq he.1, eqH_eq he.2]
    exact toldH_of ext4 qc11_2_run
  split at h
  · rename_i he
    simp only [Option.some.injEq, Prod.mk.injEq] at h
    obtain ⟨rfl, rfl⟩ := h
    simp only [Bool.and_eq_true] at he
    rw [eqAL_eq he.1, eqH_eq he.2]
    exact toldH_of ext4 qc11_3_run
  split at h
  · rename_i he
    simp only [Option.some.injEq, Prod.mk.injEq] at h
    obtain ⟨rfl, rfl⟩ := h
    simp only [Bool.and_eq_true] at he
    rw [eqAL_eq he.1, eqH_eq he.2]
    exact toldH_of ext4 qc11_4_run
  split at h
  · rename_i he
    simp only [Option.some.injEq, Prod.mk.injEq] at h
    obtain ⟨rfl, rfl⟩ := h
    simp only [Bool.and_eq_true] at he
    rw [eqAL_eq he.1, eqH_eq he.2]
    exact toldH_of ext4 qc11_5_run
  split at h
  · rename_i he
    simp only [Option.some.injEq, Prod.mk.injEq] at h
    obtain ⟨rfl, rfl⟩ := h
    simp only [Bool.and_eq_true] at he
    rw [eqAL_eq he.1, eqH_eq he.2]
    exact toldH_of ext4 qc11_6_run
  cases h
theorem gh17_ok {ts : List AV} {H : AH} {v : AV} {H' : AH} (h : gh17 ts H = some (v, H')) : ToldH 17 ts H v H' := by
  unfold gh17 at h
  split at h
  · rename_i he
    simp only [Option.some.injEq, Prod.mk.injEq] at h
    obtain ⟨rfl, rfl⟩ := h
    simp only [Bool.and_eq_true] at he
    rw [eqAL_eq he.1, eqH_eq he.2]
    exact toldH_of ext4 qc17_0_run
  split at h
  · rename_i he
    simp only [Option.some.injEq, Prod.mk.injEq] at h
    obtain ⟨rfl, rfl⟩ := h
    simp only [Bool.and_eq_true] at he
    rw [eqAL_eq he.1, eqH_eq he.2]
    exact toldH_of ext4 qc17_1_run
  split at h
  · rename_i he
    simp only [Option.some.injEq, Prod.mk.injEq] at h
    obtain ⟨rfl, rfl⟩ := h
    simp only [Bool.and_eq_true] at he
    rw [eqAL_eq he.1, eqH_eq he.2]
    exact toldH_of ext4 qc17_2_run
  split at h
  · rename_i he
    simp only [Option.some.injEq, Prod.mk.injEq] at h
    obtain ⟨rfl, rfl⟩ := h
    simp only [Bool.and_eq_true] at he
    rw [eqAL_eq he.1, eqH_eq he.2]
    exact toldH_of ext4 qc17_3_run
  cases h
theorem extX : ExtOK (bS e4 hX) Tryz.prog := by
  refine ⟨fun f g h => ?_, ?_⟩
  · obtain ⟨h1, h2⟩ := ext4.val f g h
    exact ⟨h1, fun ts v hv E xs hr hx => h2 ts v hv E xs ⟨hr.h, hr.g, hr.x⟩ hx⟩
  intro f g h args H v H' hv E xs hr hx
  replace h : hX f = some g := h
  unfold hX at h
  split at h
  · rename_i hf
    obtain rfl := Nat.eq_of_beq_eq_true hf
    obtain rfl := Option.some.inj h
    exact gh8_ok hv e4 hX E xs hr hx
  split at h
  · rename_i hf
    obtain rfl := Nat.eq_of_beq_eq_true hf
    obtain rfl := Option.some.inj h
    exact gh10_ok hv e4 hX E xs hr hx
  split at h
  · rename_i hf
    obtain rfl := Nat.eq_of_beq_eq_true hf
    obtain rfl := Option.some.inj h
    exact gh11_ok hv e4 hX E xs hr hx
  split at h
  · rename_i hf
    obtain rfl := Nat.eq_of_beq_eq_true hf
    obtain rfl := Option.some.inj h
    exact gh17_ok hv e4 hX E xs hr hx
  cases h
end Go.Proofs.YtedhpikmkoemhaaGreat

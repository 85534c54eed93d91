/- Contracts: Premise, Gone, Few, Short; the law of Wider. -/
import Derived.Test.YtoagnbpmoihojaaFenGone2
set_option maxRecDepth 100000
set_option linter.unusedSimpArgs false
set_option linter.unusedVariables false
namespace Go.Proofs.Ytoagnbpmoihojaa
open Go.Sx
noncomputable def shB : Code := subC (bodyOf Try.f6) [1, 1, 0, 1, 0, 0]
theorem sh_pre {R : Type} (fuel : Nat) (l : AV) (K : AV → AH → Option R) : runI Try.D (cF fuel) fuel Try.f6 [l] ⟨[], []⟩ K = br (AV.listN 14 l) (fun _ => br (decide ((↑l.listOf.length : Int) > (40 : Int))) (fun _ => K (.bool false) ⟨[], []⟩) (fun _ => loopC Try.D (cF fuel) fuel shB fuel [l, .top, .bool false, .int .i64 (0 : Int), l, .int .i64 (↑l.listOf.length : Int), .bool (decide ((↑l.listOf.length : Int) > (40 : Int))), .top, .top, .top, .top, .top, .top, .top, .top, .top, .top, .top, .top, .top, .top, .top, .top, .top, .top, .top, .top, .top, .top, .top, .top, .top, .top, .top, .top, .top, .top, .top, .top, .top, .top, .top, .top, .top, .top, .top, .top, .top, .top, .top, .top, .top, .top, .top, .top, .top] ⟨[], []⟩ (kontI Try.D (cF fuel) fuel (bodyOf Try.f6) [1, 1, 0, 1, 0] (endI Try.D Try.f6 K)))) (fun _ => none) := by kernel_rfl
theorem mem_sum : ∀ {l : List Nat} {n : Nat}, n ∈ l → n ≤ l.sum
  | a :: l, n, h => by
    rw [List.sum_cons]
    rcases List.mem_cons.1 h with rfl | h
    · omega
    · have := mem_sum h; omega
def fuelF (l : AV) : Nat := l.listOf.length + 1 + (l.listOf.map fun u => (shS Sh.any (hdV (tlV (tlV (tlV (tlV (tlV (tlV (tlV (tlV (tlV u.aggOf))))))))))).listOf.length).sum
theorem fuelF_p {l u : AV} (h : u ∈ l.listOf) : (shS Sh.any (hdV (tlV (tlV (tlV (tlV (tlV (tlV (tlV (tlV (tlV u.aggOf))))))))))).listOf.length < fuelF l := by
  have := mem_sum (List.mem_map_of_mem (f := fun u => (shS Sh.any (hdV (tlV (tlV (tlV (tlV (tlV (tlV (tlV (tlV (tlV u.aggOf))))))))))).listOf.length) h)
  unfold fuelF
  omega

theorem num0 {c0 c1 c2 c3 c4 c5 c6 c7 c8 c9 c10 : Int} {l : AV} {d r : Int} (h : numE c0 c1 c2 c3 c4 c5 c6 c7 c8 c9 c10 l d r = 0) : cfgOK c0 c1 c2 c3 c4 c5 c6 c7 c8 c9 c10 ∧ l.listOf.length ≠ 0 ∧ ordE 0 (mosOf l) = 0 ∧ (0 ≤ d ∧ d ≤ 1099511627776) ∧ (0 ≤ r ∧ r ≤ 1099511627776) := by
  unfold numE at h
  split at h
  · rename_i h1
    split at h
    · rename_i h2
      unfold ckE at h1
      split at h1
      · rename_i h3
        split at h1
        · cases h1
        · rename_i h4
          exact ⟨h3, h4, h1, ⟨h2.1, h2.2.1⟩, ⟨h2.2.2.1, h2.2.2.2⟩⟩
      · cases h1
    · cases h
  · rename_i h1
    exact absurd h h1

noncomputable def preB (c0 c1 c2 c3 c4 c5 c6 c7 c8 c9 c10 : Int) (l : AV) (d r : Int) : Bool := if numE c0 c1 c2 c3 c4 c5 c6 c7 c8 c9 c10 l d r = 0 then prem c8 d r true 0 0 true (mosOf l) else false
noncomputable def gonB (c0 c1 c2 c3 c4 c5 c6 c7 c8 c9 c10 : Int) (l : AV) (d r : Int) : Bool := if numE c0 c1 c2 c3 c4 c5 c6 c7 c8 c9 c10 l d r = 0 then gone c8 c9 d r true 0 0 true (mosOf l) else false
theorem numE_erase {c0 c1 c2 c3 c4 c5 c6 c7 c8 c9 c10 : Int} {l : AV} {d r : Int} (hl : tyV (.sl 14 dtMom) l) : numE c0 c1 c2 c3 c4 c5 c6 c7 c8 c9 c10 (erase l) d r = numE c0 c1 c2 c3 c4 c5 c6 c7 c8 c9 c10 l d r := by unfold numE ckE; rw [mosOf_erase hl, listOf_erase hl, List.length_map]

theorem run8 {c0 c1 c2 c3 c4 c5 c6 c7 c8 c9 c10 : Int} {l : AV} {d r : Int} (hc : tyV dtCfg (.agg (cfC c0 c1 c2 c3 c4 c5 c6 c7 c8 c9 c10))) (hl : tyV (.sl 14 dtMom) l) (hd : (Lit.int .i64 d).wf = true) (hr : (Lit.int .i64 r).wf = true) : runI Try.D (cF (fuelF l)) (fuelF l) Try.f8 [.agg (cfC c0 c1 c2 c3 c4 c5 c6 c7 c8 c9 c10), .int .i64 d, .int .i64 r, l] ⟨[], []⟩ (fun v _ => some v) = some (.tuple [.bool (preB c0 c1 c2 c3 c4 c5 c6 c7 c8 c9 c10 l d r), .int .i64 (numE c0 c1 c2 c3 c4 c5 c6 c7 c8 c9 c10 l d r)]) := by
  have hk := fun H => valH_of (k26 c0 c1 c2 c3 c4 c5 c6 c7 c8 c9 c10 hc hl hd hr H)
  rw [p_pre, hk]
  unfold preB
  simp only [fitS, AV.numOf, br, decide_true]
  by_cases h : numE c0 c1 c2 c3 c4 c5 c6 c7 c8 c9 c10 l d r = 0
  · obtain ⟨h1, h2, h3, h4, h5⟩ := num0 h
    rw [if_pos h, h]
    simp only [bne_self_eq_false, (sl_facts hl).1, (sl_facts hl).2.2.2.2]
    have hok := ordE_ok (mosOf l) 0 (by omega) h3
    have := p_loop (fuelF l) c0 c1 c2 c3 c4 c5 c6 c7 c8 c9 c10 hl hc ⟨h1.2.2.2.2.2.2.2.2.1.1, h1.2.2.2.2.2.2.2.2.1.2⟩ hok d r 0 l.listOf.length 0 (fuelF l) 0 0 0 true rfl (by omega) (by unfold fuelF; omega) ⟨by omega, by omega⟩ ⟨by omega, by omega⟩
    rw [List.drop_zero] at this
    exact this
  · rw [if_neg h]
    have : (numE c0 c1 c2 c3 c4 c5 c6 c7 c8 c9 c10 l d r != Int.ofNat 0) = true := by rw [bne_iff_ne]; exact h
    rw [this]

theorem run10 {c0 c1 c2 c3 c4 c5 c6 c7 c8 c9 c10 : Int} {l : AV} {d r : Int} (hc : tyV dtCfg (.agg (cfC c0 c1 c2 c3 c4 c5 c6 c7 c8 c9 c10))) (hl : tyV (.sl 14 dtMom) l) (hd : (Lit.int .i64 d).wf = true) (hr : (Lit.int .i64 r).wf = true) : runI Try.D (cF (fuelF l)) (fuelF l) Try.f10 [.agg (cfC c0 c1 c2 c3 c4 c5 c6 c7 c8 c9 c10), .int .i64 d, .int .i64 r, l] ⟨[], []⟩ (fun v _ => some v) = some (.tuple [.bool (gonB c0 c1 c2 c3 c4 c5 c6 c7 c8 c9 c10 l d r), .int .i64 (numE c0 c1 c2 c3 c4 c5 c6 c7 c8 c9 c10 l d r)]) := by
  have hk := fun H => valH_of (k26 c0 c1 c2 c3 c4 c5 c6 c7 c8 c9 c10 hc hl hd hr H)
  rw [g_pre, hk]
  unfold gonB
  simp only [fitS, AV.numOf, br, decide_true]
  by_cases h : numE c0 c1 c2 c3 c4 c5 c6 c7 c8 c9 c10 l d r = 0
  · obtain ⟨h1, h2, h3, h4, h5⟩ := num0 h
    rw [if_pos h, h]
    simp only [bne_self_eq_false, (sl_facts hl).1, (sl_facts hl).2.2.2.2]
    have hok := ordE_ok (mosOf l) 0 (by omega) h3
    have := g_loop (fuelF l) c0 c1 c2 c3 c4 c5 c6 c7 c8 c9 c10 hl hc ⟨h1.2.2.2.2.2.2.2.2.1.1, h1.2.2.2.2.2.2.2.2.1.2⟩ ⟨h1.2.2.2.2.2.2.2.2.2.1.1, h1.2.2.2.2.2.2.2.2.2.1.2⟩ hok (fun u hu => fuelF_p hu) d r 0 h4 h5 l.listOf.length 0 (fuelF l) 0 0 0 true rfl (by omega) (by unfold fuelF; omega) ⟨by omega, by omega⟩ ⟨by omega, by omega⟩
    rw [List.drop_zero] at this
    exact this
  · rw [if_neg h]
    have : (numE c0 c1 c2 c3 c4 c5 c6 c7 c8 c9 c10 l d r != Int.ofNat 0) = true := by rw [bne_iff_ne]; exact h
    rw [this]

theorem k8 {c0 c1 c2 c3 c4 c5 c6 c7 c8 c9 c10 : Int} {l : AV} {d r : Int} (hc : tyV dtCfg (.agg (cfC c0 c1 c2 c3 c4 c5 c6 c7 c8 c9 c10))) (hl : tyV (.sl 14 dtMom) l) (hd : (Lit.int .i64 d).wf = true) (hr : (Lit.int .i64 r).wf = true) (H : AH) : callL Try.D 8 [.agg (cfC c0 c1 c2 c3 c4 c5 c6 c7 c8 c9 c10), .int .i64 d, .int .i64 r, l] H = some (.tuple [.bool (preB c0 c1 c2 c3 c4 c5 c6 c7 c8 c9 c10 l d r), .int .i64 (numE c0 c1 c2 c3 c4 c5 c6 c7 c8 c9 c10 l d r)], H) := by
  have he : preB c0 c1 c2 c3 c4 c5 c6 c7 c8 c9 c10 (erase l) d r = preB c0 c1 c2 c3 c4 c5 c6 c7 c8 c9 c10 l d r := by unfold preB; rw [numE_erase hl, mosOf_erase hl]
  rw [← he, ← numE_erase hl]
  exact callL_D tabF_ok (fuel := fuelF (erase l)) (n := 6) (fn := Try.f8) (ds := [dtCfg, dtI, dtI, .sl 14 dtMom]) (v := .tuple [.bool (preB c0 c1 c2 c3 c4 c5 c6 c7 c8 c9 c10 (erase l) d r), .int .i64 (numE c0 c1 c2 c3 c4 c5 c6 c7 c8 c9 c10 (erase l) d r)]) (by kernel_rfl) (by kernel_rfl) (by kernel_rfl) ⟨hc, ty_i hd, ty_i hr, hl, trivial⟩ (run8 hc (tyV_erase hl) hd hr) rfl
theorem k10 {c0 c1 c2 c3 c4 c5 c6 c7 c8 c9 c10 : Int} {l : AV} {d r : Int} (hc : tyV dtCfg (.agg (cfC c0 c1 c2 c3 c4 c5 c6 c7 c8 c9 c10))) (hl : tyV (.sl 14 dtMom) l) (hd : (Lit.int .i64 d).wf = true) (hr : (Lit.int .i64 r).wf = true) (H : AH) : callL Try.D 10 [.agg (cfC c0 c1 c2 c3 c4 c5 c6 c7 c8 c9 c10), .int .i64 d, .int .i64 r, l] H = some (.tuple [.bool (gonB c0 c1 c2 c3 c4 c5 c6 c7 c8 c9 c10 l d r), .int .i64 (numE c0 c1 c2 c3 c4 c5 c6 c7 c8 c9 c10 l d r)], H) := by
  have he : gonB c0 c1 c2 c3 c4 c5 c6 c7 c8 c9 c10 (erase l) d r = gonB c0 c1 c2 c3 c4 c5 c6 c7 c8 c9 c10 l d r := by unfold gonB; rw [numE_erase hl, mosOf_erase hl]
  rw [← he, ← numE_erase hl]
  exact callL_D tabF_ok (fuel := fuelF (erase l)) (n := 6) (fn := Try.f10) (ds := [dtCfg, dtI, dtI, .sl 14 dtMom]) (v := .tuple [.bool (gonB c0 c1 c2 c3 c4 c5 c6 c7 c8 c9 c10 (erase l) d r), .int .i64 (numE c0 c1 c2 c3 c4 c5 c6 c7 c8 c9 c10 (erase l) d r)]) (by kernel_rfl) (by kernel_rfl) (by kernel_rfl) ⟨hc, ty_i hd, ty_i hr, hl, trivial⟩ (run10 hc (tyV_erase hl) hd hr) rfl
theorem k9 (H : AH) : callL Try.D 9 [] H = some (.bool true, H) := callL_I (noTab_ok _) (fuel := 12) (n := 8) (by kernel_rfl)
end Go.Proofs.Ytoagnbpmoihojaa

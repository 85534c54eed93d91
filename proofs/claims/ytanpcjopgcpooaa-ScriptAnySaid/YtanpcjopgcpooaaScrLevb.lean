/- What an allocation asks for: what is read. -/
import Derived.Test.YtanpcjopgcpooaaScrSpec
set_option maxRecDepth 100000
set_option linter.unusedSimpArgs false
set_option linter.unusedVariables false
namespace Go.Proofs.Ytanpcjopgcpooaa
open Go.Sx
def tail5 (l : List UInt8) : List UInt8 := l.tail.tail.tail.tail.tail
def specPorts (l : List UInt8) : AV := if takeV l 3 > 0 then .inl true .zero 1 [.int .i64 (79 + takeV l 3)] else .nils
def specTasks (l : List UInt8) : List AV := if takeV l 2 = 0 then [.agg (taskL l.tail)] else [.agg (taskL l.tail), .agg (taskL (tail6 l.tail))]
def specL (l : List UInt8) : List AV := [.int .i64 (takeV l 3), .int .i64 (1 + takeV l.tail 6), .int .i64 (1 + takeV l.tail.tail 6), .int .i64 (1 + takeV l.tail.tail.tail 6), specPorts l.tail.tail.tail.tail, .inl true .unk 6 (specTasks (tail5 l))]
def specR (l : List UInt8) : List UInt8 := if takeV (tail5 l) 2 = 0 then tail6 (tail5 l).tail else tail6 (tail6 (tail5 l).tail)
theorem cases2 {x : Int} (h : 0 ≤ x ∧ x < 2) : x = 0 ∨ x = 1 := by omega
theorem spec_go (l : List UInt8) : ∃ u os tk, runI (TS h2) (cB 3 2) 3 Try.f102 [.ptr 0 0] (rdH l) some = some (.val u ⟨.cells [.str (specR l)] :: os, tk⟩) ∧ detok u = .agg (specL l) := by
  rw [spec_form]
  simp (disch := decide) only [wt_add, wt_add2, wt_in, sameO_self]
  rcases cases2 (takeV_in l.tail.tail.tail.tail.tail 2 (by omega)) with h | h
  all_goals
    by_cases hp : takeV l.tail.tail.tail.tail 3 > 0
    all_goals
      simp only [h, hp, specL, specPorts, specTasks, specR, taskL, tail5, tail6, br, decide_true, decide_false, if_true, if_false, Int.reduceAdd, Int.reduceLT, Int.reduceEq]
      exact ⟨_, _, _, rfl, rfl⟩
def placeL (l : List UInt8) : List AV := [.int .u8 1, .int .i64 (takeV l 3)] ++ specL l.tail ++ [.int .i64 0]
end Go.Proofs.Ytanpcjopgcpooaa
set_option maxRecDepth 100000
set_option linter.unusedSimpArgs false
set_option linter.unusedVariables false
namespace Go.Proofs.Ytanpcjopgcpooaa
open Go.Sx
theorem cells_below (l : List UInt8) : belowL 0 0 (specL l) = true ∧ belowL 1 0 (specL l) = true := by
  unfold specL specPorts specTasks
  split <;> split <;> exact ⟨rfl, rfl⟩
noncomputable def h3 : HT := fun f => match Nat.beq f 102, false with
  | true, _ => some (readH (mkC (fun l => .agg (specL l)) specR))
  | _, true => some (readH (mkC (fun l => .agg (placeL l)) fun l => specR l.tail))
  | _, _ => h2 f
theorem spec_call (l : List UInt8) : RdOK (TS h2) 102 l [] (.agg (specL l)) (specR l) := by
  obtain ⟨u, os, tk, h, hu⟩ := spec_go l
  have hb := cells_below l
  exact callL_rd (fuel := 3) (n := 2) noTab_ok rfl rfl rfl rfl h hu (by simpa only [below] using hb.2) (by simpa only [below] using hb.1)
theorem h2.all {h : HT} : ∀ f g, h2 f = some g → ∀ args H v H', g args H = some (v, H') → ∀ E xs, Rel (TS h) H E → VRelL E args xs → Calls Try.prog f xs E.w fun e w' => ∃ x E', e = .returned x ∧ E'.w = w' ∧ E.le E' ∧ HRel H' E' ∧ VRel E' v x := by
  intro f g hg args H v H' hv E xs hr hx
  exact h2.ext.obj f g hg args H v H' hv E xs ⟨hr.h, hr.g, hr.x⟩ hx
theorem h3.ext : ExtOK (TS h3) Try.prog := TS.ext (by
  intro f g h
  unfold h3 at h
  split at h
  · rename_i hf
    obtain rfl := Option.some.inj h
    obtain rfl := Nat.eq_of_beq_eq_true hf
    exact mkC_reads h2.ext spec_call
  · rename_i hf _
    cases hf
  · exact h2.all f g h)
noncomputable abbrev cV (fuel n : Nat) : CallI := callI (TS h3) tabVar fuel n
end Go.Proofs.Ytanpcjopgcpooaa

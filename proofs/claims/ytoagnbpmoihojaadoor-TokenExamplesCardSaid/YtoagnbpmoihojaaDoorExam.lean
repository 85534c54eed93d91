/- TokenExamples: its laws hold whatever the input, so at its examples. -/
import Derived.Test.YtoagnbpmoihojaaDoorReads
import Derived.Test.YtoagnbpmoihojaaDoorMatch
import Derived.Test.YtoagnbpmoihojaaDoorWorld
import Derived.Test.YtoagnbpmoihojaaDoorEh
set_option maxRecDepth 100000
set_option linter.unusedSimpArgs false
set_option linter.unusedVariables false
namespace Go.Proofs.YtoagnbpmoihojaaDoor
open Go.Sx

def extE (f : FuncId) : Option (List AV → Option AV) := match Nat.beq f 9, Nat.beq f 10, Nat.beq f 35 with
  | true, _, _ => some fun ts => match ts with
    | [.agg [.int .i64 _, .int .i64 _, .int .i64 _], .agg [.int .i64 _, .int .i64 _, .int .i64 _]] => some (.bool true)
    | _ => none
  | _, true, _ => some fun ts => match ts with
    | [.str _] => some (.bool true)
    | _ => none
  | _, _, true => some fun ts => match ts with
    | [] => some (.bool true)
    | _ => none
  | _, _, _ => none

noncomputable def Tryd.S2 (m : Array Value) : Go.Sx.Sys := tabS Tryd.types_ Tryd.funcs_ .nil Tryd.pure_ Tryd.objs_ extE 100000 [(0, powVals), (1, m)]
theorem Tryd.ok2 (m : Array Value) : SysOK (Tryd.S2 m) Tryd.prog := tab_ok Tryd.types_ok Tryd.funcs_ok trivial

theorem from_law (m : Array Value) (hmx : ∃ k, m[0]? = some (.int .i64 k)) {f : FuncId} {ts : List AV} (h : callL (Tryd.S m) f ts ⟨[], []⟩ = some (.bool true, ⟨[], []⟩)) {E : GE} {xs : Array Value} (hr : Rel (Tryd.S2 m) ⟨[], []⟩ E) (hx : VRelL E ts xs) :
    Calls Tryd.prog f xs E.w fun e w' => ∃ x E' H', e = .returned x ∧ E'.w = w' ∧ E.le E' ∧ HRel H' E' ∧ VRel E' (.bool true) x := by
  obtain ⟨n, hn⟩ := callL_fuel h
  have hr' : Rel (Tryd.S m) ⟨[], []⟩ E := ⟨hr.h, hr.g, hr.x⟩
  refine (((call_sound (Tryd.ok m) (Tryd.extOK m hmx) Tryd.mixed n).fn f ts ⟨[], []⟩ (.bool true) _ hn).2 E xs hr' hx).mono ?_
  rintro e w' ⟨x, E', h1, h2, h3, h4, h5⟩
  exact ⟨x, E', _, h1, h2, h3, h4.h, h5⟩

theorem Tryd.extOK2 (m : Array Value) (hmx : ∃ k, m[0]? = some (.int .i64 k)) : ExtOK (Tryd.S2 m) Tryd.prog := by
  intro f g h
  replace h : extE f = some g := h
  unfold extE at h
  split at h
  · have hf : f = 9 := Nat.eq_of_beq_eq_true ‹Nat.beq f 9 = true›
    subst hf
    obtain rfl := Option.some.inj h
    refine ⟨⟨_, Tryd.func9, rfl, of_decide_eq_true (by kernel_rfl)⟩, ?_⟩
    intro ts v hv E xs hr hx
    simp only at hv
    split at hv
    · obtain rfl := Option.some.inj hv
      exact from_law m hmx (matches_law m _ _ _ _ _ _ _) hr hx
    · cases hv
  · have hf : f = 10 := Nat.eq_of_beq_eq_true ‹Nat.beq f 10 = true›
    subst hf
    obtain rfl := Option.some.inj h
    refine ⟨⟨_, Tryd.func10, rfl, of_decide_eq_true (by kernel_rfl)⟩, ?_⟩
    intro ts v hv E xs hr hx
    simp only at hv
    split at hv
    · obtain rfl := Option.some.inj hv
      exact from_law m hmx (reads_law m _ _) hr hx
    · cases hv
  · have hf : f = 35 := Nat.eq_of_beq_eq_true ‹Nat.beq f 35 = true›
    subst hf
    obtain rfl := Option.some.inj h
    refine ⟨⟨_, Tryd.func35, rfl, of_decide_eq_true (by kernel_rfl)⟩, ?_⟩
    intro ts v hv E xs hr hx
    simp only at hv
    split at hv
    · obtain rfl := Option.some.inj hv
      exact from_law m hmx (awake35 m _) hr hx
    · cases hv
  · cases h

theorem exam_run (m : Array Value) : tellsTrue (callE (Tryd.S2 m) 30 11 [] ⟨[], []⟩) = true := by kernel_rfl

theorem exam_calls {m : Array Value} (hmx : ∃ k, m[0]? = some (.int .i64 k)) {W : World} (hfx : ∀ p, p ∈ (Tryd.S m).fixed → Fixed (GE.start W) p) {xs : Array Value} (hx : VRelL (GE.start W) [] xs) :
    Calls Tryd.prog 11 xs W fun e W' => e = .returned (.bool true) ∧ RowKit.Below W.heap.size W W' := by
  obtain ⟨H', h⟩ := tells_true (exam_run m)
  exact calls_true (Tryd.ok2 m) (Tryd.extOK2 m hmx) Tryd.mixed h (fun n => .top _) hfx hx
end Go.Proofs.YtoagnbpmoihojaaDoor

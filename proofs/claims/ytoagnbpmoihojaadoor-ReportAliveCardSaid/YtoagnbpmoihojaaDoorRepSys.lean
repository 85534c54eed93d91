/- The engine's tables for the report statements: written by a program of ours. -/
import Derived.Test.YtoagnbpmoihojaaDoorExt
import Derived.Test.YtoagnbpmoihojaaDoorEi
import Derived.Test.YtoagnbpmoihojaaDoorEj
import Derived.Test.YtoagnbpmoihojaaDoorRepBld
set_option maxRecDepth 100000
namespace Go.Proofs.YtoagnbpmoihojaaDoor
open Go.Sx

noncomputable def Rep.funcs_ : Tr Func := (.node 39 Tryd.f39 (.node 19 Tryd.f19 (.node 8 Tryd.f8 (.node 5 Tryd.f5 (.node 4 Tryd.f4 (.node 3 Tryd.f3 .nil .nil) .nil) (.node 7 Tryd.f7 (.node 6 Tryd.f6 .nil .nil) .nil)) (.node 17 Tryd.f17 (.node 16 Tryd.f16 (.node 15 Tryd.f15 .nil .nil) .nil) (.node 18 Tryd.f18 .nil .nil))) (.node 25 Tryd.f25 (.node 22 Tryd.f22 (.node 21 Tryd.f21 (.node 20 Tryd.f20 .nil .nil) .nil) (.node 24 Tryd.f24 (.node 23 Tryd.f23 .nil .nil) .nil)) (.node 28 Tryd.f28 (.node 27 Tryd.f27 (.node 26 Tryd.f26 .nil .nil) .nil) (.node 38 Tryd.f38 .nil .nil)))) (.node 59 Tryd.f59 (.node 46 Tryd.f46 (.node 43 Tryd.f43 (.node 41 Tryd.f41 (.node 40 Tryd.f40 .nil .nil) .nil) (.node 45 Tryd.f45 (.node 44 Tryd.f44 .nil .nil) .nil)) (.node 57 Tryd.f57 (.node 55 Tryd.f55 (.node 47 Tryd.f47 .nil .nil) .nil) (.node 58 Tryd.f58 .nil .nil))) (.node 77 Tryd.f77 (.node 66 Tryd.f66 (.node 65 Tryd.f65 (.node 64 Tryd.f64 .nil .nil) .nil) (.node 76 Tryd.f76 (.node 67 Tryd.f67 .nil .nil) .nil)) (.node 80 Tryd.f80 (.node 79 Tryd.f79 (.node 78 Tryd.f78 .nil .nil) .nil) (.node 81 Tryd.f81 .nil .nil)))))
noncomputable def Rep.pure_ : Tr Unit := (.node 28 () (.node 18 () (.node 7 () (.node 5 () (.node 4 () (.node 3 () .nil .nil) .nil) (.node 6 () .nil .nil)) (.node 16 () (.node 15 () (.node 8 () .nil .nil) .nil) (.node 17 () .nil .nil))) (.node 23 () (.node 21 () (.node 20 () (.node 19 () .nil .nil) .nil) (.node 22 () .nil .nil)) (.node 26 () (.node 25 () (.node 24 () .nil .nil) .nil) (.node 27 () .nil .nil)))) (.node 65 () (.node 47 () (.node 45 () (.node 44 () (.node 42 () .nil .nil) .nil) (.node 46 () .nil .nil)) (.node 59 () (.node 58 () (.node 57 () .nil .nil) .nil) (.node 64 () .nil .nil))) (.node 78 () (.node 76 () (.node 67 () (.node 66 () .nil .nil) .nil) (.node 77 () .nil .nil)) (.node 80 () (.node 79 () .nil .nil) (.node 81 () .nil .nil)))))
theorem Rep.funcs_ok : Rep.funcs_.AllP fun f fn => Tryd.prog.funcs[f]? = some fn ∧ fn.body.isSome = true ∧ fn.name ≠ "runtime.NumGoroutine" := by
  exact ⟨⟨Tryd.func39, rfl, of_decide_eq_true (by kernel_rfl)⟩, ⟨⟨Tryd.func19, rfl, of_decide_eq_true (by kernel_rfl)⟩, ⟨⟨Tryd.func8, rfl, of_decide_eq_true (by kernel_rfl)⟩, ⟨⟨Tryd.func5, rfl, of_decide_eq_true (by kernel_rfl)⟩, ⟨⟨Tryd.func4, rfl, of_decide_eq_true (by kernel_rfl)⟩, ⟨⟨Tryd.func3, rfl, of_decide_eq_true (by kernel_rfl)⟩, trivial, trivial⟩, trivial⟩, ⟨⟨Tryd.func7, rfl, of_decide_eq_true (by kernel_rfl)⟩, ⟨⟨Tryd.func6, rfl, of_decide_eq_true (by kernel_rfl)⟩, trivial, trivial⟩, trivial⟩⟩, ⟨⟨Tryd.func17, rfl, of_decide_eq_true (by kernel_rfl)⟩, ⟨⟨Tryd.func16, rfl, of_decide_eq_true (by kernel_rfl)⟩, ⟨⟨Tryd.func15, rfl, of_decide_eq_true (by kernel_rfl)⟩, trivial, trivial⟩, trivial⟩, ⟨⟨Tryd.func18, rfl, of_decide_eq_true (by kernel_rfl)⟩, trivial, trivial⟩⟩⟩, ⟨⟨Tryd.func25, rfl, of_decide_eq_true (by kernel_rfl)⟩, ⟨⟨Tryd.func22, rfl, of_decide_eq_true (by kernel_rfl)⟩, ⟨⟨Tryd.func21, rfl, of_decide_eq_true (by kernel_rfl)⟩, ⟨⟨Tryd.func20, rfl, of_decide_eq_true (by kernel_rfl)⟩, trivial, trivial⟩, trivial⟩, ⟨⟨Tryd.func24, rfl, of_decide_eq_true (by kernel_rfl)⟩, ⟨⟨Tryd.func23, rfl, of_decide_eq_true (by kernel_rfl)⟩, trivial, trivial⟩, trivial⟩⟩, ⟨⟨Tryd.func28, rfl, of_decide_eq_true (by kernel_rfl)⟩, ⟨⟨Tryd.func27, rfl, of_decide_eq_true (by kernel_rfl)⟩, ⟨⟨Tryd.func26, rfl, of_decide_eq_true (by kernel_rfl)⟩, trivial, trivial⟩, trivial⟩, ⟨⟨Tryd.func38, rfl, of_decide_eq_true (by kernel_rfl)⟩, trivial, trivial⟩⟩⟩⟩, ⟨⟨Tryd.func59, rfl, of_decide_eq_true (by kernel_rfl)⟩, ⟨⟨Tryd.func46, rfl, of_decide_eq_true (by kernel_rfl)⟩, ⟨⟨Tryd.func43, rfl, of_decide_eq_true (by kernel_rfl)⟩, ⟨⟨Tryd.func41, rfl, of_decide_eq_true (by kernel_rfl)⟩, ⟨⟨Tryd.func40, rfl, of_decide_eq_true (by kernel_rfl)⟩, trivial, trivial⟩, trivial⟩, ⟨⟨Tryd.func45, rfl, of_decide_eq_true (by kernel_rfl)⟩, ⟨⟨Tryd.func44, rfl, of_decide_eq_true (by kernel_rfl)⟩, trivial, trivial⟩, trivial⟩⟩, ⟨⟨Tryd.func57, rfl, of_decide_eq_true (by kernel_rfl)⟩, ⟨⟨Tryd.func55, rfl, of_decide_eq_true (by kernel_rfl)⟩, ⟨⟨Tryd.func47, rfl, of_decide_eq_true (by kernel_rfl)⟩, trivial, trivial⟩, trivial⟩, ⟨⟨Tryd.func58, rfl, of_decide_eq_true (by kernel_rfl)⟩, trivial, trivial⟩⟩⟩, ⟨⟨Tryd.func77, rfl, of_decide_eq_true (by kernel_rfl)⟩, ⟨⟨Tryd.func66, rfl, of_decide_eq_true (by kernel_rfl)⟩, ⟨⟨Tryd.func65, rfl, of_decide_eq_true (by kernel_rfl)⟩, ⟨⟨Tryd.func64, rfl, of_decide_eq_true (by kernel_rfl)⟩, trivial, trivial⟩, trivial⟩, ⟨⟨Tryd.func76, rfl, of_decide_eq_true (by kernel_rfl)⟩, ⟨⟨Tryd.func67, rfl, of_decide_eq_true (by kernel_rfl)⟩, trivial, trivial⟩, trivial⟩⟩, ⟨⟨Tryd.func80, rfl, of_decide_eq_true (by kernel_rfl)⟩, ⟨⟨Tryd.func79, rfl, of_decide_eq_true (by kernel_rfl)⟩, ⟨⟨Tryd.func78, rfl, of_decide_eq_true (by kernel_rfl)⟩, trivial, trivial⟩, trivial⟩, ⟨⟨Tryd.func81, rfl, of_decide_eq_true (by kernel_rfl)⟩, trivial, trivial⟩⟩⟩⟩⟩

def extRep (f : FuncId) : Option (List AV → Option AV) := match Nat.beq f 42 with
  | true => some extItoa
  | false => none

def extHRep (f : FuncId) : Option (List AV → AH → Option (AV × AH)) := match Nat.beq f 55, Nat.beq f 43 with
  | true, _ => some (copyX 74)
  | _, true => some (strX 74 5)
  | _, _ => none

def etaRep (t : TypeId) : Bool := [31, 34, 39, 50, 53, 54, 57, 86].any (Nat.beq t)

theorem Rep.bld : BldOK Tryd.prog 74 5 55 43 := ⟨Tryd.copy_used, Tryd.copy_fresh, Tryd.str_some, Tryd.str_nil⟩

noncomputable def Rep.S (m : Array Value) (room : Nat := 1) : Go.Sx.Sys := { tabS Tryd.types_ Rep.funcs_ .nil Rep.pure_ Tryd.objs_ extRep room [(0, powVals), (1, m)] with typed := fun t => Nat.beq t 74, extH := extHRep, eta := etaRep }
theorem Rep.ok (m : Array Value) (room : Nat) : SysOK (Rep.S m room) Tryd.prog :=
  have h : SysOK (tabS Tryd.types_ Rep.funcs_ .nil Rep.pure_ Tryd.objs_ extRep room [(0, powVals), (1, m)]) Tryd.prog := tab_ok Tryd.types_ok Rep.funcs_ok trivial
  ⟨h.type, h.func, h.glob⟩

theorem Rep.extOK (m : Array Value) (room : Nat) : ExtOK (Rep.S m room) Tryd.prog := by
  constructor
  · intro f g h
    replace h : extRep f = some g := h
    unfold extRep at h
    split at h
    · rename_i hf
      obtain rfl := Nat.eq_of_beq_eq_true hf
      obtain rfl := Option.some.inj h
      refine ⟨⟨_, Tryd.func42, rfl, of_decide_eq_true (by kernel_rfl)⟩, ?_⟩
      intro ts v h E xs hr hx
      have hr' : Rel (Tryd.S m) ⟨[], []⟩ E := ⟨hr.h, hr.g, hr.x⟩
      exact itoa_ok m h hr' hx
    · simp at h
  · intro f g h
    replace h : extHRep f = some g := h
    unfold extHRep at h
    split at h
    · rename_i hf
      obtain rfl := Nat.eq_of_beq_eq_true hf
      obtain rfl := Option.some.inj h
      intro args H v H' hg E xs hr hx
      exact copyX_ok Rep.bld hg hr.h hx
    · rename_i hf _
      obtain rfl := Nat.eq_of_beq_eq_true hf
      obtain rfl := Option.some.inj h
      intro args H v H' hg E xs hr hx
      exact strX_ok Rep.bld hg hr.h hx
    · simp at h
end Go.Proofs.YtoagnbpmoihojaaDoor

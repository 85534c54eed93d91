/-
  No cell of these rows narrows 'for every input' (looked for: loops, veiled, ifaces, maps, wideKeys, modest, calm, conditions, laid).
  DERIVED. THE GIVEN ROWS OF THIS SEAT. 4 by the template 'for every input the law returns true; each argument reads behind the call as it read before'; 0 by the template 'total and deterministic' (their statements: YtanpcjopgcpooaaGreatTotals.lean).
  GIVEN WITH THE SEED: the statements are not yours to turn. If you find one false, say at which input.
  Laid BY PROGRAM, IN A SANDBOX (cutbox-rows.mjs): the forced cells as the released guide's own fill.sh prints them over the translation 65685454216d34af… (all of the seat's roots in one cut). By AI agents, Wed Nov 11 2026. No macro, syntax, notation, axiom, sorry.
-/
import Derived.Test.YtanpcjopgcpooaaGreatChecked
import GoSem.Claim
import GoSem.ClaimJoined
import GoSem.ClaimMapViews
import Derived.JoinedTies
import Derived.KernelRfl
namespace Go.Proofs.YtanpcjopgcpooaaGreat
/- THE CELL 'sum', in the pinned program and in every row, IS THE sha256 OF THE DUMP (.gsa) THAT YtanpcjopgcpooaaGreatProg.lean LOADS. Nothing in Lean hashes anything: it is a label: what it is worth is what the hold of that sum in a sandbox is worth. -/
noncomputable def Tryz.pinned : Pinned := { name := "ytanpcjopgcpooaagreat", sum := "65685454216d34af898a7f230781d9316bb5588797565c5a6e751d2858132c42", checked := Tryz.checked }
namespace Rows
def none {H : Type} : Left H := { results := [], args := [] }

/-- 'sacristanlaw39.ScriptChecks': WHATEVER THE INPUT: true; the input reads as it did. -/
def scriptChecksSpec : ChangeSpec := { name := "scriptChecks", fn := fun _ => fun
  | [d1, d2] => { results := [.lit (.bool true)], args := [d1, d2] }
  | _ => none }
def scriptChecksRow : OpenClaim := { program := "ytanpcjopgcpooaagreat", sum := "65685454216d34af898a7f230781d9316bb5588797565c5a6e751d2858132c42", func := "sacristan/sacristanlaw39.ScriptChecks", spec := "scriptChecks", unfollowed := true, recurses := true, plainKeys := false, apart := false }
def ScriptChecksSaid : Prop := scriptChecksRow.holds Tryz.pinned (OpenSpec.ofChange scriptChecksSpec)

/-- ITS FALSE NEIGHBOUR: 'it returns false'. Refute it at one input. -/
def scriptChecksWrong : ChangeSpec := { name := "scriptChecks", fn := fun _ => fun
  | [d1, d2] => { results := [.lit (.bool false)], args := [d1, d2] }
  | _ => none }
def ScriptChecksWrongFalsely : Prop := scriptChecksRow.holds Tryz.pinned (OpenSpec.ofChange scriptChecksWrong)

/-- 'sacristanlaw39.ScriptDecodes': WHATEVER THE INPUT: true; the input reads as it did. -/
def scriptDecodesSpec : ChangeSpec := { name := "scriptDecodes", fn := fun _ => fun
  | [d1, d2, d3] => { results := [.lit (.bool true)], args := [d1, d2, d3] }
  | _ => none }
def scriptDecodesRow : OpenClaim := { program := "ytanpcjopgcpooaagreat", sum := "65685454216d34af898a7f230781d9316bb5588797565c5a6e751d2858132c42", func := "sacristan/sacristanlaw39.ScriptDecodes", spec := "scriptDecodes", unfollowed := true, recurses := true, plainKeys := false, apart := false }
def ScriptDecodesSaid : Prop := scriptDecodesRow.holds Tryz.pinned (OpenSpec.ofChange scriptDecodesSpec)

/-- ITS FALSE NEIGHBOUR: 'it returns false'. Refute it at one input. -/
def scriptDecodesWrong : ChangeSpec := { name := "scriptDecodes", fn := fun _ => fun
  | [d1, d2, d3] => { results := [.lit (.bool false)], args := [d1, d2, d3] }
  | _ => none }
def ScriptDecodesWrongFalsely : Prop := scriptDecodesRow.holds Tryz.pinned (OpenSpec.ofChange scriptDecodesWrong)

/-- 'sacristanlaw38.CrashFirst': WHATEVER THE INPUT: true; the input reads as it did. -/
def crashFirstSpec : ChangeSpec := { name := "crashFirst", fn := fun _ => fun
  | [d1, d2, d3] => { results := [.lit (.bool true)], args := [d1, d2, d3] }
  | _ => none }
def crashFirstRow : OpenClaim := { program := "ytanpcjopgcpooaagreat", sum := "65685454216d34af898a7f230781d9316bb5588797565c5a6e751d2858132c42", func := "sacristan/sacristanlaw38.CrashFirst", spec := "crashFirst", unfollowed := true, recurses := true, plainKeys := false, apart := false }
def CrashFirstSaid : Prop := crashFirstRow.holds Tryz.pinned (OpenSpec.ofChange crashFirstSpec)

/-- ITS FALSE NEIGHBOUR: 'it returns false'. Refute it at one input. -/
def crashFirstWrong : ChangeSpec := { name := "crashFirst", fn := fun _ => fun
  | [d1, d2, d3] => { results := [.lit (.bool false)], args := [d1, d2, d3] }
  | _ => none }
def CrashFirstWrongFalsely : Prop := crashFirstRow.holds Tryz.pinned (OpenSpec.ofChange crashFirstWrong)

/-- 'sacristanlaw38.CrashExamples': WHATEVER THE INPUT: true; the input reads as it did. -/
def crashExamplesSpec : ChangeSpec := { name := "crashExamples", fn := fun _ => fun
  | [] => { results := [.lit (.bool true)], args := [] }
  | _ => none }
def crashExamplesRow : OpenClaim := { program := "ytanpcjopgcpooaagreat", sum := "65685454216d34af898a7f230781d9316bb5588797565c5a6e751d2858132c42", func := "sacristan/sacristanlaw38.CrashExamples", spec := "crashExamples", unfollowed := true, recurses := true, plainKeys := false, apart := false }
def CrashExamplesSaid : Prop := crashExamplesRow.holds Tryz.pinned (OpenSpec.ofChange crashExamplesSpec)

/-- ITS FALSE NEIGHBOUR: 'it returns false'. Refute it at one input. -/
def crashExamplesWrong : ChangeSpec := { name := "crashExamples", fn := fun _ => fun
  | [] => { results := [.lit (.bool false)], args := [] }
  | _ => none }
def CrashExamplesWrongFalsely : Prop := crashExamplesRow.holds Tryz.pinned (OpenSpec.ofChange crashExamplesWrong)

/- THE SECOND FORM. 'bulk': how many values and letters a reading holds, each counted each time it is reached (what is shared counts as often as it is met; a slice's spare places count too). A statement '..UptoSaid' is the law's where the arguments, and the package variables that the reading takes, are together of bulk at most 1048576: NARROWER than '..Said'. Prove '..Said' where nothing that the law and all that it calls make is longer than what came in: it says more and counts as full. Else prove '..UptoSaid'. A law counts once. -/
mutual
def uptoBulk {H : Type} : DataW H → Nat
  | .lit (.string bytes) => bytes.length + 1
  | .lit _ => 1
  | .nil => 1
  | .ptr d => uptoBulk d + 1
  | .slice elems spare => uptoBulkAll elems + uptoBulkAll spare + 1
  | .agg parts => uptoBulkAll parts + 1
  | .iface _ d => uptoBulk d + 1
  | .map entries => uptoBulkEntries entries + 1
  | .held _ => 1
def uptoBulkAll {H : Type} : List (DataW H) → Nat
  | [] => 0
  | d :: r => uptoBulk d + uptoBulkAll r
def uptoBulkEntries {H : Type} : List (Lit × DataW H) → Nat
  | [] => 0
  | x :: r => uptoBulkEntry x + uptoBulkEntries r
def uptoBulkEntry {H : Type} : Lit × DataW H → Nat
  | (.string bytes, d) => bytes.length + uptoBulk d + 1
  | (_, d) => uptoBulk d + 1
 end
def uptoSmall : (H : Type) → List (DataW H) → Bool := fun _ ds => decide (uptoBulkAll ds ≤ 1048576)
def OpenSpec.upto (s : _root_.Go.ChangeSpec) : _root_.Go.OpenSpec := { _root_.Go.OpenSpec.ofChange s with cond := some uptoSmall }

/-- 'sacristanlaw39.ScriptChecks', WHERE WHAT IT READS IS OF BULK AT MOST 1048576: true; the input reads as it did. -/
def scriptChecksUptoRow : OpenClaim := { program := "ytanpcjopgcpooaagreat", sum := "65685454216d34af898a7f230781d9316bb5588797565c5a6e751d2858132c42", func := "sacristan/sacristanlaw39.ScriptChecks", spec := "scriptChecks", unfollowed := true, recurses := true, plainKeys := false, apart := false, narrowed := true }
def ScriptChecksUptoSaid : Prop := scriptChecksUptoRow.holds Tryz.pinned (OpenSpec.upto scriptChecksSpec)

/-- 'sacristanlaw39.ScriptDecodes', WHERE WHAT IT READS IS OF BULK AT MOST 1048576: true; the input reads as it did. -/
def scriptDecodesUptoRow : OpenClaim := { program := "ytanpcjopgcpooaagreat", sum := "65685454216d34af898a7f230781d9316bb5588797565c5a6e751d2858132c42", func := "sacristan/sacristanlaw39.ScriptDecodes", spec := "scriptDecodes", unfollowed := true, recurses := true, plainKeys := false, apart := false, narrowed := true }
def ScriptDecodesUptoSaid : Prop := scriptDecodesUptoRow.holds Tryz.pinned (OpenSpec.upto scriptDecodesSpec)

/-- 'sacristanlaw38.CrashFirst', WHERE WHAT IT READS IS OF BULK AT MOST 1048576: true; the input reads as it did. -/
def crashFirstUptoRow : OpenClaim := { program := "ytanpcjopgcpooaagreat", sum := "65685454216d34af898a7f230781d9316bb5588797565c5a6e751d2858132c42", func := "sacristan/sacristanlaw38.CrashFirst", spec := "crashFirst", unfollowed := true, recurses := true, plainKeys := false, apart := false, narrowed := true }
def CrashFirstUptoSaid : Prop := crashFirstUptoRow.holds Tryz.pinned (OpenSpec.upto crashFirstSpec)

/-- 'sacristanlaw38.CrashExamples', WHERE WHAT IT READS IS OF BULK AT MOST 1048576: true; the input reads as it did. -/
def crashExamplesUptoRow : OpenClaim := { program := "ytanpcjopgcpooaagreat", sum := "65685454216d34af898a7f230781d9316bb5588797565c5a6e751d2858132c42", func := "sacristan/sacristanlaw38.CrashExamples", spec := "crashExamples", unfollowed := true, recurses := true, plainKeys := false, apart := false, narrowed := true }
def CrashExamplesUptoSaid : Prop := crashExamplesUptoRow.holds Tryz.pinned (OpenSpec.upto crashExamplesSpec)

end Rows
end Go.Proofs.YtanpcjopgcpooaaGreat

/-
  No cell of these rows narrows 'for every input' (looked for: loops, veiled, ifaces, maps, wideKeys, modest, calm, conditions, laid).
  DERIVED. THE GIVEN ROWS OF THIS SEAT. 3 by the template 'for every input the law returns true; each argument reads behind the call as it read before'; 0 by the template 'total and deterministic' (their statements: YtedhpikmkoemhaaGreatTotals.lean).
  GIVEN WITH THE SEED: the statements are not yours to turn. If you find one false, say at which input.
  Laid BY PROGRAM, IN A SANDBOX (cutbox-rows.mjs): the forced cells as the released guide's own fill.sh prints them over the translation c2833f2de4505875… (all of the seat's roots in one cut). By AI agents, Wed Nov 11 2026. No macro, syntax, notation, axiom, sorry.
-/
import Derived.Test.YtedhpikmkoemhaaGreatChecked
import GoSem.Claim
import GoSem.ClaimJoined
import GoSem.ClaimMapViews
import Derived.JoinedTies
import Derived.KernelRfl
namespace Go.Proofs.YtedhpikmkoemhaaGreat
/- THE CELL 'sum', in the pinned program and in every row, IS THE sha256 OF THE DUMP (.gsa) THAT YtedhpikmkoemhaaGreatProg.lean LOADS. Nothing in Lean hashes anything: it is a label: what it is worth is what the hold of that sum in a sandbox is worth. -/
noncomputable def Tryz.pinned : Pinned := { name := "ytedhpikmkoemhaagreat", sum := "c2833f2de450587569a410906c2861656d42b04350d6aeed5aff7eb1afbe341b", checked := Tryz.checked }
namespace Rows
def none {H : Type} : Left H := { results := [], args := [] }

/-- 'sacristanlaw32.AgentExamples': WHATEVER THE INPUT: true; the input reads as it did. -/
def agentExamplesSpec : ChangeSpec := { name := "agentExamples", fn := fun _ => fun
  | [] => { results := [.lit (.bool true)], args := [] }
  | _ => none }
def agentExamplesRow : OpenClaim := { program := "ytedhpikmkoemhaagreat", sum := "c2833f2de450587569a410906c2861656d42b04350d6aeed5aff7eb1afbe341b", func := "sacristan/sacristanlaw32.AgentExamples", spec := "agentExamples", inPlace := ["internal/abi.NoEscape", "internal/bytealg.MakeNoZero"], unfollowed := true, recurses := true, plainKeys := false, apart := false }
def AgentExamplesSaid : Prop := agentExamplesRow.holds Tryz.pinned (OpenSpec.ofChange agentExamplesSpec)

/-- ITS FALSE NEIGHBOUR: 'it returns false'. Refute it at one input. -/
def agentExamplesWrong : ChangeSpec := { name := "agentExamples", fn := fun _ => fun
  | [] => { results := [.lit (.bool false)], args := [] }
  | _ => none }
def AgentExamplesWrongFalsely : Prop := agentExamplesRow.holds Tryz.pinned (OpenSpec.ofChange agentExamplesWrong)

/-- 'sacristanlaw35.RunExamples': WHATEVER THE INPUT: true; the input reads as it did. -/
def runExamplesSpec : ChangeSpec := { name := "runExamples", fn := fun _ => fun
  | [] => { results := [.lit (.bool true)], args := [] }
  | _ => none }
def runExamplesRow : OpenClaim := { program := "ytedhpikmkoemhaagreat", sum := "c2833f2de450587569a410906c2861656d42b04350d6aeed5aff7eb1afbe341b", func := "sacristan/sacristanlaw35.RunExamples", spec := "runExamples", inPlace := ["internal/abi.NoEscape", "internal/bytealg.MakeNoZero"], unfollowed := true, recurses := true, plainKeys := false, apart := false }
def RunExamplesSaid : Prop := runExamplesRow.holds Tryz.pinned (OpenSpec.ofChange runExamplesSpec)

/-- ITS FALSE NEIGHBOUR: 'it returns false'. Refute it at one input. -/
def runExamplesWrong : ChangeSpec := { name := "runExamples", fn := fun _ => fun
  | [] => { results := [.lit (.bool false)], args := [] }
  | _ => none }
def RunExamplesWrongFalsely : Prop := runExamplesRow.holds Tryz.pinned (OpenSpec.ofChange runExamplesWrong)

/-- 'sacristanlaw36.AuditQuiet': WHATEVER THE INPUT: true; the input reads as it did. -/
def auditQuietSpec : ChangeSpec := { name := "auditQuiet", fn := fun _ => fun
  | [] => { results := [.lit (.bool true)], args := [] }
  | _ => none }
def auditQuietRow : OpenClaim := { program := "ytedhpikmkoemhaagreat", sum := "c2833f2de450587569a410906c2861656d42b04350d6aeed5aff7eb1afbe341b", func := "sacristan/sacristanlaw36.AuditQuiet", spec := "auditQuiet", inPlace := ["internal/abi.NoEscape", "internal/bytealg.MakeNoZero"], unfollowed := true, recurses := true, plainKeys := false, apart := false }
def AuditQuietSaid : Prop := auditQuietRow.holds Tryz.pinned (OpenSpec.ofChange auditQuietSpec)

/-- ITS FALSE NEIGHBOUR: 'it returns false'. Refute it at one input. -/
def auditQuietWrong : ChangeSpec := { name := "auditQuiet", fn := fun _ => fun
  | [] => { results := [.lit (.bool false)], args := [] }
  | _ => none }
def AuditQuietWrongFalsely : Prop := auditQuietRow.holds Tryz.pinned (OpenSpec.ofChange auditQuietWrong)

/- THE SECOND FORM. 'bulk': how many values and letters a reading holds, each counted each time it is reached (what is shared counts as often as it is met; a slice's spare places count too). A statement '..UptoSaid' is the law's where the arguments, and the package variables that the reading takes, are together of bulk at most 1048576: NARROWER than '..Said'. Prove '..Said' where nothing that the law and all that it calls make is longer than what came in: it says more and counts as full. Else prove '..UptoSaid'. A law counts once. -/
mutual
def uptoBulk {H : Type} : DataW H → Nat
  | .lit (.string bytes) => bytes.length + 1
  | .lit _ => 1
  | .nil => 1
  | .ptr d => uptoBulk d + 1
  | .slice elems spare => uptoBulkAll elems + uptoBulkAll spare + 1
  | .agg parts => uptoBulkAll parts + 1
  | .iface _ d => uptoBulk d + 1
  | .map entries => uptoBulkEntries entries + 1
  | .held _ => 1
def uptoBulkAll {H : Type} : List (DataW H) → Nat
  | [] => 0
  | d :: r => uptoBulk d + uptoBulkAll r
def uptoBulkEntries {H : Type} : List (Lit × DataW H) → Nat
  | [] => 0
  | x :: r => uptoBulkEntry x + uptoBulkEntries r
def uptoBulkEntry {H : Type} : Lit × DataW H → Nat
  | (.string bytes, d) => bytes.length + uptoBulk d + 1
  | (_, d) => uptoBulk d + 1
 end
def uptoSmall : (H : Type) → List (DataW H) → Bool := fun _ ds => decide (uptoBulkAll ds ≤ 1048576)
def OpenSpec.upto (s : _root_.Go.ChangeSpec) : _root_.Go.OpenSpec := { _root_.Go.OpenSpec.ofChange s with cond := some uptoSmall }

/-- 'sacristanlaw32.AgentExamples', WHERE WHAT IT READS IS OF BULK AT MOST 1048576: true; the input reads as it did. -/
def agentExamplesUptoRow : OpenClaim := { program := "ytedhpikmkoemhaagreat", sum := "c2833f2de450587569a410906c2861656d42b04350d6aeed5aff7eb1afbe341b", func := "sacristan/sacristanlaw32.AgentExamples", spec := "agentExamples", inPlace := ["internal/abi.NoEscape", "internal/bytealg.MakeNoZero"], unfollowed := true, recurses := true, plainKeys := false, apart := false, narrowed := true }
def AgentExamplesUptoSaid : Prop := agentExamplesUptoRow.holds Tryz.pinned (OpenSpec.upto agentExamplesSpec)

/-- 'sacristanlaw35.RunExamples', WHERE WHAT IT READS IS OF BULK AT MOST 1048576: true; the input reads as it did. -/
def runExamplesUptoRow : OpenClaim := { program := "ytedhpikmkoemhaagreat", sum := "c2833f2de450587569a410906c2861656d42b04350d6aeed5aff7eb1afbe341b", func := "sacristan/sacristanlaw35.RunExamples", spec := "runExamples", inPlace := ["internal/abi.NoEscape", "internal/bytealg.MakeNoZero"], unfollowed := true, recurses := true, plainKeys := false, apart := false, narrowed := true }
def RunExamplesUptoSaid : Prop := runExamplesUptoRow.holds Tryz.pinned (OpenSpec.upto runExamplesSpec)

/-- 'sacristanlaw36.AuditQuiet', WHERE WHAT IT READS IS OF BULK AT MOST 1048576: true; the input reads as it did. -/
def auditQuietUptoRow : OpenClaim := { program := "ytedhpikmkoemhaagreat", sum := "c2833f2de450587569a410906c2861656d42b04350d6aeed5aff7eb1afbe341b", func := "sacristan/sacristanlaw36.AuditQuiet", spec := "auditQuiet", inPlace := ["internal/abi.NoEscape", "internal/bytealg.MakeNoZero"], unfollowed := true, recurses := true, plainKeys := false, apart := false, narrowed := true }
def AuditQuietUptoSaid : Prop := auditQuietUptoRow.holds Tryz.pinned (OpenSpec.upto auditQuietSpec)

end Rows
end Go.Proofs.YtedhpikmkoemhaaGreat

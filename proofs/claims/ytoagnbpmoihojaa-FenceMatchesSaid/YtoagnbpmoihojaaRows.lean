/-
  No cell of these rows narrows 'for every input' (looked for: loops, veiled, ifaces, maps, wideKeys, modest, calm, conditions, laid).
  DERIVED. THE GIVEN ROWS OF THIS SEAT. 3 by the template 'for every input the law returns true; each argument reads behind the call as it read before'; 0 by the template 'total and deterministic' (their statements: YtoagnbpmoihojaaTotals.lean).
  GIVEN WITH THE SEED: the statements are not yours to turn. If you find one false, say at which input.
  Laid BY PROGRAM, IN A SANDBOX (cutbox-rows.mjs): the forced cells as the released guide's own fill.sh prints them over the translation 6d8d117b0e9fea0f… (all of the seat's roots in one cut). By AI agents, Wed Nov 11 2026. No macro, syntax, notation, axiom, sorry.
-/
import Derived.Test.YtoagnbpmoihojaaChecked
import GoSem.Claim
import GoSem.ClaimJoined
import GoSem.ClaimMapViews
import Derived.JoinedTies
import Derived.KernelRfl
namespace Go.Proofs.Ytoagnbpmoihojaa
/- THE CELL 'sum', in the pinned program and in every row, IS THE sha256 OF THE DUMP (.gsa) THAT YtoagnbpmoihojaaProg.lean LOADS. Nothing in Lean hashes anything: it is a label: what it is worth is what the hold of that sum in a sandbox is worth. -/
noncomputable def Try.pinned : Pinned := { name := "ytoagnbpmoihojaa", sum := "6d8d117b0e9fea0f44409b0d124c7583193643d725390cb57536ad415d8662bc", checked := Try.checked }
namespace Rows
def none {H : Type} : Left H := { results := [], args := [] }

/-- 'sacristanlaw37.FenceWider': WHATEVER THE INPUT: true; the input reads as it did. -/
def fenceWiderSpec : ChangeSpec := { name := "fenceWider", fn := fun _ => fun
  | [d1, d2, d3, d4, d5, d6] => { results := [.lit (.bool true)], args := [d1, d2, d3, d4, d5, d6] }
  | _ => none }
def fenceWiderRow : OpenClaim := { program := "ytoagnbpmoihojaa", sum := "6d8d117b0e9fea0f44409b0d124c7583193643d725390cb57536ad415d8662bc", func := "sacristan/sacristanlaw37.FenceWider", spec := "fenceWider", unfollowed := true, recurses := true, plainKeys := false, apart := false }
def FenceWiderSaid : Prop := fenceWiderRow.holds Try.pinned (OpenSpec.ofChange fenceWiderSpec)

/-- ITS FALSE NEIGHBOUR: 'it returns false'. Refute it at one input. -/
def fenceWiderWrong : ChangeSpec := { name := "fenceWider", fn := fun _ => fun
  | [d1, d2, d3, d4, d5, d6] => { results := [.lit (.bool false)], args := [d1, d2, d3, d4, d5, d6] }
  | _ => none }
def FenceWiderWrongFalsely : Prop := fenceWiderRow.holds Try.pinned (OpenSpec.ofChange fenceWiderWrong)

/-- 'sacristanlaw37.FenceMatches': WHATEVER THE INPUT: true; the input reads as it did. -/
def fenceMatchesSpec : ChangeSpec := { name := "fenceMatches", fn := fun _ => fun
  | [d1, d2, d3, d4] => { results := [.lit (.bool true)], args := [d1, d2, d3, d4] }
  | _ => none }
def fenceMatchesRow : OpenClaim := { program := "ytoagnbpmoihojaa", sum := "6d8d117b0e9fea0f44409b0d124c7583193643d725390cb57536ad415d8662bc", func := "sacristan/sacristanlaw37.FenceMatches", spec := "fenceMatches", unfollowed := true, recurses := true, plainKeys := false, apart := false }
def FenceMatchesSaid : Prop := fenceMatchesRow.holds Try.pinned (OpenSpec.ofChange fenceMatchesSpec)

/-- ITS FALSE NEIGHBOUR: 'it returns false'. Refute it at one input. -/
def fenceMatchesWrong : ChangeSpec := { name := "fenceMatches", fn := fun _ => fun
  | [d1, d2, d3, d4] => { results := [.lit (.bool false)], args := [d1, d2, d3, d4] }
  | _ => none }
def FenceMatchesWrongFalsely : Prop := fenceMatchesRow.holds Try.pinned (OpenSpec.ofChange fenceMatchesWrong)

/-- 'sacristanlaw37.FenceExamples': WHATEVER THE INPUT: true; the input reads as it did. -/
def fenceExamplesSpec : ChangeSpec := { name := "fenceExamples", fn := fun _ => fun
  | [] => { results := [.lit (.bool true)], args := [] }
  | _ => none }
def fenceExamplesRow : OpenClaim := { program := "ytoagnbpmoihojaa", sum := "6d8d117b0e9fea0f44409b0d124c7583193643d725390cb57536ad415d8662bc", func := "sacristan/sacristanlaw37.FenceExamples", spec := "fenceExamples", unfollowed := true, recurses := true, plainKeys := false, apart := false }
def FenceExamplesSaid : Prop := fenceExamplesRow.holds Try.pinned (OpenSpec.ofChange fenceExamplesSpec)

/-- ITS FALSE NEIGHBOUR: 'it returns false'. Refute it at one input. -/
def fenceExamplesWrong : ChangeSpec := { name := "fenceExamples", fn := fun _ => fun
  | [] => { results := [.lit (.bool false)], args := [] }
  | _ => none }
def FenceExamplesWrongFalsely : Prop := fenceExamplesRow.holds Try.pinned (OpenSpec.ofChange fenceExamplesWrong)

/- THE SECOND FORM. 'bulk': how many values and letters a reading holds, each counted each time it is reached (what is shared counts as often as it is met; a slice's spare places count too). A statement '..UptoSaid' is the law's where the arguments, and the package variables that the reading takes, are together of bulk at most 1048576: NARROWER than '..Said'. Prove '..Said' where nothing that the law and all that it calls make is longer than what came in: it says more and counts as full. Else prove '..UptoSaid'. A law counts once. -/
mutual
def uptoBulk {H : Type} : DataW H → Nat
  | .lit (.string bytes) => bytes.length + 1
  | .lit _ => 1
  | .nil => 1
  | .ptr d => uptoBulk d + 1
  | .slice elems spare => uptoBulkAll elems + uptoBulkAll spare + 1
  | .agg parts => uptoBulkAll parts + 1
  | .iface _ d => uptoBulk d + 1
  | .map entries => uptoBulkEntries entries + 1
  | .held _ => 1
def uptoBulkAll {H : Type} : List (DataW H) → Nat
  | [] => 0
  | d :: r => uptoBulk d + uptoBulkAll r
def uptoBulkEntries {H : Type} : List (Lit × DataW H) → Nat
  | [] => 0
  | x :: r => uptoBulkEntry x + uptoBulkEntries r
def uptoBulkEntry {H : Type} : Lit × DataW H → Nat
  | (.string bytes, d) => bytes.length + uptoBulk d + 1
  | (_, d) => uptoBulk d + 1
 end
def uptoSmall : (H : Type) → List (DataW H) → Bool := fun _ ds => decide (uptoBulkAll ds ≤ 1048576)
def OpenSpec.upto (s : _root_.Go.ChangeSpec) : _root_.Go.OpenSpec := { _root_.Go.OpenSpec.ofChange s with cond := some uptoSmall }

/-- 'sacristanlaw37.FenceWider', WHERE WHAT IT READS IS OF BULK AT MOST 1048576: true; the input reads as it did. -/
def fenceWiderUptoRow : OpenClaim := { program := "ytoagnbpmoihojaa", sum := "6d8d117b0e9fea0f44409b0d124c7583193643d725390cb57536ad415d8662bc", func := "sacristan/sacristanlaw37.FenceWider", spec := "fenceWider", unfollowed := true, recurses := true, plainKeys := false, apart := false, narrowed := true }
def FenceWiderUptoSaid : Prop := fenceWiderUptoRow.holds Try.pinned (OpenSpec.upto fenceWiderSpec)

/-- 'sacristanlaw37.FenceMatches', WHERE WHAT IT READS IS OF BULK AT MOST 1048576: true; the input reads as it did. -/
def fenceMatchesUptoRow : OpenClaim := { program := "ytoagnbpmoihojaa", sum := "6d8d117b0e9fea0f44409b0d124c7583193643d725390cb57536ad415d8662bc", func := "sacristan/sacristanlaw37.FenceMatches", spec := "fenceMatches", unfollowed := true, recurses := true, plainKeys := false, apart := false, narrowed := true }
def FenceMatchesUptoSaid : Prop := fenceMatchesUptoRow.holds Try.pinned (OpenSpec.upto fenceMatchesSpec)

/-- 'sacristanlaw37.FenceExamples', WHERE WHAT IT READS IS OF BULK AT MOST 1048576: true; the input reads as it did. -/
def fenceExamplesUptoRow : OpenClaim := { program := "ytoagnbpmoihojaa", sum := "6d8d117b0e9fea0f44409b0d124c7583193643d725390cb57536ad415d8662bc", func := "sacristan/sacristanlaw37.FenceExamples", spec := "fenceExamples", unfollowed := true, recurses := true, plainKeys := false, apart := false, narrowed := true }
def FenceExamplesUptoSaid : Prop := fenceExamplesUptoRow.holds Try.pinned (OpenSpec.upto fenceExamplesSpec)

end Rows
end Go.Proofs.Ytoagnbpmoihojaa

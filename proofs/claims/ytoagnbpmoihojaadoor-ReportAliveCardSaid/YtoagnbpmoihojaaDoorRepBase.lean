/- The world in which a law of the report seat is called: the listed tables, the arguments. -/
import Derived.Test.YtoagnbpmoihojaaDoorTie
import Derived.Test.YtoagnbpmoihojaaDoorRepSys
import Derived.Test.YtoagnbpmoihojaaDoorEj
import Derived.ChangeSame
import Derived.ChangeVars
import Derived.JoinedOf
import Derived.RowKit
import Derived.RowKitTokens
import Derived.LaidLaws
import Derived.LaidHandle
import Derived.LaidMore
import Derived.Stop.Joined
import Derived.HandedShaped
import Derived.SevenTiedAt
set_option maxRecDepth 100000
set_option linter.unusedSimpArgs false
set_option linter.unusedVariables false
namespace Go.Proofs.YtoagnbpmoihojaaDoor
open Go.Sx Go.ChangeShapes Go.WideShapes Go.ChangeAt Go.RowKit

theorem Rep.own : ownKnob Tryd.prog.godebug = none := by kernel_rfl
theorem Rep.laidOut : laidOutB Tryd.prog = true := by kernel_rfl

def tabsR : List (String × DataW Unit) := [("math/bits.deBruijn32tab", Rows.laid_math_bits_deBruijn32tab), ("math/bits.deBruijn64tab", Rows.laid_math_bits_deBruijn64tab), ("internal/strconv.uint64pow10", Rows.laid_internal_strconv_uint64pow10)]

/-- The cells of a table. -/
def litR : Lit → Value
  | .int k n => .int k n
  | .bool b => .bool b
  | _ => .bool false
def flatR : Nat → DataW Unit → List Value
  | 0, _ => []
  | n + 1, .agg ds => ds.flatMap (flatR n)
  | _, .lit l => [litR l]
  | _, _ => []

noncomputable def laidR (os : Os) : World :=
  let w0 := World.holding Tryd.prog os ⟨#[], #[], []⟩
  { w0 with heap := tabsR.foldl (fun h p => match Tryd.prog.globalNamed p.1 with
      | some g => h.modify g fun
        | .cells _ t fr => .cells (flatR 4 p.2).toArray t fr
        | o => o
      | none => h) w0.heap }
theorem laidR_met (os : Os) (args : Array Value) : laidMetH Tryd.prog tabsR ((laidR os).forCall (fun _ _ => 0) ⟨#[], args, []⟩).memory :=
  laidMetH_of_parts (laidMet_of_run' 8 (by kernel_rfl) (by kernel_rfl)) (by kernel_rfl)

end Go.Proofs.YtoagnbpmoihojaaDoor

/- The laws of reports whose arguments are lists: from the engine to a call. -/
import Derived.Test.YtoagnbpmoihojaaDoorRepMat
import Derived.Test.YtoagnbpmoihojaaDoorRepWorld
set_option maxRecDepth 100000
set_option linter.unusedSimpArgs false
set_option linter.unusedVariables false
namespace Go.Proofs.YtoagnbpmoihojaaDoor
open Go.Sx Go.ChangeShapes Go.WideShapes Go.ChangeAt Go.RowKit

theorem rep_callsD {m : Array Value} (hmx : ∃ k, m[0]? = some (.int .i64 k)) {f : FuncId} {args : List AV} {H' : AH} (h : callL (Rep.D m) f args ⟨[], []⟩ = some (.bool true, H')) {W : World} (hfx : ∀ p, p ∈ (Rep.S m).fixed → Fixed (GE.start W) p)
    {xs : Array Value} (hx : VRelL (GE.start W) args xs) : Calls Tryd.prog f xs W fun e W' => e = .returned (.bool true) ∧ Below W.heap.size W W' := by
  obtain ⟨n, hn⟩ := callL_fuel h
  exact calls_true (Rep.okD m) (Rep.extOKD m) Tryd.mixed hn (fun n => .top _) hfx hx

theorem reportMatches_law (m : Array Value) (avs : List AV) (h : okVs [dtState, .sl 9 dtProc] avs) : ∃ H', callL (Rep.D m) 5 avs ⟨[], []⟩ = some (.bool true, H') := by
  obtain ⟨v, _, rfl, h1, h2⟩ := okVsC h
  obtain ⟨w, _, rfl, k2, h3⟩ := okVsC h2
  obtain rfl := okVs0 h3
  exact ⟨_, matches_law5 m (ok_tyV h1) (ok_tyV k2) ⟨[], []⟩⟩
end Go.Proofs.YtoagnbpmoihojaaDoor

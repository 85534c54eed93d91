/- ReportCounts, from the engine to its arguments. -/
import Derived.Test.YtoagnbpmoihojaaDoorRepCnt
import Derived.Test.YtoagnbpmoihojaaDoorRepArgsD
set_option maxRecDepth 100000
namespace Go.Proofs.YtoagnbpmoihojaaDoor
open Go.Sx

theorem reportCounts_law (m : Array Value) (avs : List AV) (h : okVs [dtState, .sl 9 dtProc] avs) : ∃ H', callL (Rep.D m) 7 avs ⟨[], []⟩ = some (.bool true, H') := by
  obtain ⟨v, _, rfl, h1, h2⟩ := okVsC h
  obtain ⟨w, _, rfl, k2, h3⟩ := okVsC h2
  obtain rfl := okVs0 h3
  exact ⟨_, counts_law7 m (ok_tyV h1) (ok_tyV k2) ⟨[], []⟩⟩
end Go.Proofs.YtoagnbpmoihojaaDoor

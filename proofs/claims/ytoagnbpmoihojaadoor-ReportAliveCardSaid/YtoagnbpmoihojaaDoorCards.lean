/-
  DERIVED. GIVEN WITH THE SEED: THE CARDS: each row of YtoagnbpmoihojaaDoorRows.lean that lists a variable, with what it lists TIED to the program's text (the seventh form; the later family's looks); each row that meets fmt, with fmt's text TOLD by the authors' own Lean function (tested against real Go, not proved from fmt's source: count such statements apart). THE CARD IS WHAT COUNTS. Prove the row's statement (the work); the ties are given (YtoagnbpmoihojaaDoorTie.lean); close each card by the builder's one call (the guide's Derived/Test/ToyasCard.lean, 'card_holds'). Laid BY PROGRAM, IN A SANDBOX (cutbox-door.mjs). By AI agents, Wed Nov 11 2026. No macro, syntax, notation, axiom, sorry.
-/
import Derived.Test.YtoagnbpmoihojaaDoorRows
import GoSem.ClaimSeven
namespace Go.Proofs.YtoagnbpmoihojaaDoor
namespace Rows

/-- THE TIED CARD OF 'sacristanlaw33.ReportLines'. -/
def reportLinesCard : Claim7 := { stood := { row := reportLinesRow, standIns := [], harness := (true, "a3aa92481c8a76f36e41ffff9687d6e8c3d021d000be04441a88c0623d666ad2"), looks := false }, kinds := [], alts := [], laidByText := true, laidKinds := [.data, .data, .data], laidTests := true, laidLooks := .later }
def ReportLinesCardSaid : Prop := Claim7.holds Tryd.pinned (.plain (OpenSpec.ofChange reportLinesSpec)) reportLinesCard

/-- THE TIED CARD OF 'sacristanlaw33.ReportDistinct'. -/
def reportDistinctCard : Claim7 := { stood := { row := reportDistinctRow, standIns := [], harness := (true, "a3aa92481c8a76f36e41ffff9687d6e8c3d021d000be04441a88c0623d666ad2"), looks := false }, kinds := [], alts := [], laidByText := true, laidKinds := [.data, .data, .data], laidTests := true, laidLooks := .later }
def ReportDistinctCardSaid : Prop := Claim7.holds Tryd.pinned (.plain (OpenSpec.ofChange reportDistinctSpec)) reportDistinctCard

/-- THE TIED CARD OF 'sacristanlaw33.ReportMatches'. -/
def reportMatchesCard : Claim7 := { stood := { row := reportMatchesRow, standIns := [], harness := (true, "a3aa92481c8a76f36e41ffff9687d6e8c3d021d000be04441a88c0623d666ad2"), looks := false }, kinds := [], alts := [], laidByText := true, laidKinds := [.data, .data, .data], laidTests := true, laidLooks := .later }
def ReportMatchesCardSaid : Prop := Claim7.holds Tryd.pinned (.plain (OpenSpec.ofChange reportMatchesSpec)) reportMatchesCard

/-- THE TIED CARD OF 'sacristanlaw33.ReportExamples'. -/
def reportExamplesCard : Claim7 := { stood := { row := reportExamplesRow, standIns := [], harness := (true, "a3aa92481c8a76f36e41ffff9687d6e8c3d021d000be04441a88c0623d666ad2"), looks := false }, kinds := [], alts := [], laidByText := true, laidKinds := [.data, .data, .data], laidTests := true, laidLooks := .later }
def ReportExamplesCardSaid : Prop := Claim7.holds Tryd.pinned (.plain (OpenSpec.ofChange reportExamplesSpec)) reportExamplesCard

/-- THE TIED CARD OF 'sacristanlaw33.ReportCounts'. -/
def reportCountsCard : Claim7 := { stood := { row := reportCountsRow, standIns := [], harness := (true, "a3aa92481c8a76f36e41ffff9687d6e8c3d021d000be04441a88c0623d666ad2"), looks := false }, kinds := [], alts := [], laidByText := true, laidKinds := [.data, .data, .data], laidTests := true, laidLooks := .later }
def ReportCountsCardSaid : Prop := Claim7.holds Tryd.pinned (.plain (OpenSpec.ofChange reportCountsSpec)) reportCountsCard

/-- THE TIED CARD OF 'sacristanlaw33.ReportAlive'. -/
def reportAliveCard : Claim7 := { stood := { row := reportAliveRow, standIns := [], harness := (true, "a3aa92481c8a76f36e41ffff9687d6e8c3d021d000be04441a88c0623d666ad2"), looks := false }, kinds := [], alts := [], laidByText := true, laidKinds := [.data, .data, .data], laidTests := true, laidLooks := .later }
def ReportAliveCardSaid : Prop := Claim7.holds Tryd.pinned (.plain (OpenSpec.ofChange reportAliveSpec)) reportAliveCard

/-- THE TIED CARD OF 'sacristanlaw14.TokenMatches'. -/
def tokenMatchesCard : Claim7 := { stood := { row := tokenMatchesRow, standIns := [], harness := (true, "a3aa92481c8a76f36e41ffff9687d6e8c3d021d000be04441a88c0623d666ad2"), looks := false }, kinds := [], alts := [], laidByText := true, laidKinds := [.data, .data, .data, .data, .pinned], laidTests := true, laidLooks := .later }
def TokenMatchesCardSaid : Prop := Claim7.holds Tryd.pinned (.plain (OpenSpec.ofChange tokenMatchesSpec)) tokenMatchesCard

/-- THE TIED CARD OF 'sacristanlaw14.TokenReads'. -/
def tokenReadsCard : Claim7 := { stood := { row := tokenReadsRow, standIns := [], harness := (true, "a3aa92481c8a76f36e41ffff9687d6e8c3d021d000be04441a88c0623d666ad2"), looks := false }, kinds := [], alts := [], laidByText := true, laidKinds := [.data, .data, .data, .data, .pinned], laidTests := true, laidLooks := .later }
def TokenReadsCardSaid : Prop := Claim7.holds Tryd.pinned (.plain (OpenSpec.ofChange tokenReadsSpec)) tokenReadsCard

/-- THE TIED CARD OF 'sacristanlaw14.TokenExamples'. -/
def tokenExamplesCard : Claim7 := { stood := { row := tokenExamplesRow, standIns := [], harness := (true, "a3aa92481c8a76f36e41ffff9687d6e8c3d021d000be04441a88c0623d666ad2"), looks := false }, kinds := [], alts := [], laidByText := true, laidKinds := [.data, .data, .data, .data, .pinned], laidTests := true, laidLooks := .later }
def TokenExamplesCardSaid : Prop := Claim7.holds Tryd.pinned (.plain (OpenSpec.ofChange tokenExamplesSpec)) tokenExamplesCard

/-- THE TIED CARD OF 'sacristanlaw14.TokenBack'. -/
def tokenBackCard : Claim7 := { stood := { row := tokenBackRow, standIns := [], harness := (true, "a3aa92481c8a76f36e41ffff9687d6e8c3d021d000be04441a88c0623d666ad2"), looks := false }, kinds := [], alts := [], laidByText := true, laidKinds := [.data, .data, .data, .data, .pinned], laidTests := true, laidLooks := .later }
def TokenBackCardSaid : Prop := Claim7.holds Tryd.pinned (.plain (OpenSpec.ofChange tokenBackSpec)) tokenBackCard

/-- THE TIED CARD OF 'sacristanlaw14.TokenOrder'. -/
def tokenOrderCard : Claim7 := { stood := { row := tokenOrderRow, standIns := [], harness := (true, "a3aa92481c8a76f36e41ffff9687d6e8c3d021d000be04441a88c0623d666ad2"), looks := false }, kinds := [], alts := [], laidByText := true, laidKinds := [.data, .data, .data, .data, .pinned], laidTests := true, laidLooks := .later }
def TokenOrderCardSaid : Prop := Claim7.holds Tryd.pinned (.plain (OpenSpec.ofChange tokenOrderSpec)) tokenOrderCard

/-- THE TIED CARD OF 'sacristanlaw14.TokenDigits'. -/
def tokenDigitsCard : Claim7 := { stood := { row := tokenDigitsRow, standIns := [], harness := (true, "a3aa92481c8a76f36e41ffff9687d6e8c3d021d000be04441a88c0623d666ad2"), looks := false }, kinds := [], alts := [], laidByText := true, laidKinds := [.data, .data, .data, .data, .pinned], laidTests := true, laidLooks := .later }
def TokenDigitsCardSaid : Prop := Claim7.holds Tryd.pinned (.plain (OpenSpec.ofChange tokenDigitsSpec)) tokenDigitsCard

/-- THE SECOND FORM's CARD OF 'sacristanlaw33.ReportLines'. -/
def reportLinesUptoCard : Claim7 := { stood := { row := reportLinesUptoRow, standIns := [], harness := (true, "a3aa92481c8a76f36e41ffff9687d6e8c3d021d000be04441a88c0623d666ad2"), looks := false }, kinds := [], alts := [], laidByText := true, laidKinds := [.data, .data, .data], laidTests := true, laidLooks := .later }
def ReportLinesUptoCardSaid : Prop := Claim7.holds Tryd.pinned (.plain (OpenSpec.upto reportLinesSpec)) reportLinesUptoCard

/-- THE SECOND FORM's CARD OF 'sacristanlaw33.ReportDistinct'. -/
def reportDistinctUptoCard : Claim7 := { stood := { row := reportDistinctUptoRow, standIns := [], harness := (true, "a3aa92481c8a76f36e41ffff9687d6e8c3d021d000be04441a88c0623d666ad2"), looks := false }, kinds := [], alts := [], laidByText := true, laidKinds := [.data, .data, .data], laidTests := true, laidLooks := .later }
def ReportDistinctUptoCardSaid : Prop := Claim7.holds Tryd.pinned (.plain (OpenSpec.upto reportDistinctSpec)) reportDistinctUptoCard

/-- THE SECOND FORM's CARD OF 'sacristanlaw33.ReportMatches'. -/
def reportMatchesUptoCard : Claim7 := { stood := { row := reportMatchesUptoRow, standIns := [], harness := (true, "a3aa92481c8a76f36e41ffff9687d6e8c3d021d000be04441a88c0623d666ad2"), looks := false }, kinds := [], alts := [], laidByText := true, laidKinds := [.data, .data, .data], laidTests := true, laidLooks := .later }
def ReportMatchesUptoCardSaid : Prop := Claim7.holds Tryd.pinned (.plain (OpenSpec.upto reportMatchesSpec)) reportMatchesUptoCard

/-- THE SECOND FORM's CARD OF 'sacristanlaw33.ReportExamples'. -/
def reportExamplesUptoCard : Claim7 := { stood := { row := reportExamplesUptoRow, standIns := [], harness := (true, "a3aa92481c8a76f36e41ffff9687d6e8c3d021d000be04441a88c0623d666ad2"), looks := false }, kinds := [], alts := [], laidByText := true, laidKinds := [.data, .data, .data], laidTests := true, laidLooks := .later }
def ReportExamplesUptoCardSaid : Prop := Claim7.holds Tryd.pinned (.plain (OpenSpec.upto reportExamplesSpec)) reportExamplesUptoCard

/-- THE SECOND FORM's CARD OF 'sacristanlaw33.ReportCounts'. -/
def reportCountsUptoCard : Claim7 := { stood := { row := reportCountsUptoRow, standIns := [], harness := (true, "a3aa92481c8a76f36e41ffff9687d6e8c3d021d000be04441a88c0623d666ad2"), looks := false }, kinds := [], alts := [], laidByText := true, laidKinds := [.data, .data, .data], laidTests := true, laidLooks := .later }
def ReportCountsUptoCardSaid : Prop := Claim7.holds Tryd.pinned (.plain (OpenSpec.upto reportCountsSpec)) reportCountsUptoCard

/-- THE SECOND FORM's CARD OF 'sacristanlaw33.ReportAlive'. -/
def reportAliveUptoCard : Claim7 := { stood := { row := reportAliveUptoRow, standIns := [], harness := (true, "a3aa92481c8a76f36e41ffff9687d6e8c3d021d000be04441a88c0623d666ad2"), looks := false }, kinds := [], alts := [], laidByText := true, laidKinds := [.data, .data, .data], laidTests := true, laidLooks := .later }
def ReportAliveUptoCardSaid : Prop := Claim7.holds Tryd.pinned (.plain (OpenSpec.upto reportAliveSpec)) reportAliveUptoCard

/-- THE SECOND FORM's CARD OF 'sacristanlaw14.TokenMatches'. -/
def tokenMatchesUptoCard : Claim7 := { stood := { row := tokenMatchesUptoRow, standIns := [], harness := (true, "a3aa92481c8a76f36e41ffff9687d6e8c3d021d000be04441a88c0623d666ad2"), looks := false }, kinds := [], alts := [], laidByText := true, laidKinds := [.data, .data, .data, .data, .pinned], laidTests := true, laidLooks := .later }
def TokenMatchesUptoCardSaid : Prop := Claim7.holds Tryd.pinned (.plain (OpenSpec.upto tokenMatchesSpec)) tokenMatchesUptoCard

/-- THE SECOND FORM's CARD OF 'sacristanlaw14.TokenReads'. -/
def tokenReadsUptoCard : Claim7 := { stood := { row := tokenReadsUptoRow, standIns := [], harness := (true, "a3aa92481c8a76f36e41ffff9687d6e8c3d021d000be04441a88c0623d666ad2"), looks := false }, kinds := [], alts := [], laidByText := true, laidKinds := [.data, .data, .data, .data, .pinned], laidTests := true, laidLooks := .later }
def TokenReadsUptoCardSaid : Prop := Claim7.holds Tryd.pinned (.plain (OpenSpec.upto tokenReadsSpec)) tokenReadsUptoCard

/-- THE SECOND FORM's CARD OF 'sacristanlaw14.TokenExamples'. -/
def tokenExamplesUptoCard : Claim7 := { stood := { row := tokenExamplesUptoRow, standIns := [], harness := (true, "a3aa92481c8a76f36e41ffff9687d6e8c3d021d000be04441a88c0623d666ad2"), looks := false }, kinds := [], alts := [], laidByText := true, laidKinds := [.data, .data, .data, .data, .pinned], laidTests := true, laidLooks := .later }
def TokenExamplesUptoCardSaid : Prop := Claim7.holds Tryd.pinned (.plain (OpenSpec.upto tokenExamplesSpec)) tokenExamplesUptoCard

/-- THE SECOND FORM's CARD OF 'sacristanlaw14.TokenBack'. -/
def tokenBackUptoCard : Claim7 := { stood := { row := tokenBackUptoRow, standIns := [], harness := (true, "a3aa92481c8a76f36e41ffff9687d6e8c3d021d000be04441a88c0623d666ad2"), looks := false }, kinds := [], alts := [], laidByText := true, laidKinds := [.data, .data, .data, .data, .pinned], laidTests := true, laidLooks := .later }
def TokenBackUptoCardSaid : Prop := Claim7.holds Tryd.pinned (.plain (OpenSpec.upto tokenBackSpec)) tokenBackUptoCard

/-- THE SECOND FORM's CARD OF 'sacristanlaw14.TokenOrder'. -/
def tokenOrderUptoCard : Claim7 := { stood := { row := tokenOrderUptoRow, standIns := [], harness := (true, "a3aa92481c8a76f36e41ffff9687d6e8c3d021d000be04441a88c0623d666ad2"), looks := false }, kinds := [], alts := [], laidByText := true, laidKinds := [.data, .data, .data, .data, .pinned], laidTests := true, laidLooks := .later }
def TokenOrderUptoCardSaid : Prop := Claim7.holds Tryd.pinned (.plain (OpenSpec.upto tokenOrderSpec)) tokenOrderUptoCard

/-- THE SECOND FORM's CARD OF 'sacristanlaw14.TokenDigits'. -/
def tokenDigitsUptoCard : Claim7 := { stood := { row := tokenDigitsUptoRow, standIns := [], harness := (true, "a3aa92481c8a76f36e41ffff9687d6e8c3d021d000be04441a88c0623d666ad2"), looks := false }, kinds := [], alts := [], laidByText := true, laidKinds := [.data, .data, .data, .data, .pinned], laidTests := true, laidLooks := .later }
def TokenDigitsUptoCardSaid : Prop := Claim7.holds Tryd.pinned (.plain (OpenSpec.upto tokenDigitsSpec)) tokenDigitsUptoCard
end Rows
end Go.Proofs.YtoagnbpmoihojaaDoor

/-
  DERIVED. GIVEN WITH THE SEED: THE CARDS: each row of YtlplkcdlnplioaaDoorRows.lean that lists a variable, with what it lists TIED to the program's text (the seventh form; the later family's looks); each row that meets fmt, with fmt's text TOLD by the authors' own Lean function (tested against real Go, not proved from fmt's source: count such statements apart). THE CARD IS WHAT COUNTS. Prove the row's statement (the work); the ties are given (YtlplkcdlnplioaaDoorTie.lean); close each card by the builder's one call (the guide's Derived/Test/ToyasCard.lean, 'card_holds'). Laid BY PROGRAM, IN A SANDBOX (cutbox-door.mjs). By AI agents, Wed Nov 11 2026. No macro, syntax, notation, axiom, sorry.
-/
import Derived.Test.YtlplkcdlnplioaaDoorRows
import GoSem.ClaimSeven
namespace Go.Proofs.YtlplkcdlnplioaaDoor
namespace Rows

/-- THE TIED CARD OF 'laws.FnExactTanOf'. -/
def fnExactTanOfCard : Claim7 := { stood := { row := fnExactTanOfRow, standIns := [], harness := (true, "a2bff1b808e28daa25b10ef0475277b2cf7f1b400dd56bb4b276c17de560c7f2"), looks := false }, kinds := [], alts := [], laidByText := true, laidKinds := [.data], laidTests := true, laidLooks := .later }
def FnExactTanOfCardSaid : Prop := Claim7.holds Tryd.pinned (.plain (OpenSpec.ofChange fnExactTanOfSpec)) fnExactTanOfCard

/-- THE TIED CARD OF 'laws.FnExactBevelGap'. -/
def fnExactBevelGapCard : Claim7 := { stood := { row := fnExactBevelGapRow, standIns := [], harness := (true, "a2bff1b808e28daa25b10ef0475277b2cf7f1b400dd56bb4b276c17de560c7f2"), looks := false }, kinds := [], alts := [], laidByText := true, laidKinds := [.data], laidTests := true, laidLooks := .later }
def FnExactBevelGapCardSaid : Prop := Claim7.holds Tryd.pinned (.plain (OpenSpec.ofChange fnExactBevelGapSpec)) fnExactBevelGapCard

/-- THE TIED CARD OF 'laws.FnExactThicknessFor'. -/
def fnExactThicknessForCard : Claim7 := { stood := { row := fnExactThicknessForRow, standIns := [], harness := (true, "a2bff1b808e28daa25b10ef0475277b2cf7f1b400dd56bb4b276c17de560c7f2"), looks := false }, kinds := [], alts := [], laidByText := true, laidKinds := [.data], laidTests := true, laidLooks := .later }
def FnExactThicknessForCardSaid : Prop := Claim7.holds Tryd.pinned (.plain (OpenSpec.ofChange fnExactThicknessForSpec)) fnExactThicknessForCard

/-- THE TIED CARD OF 'laws.FnExactClosesGap'. -/
def fnExactClosesGapCard : Claim7 := { stood := { row := fnExactClosesGapRow, standIns := [], harness := (true, "a2bff1b808e28daa25b10ef0475277b2cf7f1b400dd56bb4b276c17de560c7f2"), looks := false }, kinds := [], alts := [], laidByText := true, laidKinds := [.data], laidTests := true, laidLooks := .later }
def FnExactClosesGapCardSaid : Prop := Claim7.holds Tryd.pinned (.plain (OpenSpec.ofChange fnExactClosesGapSpec)) fnExactClosesGapCard

/-- THE TIED CARD OF 'laws.FnExactBestBevel'. -/
def fnExactBestBevelCard : Claim7 := { stood := { row := fnExactBestBevelRow, standIns := [], harness := (true, "a2bff1b808e28daa25b10ef0475277b2cf7f1b400dd56bb4b276c17de560c7f2"), looks := false }, kinds := [], alts := [], laidByText := true, laidKinds := [.data], laidTests := true, laidLooks := .later }
def FnExactBestBevelCardSaid : Prop := Claim7.holds Tryd.pinned (.plain (OpenSpec.ofChange fnExactBestBevelSpec)) fnExactBestBevelCard

/-- THE TIED CARD OF 'laws.FnExactBevelRange'. -/
def fnExactBevelRangeCard : Claim7 := { stood := { row := fnExactBevelRangeRow, standIns := [], harness := (true, "a2bff1b808e28daa25b10ef0475277b2cf7f1b400dd56bb4b276c17de560c7f2"), looks := false }, kinds := [], alts := [], laidByText := true, laidKinds := [.data], laidTests := true, laidLooks := .later }
def FnExactBevelRangeCardSaid : Prop := Claim7.holds Tryd.pinned (.plain (OpenSpec.ofChange fnExactBevelRangeSpec)) fnExactBevelRangeCard

/-- THE TIED CARD OF 'laws.FnBevel'. -/
def fnBevelCard : Claim7 := { stood := { row := fnBevelRow, standIns := [], harness := (true, "a2bff1b808e28daa25b10ef0475277b2cf7f1b400dd56bb4b276c17de560c7f2"), looks := false }, kinds := [], alts := [], laidByText := true, laidKinds := [.data], laidTests := true, laidLooks := .later }
def FnBevelCardSaid : Prop := Claim7.holds Tryd.pinned (.plain (OpenSpec.ofChange fnBevelSpec)) fnBevelCard

/-- THE SECOND FORM's CARD OF 'laws.FnExactTanOf'. -/
def fnExactTanOfUptoCard : Claim7 := { stood := { row := fnExactTanOfUptoRow, standIns := [], harness := (true, "a2bff1b808e28daa25b10ef0475277b2cf7f1b400dd56bb4b276c17de560c7f2"), looks := false }, kinds := [], alts := [], laidByText := true, laidKinds := [.data], laidTests := true, laidLooks := .later }
def FnExactTanOfUptoCardSaid : Prop := Claim7.holds Tryd.pinned (.plain (OpenSpec.upto fnExactTanOfSpec)) fnExactTanOfUptoCard

/-- THE SECOND FORM's CARD OF 'laws.FnExactBevelGap'. -/
def fnExactBevelGapUptoCard : Claim7 := { stood := { row := fnExactBevelGapUptoRow, standIns := [], harness := (true, "a2bff1b808e28daa25b10ef0475277b2cf7f1b400dd56bb4b276c17de560c7f2"), looks := false }, kinds := [], alts := [], laidByText := true, laidKinds := [.data], laidTests := true, laidLooks := .later }
def FnExactBevelGapUptoCardSaid : Prop := Claim7.holds Tryd.pinned (.plain (OpenSpec.upto fnExactBevelGapSpec)) fnExactBevelGapUptoCard

/-- THE SECOND FORM's CARD OF 'laws.FnExactThicknessFor'. -/
def fnExactThicknessForUptoCard : Claim7 := { stood := { row := fnExactThicknessForUptoRow, standIns := [], harness := (true, "a2bff1b808e28daa25b10ef0475277b2cf7f1b400dd56bb4b276c17de560c7f2"), looks := false }, kinds := [], alts := [], laidByText := true, laidKinds := [.data], laidTests := true, laidLooks := .later }
def FnExactThicknessForUptoCardSaid : Prop := Claim7.holds Tryd.pinned (.plain (OpenSpec.upto fnExactThicknessForSpec)) fnExactThicknessForUptoCard

/-- THE SECOND FORM's CARD OF 'laws.FnExactClosesGap'. -/
def fnExactClosesGapUptoCard : Claim7 := { stood := { row := fnExactClosesGapUptoRow, standIns := [], harness := (true, "a2bff1b808e28daa25b10ef0475277b2cf7f1b400dd56bb4b276c17de560c7f2"), looks := false }, kinds := [], alts := [], laidByText := true, laidKinds := [.data], laidTests := true, laidLooks := .later }
def FnExactClosesGapUptoCardSaid : Prop := Claim7.holds Tryd.pinned (.plain (OpenSpec.upto fnExactClosesGapSpec)) fnExactClosesGapUptoCard

/-- THE SECOND FORM's CARD OF 'laws.FnExactBestBevel'. -/
def fnExactBestBevelUptoCard : Claim7 := { stood := { row := fnExactBestBevelUptoRow, standIns := [], harness := (true, "a2bff1b808e28daa25b10ef0475277b2cf7f1b400dd56bb4b276c17de560c7f2"), looks := false }, kinds := [], alts := [], laidByText := true, laidKinds := [.data], laidTests := true, laidLooks := .later }
def FnExactBestBevelUptoCardSaid : Prop := Claim7.holds Tryd.pinned (.plain (OpenSpec.upto fnExactBestBevelSpec)) fnExactBestBevelUptoCard

/-- THE SECOND FORM's CARD OF 'laws.FnExactBevelRange'. -/
def fnExactBevelRangeUptoCard : Claim7 := { stood := { row := fnExactBevelRangeUptoRow, standIns := [], harness := (true, "a2bff1b808e28daa25b10ef0475277b2cf7f1b400dd56bb4b276c17de560c7f2"), looks := false }, kinds := [], alts := [], laidByText := true, laidKinds := [.data], laidTests := true, laidLooks := .later }
def FnExactBevelRangeUptoCardSaid : Prop := Claim7.holds Tryd.pinned (.plain (OpenSpec.upto fnExactBevelRangeSpec)) fnExactBevelRangeUptoCard

/-- THE SECOND FORM's CARD OF 'laws.FnBevel'. -/
def fnBevelUptoCard : Claim7 := { stood := { row := fnBevelUptoRow, standIns := [], harness := (true, "a2bff1b808e28daa25b10ef0475277b2cf7f1b400dd56bb4b276c17de560c7f2"), looks := false }, kinds := [], alts := [], laidByText := true, laidKinds := [.data], laidTests := true, laidLooks := .later }
def FnBevelUptoCardSaid : Prop := Claim7.holds Tryd.pinned (.plain (OpenSpec.upto fnBevelSpec)) fnBevelUptoCard
end Rows
end Go.Proofs.YtlplkcdlnplioaaDoor

/-
  DERIVED. GIVEN WITH THE SEED: THE CARDS: each row of YtmaipnbadfplfaaDoorRows.lean that lists a variable, with what it lists TIED to the program's text (the seventh form; the later family's looks); each row that meets fmt, with fmt's text TOLD by the authors' own Lean function (tested against real Go, not proved from fmt's source: count such statements apart). THE CARD IS WHAT COUNTS. Prove the row's statement (the work); the ties are given (YtmaipnbadfplfaaDoorTie.lean); close each card by the builder's one call (the guide's Derived/Test/ToyasCard.lean, 'card_holds'). Laid BY PROGRAM, IN A SANDBOX (cutbox-door.mjs). By AI agents, Wed Nov 11 2026. No macro, syntax, notation, axiom, sorry.
-/
import Derived.Test.YtmaipnbadfplfaaDoorRows
import GoSem.ClaimSeven
namespace Go.Proofs.YtmaipnbadfplfaaDoor
namespace Rows

/-- THE TIED CARD OF 'laws.FnExactCommonBevel'. -/
def fnExactCommonBevelCard : Claim7 := { stood := { row := fnExactCommonBevelRow, standIns := [], harness := (true, "9dcafbe96f58a7aa5e33ad0a2084bf01453a434aea6c5cee0818711c85a1a205"), looks := false }, kinds := [], alts := [], laidByText := true, laidKinds := [.data], laidTests := true, laidLooks := .later }
def FnExactCommonBevelCardSaid : Prop := Claim7.holds Tryd.pinned (.plain (OpenSpec.ofChange fnExactCommonBevelSpec)) fnExactCommonBevelCard

/-- THE SECOND FORM's CARD OF 'laws.FnExactCommonBevel'. -/
def fnExactCommonBevelUptoCard : Claim7 := { stood := { row := fnExactCommonBevelUptoRow, standIns := [], harness := (true, "9dcafbe96f58a7aa5e33ad0a2084bf01453a434aea6c5cee0818711c85a1a205"), looks := false }, kinds := [], alts := [], laidByText := true, laidKinds := [.data], laidTests := true, laidLooks := .later }
def FnExactCommonBevelUptoCardSaid : Prop := Claim7.holds Tryd.pinned (.plain (OpenSpec.upto fnExactCommonBevelSpec)) fnExactCommonBevelUptoCard
end Rows
end Go.Proofs.YtmaipnbadfplfaaDoor

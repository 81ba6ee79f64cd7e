/-
  DERIVED. GIVEN WITH THE SEED: THE CARDS: each row of YtedakffelgmmnaaDoorRows.lean that lists a variable, with what it lists TIED to the program's text (the seventh form; the later family's looks); each row that meets fmt, with fmt's text TOLD by the authors' own Lean function (tested against real Go, not proved from fmt's source: count such statements apart). THE CARD IS WHAT COUNTS. Prove the row's statement (the work); the ties are given (YtedakffelgmmnaaDoorTie.lean); close each card by the builder's one call (the guide's Derived/Test/ToyasCard.lean, 'card_holds'). Laid BY PROGRAM, IN A SANDBOX (cutbox-door.mjs). By AI agents, Wed Nov 11 2026. No macro, syntax, notation, axiom, sorry.
-/
import Derived.Test.YtedakffelgmmnaaDoorRows
import GoSem.ClaimSeven
namespace Go.Proofs.YtedakffelgmmnaaDoor
namespace Rows

/-- THE TIED CARD OF 'laws.FnExactReadPacket'. -/
def fnExactReadPacketCard : Claim7 := { stood := { row := fnExactReadPacketRow, standIns := [], harness := (true, "5e0ecc06ad37a39a4c5098e92bdc14c5a8967c7cb8fec1a67ea7f802f80e7939"), looks := false }, kinds := [], alts := [], laidByText := true, laidKinds := [.data, .data, .data, .data, .pinned], laidTests := true, laidLooks := .later }
def FnExactReadPacketCardSaid : Prop := Claim7.holds Tryd.pinned (.plain (OpenSpec.ofChange fnExactReadPacketSpec)) fnExactReadPacketCard

/-- THE SECOND FORM's CARD OF 'laws.FnExactReadPacket'. -/
def fnExactReadPacketUptoCard : Claim7 := { stood := { row := fnExactReadPacketUptoRow, standIns := [], harness := (true, "5e0ecc06ad37a39a4c5098e92bdc14c5a8967c7cb8fec1a67ea7f802f80e7939"), looks := false }, kinds := [], alts := [], laidByText := true, laidKinds := [.data, .data, .data, .data, .pinned], laidTests := true, laidLooks := .later }
def FnExactReadPacketUptoCardSaid : Prop := Claim7.holds Tryd.pinned (.plain (OpenSpec.upto fnExactReadPacketSpec)) fnExactReadPacketUptoCard
end Rows
end Go.Proofs.YtedakffelgmmnaaDoor

/-
  DERIVED. GIVEN WITH THE SEED: THE CARDS: each row of YtgcfokcmjgoeeaaDoorRows.lean that lists a variable, with what it lists TIED to the program's text (the seventh form; the later family's looks); each row that meets fmt, with fmt's text TOLD by the authors' own Lean function (tested against real Go, not proved from fmt's source: count such statements apart). THE CARD IS WHAT COUNTS. Prove the row's statement (the work); the ties are given (YtgcfokcmjgoeeaaDoorTie.lean); close each card by the builder's one call (the guide's Derived/Test/ToyasCard.lean, 'card_holds'). Laid BY PROGRAM, IN A SANDBOX (cutbox-door.mjs). By AI agents, Wed Nov 11 2026. No macro, syntax, notation, axiom, sorry.
-/
import Derived.Test.YtgcfokcmjgoeeaaDoorRows
import GoSem.ClaimSeven
namespace Go.Proofs.YtgcfokcmjgoeeaaDoor
namespace Rows

/-- THE TIED CARD OF 'laws.FnExactBladeText'. -/
def fnExactBladeTextCard : Claim7 := { stood := { row := fnExactBladeTextRow, standIns := [], harness := (true, "765045d44b09e8afa9a3092cfcf5f5b500a6275658abacd73996c39feb22d4d2"), looks := false }, kinds := [], alts := [], laidByText := true, laidKinds := [.data, .data, .data], laidTests := true, laidLooks := .later }
def FnExactBladeTextCardSaid : Prop := Claim7.holds Tryd.pinned (.plain (OpenSpec.ofChange fnExactBladeTextSpec)) fnExactBladeTextCard

/-- THE TIED CARD OF 'laws.FnExactPacketText'. -/
def fnExactPacketTextCard : Claim7 := { stood := { row := fnExactPacketTextRow, standIns := [], harness := (true, "765045d44b09e8afa9a3092cfcf5f5b500a6275658abacd73996c39feb22d4d2"), looks := false }, kinds := [], alts := [], laidByText := true, laidKinds := [.data, .data, .data], laidTests := true, laidLooks := .later }
def FnExactPacketTextCardSaid : Prop := Claim7.holds Tryd.pinned (.plain (OpenSpec.ofChange fnExactPacketTextSpec)) fnExactPacketTextCard

/-- THE SECOND FORM's CARD OF 'laws.FnExactBladeText'. -/
def fnExactBladeTextUptoCard : Claim7 := { stood := { row := fnExactBladeTextUptoRow, standIns := [], harness := (true, "765045d44b09e8afa9a3092cfcf5f5b500a6275658abacd73996c39feb22d4d2"), looks := false }, kinds := [], alts := [], laidByText := true, laidKinds := [.data, .data, .data], laidTests := true, laidLooks := .later }
def FnExactBladeTextUptoCardSaid : Prop := Claim7.holds Tryd.pinned (.plain (OpenSpec.upto fnExactBladeTextSpec)) fnExactBladeTextUptoCard

/-- THE SECOND FORM's CARD OF 'laws.FnExactPacketText'. -/
def fnExactPacketTextUptoCard : Claim7 := { stood := { row := fnExactPacketTextUptoRow, standIns := [], harness := (true, "765045d44b09e8afa9a3092cfcf5f5b500a6275658abacd73996c39feb22d4d2"), looks := false }, kinds := [], alts := [], laidByText := true, laidKinds := [.data, .data, .data], laidTests := true, laidLooks := .later }
def FnExactPacketTextUptoCardSaid : Prop := Claim7.holds Tryd.pinned (.plain (OpenSpec.upto fnExactPacketTextSpec)) fnExactPacketTextUptoCard
end Rows
end Go.Proofs.YtgcfokcmjgoeeaaDoor

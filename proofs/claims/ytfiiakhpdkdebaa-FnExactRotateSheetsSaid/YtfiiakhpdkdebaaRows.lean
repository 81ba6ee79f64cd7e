/-
  No cell of these rows narrows 'for every input' (looked for: loops, veiled, ifaces, maps, wideKeys, modest, calm, conditions, laid).
  DERIVED. THE GIVEN ROWS OF THIS SEAT. 6 by the template 'for every input the law returns true; each argument reads behind the call as it read before'; 0 by the template 'total and deterministic' (their statements: YtfiiakhpdkdebaaTotals.lean).
  GIVEN WITH THE SEED: the statements are not yours to turn. If you find one false, say at which input.
  Laid BY PROGRAM, IN A SANDBOX (cutbox-rows.mjs): the forced cells as the released guide's own fill.sh prints them over the translation c10ec993914b55d0… (all of the seat's roots in one cut). By AI agents, Wed Nov 11 2026. No macro, syntax, notation, axiom, sorry.
-/
import Derived.Test.YtfiiakhpdkdebaaChecked
import GoSem.Claim
import GoSem.ClaimJoined
import GoSem.ClaimMapViews
import Derived.JoinedTies
import Derived.KernelRfl
namespace Go.Proofs.Ytfiiakhpdkdebaa
/- THE CELL 'sum', in the pinned program and in every row, IS THE sha256 OF THE DUMP (.gsa) THAT YtfiiakhpdkdebaaProg.lean LOADS. Nothing in Lean hashes anything: it is a label: what it is worth is what the hold of that sum in a sandbox is worth. -/
noncomputable def Try.pinned : Pinned := { name := "ytfiiakhpdkdebaa", sum := "c10ec993914b55d0bc91bd05df48775defcb74b3159676a41b92652100847b9a", checked := Try.checked }
namespace Rows
def none {H : Type} : Left H := { results := [], args := [] }

/-- 'laws.FnExactFitsLeaf': WHATEVER THE INPUT: true; the input reads as it did. -/
def fnExactFitsLeafSpec : ChangeSpec := { name := "fnExactFitsLeaf", fn := fun _ => fun
  | [d1, d2] => { results := [.lit (.bool true)], args := [d1, d2] }
  | _ => none }
def fnExactFitsLeafRow : OpenClaim := { program := "ytfiiakhpdkdebaa", sum := "c10ec993914b55d0bc91bd05df48775defcb74b3159676a41b92652100847b9a", func := "loop.example/g00956/laws.FnExactFitsLeaf", spec := "fnExactFitsLeaf", unfollowed := true, recurses := true, apart := false }
def FnExactFitsLeafSaid : Prop := fnExactFitsLeafRow.holds Try.pinned (OpenSpec.ofChange fnExactFitsLeafSpec)

/-- ITS FALSE NEIGHBOUR: 'it returns false'. Refute it at one input. -/
def fnExactFitsLeafWrong : ChangeSpec := { name := "fnExactFitsLeaf", fn := fun _ => fun
  | [d1, d2] => { results := [.lit (.bool false)], args := [d1, d2] }
  | _ => none }
def FnExactFitsLeafWrongFalsely : Prop := fnExactFitsLeafRow.holds Try.pinned (OpenSpec.ofChange fnExactFitsLeafWrong)

/-- 'laws.FnExactTurnsThatFit': WHATEVER THE INPUT: true; the input reads as it did. -/
def fnExactTurnsThatFitSpec : ChangeSpec := { name := "fnExactTurnsThatFit", fn := fun _ => fun
  | [d1, d2] => { results := [.lit (.bool true)], args := [d1, d2] }
  | _ => none }
def fnExactTurnsThatFitRow : OpenClaim := { program := "ytfiiakhpdkdebaa", sum := "c10ec993914b55d0bc91bd05df48775defcb74b3159676a41b92652100847b9a", func := "loop.example/g00956/laws.FnExactTurnsThatFit", spec := "fnExactTurnsThatFit", unfollowed := true, recurses := true, apart := false }
def FnExactTurnsThatFitSaid : Prop := fnExactTurnsThatFitRow.holds Try.pinned (OpenSpec.ofChange fnExactTurnsThatFitSpec)

/-- ITS FALSE NEIGHBOUR: 'it returns false'. Refute it at one input. -/
def fnExactTurnsThatFitWrong : ChangeSpec := { name := "fnExactTurnsThatFit", fn := fun _ => fun
  | [d1, d2] => { results := [.lit (.bool false)], args := [d1, d2] }
  | _ => none }
def FnExactTurnsThatFitWrongFalsely : Prop := fnExactTurnsThatFitRow.holds Try.pinned (OpenSpec.ofChange fnExactTurnsThatFitWrong)

/-- 'laws.FnExactOffcutsOf': WHATEVER THE INPUT: true; the input reads as it did. -/
def fnExactOffcutsOfSpec : ChangeSpec := { name := "fnExactOffcutsOf", fn := fun _ => fun
  | [d1, d2] => { results := [.lit (.bool true)], args := [d1, d2] }
  | _ => none }
def fnExactOffcutsOfRow : OpenClaim := { program := "ytfiiakhpdkdebaa", sum := "c10ec993914b55d0bc91bd05df48775defcb74b3159676a41b92652100847b9a", func := "loop.example/g00956/laws.FnExactOffcutsOf", spec := "fnExactOffcutsOf", unfollowed := true, recurses := true, apart := false }
def FnExactOffcutsOfSaid : Prop := fnExactOffcutsOfRow.holds Try.pinned (OpenSpec.ofChange fnExactOffcutsOfSpec)

/-- ITS FALSE NEIGHBOUR: 'it returns false'. Refute it at one input. -/
def fnExactOffcutsOfWrong : ChangeSpec := { name := "fnExactOffcutsOf", fn := fun _ => fun
  | [d1, d2] => { results := [.lit (.bool false)], args := [d1, d2] }
  | _ => none }
def FnExactOffcutsOfWrongFalsely : Prop := fnExactOffcutsOfRow.holds Try.pinned (OpenSpec.ofChange fnExactOffcutsOfWrong)

/-- 'laws.FnExactDistributionOf': WHATEVER THE INPUT: true; the input reads as it did. -/
def fnExactDistributionOfSpec : ChangeSpec := { name := "fnExactDistributionOf", fn := fun _ => fun
  | [d] => { results := [.lit (.bool true)], args := [d] }
  | _ => none }
def fnExactDistributionOfRow : OpenClaim := { program := "ytfiiakhpdkdebaa", sum := "c10ec993914b55d0bc91bd05df48775defcb74b3159676a41b92652100847b9a", func := "loop.example/g00956/laws.FnExactDistributionOf", spec := "fnExactDistributionOf", unfollowed := true, recurses := true, apart := false }
def FnExactDistributionOfSaid : Prop := fnExactDistributionOfRow.holds Try.pinned (OpenSpec.ofChange fnExactDistributionOfSpec)

/-- ITS FALSE NEIGHBOUR: 'it returns false'. Refute it at one input. -/
def fnExactDistributionOfWrong : ChangeSpec := { name := "fnExactDistributionOf", fn := fun _ => fun
  | [d] => { results := [.lit (.bool false)], args := [d] }
  | _ => none }
def FnExactDistributionOfWrongFalsely : Prop := fnExactDistributionOfRow.holds Try.pinned (OpenSpec.ofChange fnExactDistributionOfWrong)

/-- 'laws.FnExactFaceAreas': WHATEVER THE INPUT: true; the input reads as it did. -/
def fnExactFaceAreasSpec : ChangeSpec := { name := "fnExactFaceAreas", fn := fun _ => fun
  | [d] => { results := [.lit (.bool true)], args := [d] }
  | _ => none }
def fnExactFaceAreasRow : OpenClaim := { program := "ytfiiakhpdkdebaa", sum := "c10ec993914b55d0bc91bd05df48775defcb74b3159676a41b92652100847b9a", func := "loop.example/g00956/laws.FnExactFaceAreas", spec := "fnExactFaceAreas", apart := false }
def FnExactFaceAreasSaid : Prop := fnExactFaceAreasRow.holds Try.pinned (OpenSpec.ofChange fnExactFaceAreasSpec)

/-- ITS FALSE NEIGHBOUR: 'it returns false'. Refute it at one input. -/
def fnExactFaceAreasWrong : ChangeSpec := { name := "fnExactFaceAreas", fn := fun _ => fun
  | [d] => { results := [.lit (.bool false)], args := [d] }
  | _ => none }
def FnExactFaceAreasWrongFalsely : Prop := fnExactFaceAreasRow.holds Try.pinned (OpenSpec.ofChange fnExactFaceAreasWrong)

/-- 'laws.FnExactRotateSheets': WHATEVER THE INPUT: true; the input reads as it did. -/
def fnExactRotateSheetsSpec : ChangeSpec := { name := "fnExactRotateSheets", fn := fun _ => fun
  | [d1, d2] => { results := [.lit (.bool true)], args := [d1, d2] }
  | _ => none }
def fnExactRotateSheetsRow : OpenClaim := { program := "ytfiiakhpdkdebaa", sum := "c10ec993914b55d0bc91bd05df48775defcb74b3159676a41b92652100847b9a", func := "loop.example/g00956/laws.FnExactRotateSheets", spec := "fnExactRotateSheets", unfollowed := true, recurses := true, apart := false }
def FnExactRotateSheetsSaid : Prop := fnExactRotateSheetsRow.holds Try.pinned (OpenSpec.ofChange fnExactRotateSheetsSpec)

/-- ITS FALSE NEIGHBOUR: 'it returns false'. Refute it at one input. -/
def fnExactRotateSheetsWrong : ChangeSpec := { name := "fnExactRotateSheets", fn := fun _ => fun
  | [d1, d2] => { results := [.lit (.bool false)], args := [d1, d2] }
  | _ => none }
def FnExactRotateSheetsWrongFalsely : Prop := fnExactRotateSheetsRow.holds Try.pinned (OpenSpec.ofChange fnExactRotateSheetsWrong)

/- THE SECOND FORM. 'bulk': how many values and letters a reading holds, each counted each time it is reached (what is shared counts as often as it is met; a slice's spare places count too). A statement '..UptoSaid' is the law's where the arguments, and the package variables that the reading takes, are together of bulk at most 1048576: NARROWER than '..Said'. Prove '..Said' where nothing that the law and all that it calls make is longer than what came in: it says more and counts as full. Else prove '..UptoSaid'. A law counts once. -/
mutual
def uptoBulk {H : Type} : DataW H → Nat
  | .lit (.string bytes) => bytes.length + 1
  | .lit _ => 1
  | .nil => 1
  | .ptr d => uptoBulk d + 1
  | .slice elems spare => uptoBulkAll elems + uptoBulkAll spare + 1
  | .agg parts => uptoBulkAll parts + 1
  | .iface _ d => uptoBulk d + 1
  | .map entries => uptoBulkEntries entries + 1
  | .held _ => 1
def uptoBulkAll {H : Type} : List (DataW H) → Nat
  | [] => 0
  | d :: r => uptoBulk d + uptoBulkAll r
def uptoBulkEntries {H : Type} : List (Lit × DataW H) → Nat
  | [] => 0
  | x :: r => uptoBulkEntry x + uptoBulkEntries r
def uptoBulkEntry {H : Type} : Lit × DataW H → Nat
  | (.string bytes, d) => bytes.length + uptoBulk d + 1
  | (_, d) => uptoBulk d + 1
 end
def uptoSmall : (H : Type) → List (DataW H) → Bool := fun _ ds => decide (uptoBulkAll ds ≤ 1048576)
def OpenSpec.upto (s : _root_.Go.ChangeSpec) : _root_.Go.OpenSpec := { _root_.Go.OpenSpec.ofChange s with cond := some uptoSmall }

/-- 'laws.FnExactFitsLeaf', WHERE WHAT IT READS IS OF BULK AT MOST 1048576: true; the input reads as it did. -/
def fnExactFitsLeafUptoRow : OpenClaim := { program := "ytfiiakhpdkdebaa", sum := "c10ec993914b55d0bc91bd05df48775defcb74b3159676a41b92652100847b9a", func := "loop.example/g00956/laws.FnExactFitsLeaf", spec := "fnExactFitsLeaf", unfollowed := true, recurses := true, apart := false, narrowed := true }
def FnExactFitsLeafUptoSaid : Prop := fnExactFitsLeafUptoRow.holds Try.pinned (OpenSpec.upto fnExactFitsLeafSpec)

/-- 'laws.FnExactTurnsThatFit', WHERE WHAT IT READS IS OF BULK AT MOST 1048576: true; the input reads as it did. -/
def fnExactTurnsThatFitUptoRow : OpenClaim := { program := "ytfiiakhpdkdebaa", sum := "c10ec993914b55d0bc91bd05df48775defcb74b3159676a41b92652100847b9a", func := "loop.example/g00956/laws.FnExactTurnsThatFit", spec := "fnExactTurnsThatFit", unfollowed := true, recurses := true, apart := false, narrowed := true }
def FnExactTurnsThatFitUptoSaid : Prop := fnExactTurnsThatFitUptoRow.holds Try.pinned (OpenSpec.upto fnExactTurnsThatFitSpec)

/-- 'laws.FnExactOffcutsOf', WHERE WHAT IT READS IS OF BULK AT MOST 1048576: true; the input reads as it did. -/
def fnExactOffcutsOfUptoRow : OpenClaim := { program := "ytfiiakhpdkdebaa", sum := "c10ec993914b55d0bc91bd05df48775defcb74b3159676a41b92652100847b9a", func := "loop.example/g00956/laws.FnExactOffcutsOf", spec := "fnExactOffcutsOf", unfollowed := true, recurses := true, apart := false, narrowed := true }
def FnExactOffcutsOfUptoSaid : Prop := fnExactOffcutsOfUptoRow.holds Try.pinned (OpenSpec.upto fnExactOffcutsOfSpec)

/-- 'laws.FnExactDistributionOf', WHERE WHAT IT READS IS OF BULK AT MOST 1048576: true; the input reads as it did. -/
def fnExactDistributionOfUptoRow : OpenClaim := { program := "ytfiiakhpdkdebaa", sum := "c10ec993914b55d0bc91bd05df48775defcb74b3159676a41b92652100847b9a", func := "loop.example/g00956/laws.FnExactDistributionOf", spec := "fnExactDistributionOf", unfollowed := true, recurses := true, apart := false, narrowed := true }
def FnExactDistributionOfUptoSaid : Prop := fnExactDistributionOfUptoRow.holds Try.pinned (OpenSpec.upto fnExactDistributionOfSpec)

/-- 'laws.FnExactFaceAreas', WHERE WHAT IT READS IS OF BULK AT MOST 1048576: true; the input reads as it did. -/
def fnExactFaceAreasUptoRow : OpenClaim := { program := "ytfiiakhpdkdebaa", sum := "c10ec993914b55d0bc91bd05df48775defcb74b3159676a41b92652100847b9a", func := "loop.example/g00956/laws.FnExactFaceAreas", spec := "fnExactFaceAreas", apart := false, narrowed := true }
def FnExactFaceAreasUptoSaid : Prop := fnExactFaceAreasUptoRow.holds Try.pinned (OpenSpec.upto fnExactFaceAreasSpec)

/-- 'laws.FnExactRotateSheets', WHERE WHAT IT READS IS OF BULK AT MOST 1048576: true; the input reads as it did. -/
def fnExactRotateSheetsUptoRow : OpenClaim := { program := "ytfiiakhpdkdebaa", sum := "c10ec993914b55d0bc91bd05df48775defcb74b3159676a41b92652100847b9a", func := "loop.example/g00956/laws.FnExactRotateSheets", spec := "fnExactRotateSheets", unfollowed := true, recurses := true, apart := false, narrowed := true }
def FnExactRotateSheetsUptoSaid : Prop := fnExactRotateSheetsUptoRow.holds Try.pinned (OpenSpec.upto fnExactRotateSheetsSpec)

end Rows
end Go.Proofs.Ytfiiakhpdkdebaa

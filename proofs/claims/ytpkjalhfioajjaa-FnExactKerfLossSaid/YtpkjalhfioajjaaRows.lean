/-
  No cell of these rows narrows 'for every input' (looked for: loops, veiled, ifaces, maps, wideKeys, modest, calm, conditions, laid).
  DERIVED. THE GIVEN ROWS OF THIS SEAT. 12 by the template 'for every input the law returns true; each argument reads behind the call as it read before'; 0 by the template 'total and deterministic' (their statements: YtpkjalhfioajjaaTotals.lean).
  GIVEN WITH THE SEED: the statements are not yours to turn. If you find one false, say at which input.
  Laid BY PROGRAM, IN A SANDBOX (cutbox-rows.mjs): the forced cells as the released guide's own fill.sh prints them over the translation 3425475640400ec9… (all of the seat's roots in one cut). By AI agents, Wed Nov 11 2026. No macro, syntax, notation, axiom, sorry.
-/
import Derived.Test.YtpkjalhfioajjaaChecked
import GoSem.Claim
import GoSem.ClaimJoined
import GoSem.ClaimMapViews
import Derived.JoinedTies
import Derived.KernelRfl
namespace Go.Proofs.Ytpkjalhfioajjaa
/- THE CELL 'sum', in the pinned program and in every row, IS THE sha256 OF THE DUMP (.gsa) THAT YtpkjalhfioajjaaProg.lean LOADS. Nothing in Lean hashes anything: it is a label: what it is worth is what the hold of that sum in a sandbox is worth. -/
noncomputable def Try.pinned : Pinned := { name := "ytpkjalhfioajjaa", sum := "3425475640400ec95b4e495bfc1c41c0ec2cad163ba369a644ed19f958946f3e", checked := Try.checked }
namespace Rows
def none {H : Type} : Left H := { results := [], args := [] }

/-- 'laws.FnExactTileAt': WHATEVER THE INPUT: true; the input reads as it did. -/
def fnExactTileAtSpec : ChangeSpec := { name := "fnExactTileAt", fn := fun _ => fun
  | [d1, d2, d3] => { results := [.lit (.bool true)], args := [d1, d2, d3] }
  | _ => none }
def fnExactTileAtRow : OpenClaim := { program := "ytpkjalhfioajjaa", sum := "3425475640400ec95b4e495bfc1c41c0ec2cad163ba369a644ed19f958946f3e", func := "loop.example/g00956/laws.FnExactTileAt", spec := "fnExactTileAt", unfollowed := true, recurses := true, apart := false }
def FnExactTileAtSaid : Prop := fnExactTileAtRow.holds Try.pinned (OpenSpec.ofChange fnExactTileAtSpec)

/-- ITS FALSE NEIGHBOUR: 'it returns false'. Refute it at one input. -/
def fnExactTileAtWrong : ChangeSpec := { name := "fnExactTileAt", fn := fun _ => fun
  | [d1, d2, d3] => { results := [.lit (.bool false)], args := [d1, d2, d3] }
  | _ => none }
def FnExactTileAtWrongFalsely : Prop := fnExactTileAtRow.holds Try.pinned (OpenSpec.ofChange fnExactTileAtWrong)

/-- 'laws.FnExactTileSizes': WHATEVER THE INPUT: true; the input reads as it did. -/
def fnExactTileSizesSpec : ChangeSpec := { name := "fnExactTileSizes", fn := fun _ => fun
  | [d] => { results := [.lit (.bool true)], args := [d] }
  | _ => none }
def fnExactTileSizesRow : OpenClaim := { program := "ytpkjalhfioajjaa", sum := "3425475640400ec95b4e495bfc1c41c0ec2cad163ba369a644ed19f958946f3e", func := "loop.example/g00956/laws.FnExactTileSizes", spec := "fnExactTileSizes", unfollowed := true, recurses := true, apart := false }
def FnExactTileSizesSaid : Prop := fnExactTileSizesRow.holds Try.pinned (OpenSpec.ofChange fnExactTileSizesSpec)

/-- ITS FALSE NEIGHBOUR: 'it returns false'. Refute it at one input. -/
def fnExactTileSizesWrong : ChangeSpec := { name := "fnExactTileSizes", fn := fun _ => fun
  | [d] => { results := [.lit (.bool false)], args := [d] }
  | _ => none }
def FnExactTileSizesWrongFalsely : Prop := fnExactTileSizesRow.holds Try.pinned (OpenSpec.ofChange fnExactTileSizesWrong)

/-- 'laws.FnExactSheetFor': WHATEVER THE INPUT: true; the input reads as it did. -/
def fnExactSheetForSpec : ChangeSpec := { name := "fnExactSheetFor", fn := fun _ => fun
  | [d1, d2, d3] => { results := [.lit (.bool true)], args := [d1, d2, d3] }
  | _ => none }
def fnExactSheetForRow : OpenClaim := { program := "ytpkjalhfioajjaa", sum := "3425475640400ec95b4e495bfc1c41c0ec2cad163ba369a644ed19f958946f3e", func := "loop.example/g00956/laws.FnExactSheetFor", spec := "fnExactSheetFor", unfollowed := true, recurses := true, apart := false }
def FnExactSheetForSaid : Prop := fnExactSheetForRow.holds Try.pinned (OpenSpec.ofChange fnExactSheetForSpec)

/-- ITS FALSE NEIGHBOUR: 'it returns false'. Refute it at one input. -/
def fnExactSheetForWrong : ChangeSpec := { name := "fnExactSheetFor", fn := fun _ => fun
  | [d1, d2, d3] => { results := [.lit (.bool false)], args := [d1, d2, d3] }
  | _ => none }
def FnExactSheetForWrongFalsely : Prop := fnExactSheetForRow.holds Try.pinned (OpenSpec.ofChange fnExactSheetForWrong)

/-- 'laws.FnExactBladesInOrder': WHATEVER THE INPUT: true; the input reads as it did. -/
def fnExactBladesInOrderSpec : ChangeSpec := { name := "fnExactBladesInOrder", fn := fun _ => fun
  | [d1, d2, d3] => { results := [.lit (.bool true)], args := [d1, d2, d3] }
  | _ => none }
def fnExactBladesInOrderRow : OpenClaim := { program := "ytpkjalhfioajjaa", sum := "3425475640400ec95b4e495bfc1c41c0ec2cad163ba369a644ed19f958946f3e", func := "loop.example/g00956/laws.FnExactBladesInOrder", spec := "fnExactBladesInOrder", apart := false }
def FnExactBladesInOrderSaid : Prop := fnExactBladesInOrderRow.holds Try.pinned (OpenSpec.ofChange fnExactBladesInOrderSpec)

/-- ITS FALSE NEIGHBOUR: 'it returns false'. Refute it at one input. -/
def fnExactBladesInOrderWrong : ChangeSpec := { name := "fnExactBladesInOrder", fn := fun _ => fun
  | [d1, d2, d3] => { results := [.lit (.bool false)], args := [d1, d2, d3] }
  | _ => none }
def FnExactBladesInOrderWrongFalsely : Prop := fnExactBladesInOrderRow.holds Try.pinned (OpenSpec.ofChange fnExactBladesInOrderWrong)

/-- 'laws.FnExactSameTiling': WHATEVER THE INPUT: true; the input reads as it did. -/
def fnExactSameTilingSpec : ChangeSpec := { name := "fnExactSameTiling", fn := fun _ => fun
  | [d1, d2] => { results := [.lit (.bool true)], args := [d1, d2] }
  | _ => none }
def fnExactSameTilingRow : OpenClaim := { program := "ytpkjalhfioajjaa", sum := "3425475640400ec95b4e495bfc1c41c0ec2cad163ba369a644ed19f958946f3e", func := "loop.example/g00956/laws.FnExactSameTiling", spec := "fnExactSameTiling", unfollowed := true, recurses := true, apart := false }
def FnExactSameTilingSaid : Prop := fnExactSameTilingRow.holds Try.pinned (OpenSpec.ofChange fnExactSameTilingSpec)

/-- ITS FALSE NEIGHBOUR: 'it returns false'. Refute it at one input. -/
def fnExactSameTilingWrong : ChangeSpec := { name := "fnExactSameTiling", fn := fun _ => fun
  | [d1, d2] => { results := [.lit (.bool false)], args := [d1, d2] }
  | _ => none }
def FnExactSameTilingWrongFalsely : Prop := fnExactSameTilingRow.holds Try.pinned (OpenSpec.ofChange fnExactSameTilingWrong)

/-- 'laws.FnExactNormalTiling': WHATEVER THE INPUT: true; the input reads as it did. -/
def fnExactNormalTilingSpec : ChangeSpec := { name := "fnExactNormalTiling", fn := fun _ => fun
  | [d] => { results := [.lit (.bool true)], args := [d] }
  | _ => none }
def fnExactNormalTilingRow : OpenClaim := { program := "ytpkjalhfioajjaa", sum := "3425475640400ec95b4e495bfc1c41c0ec2cad163ba369a644ed19f958946f3e", func := "loop.example/g00956/laws.FnExactNormalTiling", spec := "fnExactNormalTiling", unfollowed := true, recurses := true, apart := false }
def FnExactNormalTilingSaid : Prop := fnExactNormalTilingRow.holds Try.pinned (OpenSpec.ofChange fnExactNormalTilingSpec)

/-- ITS FALSE NEIGHBOUR: 'it returns false'. Refute it at one input. -/
def fnExactNormalTilingWrong : ChangeSpec := { name := "fnExactNormalTiling", fn := fun _ => fun
  | [d] => { results := [.lit (.bool false)], args := [d] }
  | _ => none }
def FnExactNormalTilingWrongFalsely : Prop := fnExactNormalTilingRow.holds Try.pinned (OpenSpec.ofChange fnExactNormalTilingWrong)

/-- 'laws.FnExactKerfLoss': WHATEVER THE INPUT: true; the input reads as it did. -/
def fnExactKerfLossSpec : ChangeSpec := { name := "fnExactKerfLoss", fn := fun _ => fun
  | [d1, d2] => { results := [.lit (.bool true)], args := [d1, d2] }
  | _ => none }
def fnExactKerfLossRow : OpenClaim := { program := "ytpkjalhfioajjaa", sum := "3425475640400ec95b4e495bfc1c41c0ec2cad163ba369a644ed19f958946f3e", func := "loop.example/g00956/laws.FnExactKerfLoss", spec := "fnExactKerfLoss", apart := false }
def FnExactKerfLossSaid : Prop := fnExactKerfLossRow.holds Try.pinned (OpenSpec.ofChange fnExactKerfLossSpec)

/-- ITS FALSE NEIGHBOUR: 'it returns false'. Refute it at one input. -/
def fnExactKerfLossWrong : ChangeSpec := { name := "fnExactKerfLoss", fn := fun _ => fun
  | [d1, d2] => { results := [.lit (.bool false)], args := [d1, d2] }
  | _ => none }
def FnExactKerfLossWrongFalsely : Prop := fnExactKerfLossRow.holds Try.pinned (OpenSpec.ofChange fnExactKerfLossWrong)

/-- 'laws.FnExactChangesInOrder': WHATEVER THE INPUT: true; the input reads as it did. -/
def fnExactChangesInOrderSpec : ChangeSpec := { name := "fnExactChangesInOrder", fn := fun _ => fun
  | [d1, d2, d3] => { results := [.lit (.bool true)], args := [d1, d2, d3] }
  | _ => none }
def fnExactChangesInOrderRow : OpenClaim := { program := "ytpkjalhfioajjaa", sum := "3425475640400ec95b4e495bfc1c41c0ec2cad163ba369a644ed19f958946f3e", func := "loop.example/g00956/laws.FnExactChangesInOrder", spec := "fnExactChangesInOrder", apart := false }
def FnExactChangesInOrderSaid : Prop := fnExactChangesInOrderRow.holds Try.pinned (OpenSpec.ofChange fnExactChangesInOrderSpec)

/-- ITS FALSE NEIGHBOUR: 'it returns false'. Refute it at one input. -/
def fnExactChangesInOrderWrong : ChangeSpec := { name := "fnExactChangesInOrder", fn := fun _ => fun
  | [d1, d2, d3] => { results := [.lit (.bool false)], args := [d1, d2, d3] }
  | _ => none }
def FnExactChangesInOrderWrongFalsely : Prop := fnExactChangesInOrderRow.holds Try.pinned (OpenSpec.ofChange fnExactChangesInOrderWrong)

/-- 'laws.FnExactCheapestBlade': WHATEVER THE INPUT: true; the input reads as it did. -/
def fnExactCheapestBladeSpec : ChangeSpec := { name := "fnExactCheapestBlade", fn := fun _ => fun
  | [d1, d2] => { results := [.lit (.bool true)], args := [d1, d2] }
  | _ => none }
def fnExactCheapestBladeRow : OpenClaim := { program := "ytpkjalhfioajjaa", sum := "3425475640400ec95b4e495bfc1c41c0ec2cad163ba369a644ed19f958946f3e", func := "loop.example/g00956/laws.FnExactCheapestBlade", spec := "fnExactCheapestBlade", unfollowed := true, recurses := true, apart := false }
def FnExactCheapestBladeSaid : Prop := fnExactCheapestBladeRow.holds Try.pinned (OpenSpec.ofChange fnExactCheapestBladeSpec)

/-- ITS FALSE NEIGHBOUR: 'it returns false'. Refute it at one input. -/
def fnExactCheapestBladeWrong : ChangeSpec := { name := "fnExactCheapestBlade", fn := fun _ => fun
  | [d1, d2] => { results := [.lit (.bool false)], args := [d1, d2] }
  | _ => none }
def FnExactCheapestBladeWrongFalsely : Prop := fnExactCheapestBladeRow.holds Try.pinned (OpenSpec.ofChange fnExactCheapestBladeWrong)

/-- 'laws.FnExactPictureFrom': WHATEVER THE INPUT: true; the input reads as it did. -/
def fnExactPictureFromSpec : ChangeSpec := { name := "fnExactPictureFrom", fn := fun _ => fun
  | [d1, d2] => { results := [.lit (.bool true)], args := [d1, d2] }
  | _ => none }
def fnExactPictureFromRow : OpenClaim := { program := "ytpkjalhfioajjaa", sum := "3425475640400ec95b4e495bfc1c41c0ec2cad163ba369a644ed19f958946f3e", func := "loop.example/g00956/laws.FnExactPictureFrom", spec := "fnExactPictureFrom", unfollowed := true, recurses := true, apart := false }
def FnExactPictureFromSaid : Prop := fnExactPictureFromRow.holds Try.pinned (OpenSpec.ofChange fnExactPictureFromSpec)

/-- ITS FALSE NEIGHBOUR: 'it returns false'. Refute it at one input. -/
def fnExactPictureFromWrong : ChangeSpec := { name := "fnExactPictureFrom", fn := fun _ => fun
  | [d1, d2] => { results := [.lit (.bool false)], args := [d1, d2] }
  | _ => none }
def FnExactPictureFromWrongFalsely : Prop := fnExactPictureFromRow.holds Try.pinned (OpenSpec.ofChange fnExactPictureFromWrong)

/-- 'laws.FnExactShelfLeaves': WHATEVER THE INPUT: true; the input reads as it did. -/
def fnExactShelfLeavesSpec : ChangeSpec := { name := "fnExactShelfLeaves", fn := fun _ => fun
  | [d1, d2, d3] => { results := [.lit (.bool true)], args := [d1, d2, d3] }
  | _ => none }
def fnExactShelfLeavesRow : OpenClaim := { program := "ytpkjalhfioajjaa", sum := "3425475640400ec95b4e495bfc1c41c0ec2cad163ba369a644ed19f958946f3e", func := "loop.example/g00956/laws.FnExactShelfLeaves", spec := "fnExactShelfLeaves", unfollowed := true, recurses := true, apart := false }
def FnExactShelfLeavesSaid : Prop := fnExactShelfLeavesRow.holds Try.pinned (OpenSpec.ofChange fnExactShelfLeavesSpec)

/-- ITS FALSE NEIGHBOUR: 'it returns false'. Refute it at one input. -/
def fnExactShelfLeavesWrong : ChangeSpec := { name := "fnExactShelfLeaves", fn := fun _ => fun
  | [d1, d2, d3] => { results := [.lit (.bool false)], args := [d1, d2, d3] }
  | _ => none }
def FnExactShelfLeavesWrongFalsely : Prop := fnExactShelfLeavesRow.holds Try.pinned (OpenSpec.ofChange fnExactShelfLeavesWrong)

/-- 'laws.FnExactDistributionOf': WHATEVER THE INPUT: true; the input reads as it did. -/
def fnExactDistributionOfSpec : ChangeSpec := { name := "fnExactDistributionOf", fn := fun _ => fun
  | [d] => { results := [.lit (.bool true)], args := [d] }
  | _ => none }
def fnExactDistributionOfRow : OpenClaim := { program := "ytpkjalhfioajjaa", sum := "3425475640400ec95b4e495bfc1c41c0ec2cad163ba369a644ed19f958946f3e", func := "loop.example/g00956/laws.FnExactDistributionOf", spec := "fnExactDistributionOf", unfollowed := true, recurses := true, apart := false }
def FnExactDistributionOfSaid : Prop := fnExactDistributionOfRow.holds Try.pinned (OpenSpec.ofChange fnExactDistributionOfSpec)

/-- ITS FALSE NEIGHBOUR: 'it returns false'. Refute it at one input. -/
def fnExactDistributionOfWrong : ChangeSpec := { name := "fnExactDistributionOf", fn := fun _ => fun
  | [d] => { results := [.lit (.bool false)], args := [d] }
  | _ => none }
def FnExactDistributionOfWrongFalsely : Prop := fnExactDistributionOfRow.holds Try.pinned (OpenSpec.ofChange fnExactDistributionOfWrong)

/- THE SECOND FORM. 'bulk': how many values and letters a reading holds, each counted each time it is reached (what is shared counts as often as it is met; a slice's spare places count too). A statement '..UptoSaid' is the law's where the arguments, and the package variables that the reading takes, are together of bulk at most 1048576: NARROWER than '..Said'. Prove '..Said' where nothing that the law and all that it calls make is longer than what came in: it says more and counts as full. Else prove '..UptoSaid'. A law counts once. -/
mutual
def uptoBulk {H : Type} : DataW H → Nat
  | .lit (.string bytes) => bytes.length + 1
  | .lit _ => 1
  | .nil => 1
  | .ptr d => uptoBulk d + 1
  | .slice elems spare => uptoBulkAll elems + uptoBulkAll spare + 1
  | .agg parts => uptoBulkAll parts + 1
  | .iface _ d => uptoBulk d + 1
  | .map entries => uptoBulkEntries entries + 1
  | .held _ => 1
def uptoBulkAll {H : Type} : List (DataW H) → Nat
  | [] => 0
  | d :: r => uptoBulk d + uptoBulkAll r
def uptoBulkEntries {H : Type} : List (Lit × DataW H) → Nat
  | [] => 0
  | x :: r => uptoBulkEntry x + uptoBulkEntries r
def uptoBulkEntry {H : Type} : Lit × DataW H → Nat
  | (.string bytes, d) => bytes.length + uptoBulk d + 1
  | (_, d) => uptoBulk d + 1
 end
def uptoSmall : (H : Type) → List (DataW H) → Bool := fun _ ds => decide (uptoBulkAll ds ≤ 1048576)
def OpenSpec.upto (s : _root_.Go.ChangeSpec) : _root_.Go.OpenSpec := { _root_.Go.OpenSpec.ofChange s with cond := some uptoSmall }

/-- 'laws.FnExactTileAt', WHERE WHAT IT READS IS OF BULK AT MOST 1048576: true; the input reads as it did. -/
def fnExactTileAtUptoRow : OpenClaim := { program := "ytpkjalhfioajjaa", sum := "3425475640400ec95b4e495bfc1c41c0ec2cad163ba369a644ed19f958946f3e", func := "loop.example/g00956/laws.FnExactTileAt", spec := "fnExactTileAt", unfollowed := true, recurses := true, apart := false, narrowed := true }
def FnExactTileAtUptoSaid : Prop := fnExactTileAtUptoRow.holds Try.pinned (OpenSpec.upto fnExactTileAtSpec)

/-- 'laws.FnExactTileSizes', WHERE WHAT IT READS IS OF BULK AT MOST 1048576: true; the input reads as it did. -/
def fnExactTileSizesUptoRow : OpenClaim := { program := "ytpkjalhfioajjaa", sum := "3425475640400ec95b4e495bfc1c41c0ec2cad163ba369a644ed19f958946f3e", func := "loop.example/g00956/laws.FnExactTileSizes", spec := "fnExactTileSizes", unfollowed := true, recurses := true, apart := false, narrowed := true }
def FnExactTileSizesUptoSaid : Prop := fnExactTileSizesUptoRow.holds Try.pinned (OpenSpec.upto fnExactTileSizesSpec)

/-- 'laws.FnExactSheetFor', WHERE WHAT IT READS IS OF BULK AT MOST 1048576: true; the input reads as it did. -/
def fnExactSheetForUptoRow : OpenClaim := { program := "ytpkjalhfioajjaa", sum := "3425475640400ec95b4e495bfc1c41c0ec2cad163ba369a644ed19f958946f3e", func := "loop.example/g00956/laws.FnExactSheetFor", spec := "fnExactSheetFor", unfollowed := true, recurses := true, apart := false, narrowed := true }
def FnExactSheetForUptoSaid : Prop := fnExactSheetForUptoRow.holds Try.pinned (OpenSpec.upto fnExactSheetForSpec)

/-- 'laws.FnExactBladesInOrder', WHERE WHAT IT READS IS OF BULK AT MOST 1048576: true; the input reads as it did. -/
def fnExactBladesInOrderUptoRow : OpenClaim := { program := "ytpkjalhfioajjaa", sum := "3425475640400ec95b4e495bfc1c41c0ec2cad163ba369a644ed19f958946f3e", func := "loop.example/g00956/laws.FnExactBladesInOrder", spec := "fnExactBladesInOrder", apart := false, narrowed := true }
def FnExactBladesInOrderUptoSaid : Prop := fnExactBladesInOrderUptoRow.holds Try.pinned (OpenSpec.upto fnExactBladesInOrderSpec)

/-- 'laws.FnExactSameTiling', WHERE WHAT IT READS IS OF BULK AT MOST 1048576: true; the input reads as it did. -/
def fnExactSameTilingUptoRow : OpenClaim := { program := "ytpkjalhfioajjaa", sum := "3425475640400ec95b4e495bfc1c41c0ec2cad163ba369a644ed19f958946f3e", func := "loop.example/g00956/laws.FnExactSameTiling", spec := "fnExactSameTiling", unfollowed := true, recurses := true, apart := false, narrowed := true }
def FnExactSameTilingUptoSaid : Prop := fnExactSameTilingUptoRow.holds Try.pinned (OpenSpec.upto fnExactSameTilingSpec)

/-- 'laws.FnExactNormalTiling', WHERE WHAT IT READS IS OF BULK AT MOST 1048576: true; the input reads as it did. -/
def fnExactNormalTilingUptoRow : OpenClaim := { program := "ytpkjalhfioajjaa", sum := "3425475640400ec95b4e495bfc1c41c0ec2cad163ba369a644ed19f958946f3e", func := "loop.example/g00956/laws.FnExactNormalTiling", spec := "fnExactNormalTiling", unfollowed := true, recurses := true, apart := false, narrowed := true }
def FnExactNormalTilingUptoSaid : Prop := fnExactNormalTilingUptoRow.holds Try.pinned (OpenSpec.upto fnExactNormalTilingSpec)

/-- 'laws.FnExactKerfLoss', WHERE WHAT IT READS IS OF BULK AT MOST 1048576: true; the input reads as it did. -/
def fnExactKerfLossUptoRow : OpenClaim := { program := "ytpkjalhfioajjaa", sum := "3425475640400ec95b4e495bfc1c41c0ec2cad163ba369a644ed19f958946f3e", func := "loop.example/g00956/laws.FnExactKerfLoss", spec := "fnExactKerfLoss", apart := false, narrowed := true }
def FnExactKerfLossUptoSaid : Prop := fnExactKerfLossUptoRow.holds Try.pinned (OpenSpec.upto fnExactKerfLossSpec)

/-- 'laws.FnExactChangesInOrder', WHERE WHAT IT READS IS OF BULK AT MOST 1048576: true; the input reads as it did. -/
def fnExactChangesInOrderUptoRow : OpenClaim := { program := "ytpkjalhfioajjaa", sum := "3425475640400ec95b4e495bfc1c41c0ec2cad163ba369a644ed19f958946f3e", func := "loop.example/g00956/laws.FnExactChangesInOrder", spec := "fnExactChangesInOrder", apart := false, narrowed := true }
def FnExactChangesInOrderUptoSaid : Prop := fnExactChangesInOrderUptoRow.holds Try.pinned (OpenSpec.upto fnExactChangesInOrderSpec)

/-- 'laws.FnExactCheapestBlade', WHERE WHAT IT READS IS OF BULK AT MOST 1048576: true; the input reads as it did. -/
def fnExactCheapestBladeUptoRow : OpenClaim := { program := "ytpkjalhfioajjaa", sum := "3425475640400ec95b4e495bfc1c41c0ec2cad163ba369a644ed19f958946f3e", func := "loop.example/g00956/laws.FnExactCheapestBlade", spec := "fnExactCheapestBlade", unfollowed := true, recurses := true, apart := false, narrowed := true }
def FnExactCheapestBladeUptoSaid : Prop := fnExactCheapestBladeUptoRow.holds Try.pinned (OpenSpec.upto fnExactCheapestBladeSpec)

/-- 'laws.FnExactPictureFrom', WHERE WHAT IT READS IS OF BULK AT MOST 1048576: true; the input reads as it did. -/
def fnExactPictureFromUptoRow : OpenClaim := { program := "ytpkjalhfioajjaa", sum := "3425475640400ec95b4e495bfc1c41c0ec2cad163ba369a644ed19f958946f3e", func := "loop.example/g00956/laws.FnExactPictureFrom", spec := "fnExactPictureFrom", unfollowed := true, recurses := true, apart := false, narrowed := true }
def FnExactPictureFromUptoSaid : Prop := fnExactPictureFromUptoRow.holds Try.pinned (OpenSpec.upto fnExactPictureFromSpec)

/-- 'laws.FnExactShelfLeaves', WHERE WHAT IT READS IS OF BULK AT MOST 1048576: true; the input reads as it did. -/
def fnExactShelfLeavesUptoRow : OpenClaim := { program := "ytpkjalhfioajjaa", sum := "3425475640400ec95b4e495bfc1c41c0ec2cad163ba369a644ed19f958946f3e", func := "loop.example/g00956/laws.FnExactShelfLeaves", spec := "fnExactShelfLeaves", unfollowed := true, recurses := true, apart := false, narrowed := true }
def FnExactShelfLeavesUptoSaid : Prop := fnExactShelfLeavesUptoRow.holds Try.pinned (OpenSpec.upto fnExactShelfLeavesSpec)

/-- 'laws.FnExactDistributionOf', WHERE WHAT IT READS IS OF BULK AT MOST 1048576: true; the input reads as it did. -/
def fnExactDistributionOfUptoRow : OpenClaim := { program := "ytpkjalhfioajjaa", sum := "3425475640400ec95b4e495bfc1c41c0ec2cad163ba369a644ed19f958946f3e", func := "loop.example/g00956/laws.FnExactDistributionOf", spec := "fnExactDistributionOf", unfollowed := true, recurses := true, apart := false, narrowed := true }
def FnExactDistributionOfUptoSaid : Prop := fnExactDistributionOfUptoRow.holds Try.pinned (OpenSpec.upto fnExactDistributionOfSpec)

end Rows
end Go.Proofs.Ytpkjalhfioajjaa

/-
  No cell of these rows narrows 'for every input' (looked for: loops, veiled, ifaces, maps, wideKeys, modest, calm, conditions, laid).
  DERIVED. THE GIVEN ROWS OF THIS SEAT. 11 by the template 'for every input the law returns true; each argument reads behind the call as it read before'; 0 by the template 'total and deterministic' (their statements: YtmaipnbadfplfaaTotals.lean).
  GIVEN WITH THE SEED: the statements are not yours to turn. If you find one false, say at which input.
  Laid BY PROGRAM, IN A SANDBOX (cutbox-rows.mjs): the forced cells as the released guide's own fill.sh prints them over the translation fcab4d5dfc4a73f6… (all of the seat's roots in one cut). By AI agents, Wed Nov 11 2026. No macro, syntax, notation, axiom, sorry.
-/
import Derived.Test.YtmaipnbadfplfaaChecked
import GoSem.Claim
import GoSem.ClaimJoined
import GoSem.ClaimMapViews
import Derived.JoinedTies
import Derived.KernelRfl
namespace Go.Proofs.Ytmaipnbadfplfaa
/- THE CELL 'sum', in the pinned program and in every row, IS THE sha256 OF THE DUMP (.gsa) THAT YtmaipnbadfplfaaProg.lean LOADS. Nothing in Lean hashes anything: it is a label: what it is worth is what the hold of that sum in a sandbox is worth. -/
noncomputable def Try.pinned : Pinned := { name := "ytmaipnbadfplfaa", sum := "fcab4d5dfc4a73f698ffb1efd0492fc7de41f46e5794425b7a185c4004c234d2", checked := Try.checked }
namespace Rows
def none {H : Type} : Left H := { results := [], args := [] }

/-- 'laws.FnExactValidCuttings': WHATEVER THE INPUT: true; the input reads as it did. -/
def fnExactValidCuttingsSpec : ChangeSpec := { name := "fnExactValidCuttings", fn := fun _ => fun
  | [d] => { results := [.lit (.bool true)], args := [d] }
  | _ => none }
def fnExactValidCuttingsRow : OpenClaim := { program := "ytmaipnbadfplfaa", sum := "fcab4d5dfc4a73f698ffb1efd0492fc7de41f46e5794425b7a185c4004c234d2", func := "loop.example/g00956/laws.FnExactValidCuttings", spec := "fnExactValidCuttings", apart := false }
def FnExactValidCuttingsSaid : Prop := fnExactValidCuttingsRow.holds Try.pinned (OpenSpec.ofChange fnExactValidCuttingsSpec)

/-- ITS FALSE NEIGHBOUR: 'it returns false'. Refute it at one input. -/
def fnExactValidCuttingsWrong : ChangeSpec := { name := "fnExactValidCuttings", fn := fun _ => fun
  | [d] => { results := [.lit (.bool false)], args := [d] }
  | _ => none }
def FnExactValidCuttingsWrongFalsely : Prop := fnExactValidCuttingsRow.holds Try.pinned (OpenSpec.ofChange fnExactValidCuttingsWrong)

/-- 'laws.FnExactBoxesBound': WHATEVER THE INPUT: true; the input reads as it did. -/
def fnExactBoxesBoundSpec : ChangeSpec := { name := "fnExactBoxesBound", fn := fun _ => fun
  | [d1, d2, d3] => { results := [.lit (.bool true)], args := [d1, d2, d3] }
  | _ => none }
def fnExactBoxesBoundRow : OpenClaim := { program := "ytmaipnbadfplfaa", sum := "fcab4d5dfc4a73f698ffb1efd0492fc7de41f46e5794425b7a185c4004c234d2", func := "loop.example/g00956/laws.FnExactBoxesBound", spec := "fnExactBoxesBound", apart := false }
def FnExactBoxesBoundSaid : Prop := fnExactBoxesBoundRow.holds Try.pinned (OpenSpec.ofChange fnExactBoxesBoundSpec)

/-- ITS FALSE NEIGHBOUR: 'it returns false'. Refute it at one input. -/
def fnExactBoxesBoundWrong : ChangeSpec := { name := "fnExactBoxesBound", fn := fun _ => fun
  | [d1, d2, d3] => { results := [.lit (.bool false)], args := [d1, d2, d3] }
  | _ => none }
def FnExactBoxesBoundWrongFalsely : Prop := fnExactBoxesBoundRow.holds Try.pinned (OpenSpec.ofChange fnExactBoxesBoundWrong)

/-- 'laws.FnExactIsDistribution': WHATEVER THE INPUT: true; the input reads as it did. -/
def fnExactIsDistributionSpec : ChangeSpec := { name := "fnExactIsDistribution", fn := fun _ => fun
  | [d1, d2] => { results := [.lit (.bool true)], args := [d1, d2] }
  | _ => none }
def fnExactIsDistributionRow : OpenClaim := { program := "ytmaipnbadfplfaa", sum := "fcab4d5dfc4a73f698ffb1efd0492fc7de41f46e5794425b7a185c4004c234d2", func := "loop.example/g00956/laws.FnExactIsDistribution", spec := "fnExactIsDistribution", unfollowed := true, recurses := true, apart := false }
def FnExactIsDistributionSaid : Prop := fnExactIsDistributionRow.holds Try.pinned (OpenSpec.ofChange fnExactIsDistributionSpec)

/-- ITS FALSE NEIGHBOUR: 'it returns false'. Refute it at one input. -/
def fnExactIsDistributionWrong : ChangeSpec := { name := "fnExactIsDistribution", fn := fun _ => fun
  | [d1, d2] => { results := [.lit (.bool false)], args := [d1, d2] }
  | _ => none }
def FnExactIsDistributionWrongFalsely : Prop := fnExactIsDistributionRow.holds Try.pinned (OpenSpec.ofChange fnExactIsDistributionWrong)

/-- 'laws.FnExactSamePacket': WHATEVER THE INPUT: true; the input reads as it did. -/
def fnExactSamePacketSpec : ChangeSpec := { name := "fnExactSamePacket", fn := fun _ => fun
  | [d1, d2] => { results := [.lit (.bool true)], args := [d1, d2] }
  | _ => none }
def fnExactSamePacketRow : OpenClaim := { program := "ytmaipnbadfplfaa", sum := "fcab4d5dfc4a73f698ffb1efd0492fc7de41f46e5794425b7a185c4004c234d2", func := "loop.example/g00956/laws.FnExactSamePacket", spec := "fnExactSamePacket", apart := false }
def FnExactSamePacketSaid : Prop := fnExactSamePacketRow.holds Try.pinned (OpenSpec.ofChange fnExactSamePacketSpec)

/-- ITS FALSE NEIGHBOUR: 'it returns false'. Refute it at one input. -/
def fnExactSamePacketWrong : ChangeSpec := { name := "fnExactSamePacket", fn := fun _ => fun
  | [d1, d2] => { results := [.lit (.bool false)], args := [d1, d2] }
  | _ => none }
def FnExactSamePacketWrongFalsely : Prop := fnExactSamePacketRow.holds Try.pinned (OpenSpec.ofChange fnExactSamePacketWrong)

/-- 'laws.FnExactTimeOf': WHATEVER THE INPUT: true; the input reads as it did. -/
def fnExactTimeOfSpec : ChangeSpec := { name := "fnExactTimeOf", fn := fun _ => fun
  | [d1, d2] => { results := [.lit (.bool true)], args := [d1, d2] }
  | _ => none }
def fnExactTimeOfRow : OpenClaim := { program := "ytmaipnbadfplfaa", sum := "fcab4d5dfc4a73f698ffb1efd0492fc7de41f46e5794425b7a185c4004c234d2", func := "loop.example/g00956/laws.FnExactTimeOf", spec := "fnExactTimeOf", apart := false }
def FnExactTimeOfSaid : Prop := fnExactTimeOfRow.holds Try.pinned (OpenSpec.ofChange fnExactTimeOfSpec)

/-- ITS FALSE NEIGHBOUR: 'it returns false'. Refute it at one input. -/
def fnExactTimeOfWrong : ChangeSpec := { name := "fnExactTimeOf", fn := fun _ => fun
  | [d1, d2] => { results := [.lit (.bool false)], args := [d1, d2] }
  | _ => none }
def FnExactTimeOfWrongFalsely : Prop := fnExactTimeOfRow.holds Try.pinned (OpenSpec.ofChange fnExactTimeOfWrong)

/-- 'laws.FnExactBladesBound': WHATEVER THE INPUT: true; the input reads as it did. -/
def fnExactBladesBoundSpec : ChangeSpec := { name := "fnExactBladesBound", fn := fun _ => fun
  | [d1, d2] => { results := [.lit (.bool true)], args := [d1, d2] }
  | _ => none }
def fnExactBladesBoundRow : OpenClaim := { program := "ytmaipnbadfplfaa", sum := "fcab4d5dfc4a73f698ffb1efd0492fc7de41f46e5794425b7a185c4004c234d2", func := "loop.example/g00956/laws.FnExactBladesBound", spec := "fnExactBladesBound", apart := false }
def FnExactBladesBoundSaid : Prop := fnExactBladesBoundRow.holds Try.pinned (OpenSpec.ofChange fnExactBladesBoundSpec)

/-- ITS FALSE NEIGHBOUR: 'it returns false'. Refute it at one input. -/
def fnExactBladesBoundWrong : ChangeSpec := { name := "fnExactBladesBound", fn := fun _ => fun
  | [d1, d2] => { results := [.lit (.bool false)], args := [d1, d2] }
  | _ => none }
def FnExactBladesBoundWrongFalsely : Prop := fnExactBladesBoundRow.holds Try.pinned (OpenSpec.ofChange fnExactBladesBoundWrong)

/-- 'laws.FnExactValidTiling': WHATEVER THE INPUT: true; the input reads as it did. -/
def fnExactValidTilingSpec : ChangeSpec := { name := "fnExactValidTiling", fn := fun _ => fun
  | [d] => { results := [.lit (.bool true)], args := [d] }
  | _ => none }
def fnExactValidTilingRow : OpenClaim := { program := "ytmaipnbadfplfaa", sum := "fcab4d5dfc4a73f698ffb1efd0492fc7de41f46e5794425b7a185c4004c234d2", func := "loop.example/g00956/laws.FnExactValidTiling", spec := "fnExactValidTiling", unfollowed := true, recurses := true, apart := false }
def FnExactValidTilingSaid : Prop := fnExactValidTilingRow.holds Try.pinned (OpenSpec.ofChange fnExactValidTilingSpec)

/-- ITS FALSE NEIGHBOUR: 'it returns false'. Refute it at one input. -/
def fnExactValidTilingWrong : ChangeSpec := { name := "fnExactValidTiling", fn := fun _ => fun
  | [d] => { results := [.lit (.bool false)], args := [d] }
  | _ => none }
def FnExactValidTilingWrongFalsely : Prop := fnExactValidTilingRow.holds Try.pinned (OpenSpec.ofChange fnExactValidTilingWrong)

/-- 'laws.FnExactCountTiles': WHATEVER THE INPUT: true; the input reads as it did. -/
def fnExactCountTilesSpec : ChangeSpec := { name := "fnExactCountTiles", fn := fun _ => fun
  | [d] => { results := [.lit (.bool true)], args := [d] }
  | _ => none }
def fnExactCountTilesRow : OpenClaim := { program := "ytmaipnbadfplfaa", sum := "fcab4d5dfc4a73f698ffb1efd0492fc7de41f46e5794425b7a185c4004c234d2", func := "loop.example/g00956/laws.FnExactCountTiles", spec := "fnExactCountTiles", unfollowed := true, recurses := true, apart := false }
def FnExactCountTilesSaid : Prop := fnExactCountTilesRow.holds Try.pinned (OpenSpec.ofChange fnExactCountTilesSpec)

/-- ITS FALSE NEIGHBOUR: 'it returns false'. Refute it at one input. -/
def fnExactCountTilesWrong : ChangeSpec := { name := "fnExactCountTiles", fn := fun _ => fun
  | [d] => { results := [.lit (.bool false)], args := [d] }
  | _ => none }
def FnExactCountTilesWrongFalsely : Prop := fnExactCountTilesRow.holds Try.pinned (OpenSpec.ofChange fnExactCountTilesWrong)

/-- 'laws.FnExactValidPacket': WHATEVER THE INPUT: true; the input reads as it did. -/
def fnExactValidPacketSpec : ChangeSpec := { name := "fnExactValidPacket", fn := fun _ => fun
  | [d] => { results := [.lit (.bool true)], args := [d] }
  | _ => none }
def fnExactValidPacketRow : OpenClaim := { program := "ytmaipnbadfplfaa", sum := "fcab4d5dfc4a73f698ffb1efd0492fc7de41f46e5794425b7a185c4004c234d2", func := "loop.example/g00956/laws.FnExactValidPacket", spec := "fnExactValidPacket", unfollowed := true, recurses := true, apart := false }
def FnExactValidPacketSaid : Prop := fnExactValidPacketRow.holds Try.pinned (OpenSpec.ofChange fnExactValidPacketSpec)

/-- ITS FALSE NEIGHBOUR: 'it returns false'. Refute it at one input. -/
def fnExactValidPacketWrong : ChangeSpec := { name := "fnExactValidPacket", fn := fun _ => fun
  | [d] => { results := [.lit (.bool false)], args := [d] }
  | _ => none }
def FnExactValidPacketWrongFalsely : Prop := fnExactValidPacketRow.holds Try.pinned (OpenSpec.ofChange fnExactValidPacketWrong)

/-- 'laws.FnExactJointLength': WHATEVER THE INPUT: true; the input reads as it did. -/
def fnExactJointLengthSpec : ChangeSpec := { name := "fnExactJointLength", fn := fun _ => fun
  | [d] => { results := [.lit (.bool true)], args := [d] }
  | _ => none }
def fnExactJointLengthRow : OpenClaim := { program := "ytmaipnbadfplfaa", sum := "fcab4d5dfc4a73f698ffb1efd0492fc7de41f46e5794425b7a185c4004c234d2", func := "loop.example/g00956/laws.FnExactJointLength", spec := "fnExactJointLength", unfollowed := true, recurses := true, apart := false }
def FnExactJointLengthSaid : Prop := fnExactJointLengthRow.holds Try.pinned (OpenSpec.ofChange fnExactJointLengthSpec)

/-- ITS FALSE NEIGHBOUR: 'it returns false'. Refute it at one input. -/
def fnExactJointLengthWrong : ChangeSpec := { name := "fnExactJointLength", fn := fun _ => fun
  | [d] => { results := [.lit (.bool false)], args := [d] }
  | _ => none }
def FnExactJointLengthWrongFalsely : Prop := fnExactJointLengthRow.holds Try.pinned (OpenSpec.ofChange fnExactJointLengthWrong)

/-- 'laws.FnExactCrossJoints': WHATEVER THE INPUT: true; the input reads as it did. -/
def fnExactCrossJointsSpec : ChangeSpec := { name := "fnExactCrossJoints", fn := fun _ => fun
  | [d] => { results := [.lit (.bool true)], args := [d] }
  | _ => none }
def fnExactCrossJointsRow : OpenClaim := { program := "ytmaipnbadfplfaa", sum := "fcab4d5dfc4a73f698ffb1efd0492fc7de41f46e5794425b7a185c4004c234d2", func := "loop.example/g00956/laws.FnExactCrossJoints", spec := "fnExactCrossJoints", unfollowed := true, recurses := true, apart := false }
def FnExactCrossJointsSaid : Prop := fnExactCrossJointsRow.holds Try.pinned (OpenSpec.ofChange fnExactCrossJointsSpec)

/-- ITS FALSE NEIGHBOUR: 'it returns false'. Refute it at one input. -/
def fnExactCrossJointsWrong : ChangeSpec := { name := "fnExactCrossJoints", fn := fun _ => fun
  | [d] => { results := [.lit (.bool false)], args := [d] }
  | _ => none }
def FnExactCrossJointsWrongFalsely : Prop := fnExactCrossJointsRow.holds Try.pinned (OpenSpec.ofChange fnExactCrossJointsWrong)

/- THE SECOND FORM. 'bulk': how many values and letters a reading holds, each counted each time it is reached (what is shared counts as often as it is met; a slice's spare places count too). A statement '..UptoSaid' is the law's where the arguments, and the package variables that the reading takes, are together of bulk at most 1048576: NARROWER than '..Said'. Prove '..Said' where nothing that the law and all that it calls make is longer than what came in: it says more and counts as full. Else prove '..UptoSaid'. A law counts once. -/
mutual
def uptoBulk {H : Type} : DataW H → Nat
  | .lit (.string bytes) => bytes.length + 1
  | .lit _ => 1
  | .nil => 1
  | .ptr d => uptoBulk d + 1
  | .slice elems spare => uptoBulkAll elems + uptoBulkAll spare + 1
  | .agg parts => uptoBulkAll parts + 1
  | .iface _ d => uptoBulk d + 1
  | .map entries => uptoBulkEntries entries + 1
  | .held _ => 1
def uptoBulkAll {H : Type} : List (DataW H) → Nat
  | [] => 0
  | d :: r => uptoBulk d + uptoBulkAll r
def uptoBulkEntries {H : Type} : List (Lit × DataW H) → Nat
  | [] => 0
  | x :: r => uptoBulkEntry x + uptoBulkEntries r
def uptoBulkEntry {H : Type} : Lit × DataW H → Nat
  | (.string bytes, d) => bytes.length + uptoBulk d + 1
  | (_, d) => uptoBulk d + 1
 end
def uptoSmall : (H : Type) → List (DataW H) → Bool := fun _ ds => decide (uptoBulkAll ds ≤ 1048576)
def OpenSpec.upto (s : _root_.Go.ChangeSpec) : _root_.Go.OpenSpec := { _root_.Go.OpenSpec.ofChange s with cond := some uptoSmall }

/-- 'laws.FnExactValidCuttings', WHERE WHAT IT READS IS OF BULK AT MOST 1048576: true; the input reads as it did. -/
def fnExactValidCuttingsUptoRow : OpenClaim := { program := "ytmaipnbadfplfaa", sum := "fcab4d5dfc4a73f698ffb1efd0492fc7de41f46e5794425b7a185c4004c234d2", func := "loop.example/g00956/laws.FnExactValidCuttings", spec := "fnExactValidCuttings", apart := false, narrowed := true }
def FnExactValidCuttingsUptoSaid : Prop := fnExactValidCuttingsUptoRow.holds Try.pinned (OpenSpec.upto fnExactValidCuttingsSpec)

/-- 'laws.FnExactBoxesBound', WHERE WHAT IT READS IS OF BULK AT MOST 1048576: true; the input reads as it did. -/
def fnExactBoxesBoundUptoRow : OpenClaim := { program := "ytmaipnbadfplfaa", sum := "fcab4d5dfc4a73f698ffb1efd0492fc7de41f46e5794425b7a185c4004c234d2", func := "loop.example/g00956/laws.FnExactBoxesBound", spec := "fnExactBoxesBound", apart := false, narrowed := true }
def FnExactBoxesBoundUptoSaid : Prop := fnExactBoxesBoundUptoRow.holds Try.pinned (OpenSpec.upto fnExactBoxesBoundSpec)

/-- 'laws.FnExactIsDistribution', WHERE WHAT IT READS IS OF BULK AT MOST 1048576: true; the input reads as it did. -/
def fnExactIsDistributionUptoRow : OpenClaim := { program := "ytmaipnbadfplfaa", sum := "fcab4d5dfc4a73f698ffb1efd0492fc7de41f46e5794425b7a185c4004c234d2", func := "loop.example/g00956/laws.FnExactIsDistribution", spec := "fnExactIsDistribution", unfollowed := true, recurses := true, apart := false, narrowed := true }
def FnExactIsDistributionUptoSaid : Prop := fnExactIsDistributionUptoRow.holds Try.pinned (OpenSpec.upto fnExactIsDistributionSpec)

/-- 'laws.FnExactSamePacket', WHERE WHAT IT READS IS OF BULK AT MOST 1048576: true; the input reads as it did. -/
def fnExactSamePacketUptoRow : OpenClaim := { program := "ytmaipnbadfplfaa", sum := "fcab4d5dfc4a73f698ffb1efd0492fc7de41f46e5794425b7a185c4004c234d2", func := "loop.example/g00956/laws.FnExactSamePacket", spec := "fnExactSamePacket", apart := false, narrowed := true }
def FnExactSamePacketUptoSaid : Prop := fnExactSamePacketUptoRow.holds Try.pinned (OpenSpec.upto fnExactSamePacketSpec)

/-- 'laws.FnExactTimeOf', WHERE WHAT IT READS IS OF BULK AT MOST 1048576: true; the input reads as it did. -/
def fnExactTimeOfUptoRow : OpenClaim := { program := "ytmaipnbadfplfaa", sum := "fcab4d5dfc4a73f698ffb1efd0492fc7de41f46e5794425b7a185c4004c234d2", func := "loop.example/g00956/laws.FnExactTimeOf", spec := "fnExactTimeOf", apart := false, narrowed := true }
def FnExactTimeOfUptoSaid : Prop := fnExactTimeOfUptoRow.holds Try.pinned (OpenSpec.upto fnExactTimeOfSpec)

/-- 'laws.FnExactBladesBound', WHERE WHAT IT READS IS OF BULK AT MOST 1048576: true; the input reads as it did. -/
def fnExactBladesBoundUptoRow : OpenClaim := { program := "ytmaipnbadfplfaa", sum := "fcab4d5dfc4a73f698ffb1efd0492fc7de41f46e5794425b7a185c4004c234d2", func := "loop.example/g00956/laws.FnExactBladesBound", spec := "fnExactBladesBound", apart := false, narrowed := true }
def FnExactBladesBoundUptoSaid : Prop := fnExactBladesBoundUptoRow.holds Try.pinned (OpenSpec.upto fnExactBladesBoundSpec)

/-- 'laws.FnExactValidTiling', WHERE WHAT IT READS IS OF BULK AT MOST 1048576: true; the input reads as it did. -/
def fnExactValidTilingUptoRow : OpenClaim := { program := "ytmaipnbadfplfaa", sum := "fcab4d5dfc4a73f698ffb1efd0492fc7de41f46e5794425b7a185c4004c234d2", func := "loop.example/g00956/laws.FnExactValidTiling", spec := "fnExactValidTiling", unfollowed := true, recurses := true, apart := false, narrowed := true }
def FnExactValidTilingUptoSaid : Prop := fnExactValidTilingUptoRow.holds Try.pinned (OpenSpec.upto fnExactValidTilingSpec)

/-- 'laws.FnExactCountTiles', WHERE WHAT IT READS IS OF BULK AT MOST 1048576: true; the input reads as it did. -/
def fnExactCountTilesUptoRow : OpenClaim := { program := "ytmaipnbadfplfaa", sum := "fcab4d5dfc4a73f698ffb1efd0492fc7de41f46e5794425b7a185c4004c234d2", func := "loop.example/g00956/laws.FnExactCountTiles", spec := "fnExactCountTiles", unfollowed := true, recurses := true, apart := false, narrowed := true }
def FnExactCountTilesUptoSaid : Prop := fnExactCountTilesUptoRow.holds Try.pinned (OpenSpec.upto fnExactCountTilesSpec)

/-- 'laws.FnExactValidPacket', WHERE WHAT IT READS IS OF BULK AT MOST 1048576: true; the input reads as it did. -/
def fnExactValidPacketUptoRow : OpenClaim := { program := "ytmaipnbadfplfaa", sum := "fcab4d5dfc4a73f698ffb1efd0492fc7de41f46e5794425b7a185c4004c234d2", func := "loop.example/g00956/laws.FnExactValidPacket", spec := "fnExactValidPacket", unfollowed := true, recurses := true, apart := false, narrowed := true }
def FnExactValidPacketUptoSaid : Prop := fnExactValidPacketUptoRow.holds Try.pinned (OpenSpec.upto fnExactValidPacketSpec)

/-- 'laws.FnExactJointLength', WHERE WHAT IT READS IS OF BULK AT MOST 1048576: true; the input reads as it did. -/
def fnExactJointLengthUptoRow : OpenClaim := { program := "ytmaipnbadfplfaa", sum := "fcab4d5dfc4a73f698ffb1efd0492fc7de41f46e5794425b7a185c4004c234d2", func := "loop.example/g00956/laws.FnExactJointLength", spec := "fnExactJointLength", unfollowed := true, recurses := true, apart := false, narrowed := true }
def FnExactJointLengthUptoSaid : Prop := fnExactJointLengthUptoRow.holds Try.pinned (OpenSpec.upto fnExactJointLengthSpec)

/-- 'laws.FnExactCrossJoints', WHERE WHAT IT READS IS OF BULK AT MOST 1048576: true; the input reads as it did. -/
def fnExactCrossJointsUptoRow : OpenClaim := { program := "ytmaipnbadfplfaa", sum := "fcab4d5dfc4a73f698ffb1efd0492fc7de41f46e5794425b7a185c4004c234d2", func := "loop.example/g00956/laws.FnExactCrossJoints", spec := "fnExactCrossJoints", unfollowed := true, recurses := true, apart := false, narrowed := true }
def FnExactCrossJointsUptoSaid : Prop := fnExactCrossJointsUptoRow.holds Try.pinned (OpenSpec.upto fnExactCrossJointsSpec)

end Rows
end Go.Proofs.Ytmaipnbadfplfaa

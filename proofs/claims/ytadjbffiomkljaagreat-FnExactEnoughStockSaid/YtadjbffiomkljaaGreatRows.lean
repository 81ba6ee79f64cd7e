/-
  No cell of these rows narrows 'for every input' (looked for: loops, veiled, ifaces, maps, wideKeys, modest, calm, conditions, laid).
  DERIVED. THE GIVEN ROWS OF THIS SEAT. 6 by the template 'for every input the law returns true; each argument reads behind the call as it read before'; 0 by the template 'total and deterministic' (their statements: YtadjbffiomkljaaGreatTotals.lean).
  GIVEN WITH THE SEED: the statements are not yours to turn. If you find one false, say at which input.
  Laid BY PROGRAM, IN A SANDBOX (cutbox-rows.mjs): the forced cells as the released guide's own fill.sh prints them over the translation 0957f0e9f55caae8… (all of the seat's roots in one cut). By AI agents, Wed Nov 11 2026. No macro, syntax, notation, axiom, sorry.
-/
import Derived.Test.YtadjbffiomkljaaGreatChecked
import GoSem.Claim
import GoSem.ClaimJoined
import GoSem.ClaimMapViews
import Derived.JoinedTies
import Derived.KernelRfl
namespace Go.Proofs.YtadjbffiomkljaaGreat
/- THE CELL 'sum', in the pinned program and in every row, IS THE sha256 OF THE DUMP (.gsa) THAT YtadjbffiomkljaaGreatProg.lean LOADS. Nothing in Lean hashes anything: it is a label: what it is worth is what the hold of that sum in a sandbox is worth. -/
noncomputable def Tryz.pinned : Pinned := { name := "ytadjbffiomkljaagreat", sum := "0957f0e9f55caae846b4034db9ca2d99f4c7ccf2c7dca863f7e260babdd7b38f", checked := Tryz.checked }
namespace Rows
def none {H : Type} : Left H := { results := [], args := [] }

/-- 'laws.FnExactUnfitFaces': WHATEVER THE INPUT: true; the input reads as it did. -/
def fnExactUnfitFacesSpec : ChangeSpec := { name := "fnExactUnfitFaces", fn := fun _ => fun
  | [d1, d2] => { results := [.lit (.bool true)], args := [d1, d2] }
  | _ => none }
def fnExactUnfitFacesRow : OpenClaim := { program := "ytadjbffiomkljaagreat", sum := "0957f0e9f55caae846b4034db9ca2d99f4c7ccf2c7dca863f7e260babdd7b38f", func := "loop.example/g00956/laws.FnExactUnfitFaces", spec := "fnExactUnfitFaces", unfollowed := true, recurses := true, apart := false }
def FnExactUnfitFacesSaid : Prop := fnExactUnfitFacesRow.holds Tryz.pinned (OpenSpec.ofChange fnExactUnfitFacesSpec)

/-- ITS FALSE NEIGHBOUR: 'it returns false'. Refute it at one input. -/
def fnExactUnfitFacesWrong : ChangeSpec := { name := "fnExactUnfitFaces", fn := fun _ => fun
  | [d1, d2] => { results := [.lit (.bool false)], args := [d1, d2] }
  | _ => none }
def FnExactUnfitFacesWrongFalsely : Prop := fnExactUnfitFacesRow.holds Tryz.pinned (OpenSpec.ofChange fnExactUnfitFacesWrong)

/-- 'laws.FnExactLeavesBound': WHATEVER THE INPUT: true; the input reads as it did. -/
def fnExactLeavesBoundSpec : ChangeSpec := { name := "fnExactLeavesBound", fn := fun _ => fun
  | [d1, d2] => { results := [.lit (.bool true)], args := [d1, d2] }
  | _ => none }
def fnExactLeavesBoundRow : OpenClaim := { program := "ytadjbffiomkljaagreat", sum := "0957f0e9f55caae846b4034db9ca2d99f4c7ccf2c7dca863f7e260babdd7b38f", func := "loop.example/g00956/laws.FnExactLeavesBound", spec := "fnExactLeavesBound", unfollowed := true, recurses := true, apart := false }
def FnExactLeavesBoundSaid : Prop := fnExactLeavesBoundRow.holds Tryz.pinned (OpenSpec.ofChange fnExactLeavesBoundSpec)

/-- ITS FALSE NEIGHBOUR: 'it returns false'. Refute it at one input. -/
def fnExactLeavesBoundWrong : ChangeSpec := { name := "fnExactLeavesBound", fn := fun _ => fun
  | [d1, d2] => { results := [.lit (.bool false)], args := [d1, d2] }
  | _ => none }
def FnExactLeavesBoundWrongFalsely : Prop := fnExactLeavesBoundRow.holds Tryz.pinned (OpenSpec.ofChange fnExactLeavesBoundWrong)

/-- 'laws.FnExactEnoughStock': WHATEVER THE INPUT: true; the input reads as it did. -/
def fnExactEnoughStockSpec : ChangeSpec := { name := "fnExactEnoughStock", fn := fun _ => fun
  | [d1, d2] => { results := [.lit (.bool true)], args := [d1, d2] }
  | _ => none }
def fnExactEnoughStockRow : OpenClaim := { program := "ytadjbffiomkljaagreat", sum := "0957f0e9f55caae846b4034db9ca2d99f4c7ccf2c7dca863f7e260babdd7b38f", func := "loop.example/g00956/laws.FnExactEnoughStock", spec := "fnExactEnoughStock", unfollowed := true, recurses := true, apart := false }
def FnExactEnoughStockSaid : Prop := fnExactEnoughStockRow.holds Tryz.pinned (OpenSpec.ofChange fnExactEnoughStockSpec)

/-- ITS FALSE NEIGHBOUR: 'it returns false'. Refute it at one input. -/
def fnExactEnoughStockWrong : ChangeSpec := { name := "fnExactEnoughStock", fn := fun _ => fun
  | [d1, d2] => { results := [.lit (.bool false)], args := [d1, d2] }
  | _ => none }
def FnExactEnoughStockWrongFalsely : Prop := fnExactEnoughStockRow.holds Tryz.pinned (OpenSpec.ofChange fnExactEnoughStockWrong)

/-- 'laws.FnExactWasteOf': WHATEVER THE INPUT: true; the input reads as it did. -/
def fnExactWasteOfSpec : ChangeSpec := { name := "fnExactWasteOf", fn := fun _ => fun
  | [d1, d2, d3] => { results := [.lit (.bool true)], args := [d1, d2, d3] }
  | _ => none }
def fnExactWasteOfRow : OpenClaim := { program := "ytadjbffiomkljaagreat", sum := "0957f0e9f55caae846b4034db9ca2d99f4c7ccf2c7dca863f7e260babdd7b38f", func := "loop.example/g00956/laws.FnExactWasteOf", spec := "fnExactWasteOf", unfollowed := true, recurses := true, apart := false }
def FnExactWasteOfSaid : Prop := fnExactWasteOfRow.holds Tryz.pinned (OpenSpec.ofChange fnExactWasteOfSpec)

/-- ITS FALSE NEIGHBOUR: 'it returns false'. Refute it at one input. -/
def fnExactWasteOfWrong : ChangeSpec := { name := "fnExactWasteOf", fn := fun _ => fun
  | [d1, d2, d3] => { results := [.lit (.bool false)], args := [d1, d2, d3] }
  | _ => none }
def FnExactWasteOfWrongFalsely : Prop := fnExactWasteOfRow.holds Tryz.pinned (OpenSpec.ofChange fnExactWasteOfWrong)

/-- 'laws.FnExactNestFaults': WHATEVER THE INPUT: true; the input reads as it did. -/
def fnExactNestFaultsSpec : ChangeSpec := { name := "fnExactNestFaults", fn := fun _ => fun
  | [d1, d2, d3, d4] => { results := [.lit (.bool true)], args := [d1, d2, d3, d4] }
  | _ => none }
def fnExactNestFaultsRow : OpenClaim := { program := "ytadjbffiomkljaagreat", sum := "0957f0e9f55caae846b4034db9ca2d99f4c7ccf2c7dca863f7e260babdd7b38f", func := "loop.example/g00956/laws.FnExactNestFaults", spec := "fnExactNestFaults", unfollowed := true, recurses := true, named := ["math/bits.divideError", "math/bits.overflowError"], apart := false }
def FnExactNestFaultsSaid : Prop := fnExactNestFaultsRow.holds Tryz.pinned (OpenSpec.ofChange fnExactNestFaultsSpec)

/-- ITS FALSE NEIGHBOUR: 'it returns false'. Refute it at one input. -/
def fnExactNestFaultsWrong : ChangeSpec := { name := "fnExactNestFaults", fn := fun _ => fun
  | [d1, d2, d3, d4] => { results := [.lit (.bool false)], args := [d1, d2, d3, d4] }
  | _ => none }
def FnExactNestFaultsWrongFalsely : Prop := fnExactNestFaultsRow.holds Tryz.pinned (OpenSpec.ofChange fnExactNestFaultsWrong)

/-- 'laws.FnExactIsNesting': WHATEVER THE INPUT: true; the input reads as it did. -/
def fnExactIsNestingSpec : ChangeSpec := { name := "fnExactIsNesting", fn := fun _ => fun
  | [d1, d2, d3, d4] => { results := [.lit (.bool true)], args := [d1, d2, d3, d4] }
  | _ => none }
def fnExactIsNestingRow : OpenClaim := { program := "ytadjbffiomkljaagreat", sum := "0957f0e9f55caae846b4034db9ca2d99f4c7ccf2c7dca863f7e260babdd7b38f", func := "loop.example/g00956/laws.FnExactIsNesting", spec := "fnExactIsNesting", unfollowed := true, recurses := true, named := ["math/bits.divideError", "math/bits.overflowError"], apart := false }
def FnExactIsNestingSaid : Prop := fnExactIsNestingRow.holds Tryz.pinned (OpenSpec.ofChange fnExactIsNestingSpec)

/-- ITS FALSE NEIGHBOUR: 'it returns false'. Refute it at one input. -/
def fnExactIsNestingWrong : ChangeSpec := { name := "fnExactIsNesting", fn := fun _ => fun
  | [d1, d2, d3, d4] => { results := [.lit (.bool false)], args := [d1, d2, d3, d4] }
  | _ => none }
def FnExactIsNestingWrongFalsely : Prop := fnExactIsNestingRow.holds Tryz.pinned (OpenSpec.ofChange fnExactIsNestingWrong)

/- THE SECOND FORM. 'bulk': how many values and letters a reading holds, each counted each time it is reached (what is shared counts as often as it is met; a slice's spare places count too). A statement '..UptoSaid' is the law's where the arguments, and the package variables that the reading takes, are together of bulk at most 1048576: NARROWER than '..Said'. Prove '..Said' where nothing that the law and all that it calls make is longer than what came in: it says more and counts as full. Else prove '..UptoSaid'. A law counts once. -/
mutual
def uptoBulk {H : Type} : DataW H → Nat
  | .lit (.string bytes) => bytes.length + 1
  | .lit _ => 1
  | .nil => 1
  | .ptr d => uptoBulk d + 1
  | .slice elems spare => uptoBulkAll elems + uptoBulkAll spare + 1
  | .agg parts => uptoBulkAll parts + 1
  | .iface _ d => uptoBulk d + 1
  | .map entries => uptoBulkEntries entries + 1
  | .held _ => 1
def uptoBulkAll {H : Type} : List (DataW H) → Nat
  | [] => 0
  | d :: r => uptoBulk d + uptoBulkAll r
def uptoBulkEntries {H : Type} : List (Lit × DataW H) → Nat
  | [] => 0
  | x :: r => uptoBulkEntry x + uptoBulkEntries r
def uptoBulkEntry {H : Type} : Lit × DataW H → Nat
  | (.string bytes, d) => bytes.length + uptoBulk d + 1
  | (_, d) => uptoBulk d + 1
 end
def uptoSmall : (H : Type) → List (DataW H) → Bool := fun _ ds => decide (uptoBulkAll ds ≤ 1048576)
def OpenSpec.upto (s : _root_.Go.ChangeSpec) : _root_.Go.OpenSpec := { _root_.Go.OpenSpec.ofChange s with cond := some uptoSmall }

/-- 'laws.FnExactUnfitFaces', WHERE WHAT IT READS IS OF BULK AT MOST 1048576: true; the input reads as it did. -/
def fnExactUnfitFacesUptoRow : OpenClaim := { program := "ytadjbffiomkljaagreat", sum := "0957f0e9f55caae846b4034db9ca2d99f4c7ccf2c7dca863f7e260babdd7b38f", func := "loop.example/g00956/laws.FnExactUnfitFaces", spec := "fnExactUnfitFaces", unfollowed := true, recurses := true, apart := false, narrowed := true }
def FnExactUnfitFacesUptoSaid : Prop := fnExactUnfitFacesUptoRow.holds Tryz.pinned (OpenSpec.upto fnExactUnfitFacesSpec)

/-- 'laws.FnExactLeavesBound', WHERE WHAT IT READS IS OF BULK AT MOST 1048576: true; the input reads as it did. -/
def fnExactLeavesBoundUptoRow : OpenClaim := { program := "ytadjbffiomkljaagreat", sum := "0957f0e9f55caae846b4034db9ca2d99f4c7ccf2c7dca863f7e260babdd7b38f", func := "loop.example/g00956/laws.FnExactLeavesBound", spec := "fnExactLeavesBound", unfollowed := true, recurses := true, apart := false, narrowed := true }
def FnExactLeavesBoundUptoSaid : Prop := fnExactLeavesBoundUptoRow.holds Tryz.pinned (OpenSpec.upto fnExactLeavesBoundSpec)

/-- 'laws.FnExactEnoughStock', WHERE WHAT IT READS IS OF BULK AT MOST 1048576: true; the input reads as it did. -/
def fnExactEnoughStockUptoRow : OpenClaim := { program := "ytadjbffiomkljaagreat", sum := "0957f0e9f55caae846b4034db9ca2d99f4c7ccf2c7dca863f7e260babdd7b38f", func := "loop.example/g00956/laws.FnExactEnoughStock", spec := "fnExactEnoughStock", unfollowed := true, recurses := true, apart := false, narrowed := true }
def FnExactEnoughStockUptoSaid : Prop := fnExactEnoughStockUptoRow.holds Tryz.pinned (OpenSpec.upto fnExactEnoughStockSpec)

/-- 'laws.FnExactWasteOf', WHERE WHAT IT READS IS OF BULK AT MOST 1048576: true; the input reads as it did. -/
def fnExactWasteOfUptoRow : OpenClaim := { program := "ytadjbffiomkljaagreat", sum := "0957f0e9f55caae846b4034db9ca2d99f4c7ccf2c7dca863f7e260babdd7b38f", func := "loop.example/g00956/laws.FnExactWasteOf", spec := "fnExactWasteOf", unfollowed := true, recurses := true, apart := false, narrowed := true }
def FnExactWasteOfUptoSaid : Prop := fnExactWasteOfUptoRow.holds Tryz.pinned (OpenSpec.upto fnExactWasteOfSpec)

/-- 'laws.FnExactNestFaults', WHERE WHAT IT READS IS OF BULK AT MOST 1048576: true; the input reads as it did. -/
def fnExactNestFaultsUptoRow : OpenClaim := { program := "ytadjbffiomkljaagreat", sum := "0957f0e9f55caae846b4034db9ca2d99f4c7ccf2c7dca863f7e260babdd7b38f", func := "loop.example/g00956/laws.FnExactNestFaults", spec := "fnExactNestFaults", unfollowed := true, recurses := true, named := ["math/bits.divideError", "math/bits.overflowError"], apart := false, narrowed := true }
def FnExactNestFaultsUptoSaid : Prop := fnExactNestFaultsUptoRow.holds Tryz.pinned (OpenSpec.upto fnExactNestFaultsSpec)

/-- 'laws.FnExactIsNesting', WHERE WHAT IT READS IS OF BULK AT MOST 1048576: true; the input reads as it did. -/
def fnExactIsNestingUptoRow : OpenClaim := { program := "ytadjbffiomkljaagreat", sum := "0957f0e9f55caae846b4034db9ca2d99f4c7ccf2c7dca863f7e260babdd7b38f", func := "loop.example/g00956/laws.FnExactIsNesting", spec := "fnExactIsNesting", unfollowed := true, recurses := true, named := ["math/bits.divideError", "math/bits.overflowError"], apart := false, narrowed := true }
def FnExactIsNestingUptoSaid : Prop := fnExactIsNestingUptoRow.holds Tryz.pinned (OpenSpec.upto fnExactIsNestingSpec)

end Rows
end Go.Proofs.YtadjbffiomkljaaGreat

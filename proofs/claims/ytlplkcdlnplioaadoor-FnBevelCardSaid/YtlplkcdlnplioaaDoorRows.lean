/-
  NARROWER THAN 'FOR EVERY INPUT', by the rows' own cells (each row's printed sentence says how): FnExactTanOf: laid · FnExactBevelGap: laid · FnExactThicknessFor: laid · FnExactClosesGap: laid · FnExactBestBevel: laid · FnExactBevelRange: laid · FnBevel: laid.
  DERIVED. THE GIVEN ROWS OF THIS SEAT. 7 by the template 'for every input the law returns true; each argument reads behind the call as it read before'; 0 by the template 'total and deterministic' (their statements: YtlplkcdlnplioaaDoorTotals.lean).
  GIVEN WITH THE SEED: the statements are not yours to turn. If you find one false, say at which input.
  Laid BY PROGRAM, IN A SANDBOX (cutbox-rows.mjs): the forced cells as the released guide's own fill.sh prints them over the translation 2f2703e4f34c3036… (all of the seat's roots in one cut). By AI agents, Wed Nov 11 2026. No macro, syntax, notation, axiom, sorry.
-/
import Derived.Test.YtlplkcdlnplioaaDoorChecked
import GoSem.Claim
import GoSem.ClaimJoined
import GoSem.ClaimMapViews
import Derived.JoinedTies
import Derived.KernelRfl
namespace Go.Proofs.YtlplkcdlnplioaaDoor
/- THE CELL 'sum', in the pinned program and in every row, IS THE sha256 OF THE DUMP (.gsa) THAT YtlplkcdlnplioaaDoorProg.lean LOADS. Nothing in Lean hashes anything: it is a label: what it is worth is what the hold of that sum in a sandbox is worth. -/
noncomputable def Tryd.pinned : Pinned := { name := "ytlplkcdlnplioaadoor", sum := "2f2703e4f34c303667edbbf004508a9acf2d1a022b1ab98bb2c6931b475b0348", checked := Tryd.checked }
namespace Rows
def none {H : Type} : Left H := { results := [], args := [] }

/- WHAT THE LISTED PACKAGE-LEVEL VARIABLES READ AS WHEN THE CALL BEGINS. Each datum BY PROGRAM (the guide's laid-datum.mjs) off the statement by which the dump's own 'gosem.cut.vars' lays the variable. In a bare row this is a premise. The card (YtlplkcdlnplioaaDoorCards.lean) ties it to the program's text. -/
def laid_loop_example_g00956_impl_tangents {H : Type} : DataW H := .agg [.lit (.int .i64 0), .lit (.int .i64 175), .lit (.int .i64 349), .lit (.int .i64 524), .lit (.int .i64 699), .lit (.int .i64 875), .lit (.int .i64 1051), .lit (.int .i64 1228), .lit (.int .i64 1405), .lit (.int .i64 1584), .lit (.int .i64 1763), .lit (.int .i64 1944), .lit (.int .i64 2126), .lit (.int .i64 2309), .lit (.int .i64 2493), .lit (.int .i64 2679), .lit (.int .i64 2867), .lit (.int .i64 3057), .lit (.int .i64 3249), .lit (.int .i64 3443), .lit (.int .i64 3640), .lit (.int .i64 3839), .lit (.int .i64 4040), .lit (.int .i64 4245), .lit (.int .i64 4452), .lit (.int .i64 4663), .lit (.int .i64 4877), .lit (.int .i64 5095), .lit (.int .i64 5317), .lit (.int .i64 5543), .lit (.int .i64 5774)]

/-- 'laws.FnExactTanOf': WHATEVER THE INPUT: true; the input reads as it did. -/
def fnExactTanOfSpec : ChangeSpec := { name := "fnExactTanOf", vars := ["loop.example/g00956/impl.tangents"], fn := fun _ => fun
  | [d, g1] => { results := [.lit (.bool true)], args := [d], vars := [g1] }
  | _ => none }
def fnExactTanOfRow : OpenClaim := { program := "ytlplkcdlnplioaadoor", sum := "2f2703e4f34c303667edbbf004508a9acf2d1a022b1ab98bb2c6931b475b0348", func := "loop.example/g00956/laws.FnExactTanOf", spec := "fnExactTanOf", named := ["loop.example/g00956/impl.tangents"], apart := false, laid := [("loop.example/g00956/impl.tangents", laid_loop_example_g00956_impl_tangents)] }
def FnExactTanOfSaid : Prop := fnExactTanOfRow.holds Tryd.pinned (OpenSpec.ofChange fnExactTanOfSpec)

/-- ITS FALSE NEIGHBOUR: 'it returns false'. Refute it at one input. -/
def fnExactTanOfWrong : ChangeSpec := { name := "fnExactTanOf", vars := ["loop.example/g00956/impl.tangents"], fn := fun _ => fun
  | [d, g1] => { results := [.lit (.bool false)], args := [d], vars := [g1] }
  | _ => none }
def FnExactTanOfWrongFalsely : Prop := fnExactTanOfRow.holds Tryd.pinned (OpenSpec.ofChange fnExactTanOfWrong)

/-- 'laws.FnExactBevelGap': WHATEVER THE INPUT: true; the input reads as it did. -/
def fnExactBevelGapSpec : ChangeSpec := { name := "fnExactBevelGap", vars := ["loop.example/g00956/impl.tangents"], fn := fun _ => fun
  | [d1, d2, d3, g1] => { results := [.lit (.bool true)], args := [d1, d2, d3], vars := [g1] }
  | _ => none }
def fnExactBevelGapRow : OpenClaim := { program := "ytlplkcdlnplioaadoor", sum := "2f2703e4f34c303667edbbf004508a9acf2d1a022b1ab98bb2c6931b475b0348", func := "loop.example/g00956/laws.FnExactBevelGap", spec := "fnExactBevelGap", named := ["loop.example/g00956/impl.tangents"], apart := false, laid := [("loop.example/g00956/impl.tangents", laid_loop_example_g00956_impl_tangents)] }
def FnExactBevelGapSaid : Prop := fnExactBevelGapRow.holds Tryd.pinned (OpenSpec.ofChange fnExactBevelGapSpec)

/-- ITS FALSE NEIGHBOUR: 'it returns false'. Refute it at one input. -/
def fnExactBevelGapWrong : ChangeSpec := { name := "fnExactBevelGap", vars := ["loop.example/g00956/impl.tangents"], fn := fun _ => fun
  | [d1, d2, d3, g1] => { results := [.lit (.bool false)], args := [d1, d2, d3], vars := [g1] }
  | _ => none }
def FnExactBevelGapWrongFalsely : Prop := fnExactBevelGapRow.holds Tryd.pinned (OpenSpec.ofChange fnExactBevelGapWrong)

/-- 'laws.FnExactThicknessFor': WHATEVER THE INPUT: true; the input reads as it did. -/
def fnExactThicknessForSpec : ChangeSpec := { name := "fnExactThicknessFor", vars := ["loop.example/g00956/impl.tangents"], fn := fun _ => fun
  | [d1, d2, g1] => { results := [.lit (.bool true)], args := [d1, d2], vars := [g1] }
  | _ => none }
def fnExactThicknessForRow : OpenClaim := { program := "ytlplkcdlnplioaadoor", sum := "2f2703e4f34c303667edbbf004508a9acf2d1a022b1ab98bb2c6931b475b0348", func := "loop.example/g00956/laws.FnExactThicknessFor", spec := "fnExactThicknessFor", named := ["loop.example/g00956/impl.tangents"], apart := false, laid := [("loop.example/g00956/impl.tangents", laid_loop_example_g00956_impl_tangents)] }
def FnExactThicknessForSaid : Prop := fnExactThicknessForRow.holds Tryd.pinned (OpenSpec.ofChange fnExactThicknessForSpec)

/-- ITS FALSE NEIGHBOUR: 'it returns false'. Refute it at one input. -/
def fnExactThicknessForWrong : ChangeSpec := { name := "fnExactThicknessFor", vars := ["loop.example/g00956/impl.tangents"], fn := fun _ => fun
  | [d1, d2, g1] => { results := [.lit (.bool false)], args := [d1, d2], vars := [g1] }
  | _ => none }
def FnExactThicknessForWrongFalsely : Prop := fnExactThicknessForRow.holds Tryd.pinned (OpenSpec.ofChange fnExactThicknessForWrong)

/-- 'laws.FnExactClosesGap': WHATEVER THE INPUT: true; the input reads as it did. -/
def fnExactClosesGapSpec : ChangeSpec := { name := "fnExactClosesGap", vars := ["loop.example/g00956/impl.tangents"], fn := fun _ => fun
  | [d1, d2, d3, d4, g1] => { results := [.lit (.bool true)], args := [d1, d2, d3, d4], vars := [g1] }
  | _ => none }
def fnExactClosesGapRow : OpenClaim := { program := "ytlplkcdlnplioaadoor", sum := "2f2703e4f34c303667edbbf004508a9acf2d1a022b1ab98bb2c6931b475b0348", func := "loop.example/g00956/laws.FnExactClosesGap", spec := "fnExactClosesGap", named := ["loop.example/g00956/impl.tangents"], apart := false, laid := [("loop.example/g00956/impl.tangents", laid_loop_example_g00956_impl_tangents)] }
def FnExactClosesGapSaid : Prop := fnExactClosesGapRow.holds Tryd.pinned (OpenSpec.ofChange fnExactClosesGapSpec)

/-- ITS FALSE NEIGHBOUR: 'it returns false'. Refute it at one input. -/
def fnExactClosesGapWrong : ChangeSpec := { name := "fnExactClosesGap", vars := ["loop.example/g00956/impl.tangents"], fn := fun _ => fun
  | [d1, d2, d3, d4, g1] => { results := [.lit (.bool false)], args := [d1, d2, d3, d4], vars := [g1] }
  | _ => none }
def FnExactClosesGapWrongFalsely : Prop := fnExactClosesGapRow.holds Tryd.pinned (OpenSpec.ofChange fnExactClosesGapWrong)

/-- 'laws.FnExactBestBevel': WHATEVER THE INPUT: true; the input reads as it did. -/
def fnExactBestBevelSpec : ChangeSpec := { name := "fnExactBestBevel", vars := ["loop.example/g00956/impl.tangents"], fn := fun _ => fun
  | [d1, d2, g1] => { results := [.lit (.bool true)], args := [d1, d2], vars := [g1] }
  | _ => none }
def fnExactBestBevelRow : OpenClaim := { program := "ytlplkcdlnplioaadoor", sum := "2f2703e4f34c303667edbbf004508a9acf2d1a022b1ab98bb2c6931b475b0348", func := "loop.example/g00956/laws.FnExactBestBevel", spec := "fnExactBestBevel", named := ["loop.example/g00956/impl.tangents"], apart := false, laid := [("loop.example/g00956/impl.tangents", laid_loop_example_g00956_impl_tangents)] }
def FnExactBestBevelSaid : Prop := fnExactBestBevelRow.holds Tryd.pinned (OpenSpec.ofChange fnExactBestBevelSpec)

/-- ITS FALSE NEIGHBOUR: 'it returns false'. Refute it at one input. -/
def fnExactBestBevelWrong : ChangeSpec := { name := "fnExactBestBevel", vars := ["loop.example/g00956/impl.tangents"], fn := fun _ => fun
  | [d1, d2, g1] => { results := [.lit (.bool false)], args := [d1, d2], vars := [g1] }
  | _ => none }
def FnExactBestBevelWrongFalsely : Prop := fnExactBestBevelRow.holds Tryd.pinned (OpenSpec.ofChange fnExactBestBevelWrong)

/-- 'laws.FnExactBevelRange': WHATEVER THE INPUT: true; the input reads as it did. -/
def fnExactBevelRangeSpec : ChangeSpec := { name := "fnExactBevelRange", vars := ["loop.example/g00956/impl.tangents"], fn := fun _ => fun
  | [d1, d2, d3, g1] => { results := [.lit (.bool true)], args := [d1, d2, d3], vars := [g1] }
  | _ => none }
def fnExactBevelRangeRow : OpenClaim := { program := "ytlplkcdlnplioaadoor", sum := "2f2703e4f34c303667edbbf004508a9acf2d1a022b1ab98bb2c6931b475b0348", func := "loop.example/g00956/laws.FnExactBevelRange", spec := "fnExactBevelRange", named := ["loop.example/g00956/impl.tangents"], apart := false, laid := [("loop.example/g00956/impl.tangents", laid_loop_example_g00956_impl_tangents)] }
def FnExactBevelRangeSaid : Prop := fnExactBevelRangeRow.holds Tryd.pinned (OpenSpec.ofChange fnExactBevelRangeSpec)

/-- ITS FALSE NEIGHBOUR: 'it returns false'. Refute it at one input. -/
def fnExactBevelRangeWrong : ChangeSpec := { name := "fnExactBevelRange", vars := ["loop.example/g00956/impl.tangents"], fn := fun _ => fun
  | [d1, d2, d3, g1] => { results := [.lit (.bool false)], args := [d1, d2, d3], vars := [g1] }
  | _ => none }
def FnExactBevelRangeWrongFalsely : Prop := fnExactBevelRangeRow.holds Tryd.pinned (OpenSpec.ofChange fnExactBevelRangeWrong)

/-- 'laws.FnBevel': WHATEVER THE INPUT: true; the input reads as it did. -/
def fnBevelSpec : ChangeSpec := { name := "fnBevel", vars := ["loop.example/g00956/impl.tangents"], fn := fun _ => fun
  | [d, g1] => { results := [.lit (.bool true)], args := [d], vars := [g1] }
  | _ => none }
def fnBevelRow : OpenClaim := { program := "ytlplkcdlnplioaadoor", sum := "2f2703e4f34c303667edbbf004508a9acf2d1a022b1ab98bb2c6931b475b0348", func := "loop.example/g00956/laws.FnBevel", spec := "fnBevel", named := ["loop.example/g00956/impl.tangents"], apart := false, laid := [("loop.example/g00956/impl.tangents", laid_loop_example_g00956_impl_tangents)] }
def FnBevelSaid : Prop := fnBevelRow.holds Tryd.pinned (OpenSpec.ofChange fnBevelSpec)

/-- ITS FALSE NEIGHBOUR: 'it returns false'. Refute it at one input. -/
def fnBevelWrong : ChangeSpec := { name := "fnBevel", vars := ["loop.example/g00956/impl.tangents"], fn := fun _ => fun
  | [d, g1] => { results := [.lit (.bool false)], args := [d], vars := [g1] }
  | _ => none }
def FnBevelWrongFalsely : Prop := fnBevelRow.holds Tryd.pinned (OpenSpec.ofChange fnBevelWrong)

/- THE SECOND FORM. 'bulk': how many values and letters a reading holds, each counted each time it is reached (what is shared counts as often as it is met; a slice's spare places count too). A statement '..UptoSaid' is the law's where the arguments, and the package variables that the reading takes, are together of bulk at most 1048576: NARROWER than '..Said'. Prove '..Said' where nothing that the law and all that it calls make is longer than what came in: it says more and counts as full. Else prove '..UptoSaid'. A law counts once. -/
mutual
def uptoBulk {H : Type} : DataW H → Nat
  | .lit (.string bytes) => bytes.length + 1
  | .lit _ => 1
  | .nil => 1
  | .ptr d => uptoBulk d + 1
  | .slice elems spare => uptoBulkAll elems + uptoBulkAll spare + 1
  | .agg parts => uptoBulkAll parts + 1
  | .iface _ d => uptoBulk d + 1
  | .map entries => uptoBulkEntries entries + 1
  | .held _ => 1
def uptoBulkAll {H : Type} : List (DataW H) → Nat
  | [] => 0
  | d :: r => uptoBulk d + uptoBulkAll r
def uptoBulkEntries {H : Type} : List (Lit × DataW H) → Nat
  | [] => 0
  | x :: r => uptoBulkEntry x + uptoBulkEntries r
def uptoBulkEntry {H : Type} : Lit × DataW H → Nat
  | (.string bytes, d) => bytes.length + uptoBulk d + 1
  | (_, d) => uptoBulk d + 1
 end
def uptoSmall : (H : Type) → List (DataW H) → Bool := fun _ ds => decide (uptoBulkAll ds ≤ 1048576)
def OpenSpec.upto (s : _root_.Go.ChangeSpec) : _root_.Go.OpenSpec := { _root_.Go.OpenSpec.ofChange s with cond := some uptoSmall }

/-- 'laws.FnExactTanOf', WHERE WHAT IT READS IS OF BULK AT MOST 1048576: true; the input reads as it did. -/
def fnExactTanOfUptoRow : OpenClaim := { program := "ytlplkcdlnplioaadoor", sum := "2f2703e4f34c303667edbbf004508a9acf2d1a022b1ab98bb2c6931b475b0348", func := "loop.example/g00956/laws.FnExactTanOf", spec := "fnExactTanOf", named := ["loop.example/g00956/impl.tangents"], apart := false, laid := [("loop.example/g00956/impl.tangents", laid_loop_example_g00956_impl_tangents)], narrowed := true }
def FnExactTanOfUptoSaid : Prop := fnExactTanOfUptoRow.holds Tryd.pinned (OpenSpec.upto fnExactTanOfSpec)

/-- 'laws.FnExactBevelGap', WHERE WHAT IT READS IS OF BULK AT MOST 1048576: true; the input reads as it did. -/
def fnExactBevelGapUptoRow : OpenClaim := { program := "ytlplkcdlnplioaadoor", sum := "2f2703e4f34c303667edbbf004508a9acf2d1a022b1ab98bb2c6931b475b0348", func := "loop.example/g00956/laws.FnExactBevelGap", spec := "fnExactBevelGap", named := ["loop.example/g00956/impl.tangents"], apart := false, laid := [("loop.example/g00956/impl.tangents", laid_loop_example_g00956_impl_tangents)], narrowed := true }
def FnExactBevelGapUptoSaid : Prop := fnExactBevelGapUptoRow.holds Tryd.pinned (OpenSpec.upto fnExactBevelGapSpec)

/-- 'laws.FnExactThicknessFor', WHERE WHAT IT READS IS OF BULK AT MOST 1048576: true; the input reads as it did. -/
def fnExactThicknessForUptoRow : OpenClaim := { program := "ytlplkcdlnplioaadoor", sum := "2f2703e4f34c303667edbbf004508a9acf2d1a022b1ab98bb2c6931b475b0348", func := "loop.example/g00956/laws.FnExactThicknessFor", spec := "fnExactThicknessFor", named := ["loop.example/g00956/impl.tangents"], apart := false, laid := [("loop.example/g00956/impl.tangents", laid_loop_example_g00956_impl_tangents)], narrowed := true }
def FnExactThicknessForUptoSaid : Prop := fnExactThicknessForUptoRow.holds Tryd.pinned (OpenSpec.upto fnExactThicknessForSpec)

/-- 'laws.FnExactClosesGap', WHERE WHAT IT READS IS OF BULK AT MOST 1048576: true; the input reads as it did. -/
def fnExactClosesGapUptoRow : OpenClaim := { program := "ytlplkcdlnplioaadoor", sum := "2f2703e4f34c303667edbbf004508a9acf2d1a022b1ab98bb2c6931b475b0348", func := "loop.example/g00956/laws.FnExactClosesGap", spec := "fnExactClosesGap", named := ["loop.example/g00956/impl.tangents"], apart := false, laid := [("loop.example/g00956/impl.tangents", laid_loop_example_g00956_impl_tangents)], narrowed := true }
def FnExactClosesGapUptoSaid : Prop := fnExactClosesGapUptoRow.holds Tryd.pinned (OpenSpec.upto fnExactClosesGapSpec)

/-- 'laws.FnExactBestBevel', WHERE WHAT IT READS IS OF BULK AT MOST 1048576: true; the input reads as it did. -/
def fnExactBestBevelUptoRow : OpenClaim := { program := "ytlplkcdlnplioaadoor", sum := "2f2703e4f34c303667edbbf004508a9acf2d1a022b1ab98bb2c6931b475b0348", func := "loop.example/g00956/laws.FnExactBestBevel", spec := "fnExactBestBevel", named := ["loop.example/g00956/impl.tangents"], apart := false, laid := [("loop.example/g00956/impl.tangents", laid_loop_example_g00956_impl_tangents)], narrowed := true }
def FnExactBestBevelUptoSaid : Prop := fnExactBestBevelUptoRow.holds Tryd.pinned (OpenSpec.upto fnExactBestBevelSpec)

/-- 'laws.FnExactBevelRange', WHERE WHAT IT READS IS OF BULK AT MOST 1048576: true; the input reads as it did. -/
def fnExactBevelRangeUptoRow : OpenClaim := { program := "ytlplkcdlnplioaadoor", sum := "2f2703e4f34c303667edbbf004508a9acf2d1a022b1ab98bb2c6931b475b0348", func := "loop.example/g00956/laws.FnExactBevelRange", spec := "fnExactBevelRange", named := ["loop.example/g00956/impl.tangents"], apart := false, laid := [("loop.example/g00956/impl.tangents", laid_loop_example_g00956_impl_tangents)], narrowed := true }
def FnExactBevelRangeUptoSaid : Prop := fnExactBevelRangeUptoRow.holds Tryd.pinned (OpenSpec.upto fnExactBevelRangeSpec)

/-- 'laws.FnBevel', WHERE WHAT IT READS IS OF BULK AT MOST 1048576: true; the input reads as it did. -/
def fnBevelUptoRow : OpenClaim := { program := "ytlplkcdlnplioaadoor", sum := "2f2703e4f34c303667edbbf004508a9acf2d1a022b1ab98bb2c6931b475b0348", func := "loop.example/g00956/laws.FnBevel", spec := "fnBevel", named := ["loop.example/g00956/impl.tangents"], apart := false, laid := [("loop.example/g00956/impl.tangents", laid_loop_example_g00956_impl_tangents)], narrowed := true }
def FnBevelUptoSaid : Prop := fnBevelUptoRow.holds Tryd.pinned (OpenSpec.upto fnBevelSpec)

end Rows
end Go.Proofs.YtlplkcdlnplioaaDoor

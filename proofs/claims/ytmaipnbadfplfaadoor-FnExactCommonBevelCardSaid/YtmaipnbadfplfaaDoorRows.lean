/-
  NARROWER THAN 'FOR EVERY INPUT', by the rows' own cells (each row's printed sentence says how): FnExactCommonBevel: laid.
  DERIVED. THE GIVEN ROWS OF THIS SEAT. 1 by the template 'for every input the law returns true; each argument reads behind the call as it read before'; 0 by the template 'total and deterministic' (their statements: YtmaipnbadfplfaaDoorTotals.lean).
  GIVEN WITH THE SEED: the statements are not yours to turn. If you find one false, say at which input.
  Laid BY PROGRAM, IN A SANDBOX (cutbox-rows.mjs): the forced cells as the released guide's own fill.sh prints them over the translation 3d9d0cfa217f712f… (all of the seat's roots in one cut). By AI agents, Wed Nov 11 2026. No macro, syntax, notation, axiom, sorry.
-/
import Derived.Test.YtmaipnbadfplfaaDoorChecked
import GoSem.Claim
import GoSem.ClaimJoined
import GoSem.ClaimMapViews
import Derived.JoinedTies
import Derived.KernelRfl
namespace Go.Proofs.YtmaipnbadfplfaaDoor
/- THE CELL 'sum', in the pinned program and in every row, IS THE sha256 OF THE DUMP (.gsa) THAT YtmaipnbadfplfaaDoorProg.lean LOADS. Nothing in Lean hashes anything: it is a label: what it is worth is what the hold of that sum in a sandbox is worth. -/
noncomputable def Tryd.pinned : Pinned := { name := "ytmaipnbadfplfaadoor", sum := "3d9d0cfa217f712f50a8f4fab6548bd3fe2c1cabd8b7551c9c1efa9e3631825c", checked := Tryd.checked }
namespace Rows
def none {H : Type} : Left H := { results := [], args := [] }

/- WHAT THE LISTED PACKAGE-LEVEL VARIABLES READ AS WHEN THE CALL BEGINS. Each datum BY PROGRAM (the guide's laid-datum.mjs) off the statement by which the dump's own 'gosem.cut.vars' lays the variable. In a bare row this is a premise. The card (YtmaipnbadfplfaaDoorCards.lean) ties it to the program's text. -/
def laid_loop_example_g00956_impl_tangents {H : Type} : DataW H := .agg [.lit (.int .i64 0), .lit (.int .i64 175), .lit (.int .i64 349), .lit (.int .i64 524), .lit (.int .i64 699), .lit (.int .i64 875), .lit (.int .i64 1051), .lit (.int .i64 1228), .lit (.int .i64 1405), .lit (.int .i64 1584), .lit (.int .i64 1763), .lit (.int .i64 1944), .lit (.int .i64 2126), .lit (.int .i64 2309), .lit (.int .i64 2493), .lit (.int .i64 2679), .lit (.int .i64 2867), .lit (.int .i64 3057), .lit (.int .i64 3249), .lit (.int .i64 3443), .lit (.int .i64 3640), .lit (.int .i64 3839), .lit (.int .i64 4040), .lit (.int .i64 4245), .lit (.int .i64 4452), .lit (.int .i64 4663), .lit (.int .i64 4877), .lit (.int .i64 5095), .lit (.int .i64 5317), .lit (.int .i64 5543), .lit (.int .i64 5774)]

/-- 'laws.FnExactCommonBevel': WHATEVER THE INPUT: true; the input reads as it did. -/
def fnExactCommonBevelSpec : ChangeSpec := { name := "fnExactCommonBevel", vars := ["loop.example/g00956/impl.tangents"], fn := fun _ => fun
  | [d1, d2, d3, g1] => { results := [.lit (.bool true)], args := [d1, d2, d3], vars := [g1] }
  | _ => none }
def fnExactCommonBevelRow : OpenClaim := { program := "ytmaipnbadfplfaadoor", sum := "3d9d0cfa217f712f50a8f4fab6548bd3fe2c1cabd8b7551c9c1efa9e3631825c", func := "loop.example/g00956/laws.FnExactCommonBevel", spec := "fnExactCommonBevel", named := ["loop.example/g00956/impl.tangents"], apart := false, laid := [("loop.example/g00956/impl.tangents", laid_loop_example_g00956_impl_tangents)] }
def FnExactCommonBevelSaid : Prop := fnExactCommonBevelRow.holds Tryd.pinned (OpenSpec.ofChange fnExactCommonBevelSpec)

/-- ITS FALSE NEIGHBOUR: 'it returns false'. Refute it at one input. -/
def fnExactCommonBevelWrong : ChangeSpec := { name := "fnExactCommonBevel", vars := ["loop.example/g00956/impl.tangents"], fn := fun _ => fun
  | [d1, d2, d3, g1] => { results := [.lit (.bool false)], args := [d1, d2, d3], vars := [g1] }
  | _ => none }
def FnExactCommonBevelWrongFalsely : Prop := fnExactCommonBevelRow.holds Tryd.pinned (OpenSpec.ofChange fnExactCommonBevelWrong)

/- THE SECOND FORM. 'bulk': how many values and letters a reading holds, each counted each time it is reached (what is shared counts as often as it is met; a slice's spare places count too). A statement '..UptoSaid' is the law's where the arguments, and the package variables that the reading takes, are together of bulk at most 1048576: NARROWER than '..Said'. Prove '..Said' where nothing that the law and all that it calls make is longer than what came in: it says more and counts as full. Else prove '..UptoSaid'. A law counts once. -/
mutual
def uptoBulk {H : Type} : DataW H → Nat
  | .lit (.string bytes) => bytes.length + 1
  | .lit _ => 1
  | .nil => 1
  | .ptr d => uptoBulk d + 1
  | .slice elems spare => uptoBulkAll elems + uptoBulkAll spare + 1
  | .agg parts => uptoBulkAll parts + 1
  | .iface _ d => uptoBulk d + 1
  | .map entries => uptoBulkEntries entries + 1
  | .held _ => 1
def uptoBulkAll {H : Type} : List (DataW H) → Nat
  | [] => 0
  | d :: r => uptoBulk d + uptoBulkAll r
def uptoBulkEntries {H : Type} : List (Lit × DataW H) → Nat
  | [] => 0
  | x :: r => uptoBulkEntry x + uptoBulkEntries r
def uptoBulkEntry {H : Type} : Lit × DataW H → Nat
  | (.string bytes, d) => bytes.length + uptoBulk d + 1
  | (_, d) => uptoBulk d + 1
 end
def uptoSmall : (H : Type) → List (DataW H) → Bool := fun _ ds => decide (uptoBulkAll ds ≤ 1048576)
def OpenSpec.upto (s : _root_.Go.ChangeSpec) : _root_.Go.OpenSpec := { _root_.Go.OpenSpec.ofChange s with cond := some uptoSmall }

/-- 'laws.FnExactCommonBevel', WHERE WHAT IT READS IS OF BULK AT MOST 1048576: true; the input reads as it did. -/
def fnExactCommonBevelUptoRow : OpenClaim := { program := "ytmaipnbadfplfaadoor", sum := "3d9d0cfa217f712f50a8f4fab6548bd3fe2c1cabd8b7551c9c1efa9e3631825c", func := "loop.example/g00956/laws.FnExactCommonBevel", spec := "fnExactCommonBevel", named := ["loop.example/g00956/impl.tangents"], apart := false, laid := [("loop.example/g00956/impl.tangents", laid_loop_example_g00956_impl_tangents)], narrowed := true }
def FnExactCommonBevelUptoSaid : Prop := fnExactCommonBevelUptoRow.holds Tryd.pinned (OpenSpec.upto fnExactCommonBevelSpec)

end Rows
end Go.Proofs.YtmaipnbadfplfaaDoor

/-
  No cell of these rows narrows 'for every input' (looked for: loops, veiled, ifaces, maps, wideKeys, modest, calm, conditions, laid).
  DERIVED. THE GIVEN ROWS OF THIS SEAT. 3 by the template 'for every input the law returns true; each argument reads behind the call as it read before'; 0 by the template 'total and deterministic' (their statements: YtedakffelgmmnaaTotals.lean).
  GIVEN WITH THE SEED: the statements are not yours to turn. If you find one false, say at which input.
  Laid BY PROGRAM, IN A SANDBOX (cutbox-rows.mjs): the forced cells as the released guide's own fill.sh prints them over the translation bb641b72c45e4b68… (all of the seat's roots in one cut). By AI agents, Wed Nov 11 2026. No macro, syntax, notation, axiom, sorry.
-/
import Derived.Test.YtedakffelgmmnaaChecked
import GoSem.Claim
import GoSem.ClaimJoined
import GoSem.ClaimMapViews
import Derived.JoinedTies
import Derived.KernelRfl
namespace Go.Proofs.Ytedakffelgmmnaa
/- THE CELL 'sum', in the pinned program and in every row, IS THE sha256 OF THE DUMP (.gsa) THAT YtedakffelgmmnaaProg.lean LOADS. Nothing in Lean hashes anything: it is a label: what it is worth is what the hold of that sum in a sandbox is worth. -/
noncomputable def Try.pinned : Pinned := { name := "ytedakffelgmmnaa", sum := "bb641b72c45e4b681d5fb0b8616c5b8e1df7d8d72eab49519093ac5dc86be871", checked := Try.checked }
namespace Rows
def none {H : Type} : Left H := { results := [], args := [] }

/-- 'laws.FnExactShelfPlan': WHATEVER THE INPUT: true; the input reads as it did. -/
def fnExactShelfPlanSpec : ChangeSpec := { name := "fnExactShelfPlan", fn := fun _ => fun
  | [d1, d2, d3] => { results := [.lit (.bool true)], args := [d1, d2, d3] }
  | _ => none }
def fnExactShelfPlanRow : OpenClaim := { program := "ytedakffelgmmnaa", sum := "bb641b72c45e4b681d5fb0b8616c5b8e1df7d8d72eab49519093ac5dc86be871", func := "loop.example/g00956/laws.FnExactShelfPlan", spec := "fnExactShelfPlan", unfollowed := true, recurses := true, apart := false }
def FnExactShelfPlanSaid : Prop := fnExactShelfPlanRow.holds Try.pinned (OpenSpec.ofChange fnExactShelfPlanSpec)

/-- ITS FALSE NEIGHBOUR: 'it returns false'. Refute it at one input. -/
def fnExactShelfPlanWrong : ChangeSpec := { name := "fnExactShelfPlan", fn := fun _ => fun
  | [d1, d2, d3] => { results := [.lit (.bool false)], args := [d1, d2, d3] }
  | _ => none }
def FnExactShelfPlanWrongFalsely : Prop := fnExactShelfPlanRow.holds Try.pinned (OpenSpec.ofChange fnExactShelfPlanWrong)

/-- 'laws.FnExactShelfLeaves': WHATEVER THE INPUT: true; the input reads as it did. -/
def fnExactShelfLeavesSpec : ChangeSpec := { name := "fnExactShelfLeaves", fn := fun _ => fun
  | [d1, d2, d3] => { results := [.lit (.bool true)], args := [d1, d2, d3] }
  | _ => none }
def fnExactShelfLeavesRow : OpenClaim := { program := "ytedakffelgmmnaa", sum := "bb641b72c45e4b681d5fb0b8616c5b8e1df7d8d72eab49519093ac5dc86be871", func := "loop.example/g00956/laws.FnExactShelfLeaves", spec := "fnExactShelfLeaves", unfollowed := true, recurses := true, apart := false }
def FnExactShelfLeavesSaid : Prop := fnExactShelfLeavesRow.holds Try.pinned (OpenSpec.ofChange fnExactShelfLeavesSpec)

/-- ITS FALSE NEIGHBOUR: 'it returns false'. Refute it at one input. -/
def fnExactShelfLeavesWrong : ChangeSpec := { name := "fnExactShelfLeaves", fn := fun _ => fun
  | [d1, d2, d3] => { results := [.lit (.bool false)], args := [d1, d2, d3] }
  | _ => none }
def FnExactShelfLeavesWrongFalsely : Prop := fnExactShelfLeavesRow.holds Try.pinned (OpenSpec.ofChange fnExactShelfLeavesWrong)

/-- 'laws.FnExactDecreasingBlades': WHATEVER THE INPUT: true; the input reads as it did. -/
def fnExactDecreasingBladesSpec : ChangeSpec := { name := "fnExactDecreasingBlades", fn := fun _ => fun
  | [d1, d2] => { results := [.lit (.bool true)], args := [d1, d2] }
  | _ => none }
def fnExactDecreasingBladesRow : OpenClaim := { program := "ytedakffelgmmnaa", sum := "bb641b72c45e4b681d5fb0b8616c5b8e1df7d8d72eab49519093ac5dc86be871", func := "loop.example/g00956/laws.FnExactDecreasingBlades", spec := "fnExactDecreasingBlades", unfollowed := true, recurses := true, apart := false }
def FnExactDecreasingBladesSaid : Prop := fnExactDecreasingBladesRow.holds Try.pinned (OpenSpec.ofChange fnExactDecreasingBladesSpec)

/-- ITS FALSE NEIGHBOUR: 'it returns false'. Refute it at one input. -/
def fnExactDecreasingBladesWrong : ChangeSpec := { name := "fnExactDecreasingBlades", fn := fun _ => fun
  | [d1, d2] => { results := [.lit (.bool false)], args := [d1, d2] }
  | _ => none }
def FnExactDecreasingBladesWrongFalsely : Prop := fnExactDecreasingBladesRow.holds Try.pinned (OpenSpec.ofChange fnExactDecreasingBladesWrong)

/- THE SECOND FORM. 'bulk': how many values and letters a reading holds, each counted each time it is reached (what is shared counts as often as it is met; a slice's spare places count too). A statement '..UptoSaid' is the law's where the arguments, and the package variables that the reading takes, are together of bulk at most 1048576: NARROWER than '..Said'. Prove '..Said' where nothing that the law and all that it calls make is longer than what came in: it says more and counts as full. Else prove '..UptoSaid'. A law counts once. -/
mutual
def uptoBulk {H : Type} : DataW H → Nat
  | .lit (.string bytes) => bytes.length + 1
  | .lit _ => 1
  | .nil => 1
  | .ptr d => uptoBulk d + 1
  | .slice elems spare => uptoBulkAll elems + uptoBulkAll spare + 1
  | .agg parts => uptoBulkAll parts + 1
  | .iface _ d => uptoBulk d + 1
  | .map entries => uptoBulkEntries entries + 1
  | .held _ => 1
def uptoBulkAll {H : Type} : List (DataW H) → Nat
  | [] => 0
  | d :: r => uptoBulk d + uptoBulkAll r
def uptoBulkEntries {H : Type} : List (Lit × DataW H) → Nat
  | [] => 0
  | x :: r => uptoBulkEntry x + uptoBulkEntries r
def uptoBulkEntry {H : Type} : Lit × DataW H → Nat
  | (.string bytes, d) => bytes.length + uptoBulk d + 1
  | (_, d) => uptoBulk d + 1
 end
def uptoSmall : (H : Type) → List (DataW H) → Bool := fun _ ds => decide (uptoBulkAll ds ≤ 1048576)
def OpenSpec.upto (s : _root_.Go.ChangeSpec) : _root_.Go.OpenSpec := { _root_.Go.OpenSpec.ofChange s with cond := some uptoSmall }

/-- 'laws.FnExactShelfPlan', WHERE WHAT IT READS IS OF BULK AT MOST 1048576: true; the input reads as it did. -/
def fnExactShelfPlanUptoRow : OpenClaim := { program := "ytedakffelgmmnaa", sum := "bb641b72c45e4b681d5fb0b8616c5b8e1df7d8d72eab49519093ac5dc86be871", func := "loop.example/g00956/laws.FnExactShelfPlan", spec := "fnExactShelfPlan", unfollowed := true, recurses := true, apart := false, narrowed := true }
def FnExactShelfPlanUptoSaid : Prop := fnExactShelfPlanUptoRow.holds Try.pinned (OpenSpec.upto fnExactShelfPlanSpec)

/-- 'laws.FnExactShelfLeaves', WHERE WHAT IT READS IS OF BULK AT MOST 1048576: true; the input reads as it did. -/
def fnExactShelfLeavesUptoRow : OpenClaim := { program := "ytedakffelgmmnaa", sum := "bb641b72c45e4b681d5fb0b8616c5b8e1df7d8d72eab49519093ac5dc86be871", func := "loop.example/g00956/laws.FnExactShelfLeaves", spec := "fnExactShelfLeaves", unfollowed := true, recurses := true, apart := false, narrowed := true }
def FnExactShelfLeavesUptoSaid : Prop := fnExactShelfLeavesUptoRow.holds Try.pinned (OpenSpec.upto fnExactShelfLeavesSpec)

/-- 'laws.FnExactDecreasingBlades', WHERE WHAT IT READS IS OF BULK AT MOST 1048576: true; the input reads as it did. -/
def fnExactDecreasingBladesUptoRow : OpenClaim := { program := "ytedakffelgmmnaa", sum := "bb641b72c45e4b681d5fb0b8616c5b8e1df7d8d72eab49519093ac5dc86be871", func := "loop.example/g00956/laws.FnExactDecreasingBlades", spec := "fnExactDecreasingBlades", unfollowed := true, recurses := true, apart := false, narrowed := true }
def FnExactDecreasingBladesUptoSaid : Prop := fnExactDecreasingBladesUptoRow.holds Try.pinned (OpenSpec.upto fnExactDecreasingBladesSpec)

end Rows
end Go.Proofs.Ytedakffelgmmnaa

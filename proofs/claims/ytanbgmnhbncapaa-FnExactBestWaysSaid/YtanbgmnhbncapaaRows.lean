/-
  No cell of these rows narrows 'for every input' (looked for: loops, veiled, ifaces, maps, wideKeys, modest, calm, conditions, laid).
  DERIVED. THE GIVEN ROWS OF THIS SEAT. 9 by the template 'for every input the law returns true; each argument reads behind the call as it read before'; 0 by the template 'total and deterministic' (their statements: YtanbgmnhbncapaaTotals.lean).
  GIVEN WITH THE SEED: the statements are not yours to turn. If you find one false, say at which input.
  Laid BY PROGRAM, IN A SANDBOX (cutbox-rows.mjs): the forced cells as the released guide's own fill.sh prints them over the translation 5a19e241881cf1ae… (all of the seat's roots in one cut). By AI agents, Wed Nov 11 2026. No macro, syntax, notation, axiom, sorry.
-/
import Derived.Test.YtanbgmnhbncapaaChecked
import GoSem.Claim
import GoSem.ClaimJoined
import GoSem.ClaimMapViews
import Derived.JoinedTies
import Derived.KernelRfl
namespace Go.Proofs.Ytanbgmnhbncapaa
/- THE CELL 'sum', in the pinned program and in every row, IS THE sha256 OF THE DUMP (.gsa) THAT YtanbgmnhbncapaaProg.lean LOADS. Nothing in Lean hashes anything: it is a label: what it is worth is what the hold of that sum in a sandbox is worth. -/
noncomputable def Try.pinned : Pinned := { name := "ytanbgmnhbncapaa", sum := "5a19e241881cf1ae3cb3b79729753ee7abea045356028d81d46c895fc692dbde", checked := Try.checked }
namespace Rows
def none {H : Type} : Left H := { results := [], args := [] }

/-- 'laws.FnExactPathLength': WHATEVER THE INPUT: true; the input reads as it did. -/
def fnExactPathLengthSpec : ChangeSpec := { name := "fnExactPathLength", fn := fun _ => fun
  | [d] => { results := [.lit (.bool true)], args := [d] }
  | _ => none }
def fnExactPathLengthRow : OpenClaim := { program := "ytanbgmnhbncapaa", sum := "5a19e241881cf1ae3cb3b79729753ee7abea045356028d81d46c895fc692dbde", func := "loop.example/g00956/laws.FnExactPathLength", spec := "fnExactPathLength", unfollowed := true, recurses := true, apart := false }
def FnExactPathLengthSaid : Prop := fnExactPathLengthRow.holds Try.pinned (OpenSpec.ofChange fnExactPathLengthSpec)

/-- ITS FALSE NEIGHBOUR: 'it returns false'. Refute it at one input. -/
def fnExactPathLengthWrong : ChangeSpec := { name := "fnExactPathLength", fn := fun _ => fun
  | [d] => { results := [.lit (.bool false)], args := [d] }
  | _ => none }
def FnExactPathLengthWrongFalsely : Prop := fnExactPathLengthRow.holds Try.pinned (OpenSpec.ofChange fnExactPathLengthWrong)

/-- 'laws.FnExactTabsOf': WHATEVER THE INPUT: true; the input reads as it did. -/
def fnExactTabsOfSpec : ChangeSpec := { name := "fnExactTabsOf", fn := fun _ => fun
  | [d1, d2, d3] => { results := [.lit (.bool true)], args := [d1, d2, d3] }
  | _ => none }
def fnExactTabsOfRow : OpenClaim := { program := "ytanbgmnhbncapaa", sum := "5a19e241881cf1ae3cb3b79729753ee7abea045356028d81d46c895fc692dbde", func := "loop.example/g00956/laws.FnExactTabsOf", spec := "fnExactTabsOf", unfollowed := true, recurses := true, apart := false }
def FnExactTabsOfSaid : Prop := fnExactTabsOfRow.holds Try.pinned (OpenSpec.ofChange fnExactTabsOfSpec)

/-- ITS FALSE NEIGHBOUR: 'it returns false'. Refute it at one input. -/
def fnExactTabsOfWrong : ChangeSpec := { name := "fnExactTabsOf", fn := fun _ => fun
  | [d1, d2, d3] => { results := [.lit (.bool false)], args := [d1, d2, d3] }
  | _ => none }
def FnExactTabsOfWrongFalsely : Prop := fnExactTabsOfRow.holds Try.pinned (OpenSpec.ofChange fnExactTabsOfWrong)

/-- 'laws.FnExactFreeAfter': WHATEVER THE INPUT: true; the input reads as it did. -/
def fnExactFreeAfterSpec : ChangeSpec := { name := "fnExactFreeAfter", fn := fun _ => fun
  | [d1, d2] => { results := [.lit (.bool true)], args := [d1, d2] }
  | _ => none }
def fnExactFreeAfterRow : OpenClaim := { program := "ytanbgmnhbncapaa", sum := "5a19e241881cf1ae3cb3b79729753ee7abea045356028d81d46c895fc692dbde", func := "loop.example/g00956/laws.FnExactFreeAfter", spec := "fnExactFreeAfter", unfollowed := true, recurses := true, apart := false }
def FnExactFreeAfterSaid : Prop := fnExactFreeAfterRow.holds Try.pinned (OpenSpec.ofChange fnExactFreeAfterSpec)

/-- ITS FALSE NEIGHBOUR: 'it returns false'. Refute it at one input. -/
def fnExactFreeAfterWrong : ChangeSpec := { name := "fnExactFreeAfter", fn := fun _ => fun
  | [d1, d2] => { results := [.lit (.bool false)], args := [d1, d2] }
  | _ => none }
def FnExactFreeAfterWrongFalsely : Prop := fnExactFreeAfterRow.holds Try.pinned (OpenSpec.ofChange fnExactFreeAfterWrong)

/-- 'laws.FnExactAirLength': WHATEVER THE INPUT: true; the input reads as it did. -/
def fnExactAirLengthSpec : ChangeSpec := { name := "fnExactAirLength", fn := fun _ => fun
  | [d1, d2, d3] => { results := [.lit (.bool true)], args := [d1, d2, d3] }
  | _ => none }
def fnExactAirLengthRow : OpenClaim := { program := "ytanbgmnhbncapaa", sum := "5a19e241881cf1ae3cb3b79729753ee7abea045356028d81d46c895fc692dbde", func := "loop.example/g00956/laws.FnExactAirLength", spec := "fnExactAirLength", unfollowed := true, recurses := true, apart := false }
def FnExactAirLengthSaid : Prop := fnExactAirLengthRow.holds Try.pinned (OpenSpec.ofChange fnExactAirLengthSpec)

/-- ITS FALSE NEIGHBOUR: 'it returns false'. Refute it at one input. -/
def fnExactAirLengthWrong : ChangeSpec := { name := "fnExactAirLength", fn := fun _ => fun
  | [d1, d2, d3] => { results := [.lit (.bool false)], args := [d1, d2, d3] }
  | _ => none }
def FnExactAirLengthWrongFalsely : Prop := fnExactAirLengthRow.holds Try.pinned (OpenSpec.ofChange fnExactAirLengthWrong)

/-- 'laws.FnExactCutTime': WHATEVER THE INPUT: true; the input reads as it did. -/
def fnExactCutTimeSpec : ChangeSpec := { name := "fnExactCutTime", fn := fun _ => fun
  | [d1, d2, d3, d4, d5] => { results := [.lit (.bool true)], args := [d1, d2, d3, d4, d5] }
  | _ => none }
def fnExactCutTimeRow : OpenClaim := { program := "ytanbgmnhbncapaa", sum := "5a19e241881cf1ae3cb3b79729753ee7abea045356028d81d46c895fc692dbde", func := "loop.example/g00956/laws.FnExactCutTime", spec := "fnExactCutTime", unfollowed := true, recurses := true, apart := false }
def FnExactCutTimeSaid : Prop := fnExactCutTimeRow.holds Try.pinned (OpenSpec.ofChange fnExactCutTimeSpec)

/-- ITS FALSE NEIGHBOUR: 'it returns false'. Refute it at one input. -/
def fnExactCutTimeWrong : ChangeSpec := { name := "fnExactCutTime", fn := fun _ => fun
  | [d1, d2, d3, d4, d5] => { results := [.lit (.bool false)], args := [d1, d2, d3, d4, d5] }
  | _ => none }
def FnExactCutTimeWrongFalsely : Prop := fnExactCutTimeRow.holds Try.pinned (OpenSpec.ofChange fnExactCutTimeWrong)

/-- 'laws.FnExactFaceDepths': WHATEVER THE INPUT: true; the input reads as it did. -/
def fnExactFaceDepthsSpec : ChangeSpec := { name := "fnExactFaceDepths", fn := fun _ => fun
  | [d] => { results := [.lit (.bool true)], args := [d] }
  | _ => none }
def fnExactFaceDepthsRow : OpenClaim := { program := "ytanbgmnhbncapaa", sum := "5a19e241881cf1ae3cb3b79729753ee7abea045356028d81d46c895fc692dbde", func := "loop.example/g00956/laws.FnExactFaceDepths", spec := "fnExactFaceDepths", unfollowed := true, recurses := true, apart := false }
def FnExactFaceDepthsSaid : Prop := fnExactFaceDepthsRow.holds Try.pinned (OpenSpec.ofChange fnExactFaceDepthsSpec)

/-- ITS FALSE NEIGHBOUR: 'it returns false'. Refute it at one input. -/
def fnExactFaceDepthsWrong : ChangeSpec := { name := "fnExactFaceDepths", fn := fun _ => fun
  | [d] => { results := [.lit (.bool false)], args := [d] }
  | _ => none }
def FnExactFaceDepthsWrongFalsely : Prop := fnExactFaceDepthsRow.holds Try.pinned (OpenSpec.ofChange fnExactFaceDepthsWrong)

/-- 'laws.FnExactIsInnerFirst': WHATEVER THE INPUT: true; the input reads as it did. -/
def fnExactIsInnerFirstSpec : ChangeSpec := { name := "fnExactIsInnerFirst", fn := fun _ => fun
  | [d1, d2] => { results := [.lit (.bool true)], args := [d1, d2] }
  | _ => none }
def fnExactIsInnerFirstRow : OpenClaim := { program := "ytanbgmnhbncapaa", sum := "5a19e241881cf1ae3cb3b79729753ee7abea045356028d81d46c895fc692dbde", func := "loop.example/g00956/laws.FnExactIsInnerFirst", spec := "fnExactIsInnerFirst", unfollowed := true, recurses := true, apart := false }
def FnExactIsInnerFirstSaid : Prop := fnExactIsInnerFirstRow.holds Try.pinned (OpenSpec.ofChange fnExactIsInnerFirstSpec)

/-- ITS FALSE NEIGHBOUR: 'it returns false'. Refute it at one input. -/
def fnExactIsInnerFirstWrong : ChangeSpec := { name := "fnExactIsInnerFirst", fn := fun _ => fun
  | [d1, d2] => { results := [.lit (.bool false)], args := [d1, d2] }
  | _ => none }
def FnExactIsInnerFirstWrongFalsely : Prop := fnExactIsInnerFirstRow.holds Try.pinned (OpenSpec.ofChange fnExactIsInnerFirstWrong)

/-- 'laws.FnExactEdgeDepths': WHATEVER THE INPUT: true; the input reads as it did. -/
def fnExactEdgeDepthsSpec : ChangeSpec := { name := "fnExactEdgeDepths", fn := fun _ => fun
  | [d] => { results := [.lit (.bool true)], args := [d] }
  | _ => none }
def fnExactEdgeDepthsRow : OpenClaim := { program := "ytanbgmnhbncapaa", sum := "5a19e241881cf1ae3cb3b79729753ee7abea045356028d81d46c895fc692dbde", func := "loop.example/g00956/laws.FnExactEdgeDepths", spec := "fnExactEdgeDepths", unfollowed := true, recurses := true, apart := false }
def FnExactEdgeDepthsSaid : Prop := fnExactEdgeDepthsRow.holds Try.pinned (OpenSpec.ofChange fnExactEdgeDepthsSpec)

/-- ITS FALSE NEIGHBOUR: 'it returns false'. Refute it at one input. -/
def fnExactEdgeDepthsWrong : ChangeSpec := { name := "fnExactEdgeDepths", fn := fun _ => fun
  | [d] => { results := [.lit (.bool false)], args := [d] }
  | _ => none }
def FnExactEdgeDepthsWrongFalsely : Prop := fnExactEdgeDepthsRow.holds Try.pinned (OpenSpec.ofChange fnExactEdgeDepthsWrong)

/-- 'laws.FnExactBestWays': WHATEVER THE INPUT: true; the input reads as it did. -/
def fnExactBestWaysSpec : ChangeSpec := { name := "fnExactBestWays", fn := fun _ => fun
  | [d1, d2] => { results := [.lit (.bool true)], args := [d1, d2] }
  | _ => none }
def fnExactBestWaysRow : OpenClaim := { program := "ytanbgmnhbncapaa", sum := "5a19e241881cf1ae3cb3b79729753ee7abea045356028d81d46c895fc692dbde", func := "loop.example/g00956/laws.FnExactBestWays", spec := "fnExactBestWays", unfollowed := true, recurses := true, apart := false }
def FnExactBestWaysSaid : Prop := fnExactBestWaysRow.holds Try.pinned (OpenSpec.ofChange fnExactBestWaysSpec)

/-- ITS FALSE NEIGHBOUR: 'it returns false'. Refute it at one input. -/
def fnExactBestWaysWrong : ChangeSpec := { name := "fnExactBestWays", fn := fun _ => fun
  | [d1, d2] => { results := [.lit (.bool false)], args := [d1, d2] }
  | _ => none }
def FnExactBestWaysWrongFalsely : Prop := fnExactBestWaysRow.holds Try.pinned (OpenSpec.ofChange fnExactBestWaysWrong)

/- THE SECOND FORM. 'bulk': how many values and letters a reading holds, each counted each time it is reached (what is shared counts as often as it is met; a slice's spare places count too). A statement '..UptoSaid' is the law's where the arguments, and the package variables that the reading takes, are together of bulk at most 1048576: NARROWER than '..Said'. Prove '..Said' where nothing that the law and all that it calls make is longer than what came in: it says more and counts as full. Else prove '..UptoSaid'. A law counts once. -/
mutual
def uptoBulk {H : Type} : DataW H → Nat
  | .lit (.string bytes) => bytes.length + 1
  | .lit _ => 1
  | .nil => 1
  | .ptr d => uptoBulk d + 1
  | .slice elems spare => uptoBulkAll elems + uptoBulkAll spare + 1
  | .agg parts => uptoBulkAll parts + 1
  | .iface _ d => uptoBulk d + 1
  | .map entries => uptoBulkEntries entries + 1
  | .held _ => 1
def uptoBulkAll {H : Type} : List (DataW H) → Nat
  | [] => 0
  | d :: r => uptoBulk d + uptoBulkAll r
def uptoBulkEntries {H : Type} : List (Lit × DataW H) → Nat
  | [] => 0
  | x :: r => uptoBulkEntry x + uptoBulkEntries r
def uptoBulkEntry {H : Type} : Lit × DataW H → Nat
  | (.string bytes, d) => bytes.length + uptoBulk d + 1
  | (_, d) => uptoBulk d + 1
 end
def uptoSmall : (H : Type) → List (DataW H) → Bool := fun _ ds => decide (uptoBulkAll ds ≤ 1048576)
def OpenSpec.upto (s : _root_.Go.ChangeSpec) : _root_.Go.OpenSpec := { _root_.Go.OpenSpec.ofChange s with cond := some uptoSmall }

/-- 'laws.FnExactPathLength', WHERE WHAT IT READS IS OF BULK AT MOST 1048576: true; the input reads as it did. -/
def fnExactPathLengthUptoRow : OpenClaim := { program := "ytanbgmnhbncapaa", sum := "5a19e241881cf1ae3cb3b79729753ee7abea045356028d81d46c895fc692dbde", func := "loop.example/g00956/laws.FnExactPathLength", spec := "fnExactPathLength", unfollowed := true, recurses := true, apart := false, narrowed := true }
def FnExactPathLengthUptoSaid : Prop := fnExactPathLengthUptoRow.holds Try.pinned (OpenSpec.upto fnExactPathLengthSpec)

/-- 'laws.FnExactTabsOf', WHERE WHAT IT READS IS OF BULK AT MOST 1048576: true; the input reads as it did. -/
def fnExactTabsOfUptoRow : OpenClaim := { program := "ytanbgmnhbncapaa", sum := "5a19e241881cf1ae3cb3b79729753ee7abea045356028d81d46c895fc692dbde", func := "loop.example/g00956/laws.FnExactTabsOf", spec := "fnExactTabsOf", unfollowed := true, recurses := true, apart := false, narrowed := true }
def FnExactTabsOfUptoSaid : Prop := fnExactTabsOfUptoRow.holds Try.pinned (OpenSpec.upto fnExactTabsOfSpec)

/-- 'laws.FnExactFreeAfter', WHERE WHAT IT READS IS OF BULK AT MOST 1048576: true; the input reads as it did. -/
def fnExactFreeAfterUptoRow : OpenClaim := { program := "ytanbgmnhbncapaa", sum := "5a19e241881cf1ae3cb3b79729753ee7abea045356028d81d46c895fc692dbde", func := "loop.example/g00956/laws.FnExactFreeAfter", spec := "fnExactFreeAfter", unfollowed := true, recurses := true, apart := false, narrowed := true }
def FnExactFreeAfterUptoSaid : Prop := fnExactFreeAfterUptoRow.holds Try.pinned (OpenSpec.upto fnExactFreeAfterSpec)

/-- 'laws.FnExactAirLength', WHERE WHAT IT READS IS OF BULK AT MOST 1048576: true; the input reads as it did. -/
def fnExactAirLengthUptoRow : OpenClaim := { program := "ytanbgmnhbncapaa", sum := "5a19e241881cf1ae3cb3b79729753ee7abea045356028d81d46c895fc692dbde", func := "loop.example/g00956/laws.FnExactAirLength", spec := "fnExactAirLength", unfollowed := true, recurses := true, apart := false, narrowed := true }
def FnExactAirLengthUptoSaid : Prop := fnExactAirLengthUptoRow.holds Try.pinned (OpenSpec.upto fnExactAirLengthSpec)

/-- 'laws.FnExactCutTime', WHERE WHAT IT READS IS OF BULK AT MOST 1048576: true; the input reads as it did. -/
def fnExactCutTimeUptoRow : OpenClaim := { program := "ytanbgmnhbncapaa", sum := "5a19e241881cf1ae3cb3b79729753ee7abea045356028d81d46c895fc692dbde", func := "loop.example/g00956/laws.FnExactCutTime", spec := "fnExactCutTime", unfollowed := true, recurses := true, apart := false, narrowed := true }
def FnExactCutTimeUptoSaid : Prop := fnExactCutTimeUptoRow.holds Try.pinned (OpenSpec.upto fnExactCutTimeSpec)

/-- 'laws.FnExactFaceDepths', WHERE WHAT IT READS IS OF BULK AT MOST 1048576: true; the input reads as it did. -/
def fnExactFaceDepthsUptoRow : OpenClaim := { program := "ytanbgmnhbncapaa", sum := "5a19e241881cf1ae3cb3b79729753ee7abea045356028d81d46c895fc692dbde", func := "loop.example/g00956/laws.FnExactFaceDepths", spec := "fnExactFaceDepths", unfollowed := true, recurses := true, apart := false, narrowed := true }
def FnExactFaceDepthsUptoSaid : Prop := fnExactFaceDepthsUptoRow.holds Try.pinned (OpenSpec.upto fnExactFaceDepthsSpec)

/-- 'laws.FnExactIsInnerFirst', WHERE WHAT IT READS IS OF BULK AT MOST 1048576: true; the input reads as it did. -/
def fnExactIsInnerFirstUptoRow : OpenClaim := { program := "ytanbgmnhbncapaa", sum := "5a19e241881cf1ae3cb3b79729753ee7abea045356028d81d46c895fc692dbde", func := "loop.example/g00956/laws.FnExactIsInnerFirst", spec := "fnExactIsInnerFirst", unfollowed := true, recurses := true, apart := false, narrowed := true }
def FnExactIsInnerFirstUptoSaid : Prop := fnExactIsInnerFirstUptoRow.holds Try.pinned (OpenSpec.upto fnExactIsInnerFirstSpec)

/-- 'laws.FnExactEdgeDepths', WHERE WHAT IT READS IS OF BULK AT MOST 1048576: true; the input reads as it did. -/
def fnExactEdgeDepthsUptoRow : OpenClaim := { program := "ytanbgmnhbncapaa", sum := "5a19e241881cf1ae3cb3b79729753ee7abea045356028d81d46c895fc692dbde", func := "loop.example/g00956/laws.FnExactEdgeDepths", spec := "fnExactEdgeDepths", unfollowed := true, recurses := true, apart := false, narrowed := true }
def FnExactEdgeDepthsUptoSaid : Prop := fnExactEdgeDepthsUptoRow.holds Try.pinned (OpenSpec.upto fnExactEdgeDepthsSpec)

/-- 'laws.FnExactBestWays', WHERE WHAT IT READS IS OF BULK AT MOST 1048576: true; the input reads as it did. -/
def fnExactBestWaysUptoRow : OpenClaim := { program := "ytanbgmnhbncapaa", sum := "5a19e241881cf1ae3cb3b79729753ee7abea045356028d81d46c895fc692dbde", func := "loop.example/g00956/laws.FnExactBestWays", spec := "fnExactBestWays", unfollowed := true, recurses := true, apart := false, narrowed := true }
def FnExactBestWaysUptoSaid : Prop := fnExactBestWaysUptoRow.holds Try.pinned (OpenSpec.upto fnExactBestWaysSpec)

end Rows
end Go.Proofs.Ytanbgmnhbncapaa

/-
  No cell of these rows narrows 'for every input' (looked for: loops, veiled, ifaces, maps, wideKeys, modest, calm, conditions, laid).
  DERIVED. THE GIVEN ROWS OF THIS SEAT. 4 by the template 'for every input the law returns true; each argument reads behind the call as it read before'; 0 by the template 'total and deterministic' (their statements: YtlplkcdlnplioaaTotals.lean).
  GIVEN WITH THE SEED: the statements are not yours to turn. If you find one false, say at which input.
  Laid BY PROGRAM, IN A SANDBOX (cutbox-rows.mjs): the forced cells as the released guide's own fill.sh prints them over the translation 394c34ef49408b3d… (all of the seat's roots in one cut). By AI agents, Wed Nov 11 2026. No macro, syntax, notation, axiom, sorry.
-/
import Derived.Test.YtlplkcdlnplioaaChecked
import GoSem.Claim
import GoSem.ClaimJoined
import GoSem.ClaimMapViews
import Derived.JoinedTies
import Derived.KernelRfl
namespace Go.Proofs.Ytlplkcdlnplioaa
/- THE CELL 'sum', in the pinned program and in every row, IS THE sha256 OF THE DUMP (.gsa) THAT YtlplkcdlnplioaaProg.lean LOADS. Nothing in Lean hashes anything: it is a label: what it is worth is what the hold of that sum in a sandbox is worth. -/
noncomputable def Try.pinned : Pinned := { name := "ytlplkcdlnplioaa", sum := "394c34ef49408b3d42d307a2eeafa393567c885e8f7e3e9a3f5a7760bf0ee31a", checked := Try.checked }
namespace Rows
def none {H : Type} : Left H := { results := [], args := [] }

/-- 'laws.FnExactValidBlade': WHATEVER THE INPUT: true; the input reads as it did. -/
def fnExactValidBladeSpec : ChangeSpec := { name := "fnExactValidBlade", fn := fun _ => fun
  | [d] => { results := [.lit (.bool true)], args := [d] }
  | _ => none }
def fnExactValidBladeRow : OpenClaim := { program := "ytlplkcdlnplioaa", sum := "394c34ef49408b3d42d307a2eeafa393567c885e8f7e3e9a3f5a7760bf0ee31a", func := "loop.example/g00956/laws.FnExactValidBlade", spec := "fnExactValidBlade", apart := false }
def FnExactValidBladeSaid : Prop := fnExactValidBladeRow.holds Try.pinned (OpenSpec.ofChange fnExactValidBladeSpec)

/-- ITS FALSE NEIGHBOUR: 'it returns false'. Refute it at one input. -/
def fnExactValidBladeWrong : ChangeSpec := { name := "fnExactValidBlade", fn := fun _ => fun
  | [d] => { results := [.lit (.bool false)], args := [d] }
  | _ => none }
def FnExactValidBladeWrongFalsely : Prop := fnExactValidBladeRow.holds Try.pinned (OpenSpec.ofChange fnExactValidBladeWrong)

/-- 'laws.FnExactWearOf': WHATEVER THE INPUT: true; the input reads as it did. -/
def fnExactWearOfSpec : ChangeSpec := { name := "fnExactWearOf", fn := fun _ => fun
  | [d] => { results := [.lit (.bool true)], args := [d] }
  | _ => none }
def fnExactWearOfRow : OpenClaim := { program := "ytlplkcdlnplioaa", sum := "394c34ef49408b3d42d307a2eeafa393567c885e8f7e3e9a3f5a7760bf0ee31a", func := "loop.example/g00956/laws.FnExactWearOf", spec := "fnExactWearOf", apart := false }
def FnExactWearOfSaid : Prop := fnExactWearOfRow.holds Try.pinned (OpenSpec.ofChange fnExactWearOfSpec)

/-- ITS FALSE NEIGHBOUR: 'it returns false'. Refute it at one input. -/
def fnExactWearOfWrong : ChangeSpec := { name := "fnExactWearOf", fn := fun _ => fun
  | [d] => { results := [.lit (.bool false)], args := [d] }
  | _ => none }
def FnExactWearOfWrongFalsely : Prop := fnExactWearOfRow.holds Try.pinned (OpenSpec.ofChange fnExactWearOfWrong)

/-- 'laws.FnExactLifeLeft': WHATEVER THE INPUT: true; the input reads as it did. -/
def fnExactLifeLeftSpec : ChangeSpec := { name := "fnExactLifeLeft", fn := fun _ => fun
  | [d1, d2] => { results := [.lit (.bool true)], args := [d1, d2] }
  | _ => none }
def fnExactLifeLeftRow : OpenClaim := { program := "ytlplkcdlnplioaa", sum := "394c34ef49408b3d42d307a2eeafa393567c885e8f7e3e9a3f5a7760bf0ee31a", func := "loop.example/g00956/laws.FnExactLifeLeft", spec := "fnExactLifeLeft", apart := false }
def FnExactLifeLeftSaid : Prop := fnExactLifeLeftRow.holds Try.pinned (OpenSpec.ofChange fnExactLifeLeftSpec)

/-- ITS FALSE NEIGHBOUR: 'it returns false'. Refute it at one input. -/
def fnExactLifeLeftWrong : ChangeSpec := { name := "fnExactLifeLeft", fn := fun _ => fun
  | [d1, d2] => { results := [.lit (.bool false)], args := [d1, d2] }
  | _ => none }
def FnExactLifeLeftWrongFalsely : Prop := fnExactLifeLeftRow.holds Try.pinned (OpenSpec.ofChange fnExactLifeLeftWrong)

/-- 'laws.FnExactTabPlaces': WHATEVER THE INPUT: true; the input reads as it did. -/
def fnExactTabPlacesSpec : ChangeSpec := { name := "fnExactTabPlaces", fn := fun _ => fun
  | [d1, d2, d3] => { results := [.lit (.bool true)], args := [d1, d2, d3] }
  | _ => none }
def fnExactTabPlacesRow : OpenClaim := { program := "ytlplkcdlnplioaa", sum := "394c34ef49408b3d42d307a2eeafa393567c885e8f7e3e9a3f5a7760bf0ee31a", func := "loop.example/g00956/laws.FnExactTabPlaces", spec := "fnExactTabPlaces", apart := false }
def FnExactTabPlacesSaid : Prop := fnExactTabPlacesRow.holds Try.pinned (OpenSpec.ofChange fnExactTabPlacesSpec)

/-- ITS FALSE NEIGHBOUR: 'it returns false'. Refute it at one input. -/
def fnExactTabPlacesWrong : ChangeSpec := { name := "fnExactTabPlaces", fn := fun _ => fun
  | [d1, d2, d3] => { results := [.lit (.bool false)], args := [d1, d2, d3] }
  | _ => none }
def FnExactTabPlacesWrongFalsely : Prop := fnExactTabPlacesRow.holds Try.pinned (OpenSpec.ofChange fnExactTabPlacesWrong)

/- THE SECOND FORM. 'bulk': how many values and letters a reading holds, each counted each time it is reached (what is shared counts as often as it is met; a slice's spare places count too). A statement '..UptoSaid' is the law's where the arguments, and the package variables that the reading takes, are together of bulk at most 1048576: NARROWER than '..Said'. Prove '..Said' where nothing that the law and all that it calls make is longer than what came in: it says more and counts as full. Else prove '..UptoSaid'. A law counts once. -/
mutual
def uptoBulk {H : Type} : DataW H → Nat
  | .lit (.string bytes) => bytes.length + 1
  | .lit _ => 1
  | .nil => 1
  | .ptr d => uptoBulk d + 1
  | .slice elems spare => uptoBulkAll elems + uptoBulkAll spare + 1
  | .agg parts => uptoBulkAll parts + 1
  | .iface _ d => uptoBulk d + 1
  | .map entries => uptoBulkEntries entries + 1
  | .held _ => 1
def uptoBulkAll {H : Type} : List (DataW H) → Nat
  | [] => 0
  | d :: r => uptoBulk d + uptoBulkAll r
def uptoBulkEntries {H : Type} : List (Lit × DataW H) → Nat
  | [] => 0
  | x :: r => uptoBulkEntry x + uptoBulkEntries r
def uptoBulkEntry {H : Type} : Lit × DataW H → Nat
  | (.string bytes, d) => bytes.length + uptoBulk d + 1
  | (_, d) => uptoBulk d + 1
 end
def uptoSmall : (H : Type) → List (DataW H) → Bool := fun _ ds => decide (uptoBulkAll ds ≤ 1048576)
def OpenSpec.upto (s : _root_.Go.ChangeSpec) : _root_.Go.OpenSpec := { _root_.Go.OpenSpec.ofChange s with cond := some uptoSmall }

/-- 'laws.FnExactValidBlade', WHERE WHAT IT READS IS OF BULK AT MOST 1048576: true; the input reads as it did. -/
def fnExactValidBladeUptoRow : OpenClaim := { program := "ytlplkcdlnplioaa", sum := "394c34ef49408b3d42d307a2eeafa393567c885e8f7e3e9a3f5a7760bf0ee31a", func := "loop.example/g00956/laws.FnExactValidBlade", spec := "fnExactValidBlade", apart := false, narrowed := true }
def FnExactValidBladeUptoSaid : Prop := fnExactValidBladeUptoRow.holds Try.pinned (OpenSpec.upto fnExactValidBladeSpec)

/-- 'laws.FnExactWearOf', WHERE WHAT IT READS IS OF BULK AT MOST 1048576: true; the input reads as it did. -/
def fnExactWearOfUptoRow : OpenClaim := { program := "ytlplkcdlnplioaa", sum := "394c34ef49408b3d42d307a2eeafa393567c885e8f7e3e9a3f5a7760bf0ee31a", func := "loop.example/g00956/laws.FnExactWearOf", spec := "fnExactWearOf", apart := false, narrowed := true }
def FnExactWearOfUptoSaid : Prop := fnExactWearOfUptoRow.holds Try.pinned (OpenSpec.upto fnExactWearOfSpec)

/-- 'laws.FnExactLifeLeft', WHERE WHAT IT READS IS OF BULK AT MOST 1048576: true; the input reads as it did. -/
def fnExactLifeLeftUptoRow : OpenClaim := { program := "ytlplkcdlnplioaa", sum := "394c34ef49408b3d42d307a2eeafa393567c885e8f7e3e9a3f5a7760bf0ee31a", func := "loop.example/g00956/laws.FnExactLifeLeft", spec := "fnExactLifeLeft", apart := false, narrowed := true }
def FnExactLifeLeftUptoSaid : Prop := fnExactLifeLeftUptoRow.holds Try.pinned (OpenSpec.upto fnExactLifeLeftSpec)

/-- 'laws.FnExactTabPlaces', WHERE WHAT IT READS IS OF BULK AT MOST 1048576: true; the input reads as it did. -/
def fnExactTabPlacesUptoRow : OpenClaim := { program := "ytlplkcdlnplioaa", sum := "394c34ef49408b3d42d307a2eeafa393567c885e8f7e3e9a3f5a7760bf0ee31a", func := "loop.example/g00956/laws.FnExactTabPlaces", spec := "fnExactTabPlaces", apart := false, narrowed := true }
def FnExactTabPlacesUptoSaid : Prop := fnExactTabPlacesUptoRow.holds Try.pinned (OpenSpec.upto fnExactTabPlacesSpec)

end Rows
end Go.Proofs.Ytlplkcdlnplioaa

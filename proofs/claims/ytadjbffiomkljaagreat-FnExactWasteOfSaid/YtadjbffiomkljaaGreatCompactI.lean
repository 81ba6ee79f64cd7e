/- Compact of whole numbers by the shelf's contract, told over the abstract machine. No condition. -/
import Derived.Test.YtadjbffiomkljaaGreatAnM
import Derived.Test.YtadjbffiomkljaaGreatProg
import Derived.WalkKit
import Derived.ProofKit
import Derived.Shelf.SlicesG.CompactI
import Derived.Shelf.Lay
import Derived.Ground.SlgnProg
set_option linter.unusedVariables false
set_option linter.unusedSimpArgs false
namespace Go.Proofs
open Go.Shelf
shelf_lay_g SlLaysN.n43 Slgn 43 at Tryz 136 as Tryz.compactInts
end Go.Proofs
namespace Go.Proofs.YtadjbffiomkljaaGreat.CompactI
open Go Go.RowKit Go.Sort Go.Proofs.YtadjbffiomkljaaGreatM
def compactI (l : List Int) : List Int := Lib.compact l
theorem compact_le (l : List Int) : (compactI l).length ≤ l.length := by
  unfold compactI Lib.compact Lib.compactUpTo
  rw [List.length_map]
  exact Nat.le_trans (List.length_filter_le _ _) (by simp)
theorem compactInts (l : List Int) (h : l.length < 4611686018427387904) : OkC Tryz.prog 136 2 (l.map fun x => [.v (.int .i64 x)]) ((compactI l).map fun x => [.v (.int .i64 x)]) := by
  have hle := compact_le l
  refine cut_okC (k := 1) (fun x : Int => [.int .i64 x]) (fun x => [.v (.int .i64 x)]) (fun _ => rfl) (by kernel_rfl) (by decide) (fun _ => rfl) (fun x v hv => by simp at hv; subst hv; rfl) ⟨Tryz.f136, Tryz.func136, by kernel_rfl, by kernel_rfl⟩ l (compactI l) (List.replicate (l.length - (compactI l).length) 0) (by rw [List.length_replicate]; omega) (fun _ p cap w => ?_) (fun blk cap w hH hlt hc => ?_)
  · have := AnyG.slices_Compact_int_empty Tryz.compactInts p cap w
    exact this
  · have hcon := AnyG.slices_Compact_int Tryz.compactInts blk 0 cap l w (holds1 _ _ _ _ _ hH) (by omega) hc
    refine Calls.mono hcon (fun e w' he => ?_)
    obtain ⟨he, n, hw⟩ := he
    exact ⟨he, n, #[], by rw [hw, flat1, put1, grow_empty]; rfl⟩
end Go.Proofs.YtadjbffiomkljaaGreat.CompactI

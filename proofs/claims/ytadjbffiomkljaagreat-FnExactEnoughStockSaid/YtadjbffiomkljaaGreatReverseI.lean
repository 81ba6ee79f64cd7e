/- Reverse of whole numbers by the shelf's contract, told over the abstract machine. No condition. -/
import Derived.Test.YtadjbffiomkljaaGreatAnG
import Derived.Test.YtadjbffiomkljaaGreatProg
import Derived.WalkKit
import Derived.ProofKit
import Derived.Shelf.SlicesG.Reverse
import Derived.Shelf.Lay
import Derived.Ground.SlgnProg
set_option linter.unusedVariables false
set_option linter.unusedSimpArgs false
namespace Go.Proofs
open Go.Shelf
shelf_lay_g SlLaysN.n35 Slgn 35 at Tryz 131 as Tryz.reverseInts
end Go.Proofs
namespace Go.Proofs.YtadjbffiomkljaaGreat.ReverseI
open Go Go.RowKit Go.Sort Go.Proofs.YtadjbffiomkljaaGreatM
theorem reverseInts (l : List Int) (h : l.length < 4611686018427387904) : OkF Tryz.prog 131 [.c (.own 0 l.length)] [(0, .row 2 (l.map fun x => [.v (.int .i64 x)]))] (.tup []) [(0, .row 2 (l.reverse.map fun x => [.v (.int .i64 x)]))] := by
  refine sort_okF (k := 1) (fun x : Int => [.int .i64 x]) (fun x => [.v (.int .i64 x)]) (fun _ => rfl) (by kernel_rfl) (by decide) (fun _ => rfl) (fun x v hv => by simp at hv; subst hv; rfl) ⟨Tryz.f131, Tryz.func131, by kernel_rfl, by kernel_rfl⟩ [] [] (fun w ok m ρ us hu => ?_) l l.reverse List.length_reverse (fun _ p cap w => ?_) (fun blk cap w hH hlt => ?_)
  · cases hu; rfl
  · have := AnyG.slices_Reverse_int_empty Tryz.reverseInts p cap w
    exact this
  · have hcon := AnyG.slices_Reverse_int Tryz.reverseInts blk 0 cap l w (holds1 _ _ _ _ _ hH) (by omega)
    refine Calls.mono hcon (fun e w' he => ?_)
    obtain ⟨he, n, hw⟩ := he
    exact ⟨he, n, #[], by rw [hw, flat1, put1, grow_empty]⟩
end Go.Proofs.YtadjbffiomkljaaGreat.ReverseI

/- Sort of whole numbers by the shelf's contract, told over the abstract machine. No condition. -/
import Derived.Test.YtadjbffiomkljaaGreatAnG
import Derived.Test.YtadjbffiomkljaaGreatProg
import Derived.WalkKit
import Derived.ProofKit
import Derived.Shelf.SortM.Plain
import Derived.Shelf.SortM.SortNone
import Derived.Shelf.Lay
import Derived.Ground.SlgmProg
set_option linter.unusedVariables false
set_option linter.unusedSimpArgs false
namespace Go.Proofs
open Go.Shelf
shelf_lay_g SlLaysM.n5 Slgm 5 at Tryz 126 as Tryz.sortInts
end Go.Proofs
namespace Go.Proofs.YtadjbffiomkljaaGreat.SortI
open Go Go.RowKit Go.Sort Go.Proofs.YtadjbffiomkljaaGreatM
def sortI (l : List Int) : List Int := l.mergeSort fun x y => decide (x ≤ y)
theorem sortInts (l : List Int) (h : l.length < 4611686018427387904) : OkF Tryz.prog 126 [.c (.own 0 l.length)] [(0, .row 2 (l.map fun x => [.v (.int .i64 x)]))] (.tup []) [(0, .row 2 ((sortI l).map fun x => [.v (.int .i64 x)]))] := by
  refine sort_okF (k := 1) (fun x : Int => [.int .i64 x]) (fun x => [.v (.int .i64 x)]) (fun _ => rfl) (by kernel_rfl) (by decide) (fun _ => rfl) (fun x v hv => by simp at hv; subst hv; rfl) ⟨Tryz.f126, Tryz.func126, by kernel_rfl, by kernel_rfl⟩ [] [] (fun w ok m ρ us hu => ?_) l (sortI l) (List.length_mergeSort l) (fun _ p cap w => ?_) (fun blk cap w hH hlt => ?_)
  · cases hu; rfl
  · have := AnyM.slices_Sort_int_none Tryz.sortInts p cap w
    exact this
  · have hcon := AnyM.slices_Sort_int Tryz.sortInts blk 0 cap l w (holds1 _ _ _ _ _ hH) hlt h
    refine Calls.mono hcon (fun e w' he => ?_)
    obtain ⟨he, n, os, hw⟩ := he
    exact ⟨he, n, os, by rw [hw, flat1, put1]; rfl⟩
end Go.Proofs.YtadjbffiomkljaaGreat.SortI

/- For every input the law FnExactRotateSheets returns true, and its arguments read afterwards as they read before. No condition. -/
import Derived.Test.YtfiiakhpdkdebaaRows
import Derived.Test.YtfiiakhpdkdebaaZFnExactRotateSheets8
import Derived.Test.YtfiiakhpdkdebaaZFnExactRotateSheetsp
import Derived.WalkKit
import Derived.ProofKit
import Derived.OpenShut
import Derived.ShutString
import Derived.ChangeOld
import Derived.Below
import Derived.SizedLaws
import Derived.Deep.Slices
namespace Go.Proofs.Ytfiiakhpdkdebaa.fnExactRotateSheets
open Go.ChangeShapes Go.WideShapes Go.ChangeAt Go.RowKit
open Go.ChangeMaps (open_string shut_string)
open Go.Proofs.Ytfiiakhpdkdebaa.PFnExactRotateSheets Go.Proofs.YtfiiakhpdkdebaaW.PrintWords
set_option linter.unusedVariables false
set_option linter.unusedSimpArgs false
theorem own : ownKnob Try.prog.godebug = none := by kernel_rfl
theorem laidOut : laidOutB Try.prog = true := by kernel_rfl
theorem opens_T24 : Opens Try.prog 24 k24 B24 := by
  intro H enc w base spare held fuel cs x h
  obtain ⟨xs, n, _, _, hcl, hlen, hf⟩ := DataW.trod_struct Try.underlying24 h
  have hcl2 : cs.length = 3 := hcl.trans (by kernel_rfl)
  have hl : xs.length = 3 := hlen
  have e0 : DataW.trod enc Try.prog w base spare held n 9 ((cs.drop 0).take (Try.prog.cellsOf 9)) = some (xs[0]'(by omega)) := (hf 0 _ rfl).trans (List.getElem?_eq_getElem (by omega))
  rw [(by kernel_rfl : Try.prog.cellsOf 9 = 1)] at e0
  obtain ⟨z0, k0, b0⟩ := (opens_string Try.underlying9) H enc w base spare held n _ _ e0
  have e1 : DataW.trod enc Try.prog w base spare held n 2 ((cs.drop 1).take (Try.prog.cellsOf 2)) = some (xs[1]'(by omega)) := (hf 1 _ rfl).trans (List.getElem?_eq_getElem (by omega))
  rw [(by kernel_rfl : Try.prog.cellsOf 2 = 1)] at e1
  obtain ⟨z1, k1, b1⟩ := (opens_int Try.underlying2) H enc w base spare held n _ _ e1
  have e2 : DataW.trod enc Try.prog w base spare held n 2 ((cs.drop 2).take (Try.prog.cellsOf 2)) = some (xs[2]'(by omega)) := (hf 2 _ rfl).trans (List.getElem?_eq_getElem (by omega))
  rw [(by kernel_rfl : Try.prog.cellsOf 2 = 1)] at e2
  obtain ⟨z2, k2, b2⟩ := (opens_int Try.underlying2) H enc w base spare held n _ _ e2
  exact ⟨⟨z0, z1, z2⟩, (show ((Kd.pair Kd.string (Kd.pair (Kd.int .i64) (Kd.int .i64)))).K w (z0, z1, z2) (cs.drop 0) from K_pair 0 k0 (K_pair 1 k1 (K_last 2 hcl2 k2))), ⟨b0, b1, b2⟩⟩
theorem opens_T55 : Opens Try.prog 55 k55 B55 := by
  intro H enc w base spare held fuel cs x h
  obtain ⟨xs, n, _, _, hcl, hlen, hf⟩ := DataW.trod_struct Try.underlying55 h
  have hcl2 : cs.length = 2 := hcl.trans (by kernel_rfl)
  have hl : xs.length = 2 := hlen
  have e0 : DataW.trod enc Try.prog w base spare held n 53 ((cs.drop 0).take (Try.prog.cellsOf 53)) = some (xs[0]'(by omega)) := (hf 0 _ rfl).trans (List.getElem?_eq_getElem (by omega))
  rw [(by kernel_rfl : Try.prog.cellsOf 53 = 1)] at e0
  obtain ⟨z0, k0, b0⟩ := (opens_slice Try.underlying53 (show Try.prog.cellsOf 24 = (k24).sz from (by kernel_rfl : Try.prog.cellsOf 24 = 3)) opens_T24) H enc w base spare held n _ _ e0
  have e1 : DataW.trod enc Try.prog w base spare held n 41 ((cs.drop 1).take (Try.prog.cellsOf 41)) = some (xs[1]'(by omega)) := (hf 1 _ rfl).trans (List.getElem?_eq_getElem (by omega))
  rw [(by kernel_rfl : Try.prog.cellsOf 41 = 1)] at e1
  obtain ⟨z1, k1, b1⟩ := (opens_slice Try.underlying41 (show Try.prog.cellsOf 2 = ((Kd.int .i64)).sz from (by kernel_rfl : Try.prog.cellsOf 2 = 1)) (opens_int Try.underlying2)) H enc w base spare held n _ _ e1
  exact ⟨⟨z0, z1⟩, (show ((Kd.pair (Kd.slice 24 k24) (Kd.slice 2 (Kd.int .i64)))).K w (z0, z1) (cs.drop 0) from K_pair 0 k0 (K_last 1 hcl2 k1)), ⟨b0, b1⟩⟩
set_option maxRecDepth 100000 in
theorem lifted (os : Os) (started : os.Started) (H : Type) (enc : TypeId × Value → H) :
    ReturnsInHanded {} Try.checked os 8 .any (Rows.fnExactRotateSheetsSpec.pre6 enc Try.prog Try.f8 Rows.fnExactRotateSheetsRow.domain false) (Rows.fnExactRotateSheetsSpec.post enc Try.prog Try.f8 false true false false) := by
  refine returnsInHanded_of_change_sized (C := Try.checked) own started (by kernel_rfl) Try.func8
    (ChangeSpec.witness6 (enc := enc) (C := Try.checked) false ⟨#[], #[.agg #[.slice none 0 0, .slice none 0 0], .int .i64 0], []⟩ 8 (by kernel_rfl) (by kernel_rfl) (by kernel_rfl) (by kernel_rfl)) ?_
  intro W base args ds gs before hval0 hW hcnd hsz0 _
  have hval : ∀ (j : Nat) t v, Try.f8.params[j]? = some t → args[j]? = some v → Value.okWide Try.prog W .any base t v := hval0
  have hW' := hW
  obtain ⟨p, q, hA0, hV, rfl, hfz, hnd⟩ := hW
  have hA : DataW.TrodAll enc Try.prog W 0 (fun _ => true) true Try.f8.params.toList args.toList ds p := hA0
  rw [Try.params8] at hA hval
  obtain ⟨v0, vs0, d0, ds0, p0, q0, hargs, rfl, rfl, h0, r0⟩ := trodAll_cons hA
  obtain ⟨v1, vs1, d1, ds1, p1, q1, rfl, rfl, rfl, h1, r1⟩ := trodAll_cons r0
  obtain ⟨rfl, rfl, rfl⟩ := trodAll_nil r1
  obtain rfl : args = #[v0, v1] := by cases args; simp_all
  obtain ⟨rfl, rfl⟩ := trodVars_none hV
  obtain ⟨cs0, rfl, _⟩ := okWide_struct Try.underlying55 (hval 0 55 v0 rfl rfl)
  obtain ⟨cs0⟩ := cs0
  have k0 := h0
  have lt0 : ∀ x ∈ p0, x.block < W.heap.size := by obtain ⟨m, hm⟩ := k0; exact DataW.trod_lt m _ _ _ hm
  obtain ⟨fuel0, hf0⟩ := h0
  obtain ⟨z0, hK0, hB0⟩ := opens_T55 H enc W _ _ _ fuel0 _ _ hf0
  have hK0_ : k55.K W z0 cs0 := hK0
  obtain ⟨A0_0, c0_0, A0_1, c0_1, rfl, l0_0, g0_0, l0_1, g0_1⟩ := k55_open hK0_
  obtain ⟨a1, rfl, rfl, rfl, w1⟩ := open_int Try.underlying2 (hval 1 2 v1 rfl rfl) h1
  clear hA0 hval0 hsz0
  obtain ⟨k, hh⟩ := Pure.FnExactRotateSheets z0.f0 z0.f1 a1 hB0 w1
  refine (PFnExactRotateSheets.laws_FnExactRotateSheets.calls k _ _ z0.f0 _ _ z0.f1 a1 true W g0_0 l0_0 g0_1 l0_1 hh).mono fun e W' ⟨he, bel0⟩ => ?_
  have bel : Below W.heap.size W W' := bel0
  subst he
  exact ⟨_, rfl, _, _, _, [], _, [], hW', trodAll_mk1 (shut_bool Try.underlying4 _), (trodAll_cons_mk (Below.trod laidOut (by kernel_rfl) (of_decide_eq_true (by kernel_rfl)) k0 bel lt0) (trodAll_cons_mk (shut_int Try.underlying2 w1) trodAll_mk0)), rfl, bel.frame _, fun h => by cases h⟩
theorem over : Rows.fnExactRotateSheetsRow.holds Try.pinned (OpenSpec.ofChange Rows.fnExactRotateSheetsSpec) :=
  OpenClaim.holds_of_wide 8 Try.f8 rfl rfl rfl rfl rfl rfl rfl ⟨rfl, rfl, rfl, rfl, rfl⟩ rfl rfl rfl rfl rfl (by kernel_rfl) Try.func8 (by kernel_rfl)
    (of_decide_eq_true (by kernel_rfl)) (by unfold Func.isWrapper; first | (rw [if_pos (by decide +kernel)]; kernel_rfl) | (rw [if_neg (by decide +kernel)]; exact ⟨rfl, rfl⟩))
    (fun os started H enc _ => lifted os started H enc)
theorem proved : Rows.FnExactRotateSheetsSaid := over
#print axioms proved
end Go.Proofs.Ytfiiakhpdkdebaa.fnExactRotateSheets
namespace Go.Proofs.Ytfiiakhpdkdebaa
theorem fnExactRotateSheets_holds : Rows.FnExactRotateSheetsSaid := fnExactRotateSheets.proved
end Go.Proofs.Ytfiiakhpdkdebaa

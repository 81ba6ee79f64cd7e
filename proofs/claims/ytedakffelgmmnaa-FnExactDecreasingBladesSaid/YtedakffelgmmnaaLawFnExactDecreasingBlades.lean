/- For every input the law FnExactDecreasingBlades returns true, and its arguments read afterwards as they read before. No condition. -/
import Derived.Test.YtedakffelgmmnaaRows
import Derived.Test.YtedakffelgmmnaaAnF
import Derived.Test.YtedakffelgmmnaaPFnExactDecreasingBladesx1
import Derived.Test.YtedakffelgmmnaaPureFnExactDecreasingBlades
import Derived.WalkKit
import Derived.ProofKit
import Derived.OpenShut
import Derived.ShutString
import Derived.ChangeOld
import Derived.Below
import Derived.SizedLaws
import Derived.Deep.Slices
namespace Go.Proofs.Ytedakffelgmmnaa.fnExactDecreasingBlades
open Go.ChangeShapes Go.WideShapes Go.ChangeAt Go.RowKit
open Go.ChangeMaps (open_string shut_string)
open Go.Proofs.Ytedakffelgmmnaa.PFnExactDecreasingBlades Go.Proofs.YtedakffelgmmnaaM
set_option linter.unusedVariables false
set_option linter.unusedSimpArgs false
theorem own : ownKnob Try.prog.godebug = none := by kernel_rfl
theorem laidOut : laidOutB Try.prog = true := by kernel_rfl
theorem opens_T32 : OpensD Try.prog 32 c31 B31 := by
  intro H enc w base spare held fuel cs x h
  obtain ⟨xs, n, _, _, hcl, hlen, hf⟩ := DataW.trod_struct Try.underlying32 h
  have hcl2 : cs.length = 4 := hcl.trans (by kernel_rfl)
  have hl : xs.length = 4 := hlen
  have e0 : DataW.trod enc Try.prog w base spare held n 9 ((cs.drop 0).take (Try.prog.cellsOf 9)) = some (xs[0]'(by omega)) := (hf 0 _ rfl).trans (List.getElem?_eq_getElem (by omega))
  rw [(by kernel_rfl : Try.prog.cellsOf 9 = 1)] at e0
  obtain ⟨z0, k0, b0⟩ := (opensD_string Try.underlying9) H enc w base spare held n _ _ e0
  have e1 : DataW.trod enc Try.prog w base spare held n 2 ((cs.drop 1).take (Try.prog.cellsOf 2)) = some (xs[1]'(by omega)) := (hf 1 _ rfl).trans (List.getElem?_eq_getElem (by omega))
  rw [(by kernel_rfl : Try.prog.cellsOf 2 = 1)] at e1
  obtain ⟨z1, k1, b1⟩ := (opensD_int Try.underlying2) H enc w base spare held n _ _ e1
  have e2 : DataW.trod enc Try.prog w base spare held n 2 ((cs.drop 2).take (Try.prog.cellsOf 2)) = some (xs[2]'(by omega)) := (hf 2 _ rfl).trans (List.getElem?_eq_getElem (by omega))
  rw [(by kernel_rfl : Try.prog.cellsOf 2 = 1)] at e2
  obtain ⟨z2, k2, b2⟩ := (opensD_int Try.underlying2) H enc w base spare held n _ _ e2
  have e3 : DataW.trod enc Try.prog w base spare held n 2 ((cs.drop 3).take (Try.prog.cellsOf 2)) = some (xs[3]'(by omega)) := (hf 3 _ rfl).trans (List.getElem?_eq_getElem (by omega))
  rw [(by kernel_rfl : Try.prog.cellsOf 2 = 1)] at e3
  obtain ⟨z3, k3, b3⟩ := (opensD_int Try.underlying2) H enc w base spare held n _ _ e3
  exact ⟨⟨z0, z1, z2, z3⟩, (show All2 _ _ (cs.drop 0) from all2_pair 0 1 k0 (all2_pair 1 1 k1 (all2_pair 2 1 k2 (all2_last 3 1 hcl2 k3)))), ⟨b0, b1, b2, b3⟩⟩
theorem opens_T55 : OpensD Try.prog 55 c54 B54 := by
  intro H enc w base spare held fuel cs x h
  obtain ⟨xs, n, _, _, hcl, hlen, hf⟩ := DataW.trod_struct Try.underlying55 h
  have hcl2 : cs.length = 3 := hcl.trans (by kernel_rfl)
  have hl : xs.length = 3 := hlen
  have e0 : DataW.trod enc Try.prog w base spare held n 9 ((cs.drop 0).take (Try.prog.cellsOf 9)) = some (xs[0]'(by omega)) := (hf 0 _ rfl).trans (List.getElem?_eq_getElem (by omega))
  rw [(by kernel_rfl : Try.prog.cellsOf 9 = 1)] at e0
  obtain ⟨z0, k0, b0⟩ := (opensD_string Try.underlying9) H enc w base spare held n _ _ e0
  have e1 : DataW.trod enc Try.prog w base spare held n 2 ((cs.drop 1).take (Try.prog.cellsOf 2)) = some (xs[1]'(by omega)) := (hf 1 _ rfl).trans (List.getElem?_eq_getElem (by omega))
  rw [(by kernel_rfl : Try.prog.cellsOf 2 = 1)] at e1
  obtain ⟨z1, k1, b1⟩ := (opensD_int Try.underlying2) H enc w base spare held n _ _ e1
  have e2 : DataW.trod enc Try.prog w base spare held n 2 ((cs.drop 2).take (Try.prog.cellsOf 2)) = some (xs[2]'(by omega)) := (hf 2 _ rfl).trans (List.getElem?_eq_getElem (by omega))
  rw [(by kernel_rfl : Try.prog.cellsOf 2 = 1)] at e2
  obtain ⟨z2, k2, b2⟩ := (opensD_int Try.underlying2) H enc w base spare held n _ _ e2
  exact ⟨⟨z0, z1, z2⟩, (show All2 _ _ (cs.drop 0) from all2_pair 0 1 k0 (all2_pair 1 1 k1 (all2_last 2 1 hcl2 k2))), ⟨b0, b1, b2⟩⟩
set_option maxRecDepth 100000 in
theorem lifted (os : Os) (started : os.Started) (H : Type) (enc : TypeId × Value → H) :
    ReturnsInHanded {} Try.checked os 5 .any (Rows.fnExactDecreasingBladesSpec.pre6 enc Try.prog Try.f5 Rows.fnExactDecreasingBladesRow.domain false) (Rows.fnExactDecreasingBladesSpec.post enc Try.prog Try.f5 false true false false) := by
  refine returnsInHanded_of_change_sized (C := Try.checked) own started (by kernel_rfl) Try.func5
    (ChangeSpec.witness6 (enc := enc) (C := Try.checked) false ⟨#[], #[.agg #[.string ByteArray.empty, .int .i64 0, .int .i64 0, .int .i64 0], .slice none 0 0], []⟩ 8 (by kernel_rfl) (by kernel_rfl) (by kernel_rfl) (by kernel_rfl)) ?_
  intro W base args ds gs before hval0 hW hcnd hsz0 _
  have hval : ∀ (j : Nat) t v, Try.f5.params[j]? = some t → args[j]? = some v → Value.okWide Try.prog W .any base t v := hval0
  have hW' := hW
  obtain ⟨p, q, hA0, hV, rfl, hfz, hnd⟩ := hW
  have hA : DataW.TrodAll enc Try.prog W 0 (fun _ => true) true Try.f5.params.toList args.toList ds p := hA0
  rw [Try.params5] at hA hval
  obtain ⟨v0, vs0, d0, ds0, p0, q0, hargs, rfl, rfl, h0, r0⟩ := trodAll_cons hA
  obtain ⟨v1, vs1, d1, ds1, p1, q1, rfl, rfl, rfl, h1, r1⟩ := trodAll_cons r0
  obtain ⟨rfl, rfl, rfl⟩ := trodAll_nil r1
  obtain rfl : args = #[v0, v1] := by cases args; simp_all
  obtain ⟨rfl, rfl⟩ := trodVars_none hV
  obtain ⟨cs0, rfl, _⟩ := okWide_struct Try.underlying32 (hval 0 32 v0 rfl rfl)
  obtain ⟨cs0⟩ := cs0
  have k0 := h0
  have lt0 : ∀ x ∈ p0, x.block < W.heap.size := by obtain ⟨m, hm⟩ := k0; exact DataW.trod_lt m _ _ _ hm
  obtain ⟨fuel0, hf0⟩ := h0
  obtain ⟨z0, hK0, hB0⟩ := opens_T32 H enc W _ _ _ fuel0 _ _ hf0
  obtain ⟨a1, len1, cap1, rfl⟩ := okWide_slice Try.underlying33 (hval 1 33 v1 rfl rfl)
  have k1 := h1
  have lt1 : ∀ x ∈ p1, x.block < W.heap.size := by obtain ⟨m, hm⟩ := k1; exact DataW.trod_lt m _ _ _ hm
  obtain ⟨fuel1, hf1⟩ := h1
  obtain ⟨z1, hK1, hB1⟩ := (opensD_slice Try.underlying33 (show 0 < Try.prog.cellsOf 55 from (by kernel_rfl : Try.prog.cellsOf 55 = 3).symm ▸ (by decide)) opens_T55) H enc W _ _ _ fuel1 _ _ hf1
  clear hA0 hval0 hsz0
  obtain ⟨k, hh⟩ := Pure.FnExactDecreasingBlades z0.f0 z0.f1 z0.f2 z0.f3 z1 hB0 hB1
  refine Calls.mono (OkF.closed (w := W) (vals := [_, _]) (PFnExactDecreasingBlades.laws_FnExactDecreasingBlades.ok hh) (.cons (arg_agg hK0) (.cons (arg_one hK1) .nil))) fun e W' ⟨he, bel⟩ => ?_
  subst he
  exact ⟨_, rfl, _, _, _, [], _, [], hW', trodAll_mk1 (shut_bool Try.underlying4 _), (trodAll_cons_mk (Below.trod laidOut (by kernel_rfl) (of_decide_eq_true (by kernel_rfl)) k0 bel lt0) (trodAll_cons_mk (Below.trod laidOut (by kernel_rfl) (of_decide_eq_true (by kernel_rfl)) k1 bel lt1) trodAll_mk0)), rfl, bel.frame _, fun h => by cases h⟩
theorem over : Rows.fnExactDecreasingBladesRow.holds Try.pinned (OpenSpec.ofChange Rows.fnExactDecreasingBladesSpec) :=
  OpenClaim.holds_of_wide 5 Try.f5 rfl rfl rfl rfl rfl rfl rfl ⟨rfl, rfl, rfl, rfl, rfl⟩ rfl rfl rfl rfl rfl (by kernel_rfl) Try.func5 (by kernel_rfl)
    (of_decide_eq_true (by kernel_rfl)) (by unfold Func.isWrapper; first | (rw [if_pos (by decide +kernel)]; kernel_rfl) | (rw [if_neg (by decide +kernel)]; exact ⟨rfl, rfl⟩))
    (fun os started H enc _ => lifted os started H enc)
theorem proved : Rows.FnExactDecreasingBladesSaid := over
#print axioms proved
end Go.Proofs.Ytedakffelgmmnaa.fnExactDecreasingBlades
namespace Go.Proofs.Ytedakffelgmmnaa
/-- The row, under a short name, for the claim. -/
theorem fnExactDecreasingBlades_holds : Rows.FnExactDecreasingBladesSaid := fnExactDecreasingBlades.proved
end Go.Proofs.Ytedakffelgmmnaa

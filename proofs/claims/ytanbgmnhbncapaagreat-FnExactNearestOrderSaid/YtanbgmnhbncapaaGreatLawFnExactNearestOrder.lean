/- For every input the law FnExactNearestOrder returns true, and its arguments read afterwards as they read before. No condition. -/
import Derived.Test.YtanbgmnhbncapaaGreatRows
import Derived.Test.YtanbgmnhbncapaaGreatAnF
import Derived.Test.YtanbgmnhbncapaaGreatPFnExactNearestOrderx2
import Derived.Test.YtanbgmnhbncapaaGreatPureFnExactNearestOrder
import Derived.WalkKit
import Derived.ProofKit
import Derived.OpenShut
import Derived.ShutString
import Derived.ChangeOld
import Derived.Below
import Derived.SizedLaws
import Derived.Deep.Slices
namespace Go.Proofs.YtanbgmnhbncapaaGreat.fnExactNearestOrder
open Go.ChangeShapes Go.WideShapes Go.ChangeAt Go.RowKit
open Go.ChangeMaps (open_string shut_string)
open Go.Proofs.YtanbgmnhbncapaaGreat.PFnExactNearestOrder Go.Proofs.YtanbgmnhbncapaaGreatM
set_option linter.unusedVariables false
set_option linter.unusedSimpArgs false
theorem own : ownKnob Tryz.prog.godebug = none := by kernel_rfl
theorem laidOut : laidOutB Tryz.prog = true := by kernel_rfl
theorem opens_T84 : OpensD Tryz.prog 84 c50 B50 := by
  intro H enc w base spare held fuel cs x h
  obtain ⟨xs, n, _, _, hcl, hlen, hf⟩ := DataW.trod_struct Tryz.underlying84 h
  have hcl2 : cs.length = 2 := hcl.trans (by kernel_rfl)
  have hl : xs.length = 2 := hlen
  have e0 : DataW.trod enc Tryz.prog w base spare held n 2 ((cs.drop 0).take (Tryz.prog.cellsOf 2)) = some (xs[0]'(by omega)) := (hf 0 _ rfl).trans (List.getElem?_eq_getElem (by omega))
  rw [(by kernel_rfl : Tryz.prog.cellsOf 2 = 1)] at e0
  obtain ⟨z0, k0, b0⟩ := (opensD_int Tryz.underlying2) H enc w base spare held n _ _ e0
  have e1 : DataW.trod enc Tryz.prog w base spare held n 2 ((cs.drop 1).take (Tryz.prog.cellsOf 2)) = some (xs[1]'(by omega)) := (hf 1 _ rfl).trans (List.getElem?_eq_getElem (by omega))
  rw [(by kernel_rfl : Tryz.prog.cellsOf 2 = 1)] at e1
  obtain ⟨z1, k1, b1⟩ := (opensD_int Tryz.underlying2) H enc w base spare held n _ _ e1
  exact ⟨⟨z0, z1⟩, (show All2 _ _ (cs.drop 0) from all2_pair 0 1 k0 (all2_last 1 1 hcl2 k1)), ⟨b0, b1⟩⟩
theorem opens_T73 : OpensD Tryz.prog 73 c72 B72 := by
  intro H enc w base spare held fuel cs x h
  obtain ⟨xs, n, _, _, hcl, hlen, hf⟩ := DataW.trod_struct Tryz.underlying73 h
  have hcl2 : cs.length = 2 := hcl.trans (by kernel_rfl)
  have hl : xs.length = 2 := hlen
  have e0 : DataW.trod enc Tryz.prog w base spare held n 9 ((cs.drop 0).take (Tryz.prog.cellsOf 9)) = some (xs[0]'(by omega)) := (hf 0 _ rfl).trans (List.getElem?_eq_getElem (by omega))
  rw [(by kernel_rfl : Tryz.prog.cellsOf 9 = 1)] at e0
  obtain ⟨z0, k0, b0⟩ := (opensD_string Tryz.underlying9) H enc w base spare held n _ _ e0
  have e1 : DataW.trod enc Tryz.prog w base spare held n 27 ((cs.drop 1).take (Tryz.prog.cellsOf 27)) = some (xs[1]'(by omega)) := (hf 1 _ rfl).trans (List.getElem?_eq_getElem (by omega))
  rw [(by kernel_rfl : Tryz.prog.cellsOf 27 = 1)] at e1
  obtain ⟨z1, k1, b1⟩ := (opensD_slice Tryz.underlying27 (show 0 < Tryz.prog.cellsOf 2 from (by kernel_rfl : Tryz.prog.cellsOf 2 = 1).symm ▸ (by decide)) (opensD_int Tryz.underlying2)) H enc w base spare held n _ _ e1
  exact ⟨⟨z0, z1⟩, (show All2 _ _ (cs.drop 0) from all2_pair 0 1 k0 (all2_last 1 1 hcl2 k1)), ⟨b0, b1⟩⟩
theorem opens_T25 : OpensD Tryz.prog 25 c24 B24 := by
  intro H enc w base spare held fuel cs x h
  obtain ⟨xs, n, _, _, hcl, hlen, hf⟩ := DataW.trod_struct Tryz.underlying25 h
  have hcl2 : cs.length = 4 := hcl.trans (by kernel_rfl)
  have hl : xs.length = 4 := hlen
  have e0 : DataW.trod enc Tryz.prog w base spare held n 2 ((cs.drop 0).take (Tryz.prog.cellsOf 2)) = some (xs[0]'(by omega)) := (hf 0 _ rfl).trans (List.getElem?_eq_getElem (by omega))
  rw [(by kernel_rfl : Tryz.prog.cellsOf 2 = 1)] at e0
  obtain ⟨z0, k0, b0⟩ := (opensD_int Tryz.underlying2) H enc w base spare held n _ _ e0
  have e1 : DataW.trod enc Tryz.prog w base spare held n 2 ((cs.drop 1).take (Tryz.prog.cellsOf 2)) = some (xs[1]'(by omega)) := (hf 1 _ rfl).trans (List.getElem?_eq_getElem (by omega))
  rw [(by kernel_rfl : Tryz.prog.cellsOf 2 = 1)] at e1
  obtain ⟨z1, k1, b1⟩ := (opensD_int Tryz.underlying2) H enc w base spare held n _ _ e1
  have e2 : DataW.trod enc Tryz.prog w base spare held n 22 ((cs.drop 2).take (Tryz.prog.cellsOf 22)) = some (xs[2]'(by omega)) := (hf 2 _ rfl).trans (List.getElem?_eq_getElem (by omega))
  rw [(by kernel_rfl : Tryz.prog.cellsOf 22 = 1)] at e2
  obtain ⟨z2, k2, b2⟩ := (opensD_slice Tryz.underlying22 (show 0 < Tryz.prog.cellsOf 84 from (by kernel_rfl : Tryz.prog.cellsOf 84 = 2).symm ▸ (by decide)) opens_T84) H enc w base spare held n _ _ e2
  have e3 : DataW.trod enc Tryz.prog w base spare held n 23 ((cs.drop 3).take (Tryz.prog.cellsOf 23)) = some (xs[3]'(by omega)) := (hf 3 _ rfl).trans (List.getElem?_eq_getElem (by omega))
  rw [(by kernel_rfl : Tryz.prog.cellsOf 23 = 1)] at e3
  obtain ⟨z3, k3, b3⟩ := (opensD_slice Tryz.underlying23 (show 0 < Tryz.prog.cellsOf 73 from (by kernel_rfl : Tryz.prog.cellsOf 73 = 2).symm ▸ (by decide)) opens_T73) H enc w base spare held n _ _ e3
  exact ⟨⟨z0, z1, z2, z3⟩, (show All2 _ _ (cs.drop 0) from all2_pair 0 1 k0 (all2_pair 1 1 k1 (all2_pair 2 1 k2 (all2_last 3 1 hcl2 k3)))), ⟨b0, b1, b2, b3⟩⟩
set_option maxRecDepth 100000 in
theorem lifted (os : Os) (started : os.Started) (H : Type) (enc : TypeId × Value → H) :
    ReturnsInHanded {} Tryz.checked os 3 .any (Rows.fnExactNearestOrderSpec.pre6 enc Tryz.prog Tryz.f3 Rows.fnExactNearestOrderRow.domain false) (Rows.fnExactNearestOrderSpec.post enc Tryz.prog Tryz.f3 false true false false) := by
  refine returnsInHanded_of_change_sized (C := Tryz.checked) own started (by kernel_rfl) Tryz.func3
    (ChangeSpec.witness6 (enc := enc) (C := Tryz.checked) false ⟨#[], #[.agg #[.int .i64 0, .int .i64 0, .slice none 0 0, .slice none 0 0]], []⟩ 8 (by kernel_rfl) (by kernel_rfl) (by kernel_rfl) (by kernel_rfl)) ?_
  intro W base args ds gs before hval0 hW hcnd hsz0 _
  have hval : ∀ (j : Nat) t v, Tryz.f3.params[j]? = some t → args[j]? = some v → Value.okWide Tryz.prog W .any base t v := hval0
  have hW' := hW
  obtain ⟨p, q, hA0, hV, rfl, hfz, hnd⟩ := hW
  have hA : DataW.TrodAll enc Tryz.prog W 0 (fun _ => true) true Tryz.f3.params.toList args.toList ds p := hA0
  rw [Tryz.params3] at hA hval
  obtain ⟨v0, vs0, d0, ds0, p0, q0, hargs, rfl, rfl, h0, r0⟩ := trodAll_cons hA
  obtain ⟨rfl, rfl, rfl⟩ := trodAll_nil r0
  obtain rfl : args = #[v0] := by cases args; simp_all
  obtain ⟨rfl, rfl⟩ := trodVars_none hV
  obtain ⟨cs0, rfl, _⟩ := okWide_struct Tryz.underlying25 (hval 0 25 v0 rfl rfl)
  obtain ⟨cs0⟩ := cs0
  have k0 := h0
  have lt0 : ∀ x ∈ p0, x.block < W.heap.size := by obtain ⟨m, hm⟩ := k0; exact DataW.trod_lt m _ _ _ hm
  obtain ⟨fuel0, hf0⟩ := h0
  obtain ⟨z0, hK0, hB0⟩ := opens_T25 H enc W _ _ _ fuel0 _ _ hf0
  clear hA0 hval0 hsz0
  obtain ⟨k, hh⟩ := Pure.FnExactNearestOrder z0.f0 z0.f1 z0.f2 z0.f3 hB0
  refine Calls.mono (OkF.closed (w := W) (vals := [_]) (PFnExactNearestOrder.laws_FnExactNearestOrder.ok hh) (.cons (arg_agg hK0) .nil)) fun e W' ⟨he, bel⟩ => ?_
  subst he
  exact ⟨_, rfl, _, _, _, [], _, [], hW', trodAll_mk1 (shut_bool Tryz.underlying4 _), (trodAll_cons_mk (Below.trod laidOut (by kernel_rfl) (of_decide_eq_true (by kernel_rfl)) k0 bel lt0) trodAll_mk0), rfl, bel.frame _, fun h => by cases h⟩
theorem over : Rows.fnExactNearestOrderRow.holds Tryz.pinned (OpenSpec.ofChange Rows.fnExactNearestOrderSpec) :=
  OpenClaim.holds_of_wide 3 Tryz.f3 rfl rfl rfl rfl rfl rfl rfl ⟨rfl, rfl, rfl, rfl, rfl⟩ rfl rfl rfl rfl rfl (by kernel_rfl) Tryz.func3 (by kernel_rfl)
    (of_decide_eq_true (by kernel_rfl)) (by unfold Func.isWrapper; first | (rw [if_pos (by decide +kernel)]; kernel_rfl) | (rw [if_neg (by decide +kernel)]; exact ⟨rfl, rfl⟩))
    (fun os started H enc _ => lifted os started H enc)
theorem proved : Rows.FnExactNearestOrderSaid := over
#print axioms proved
end Go.Proofs.YtanbgmnhbncapaaGreat.fnExactNearestOrder
namespace Go.Proofs.YtanbgmnhbncapaaGreat
/-- The row, under a short name, for the claim. -/
theorem fnExactNearestOrder_holds : Rows.FnExactNearestOrderSaid := fnExactNearestOrder.proved
end Go.Proofs.YtanbgmnhbncapaaGreat

/- For every input the law FnExactEnoughStock returns true, and its arguments read afterwards as they read before. No condition. -/
import Derived.Test.YtadjbffiomkljaaGreatRows
import Derived.Test.YtadjbffiomkljaaGreatAnF
import Derived.Test.YtadjbffiomkljaaGreatPFnExactEnoughStockx3
import Derived.Test.YtadjbffiomkljaaGreatPureFnExactEnoughStock
import Derived.WalkKit
import Derived.ProofKit
import Derived.OpenShut
import Derived.ShutString
import Derived.ChangeOld
import Derived.Below
import Derived.SizedLaws
import Derived.Deep.Slices
namespace Go.Proofs.YtadjbffiomkljaaGreat.fnExactEnoughStock
open Go.ChangeShapes Go.WideShapes Go.ChangeAt Go.RowKit
open Go.ChangeMaps (open_string shut_string)
open Go.Proofs.YtadjbffiomkljaaGreat.PFnExactEnoughStock Go.Proofs.YtadjbffiomkljaaGreatM
set_option linter.unusedVariables false
set_option linter.unusedSimpArgs false
theorem own : ownKnob Tryz.prog.godebug = none := by kernel_rfl
theorem laidOut : laidOutB Tryz.prog = true := by kernel_rfl
theorem opens_T162 : OpensD Tryz.prog 162 c159 B159 := by
  intro H enc w base spare held fuel cs x h
  obtain ⟨xs, n, _, _, hcl, hlen, hf⟩ := DataW.trod_struct Tryz.underlying162 h
  have hcl2 : cs.length = 2 := hcl.trans (by kernel_rfl)
  have hl : xs.length = 2 := hlen
  have e0 : DataW.trod enc Tryz.prog w base spare held n 2 ((cs.drop 0).take (Tryz.prog.cellsOf 2)) = some (xs[0]'(by omega)) := (hf 0 _ rfl).trans (List.getElem?_eq_getElem (by omega))
  rw [(by kernel_rfl : Tryz.prog.cellsOf 2 = 1)] at e0
  obtain ⟨z0, k0, b0⟩ := (opensD_int Tryz.underlying2) H enc w base spare held n _ _ e0
  have e1 : DataW.trod enc Tryz.prog w base spare held n 2 ((cs.drop 1).take (Tryz.prog.cellsOf 2)) = some (xs[1]'(by omega)) := (hf 1 _ rfl).trans (List.getElem?_eq_getElem (by omega))
  rw [(by kernel_rfl : Tryz.prog.cellsOf 2 = 1)] at e1
  obtain ⟨z1, k1, b1⟩ := (opensD_int Tryz.underlying2) H enc w base spare held n _ _ e1
  exact ⟨⟨z0, z1⟩, (show All2 _ _ (cs.drop 0) from all2_pair 0 1 k0 (all2_last 1 1 hcl2 k1)), ⟨b0, b1⟩⟩
theorem opens_T147 : OpensD Tryz.prog 147 c146 B146 := by
  intro H enc w base spare held fuel cs x h
  obtain ⟨xs, n, _, _, hcl, hlen, hf⟩ := DataW.trod_struct Tryz.underlying147 h
  have hcl2 : cs.length = 2 := hcl.trans (by kernel_rfl)
  have hl : xs.length = 2 := hlen
  have e0 : DataW.trod enc Tryz.prog w base spare held n 9 ((cs.drop 0).take (Tryz.prog.cellsOf 9)) = some (xs[0]'(by omega)) := (hf 0 _ rfl).trans (List.getElem?_eq_getElem (by omega))
  rw [(by kernel_rfl : Tryz.prog.cellsOf 9 = 1)] at e0
  obtain ⟨z0, k0, b0⟩ := (opensD_string Tryz.underlying9) H enc w base spare held n _ _ e0
  have e1 : DataW.trod enc Tryz.prog w base spare held n 29 ((cs.drop 1).take (Tryz.prog.cellsOf 29)) = some (xs[1]'(by omega)) := (hf 1 _ rfl).trans (List.getElem?_eq_getElem (by omega))
  rw [(by kernel_rfl : Tryz.prog.cellsOf 29 = 1)] at e1
  obtain ⟨z1, k1, b1⟩ := (opensD_slice Tryz.underlying29 (show 0 < Tryz.prog.cellsOf 2 from (by kernel_rfl : Tryz.prog.cellsOf 2 = 1).symm ▸ (by decide)) (opensD_int Tryz.underlying2)) H enc w base spare held n _ _ e1
  exact ⟨⟨z0, z1⟩, (show All2 _ _ (cs.drop 0) from all2_pair 0 1 k0 (all2_last 1 1 hcl2 k1)), ⟨b0, b1⟩⟩
theorem opens_T25 : OpensD Tryz.prog 25 c24 B24 := by
  intro H enc w base spare held fuel cs x h
  obtain ⟨xs, n, _, _, hcl, hlen, hf⟩ := DataW.trod_struct Tryz.underlying25 h
  have hcl2 : cs.length = 4 := hcl.trans (by kernel_rfl)
  have hl : xs.length = 4 := hlen
  have e0 : DataW.trod enc Tryz.prog w base spare held n 2 ((cs.drop 0).take (Tryz.prog.cellsOf 2)) = some (xs[0]'(by omega)) := (hf 0 _ rfl).trans (List.getElem?_eq_getElem (by omega))
  rw [(by kernel_rfl : Tryz.prog.cellsOf 2 = 1)] at e0
  obtain ⟨z0, k0, b0⟩ := (opensD_int Tryz.underlying2) H enc w base spare held n _ _ e0
  have e1 : DataW.trod enc Tryz.prog w base spare held n 2 ((cs.drop 1).take (Tryz.prog.cellsOf 2)) = some (xs[1]'(by omega)) := (hf 1 _ rfl).trans (List.getElem?_eq_getElem (by omega))
  rw [(by kernel_rfl : Tryz.prog.cellsOf 2 = 1)] at e1
  obtain ⟨z1, k1, b1⟩ := (opensD_int Tryz.underlying2) H enc w base spare held n _ _ e1
  have e2 : DataW.trod enc Tryz.prog w base spare held n 22 ((cs.drop 2).take (Tryz.prog.cellsOf 22)) = some (xs[2]'(by omega)) := (hf 2 _ rfl).trans (List.getElem?_eq_getElem (by omega))
  rw [(by kernel_rfl : Tryz.prog.cellsOf 22 = 1)] at e2
  obtain ⟨z2, k2, b2⟩ := (opensD_slice Tryz.underlying22 (show 0 < Tryz.prog.cellsOf 162 from (by kernel_rfl : Tryz.prog.cellsOf 162 = 2).symm ▸ (by decide)) opens_T162) H enc w base spare held n _ _ e2
  have e3 : DataW.trod enc Tryz.prog w base spare held n 23 ((cs.drop 3).take (Tryz.prog.cellsOf 23)) = some (xs[3]'(by omega)) := (hf 3 _ rfl).trans (List.getElem?_eq_getElem (by omega))
  rw [(by kernel_rfl : Tryz.prog.cellsOf 23 = 1)] at e3
  obtain ⟨z3, k3, b3⟩ := (opensD_slice Tryz.underlying23 (show 0 < Tryz.prog.cellsOf 147 from (by kernel_rfl : Tryz.prog.cellsOf 147 = 2).symm ▸ (by decide)) opens_T147) H enc w base spare held n _ _ e3
  exact ⟨⟨z0, z1, z2, z3⟩, (show All2 _ _ (cs.drop 0) from all2_pair 0 1 k0 (all2_pair 1 1 k1 (all2_pair 2 1 k2 (all2_last 3 1 hcl2 k3)))), ⟨b0, b1, b2, b3⟩⟩
theorem opens_T82 : OpensD Tryz.prog 82 c81 B81 := by
  intro H enc w base spare held fuel cs x h
  obtain ⟨xs, n, _, _, hcl, hlen, hf⟩ := DataW.trod_struct Tryz.underlying82 h
  have hcl2 : cs.length = 3 := hcl.trans (by kernel_rfl)
  have hl : xs.length = 3 := hlen
  have e0 : DataW.trod enc Tryz.prog w base spare held n 9 ((cs.drop 0).take (Tryz.prog.cellsOf 9)) = some (xs[0]'(by omega)) := (hf 0 _ rfl).trans (List.getElem?_eq_getElem (by omega))
  rw [(by kernel_rfl : Tryz.prog.cellsOf 9 = 1)] at e0
  obtain ⟨z0, k0, b0⟩ := (opensD_string Tryz.underlying9) H enc w base spare held n _ _ e0
  have e1 : DataW.trod enc Tryz.prog w base spare held n 2 ((cs.drop 1).take (Tryz.prog.cellsOf 2)) = some (xs[1]'(by omega)) := (hf 1 _ rfl).trans (List.getElem?_eq_getElem (by omega))
  rw [(by kernel_rfl : Tryz.prog.cellsOf 2 = 1)] at e1
  obtain ⟨z1, k1, b1⟩ := (opensD_int Tryz.underlying2) H enc w base spare held n _ _ e1
  have e2 : DataW.trod enc Tryz.prog w base spare held n 2 ((cs.drop 2).take (Tryz.prog.cellsOf 2)) = some (xs[2]'(by omega)) := (hf 2 _ rfl).trans (List.getElem?_eq_getElem (by omega))
  rw [(by kernel_rfl : Tryz.prog.cellsOf 2 = 1)] at e2
  obtain ⟨z2, k2, b2⟩ := (opensD_int Tryz.underlying2) H enc w base spare held n _ _ e2
  exact ⟨⟨z0, z1, z2⟩, (show All2 _ _ (cs.drop 0) from all2_pair 0 1 k0 (all2_pair 1 1 k1 (all2_last 2 1 hcl2 k2))), ⟨b0, b1, b2⟩⟩
theorem opens_T210 : OpensD Tryz.prog 210 c176 B176 := by
  intro H enc w base spare held fuel cs x h
  obtain ⟨xs, n, _, _, hcl, hlen, hf⟩ := DataW.trod_struct Tryz.underlying210 h
  have hcl2 : cs.length = 4 := hcl.trans (by kernel_rfl)
  have hl : xs.length = 4 := hlen
  have e0 : DataW.trod enc Tryz.prog w base spare held n 2 ((cs.drop 0).take (Tryz.prog.cellsOf 2)) = some (xs[0]'(by omega)) := (hf 0 _ rfl).trans (List.getElem?_eq_getElem (by omega))
  rw [(by kernel_rfl : Tryz.prog.cellsOf 2 = 1)] at e0
  obtain ⟨z0, k0, b0⟩ := (opensD_int Tryz.underlying2) H enc w base spare held n _ _ e0
  have e1 : DataW.trod enc Tryz.prog w base spare held n 2 ((cs.drop 1).take (Tryz.prog.cellsOf 2)) = some (xs[1]'(by omega)) := (hf 1 _ rfl).trans (List.getElem?_eq_getElem (by omega))
  rw [(by kernel_rfl : Tryz.prog.cellsOf 2 = 1)] at e1
  obtain ⟨z1, k1, b1⟩ := (opensD_int Tryz.underlying2) H enc w base spare held n _ _ e1
  have e2 : DataW.trod enc Tryz.prog w base spare held n 2 ((cs.drop 2).take (Tryz.prog.cellsOf 2)) = some (xs[2]'(by omega)) := (hf 2 _ rfl).trans (List.getElem?_eq_getElem (by omega))
  rw [(by kernel_rfl : Tryz.prog.cellsOf 2 = 1)] at e2
  obtain ⟨z2, k2, b2⟩ := (opensD_int Tryz.underlying2) H enc w base spare held n _ _ e2
  have e3 : DataW.trod enc Tryz.prog w base spare held n 2 ((cs.drop 3).take (Tryz.prog.cellsOf 2)) = some (xs[3]'(by omega)) := (hf 3 _ rfl).trans (List.getElem?_eq_getElem (by omega))
  rw [(by kernel_rfl : Tryz.prog.cellsOf 2 = 1)] at e3
  obtain ⟨z3, k3, b3⟩ := (opensD_int Tryz.underlying2) H enc w base spare held n _ _ e3
  exact ⟨⟨z0, z1, z2, z3⟩, (show All2 _ _ (cs.drop 0) from all2_pair 0 1 k0 (all2_pair 1 1 k1 (all2_pair 2 1 k2 (all2_last 3 1 hcl2 k3)))), ⟨b0, b1, b2, b3⟩⟩
theorem opens_T85 : OpensD Tryz.prog 85 c84 B84 := by
  intro H enc w base spare held fuel cs x h
  obtain ⟨xs, n, _, _, hcl, hlen, hf⟩ := DataW.trod_struct Tryz.underlying85 h
  have hcl2 : cs.length = 9 := hcl.trans (by kernel_rfl)
  have hl : xs.length = 7 := hlen
  have e0 : DataW.trod enc Tryz.prog w base spare held n 9 ((cs.drop 0).take (Tryz.prog.cellsOf 9)) = some (xs[0]'(by omega)) := (hf 0 _ rfl).trans (List.getElem?_eq_getElem (by omega))
  rw [(by kernel_rfl : Tryz.prog.cellsOf 9 = 1)] at e0
  obtain ⟨z0, k0, b0⟩ := (opensD_string Tryz.underlying9) H enc w base spare held n _ _ e0
  have e1 : DataW.trod enc Tryz.prog w base spare held n 9 ((cs.drop 1).take (Tryz.prog.cellsOf 9)) = some (xs[1]'(by omega)) := (hf 1 _ rfl).trans (List.getElem?_eq_getElem (by omega))
  rw [(by kernel_rfl : Tryz.prog.cellsOf 9 = 1)] at e1
  obtain ⟨z1, k1, b1⟩ := (opensD_string Tryz.underlying9) H enc w base spare held n _ _ e1
  have e2 : DataW.trod enc Tryz.prog w base spare held n 2 ((cs.drop 2).take (Tryz.prog.cellsOf 2)) = some (xs[2]'(by omega)) := (hf 2 _ rfl).trans (List.getElem?_eq_getElem (by omega))
  rw [(by kernel_rfl : Tryz.prog.cellsOf 2 = 1)] at e2
  obtain ⟨z2, k2, b2⟩ := (opensD_int Tryz.underlying2) H enc w base spare held n _ _ e2
  have e3 : DataW.trod enc Tryz.prog w base spare held n 82 ((cs.drop 3).take (Tryz.prog.cellsOf 82)) = some (xs[3]'(by omega)) := (hf 3 _ rfl).trans (List.getElem?_eq_getElem (by omega))
  rw [(by kernel_rfl : Tryz.prog.cellsOf 82 = 3)] at e3
  obtain ⟨z3, k3, b3⟩ := opens_T82 H enc w base spare held n _ _ e3
  have e4 : DataW.trod enc Tryz.prog w base spare held n 2 ((cs.drop 6).take (Tryz.prog.cellsOf 2)) = some (xs[4]'(by omega)) := (hf 4 _ rfl).trans (List.getElem?_eq_getElem (by omega))
  rw [(by kernel_rfl : Tryz.prog.cellsOf 2 = 1)] at e4
  obtain ⟨z4, k4, b4⟩ := (opensD_int Tryz.underlying2) H enc w base spare held n _ _ e4
  have e5 : DataW.trod enc Tryz.prog w base spare held n 2 ((cs.drop 7).take (Tryz.prog.cellsOf 2)) = some (xs[5]'(by omega)) := (hf 5 _ rfl).trans (List.getElem?_eq_getElem (by omega))
  rw [(by kernel_rfl : Tryz.prog.cellsOf 2 = 1)] at e5
  obtain ⟨z5, k5, b5⟩ := (opensD_int Tryz.underlying2) H enc w base spare held n _ _ e5
  have e6 : DataW.trod enc Tryz.prog w base spare held n 83 ((cs.drop 8).take (Tryz.prog.cellsOf 83)) = some (xs[6]'(by omega)) := (hf 6 _ rfl).trans (List.getElem?_eq_getElem (by omega))
  rw [(by kernel_rfl : Tryz.prog.cellsOf 83 = 1)] at e6
  obtain ⟨z6, k6, b6⟩ := (opensD_slice Tryz.underlying83 (show 0 < Tryz.prog.cellsOf 210 from (by kernel_rfl : Tryz.prog.cellsOf 210 = 4).symm ▸ (by decide)) opens_T210) H enc w base spare held n _ _ e6
  exact ⟨⟨z0, z1, z2, z3, z4, z5, z6⟩, (show All2 _ _ (cs.drop 0) from all2_pair 0 1 k0 (all2_pair 1 1 k1 (all2_pair 2 1 k2 (all2_pair 3 3 k3 (all2_pair 6 1 k4 (all2_pair 7 1 k5 (all2_last 8 1 hcl2 k6))))))), ⟨b0, b1, b2, b3, b4, b5, b6⟩⟩
set_option maxRecDepth 100000 in
theorem lifted (os : Os) (started : os.Started) (H : Type) (enc : TypeId × Value → H) :
    ReturnsInHanded {} Tryz.checked os 5 .any (Rows.fnExactEnoughStockSpec.pre6 enc Tryz.prog Tryz.f5 Rows.fnExactEnoughStockRow.domain false) (Rows.fnExactEnoughStockSpec.post enc Tryz.prog Tryz.f5 false true false false) := by
  refine returnsInHanded_of_change_sized (C := Tryz.checked) own started (by kernel_rfl) Tryz.func5
    (ChangeSpec.witness6 (enc := enc) (C := Tryz.checked) false ⟨#[], #[.agg #[.int .i64 0, .int .i64 0, .slice none 0 0, .slice none 0 0], .slice none 0 0], []⟩ 8 (by kernel_rfl) (by kernel_rfl) (by kernel_rfl) (by kernel_rfl)) ?_
  intro W base args ds gs before hval0 hW hcnd hsz0 _
  have hval : ∀ (j : Nat) t v, Tryz.f5.params[j]? = some t → args[j]? = some v → Value.okWide Tryz.prog W .any base t v := hval0
  have hW' := hW
  obtain ⟨p, q, hA0, hV, rfl, hfz, hnd⟩ := hW
  have hA : DataW.TrodAll enc Tryz.prog W 0 (fun _ => true) true Tryz.f5.params.toList args.toList ds p := hA0
  rw [Tryz.params5] at hA hval
  obtain ⟨v0, vs0, d0, ds0, p0, q0, hargs, rfl, rfl, h0, r0⟩ := trodAll_cons hA
  obtain ⟨v1, vs1, d1, ds1, p1, q1, rfl, rfl, rfl, h1, r1⟩ := trodAll_cons r0
  obtain ⟨rfl, rfl, rfl⟩ := trodAll_nil r1
  obtain rfl : args = #[v0, v1] := by cases args; simp_all
  obtain ⟨rfl, rfl⟩ := trodVars_none hV
  obtain ⟨cs0, rfl, _⟩ := okWide_struct Tryz.underlying25 (hval 0 25 v0 rfl rfl)
  obtain ⟨cs0⟩ := cs0
  have k0 := h0
  have lt0 : ∀ x ∈ p0, x.block < W.heap.size := by obtain ⟨m, hm⟩ := k0; exact DataW.trod_lt m _ _ _ hm
  obtain ⟨fuel0, hf0⟩ := h0
  obtain ⟨z0, hK0, hB0⟩ := opens_T25 H enc W _ _ _ fuel0 _ _ hf0
  obtain ⟨a1, len1, cap1, rfl⟩ := okWide_slice Tryz.underlying26 (hval 1 26 v1 rfl rfl)
  have k1 := h1
  have lt1 : ∀ x ∈ p1, x.block < W.heap.size := by obtain ⟨m, hm⟩ := k1; exact DataW.trod_lt m _ _ _ hm
  obtain ⟨fuel1, hf1⟩ := h1
  obtain ⟨z1, hK1, hB1⟩ := (opensD_slice Tryz.underlying26 (show 0 < Tryz.prog.cellsOf 85 from (by kernel_rfl : Tryz.prog.cellsOf 85 = 9).symm ▸ (by decide)) opens_T85) H enc W _ _ _ fuel1 _ _ hf1
  clear hA0 hval0 hsz0
  obtain ⟨k, hh⟩ := Pure.FnExactEnoughStock z0.f0 z0.f1 z0.f2 z0.f3 z1 hB0 hB1
  refine Calls.mono (OkF.closed (w := W) (vals := [_, _]) (PFnExactEnoughStock.laws_FnExactEnoughStock.ok hh) (.cons (arg_agg hK0) (.cons (arg_one hK1) .nil))) fun e W' ⟨he, bel⟩ => ?_
  subst he
  exact ⟨_, rfl, _, _, _, [], _, [], hW', trodAll_mk1 (shut_bool Tryz.underlying4 _), (trodAll_cons_mk (Below.trod laidOut (by kernel_rfl) (of_decide_eq_true (by kernel_rfl)) k0 bel lt0) (trodAll_cons_mk (Below.trod laidOut (by kernel_rfl) (of_decide_eq_true (by kernel_rfl)) k1 bel lt1) trodAll_mk0)), rfl, bel.frame _, fun h => by cases h⟩
theorem over : Rows.fnExactEnoughStockRow.holds Tryz.pinned (OpenSpec.ofChange Rows.fnExactEnoughStockSpec) :=
  OpenClaim.holds_of_wide 5 Tryz.f5 rfl rfl rfl rfl rfl rfl rfl ⟨rfl, rfl, rfl, rfl, rfl⟩ rfl rfl rfl rfl rfl (by kernel_rfl) Tryz.func5 (by kernel_rfl)
    (of_decide_eq_true (by kernel_rfl)) (by unfold Func.isWrapper; first | (rw [if_pos (by decide +kernel)]; kernel_rfl) | (rw [if_neg (by decide +kernel)]; exact ⟨rfl, rfl⟩))
    (fun os started H enc _ => lifted os started H enc)
theorem proved : Rows.FnExactEnoughStockSaid := over
#print axioms proved
end Go.Proofs.YtadjbffiomkljaaGreat.fnExactEnoughStock
namespace Go.Proofs.YtadjbffiomkljaaGreat
/-- The row, under a short name, for the claim. -/
theorem fnExactEnoughStock_holds : Rows.FnExactEnoughStockSaid := fnExactEnoughStock.proved
end Go.Proofs.YtadjbffiomkljaaGreat

/- For every input the law FnExactIsNesting returns true, and its arguments read afterwards as they read before. No condition. -/
import Derived.Test.YticimffljcljoaaGreatRows
import Derived.Test.YticimffljcljoaaGreatAnF
import Derived.Test.YticimffljcljoaaGreatPFnExactIsNestingx2
import Derived.Test.YticimffljcljoaaGreatPureFnExactIsNesting
import Derived.WalkKit
import Derived.ProofKit
import Derived.OpenShut
import Derived.ShutString
import Derived.ChangeOld
import Derived.Below
import Derived.SizedLaws
import Derived.Deep.Slices
namespace Go.Proofs.YticimffljcljoaaGreat.fnExactIsNesting
open Go.ChangeShapes Go.WideShapes Go.ChangeAt Go.RowKit
open Go.ChangeMaps (open_string shut_string)
open Go.Proofs.YticimffljcljoaaGreat.PFnExactIsNesting Go.Proofs.YticimffljcljoaaGreatM
set_option linter.unusedVariables false
set_option linter.unusedSimpArgs false
theorem own : ownKnob Tryz.prog.godebug = none := by kernel_rfl
theorem laidOut : laidOutB Tryz.prog = true := by kernel_rfl
theorem opens_T157 : OpensD Tryz.prog 157 c142 B142 := by
  intro H enc w base spare held fuel cs x h
  obtain ⟨xs, n, _, _, hcl, hlen, hf⟩ := DataW.trod_struct Tryz.underlying157 h
  have hcl2 : cs.length = 2 := hcl.trans (by kernel_rfl)
  have hl : xs.length = 2 := hlen
  have e0 : DataW.trod enc Tryz.prog w base spare held n 2 ((cs.drop 0).take (Tryz.prog.cellsOf 2)) = some (xs[0]'(by omega)) := (hf 0 _ rfl).trans (List.getElem?_eq_getElem (by omega))
  rw [(by kernel_rfl : Tryz.prog.cellsOf 2 = 1)] at e0
  obtain ⟨z0, k0, b0⟩ := (opensD_int Tryz.underlying2) H enc w base spare held n _ _ e0
  have e1 : DataW.trod enc Tryz.prog w base spare held n 2 ((cs.drop 1).take (Tryz.prog.cellsOf 2)) = some (xs[1]'(by omega)) := (hf 1 _ rfl).trans (List.getElem?_eq_getElem (by omega))
  rw [(by kernel_rfl : Tryz.prog.cellsOf 2 = 1)] at e1
  obtain ⟨z1, k1, b1⟩ := (opensD_int Tryz.underlying2) H enc w base spare held n _ _ e1
  exact ⟨⟨z0, z1⟩, (show All2 _ _ (cs.drop 0) from all2_pair 0 1 k0 (all2_last 1 1 hcl2 k1)), ⟨b0, b1⟩⟩
theorem opens_T155 : OpensD Tryz.prog 155 c154 B154 := by
  intro H enc w base spare held fuel cs x h
  obtain ⟨xs, n, _, _, hcl, hlen, hf⟩ := DataW.trod_struct Tryz.underlying155 h
  have hcl2 : cs.length = 2 := hcl.trans (by kernel_rfl)
  have hl : xs.length = 2 := hlen
  have e0 : DataW.trod enc Tryz.prog w base spare held n 9 ((cs.drop 0).take (Tryz.prog.cellsOf 9)) = some (xs[0]'(by omega)) := (hf 0 _ rfl).trans (List.getElem?_eq_getElem (by omega))
  rw [(by kernel_rfl : Tryz.prog.cellsOf 9 = 1)] at e0
  obtain ⟨z0, k0, b0⟩ := (opensD_string Tryz.underlying9) H enc w base spare held n _ _ e0
  have e1 : DataW.trod enc Tryz.prog w base spare held n 104 ((cs.drop 1).take (Tryz.prog.cellsOf 104)) = some (xs[1]'(by omega)) := (hf 1 _ rfl).trans (List.getElem?_eq_getElem (by omega))
  rw [(by kernel_rfl : Tryz.prog.cellsOf 104 = 1)] at e1
  obtain ⟨z1, k1, b1⟩ := (opensD_slice Tryz.underlying104 (show 0 < Tryz.prog.cellsOf 2 from (by kernel_rfl : Tryz.prog.cellsOf 2 = 1).symm ▸ (by decide)) (opensD_int Tryz.underlying2)) H enc w base spare held n _ _ e1
  exact ⟨⟨z0, z1⟩, (show All2 _ _ (cs.drop 0) from all2_pair 0 1 k0 (all2_last 1 1 hcl2 k1)), ⟨b0, b1⟩⟩
theorem opens_T25 : OpensD Tryz.prog 25 c24 B24 := by
  intro H enc w base spare held fuel cs x h
  obtain ⟨xs, n, _, _, hcl, hlen, hf⟩ := DataW.trod_struct Tryz.underlying25 h
  have hcl2 : cs.length = 4 := hcl.trans (by kernel_rfl)
  have hl : xs.length = 4 := hlen
  have e0 : DataW.trod enc Tryz.prog w base spare held n 2 ((cs.drop 0).take (Tryz.prog.cellsOf 2)) = some (xs[0]'(by omega)) := (hf 0 _ rfl).trans (List.getElem?_eq_getElem (by omega))
  rw [(by kernel_rfl : Tryz.prog.cellsOf 2 = 1)] at e0
  obtain ⟨z0, k0, b0⟩ := (opensD_int Tryz.underlying2) H enc w base spare held n _ _ e0
  have e1 : DataW.trod enc Tryz.prog w base spare held n 2 ((cs.drop 1).take (Tryz.prog.cellsOf 2)) = some (xs[1]'(by omega)) := (hf 1 _ rfl).trans (List.getElem?_eq_getElem (by omega))
  rw [(by kernel_rfl : Tryz.prog.cellsOf 2 = 1)] at e1
  obtain ⟨z1, k1, b1⟩ := (opensD_int Tryz.underlying2) H enc w base spare held n _ _ e1
  have e2 : DataW.trod enc Tryz.prog w base spare held n 22 ((cs.drop 2).take (Tryz.prog.cellsOf 22)) = some (xs[2]'(by omega)) := (hf 2 _ rfl).trans (List.getElem?_eq_getElem (by omega))
  rw [(by kernel_rfl : Tryz.prog.cellsOf 22 = 1)] at e2
  obtain ⟨z2, k2, b2⟩ := (opensD_slice Tryz.underlying22 (show 0 < Tryz.prog.cellsOf 157 from (by kernel_rfl : Tryz.prog.cellsOf 157 = 2).symm ▸ (by decide)) opens_T157) H enc w base spare held n _ _ e2
  have e3 : DataW.trod enc Tryz.prog w base spare held n 23 ((cs.drop 3).take (Tryz.prog.cellsOf 23)) = some (xs[3]'(by omega)) := (hf 3 _ rfl).trans (List.getElem?_eq_getElem (by omega))
  rw [(by kernel_rfl : Tryz.prog.cellsOf 23 = 1)] at e3
  obtain ⟨z3, k3, b3⟩ := (opensD_slice Tryz.underlying23 (show 0 < Tryz.prog.cellsOf 155 from (by kernel_rfl : Tryz.prog.cellsOf 155 = 2).symm ▸ (by decide)) opens_T155) H enc w base spare held n _ _ e3
  exact ⟨⟨z0, z1, z2, z3⟩, (show All2 _ _ (cs.drop 0) from all2_pair 0 1 k0 (all2_pair 1 1 k1 (all2_pair 2 1 k2 (all2_last 3 1 hcl2 k3)))), ⟨b0, b1, b2, b3⟩⟩
theorem opens_T67 : OpensD Tryz.prog 67 c66 B66 := by
  intro H enc w base spare held fuel cs x h
  obtain ⟨xs, n, _, _, hcl, hlen, hf⟩ := DataW.trod_struct Tryz.underlying67 h
  have hcl2 : cs.length = 3 := hcl.trans (by kernel_rfl)
  have hl : xs.length = 3 := hlen
  have e0 : DataW.trod enc Tryz.prog w base spare held n 9 ((cs.drop 0).take (Tryz.prog.cellsOf 9)) = some (xs[0]'(by omega)) := (hf 0 _ rfl).trans (List.getElem?_eq_getElem (by omega))
  rw [(by kernel_rfl : Tryz.prog.cellsOf 9 = 1)] at e0
  obtain ⟨z0, k0, b0⟩ := (opensD_string Tryz.underlying9) H enc w base spare held n _ _ e0
  have e1 : DataW.trod enc Tryz.prog w base spare held n 2 ((cs.drop 1).take (Tryz.prog.cellsOf 2)) = some (xs[1]'(by omega)) := (hf 1 _ rfl).trans (List.getElem?_eq_getElem (by omega))
  rw [(by kernel_rfl : Tryz.prog.cellsOf 2 = 1)] at e1
  obtain ⟨z1, k1, b1⟩ := (opensD_int Tryz.underlying2) H enc w base spare held n _ _ e1
  have e2 : DataW.trod enc Tryz.prog w base spare held n 2 ((cs.drop 2).take (Tryz.prog.cellsOf 2)) = some (xs[2]'(by omega)) := (hf 2 _ rfl).trans (List.getElem?_eq_getElem (by omega))
  rw [(by kernel_rfl : Tryz.prog.cellsOf 2 = 1)] at e2
  obtain ⟨z2, k2, b2⟩ := (opensD_int Tryz.underlying2) H enc w base spare held n _ _ e2
  exact ⟨⟨z0, z1, z2⟩, (show All2 _ _ (cs.drop 0) from all2_pair 0 1 k0 (all2_pair 1 1 k1 (all2_last 2 1 hcl2 k2))), ⟨b0, b1, b2⟩⟩
theorem opens_T28 : OpensD Tryz.prog 28 c27 B27 := by
  intro H enc w base spare held fuel cs x h
  obtain ⟨xs, n, _, _, hcl, hlen, hf⟩ := DataW.trod_struct Tryz.underlying28 h
  have hcl2 : cs.length = 5 := hcl.trans (by kernel_rfl)
  have hl : xs.length = 2 := hlen
  have e0 : DataW.trod enc Tryz.prog w base spare held n 25 ((cs.drop 0).take (Tryz.prog.cellsOf 25)) = some (xs[0]'(by omega)) := (hf 0 _ rfl).trans (List.getElem?_eq_getElem (by omega))
  rw [(by kernel_rfl : Tryz.prog.cellsOf 25 = 4)] at e0
  obtain ⟨z0, k0, b0⟩ := opens_T25 H enc w base spare held n _ _ e0
  have e1 : DataW.trod enc Tryz.prog w base spare held n 26 ((cs.drop 4).take (Tryz.prog.cellsOf 26)) = some (xs[1]'(by omega)) := (hf 1 _ rfl).trans (List.getElem?_eq_getElem (by omega))
  rw [(by kernel_rfl : Tryz.prog.cellsOf 26 = 1)] at e1
  obtain ⟨z1, k1, b1⟩ := (opensD_slice Tryz.underlying26 (show 0 < Tryz.prog.cellsOf 67 from (by kernel_rfl : Tryz.prog.cellsOf 67 = 3).symm ▸ (by decide)) opens_T67) H enc w base spare held n _ _ e1
  exact ⟨⟨z0, z1⟩, (show All2 _ _ (cs.drop 0) from all2_pair 0 4 k0 (all2_last 4 1 hcl2 k1)), ⟨b0, b1⟩⟩
theorem opens_T161 : OpensD Tryz.prog 161 c146 B146 := by
  intro H enc w base spare held fuel cs x h
  obtain ⟨xs, n, _, _, hcl, hlen, hf⟩ := DataW.trod_struct Tryz.underlying161 h
  have hcl2 : cs.length = 4 := hcl.trans (by kernel_rfl)
  have hl : xs.length = 4 := hlen
  have e0 : DataW.trod enc Tryz.prog w base spare held n 2 ((cs.drop 0).take (Tryz.prog.cellsOf 2)) = some (xs[0]'(by omega)) := (hf 0 _ rfl).trans (List.getElem?_eq_getElem (by omega))
  rw [(by kernel_rfl : Tryz.prog.cellsOf 2 = 1)] at e0
  obtain ⟨z0, k0, b0⟩ := (opensD_int Tryz.underlying2) H enc w base spare held n _ _ e0
  have e1 : DataW.trod enc Tryz.prog w base spare held n 2 ((cs.drop 1).take (Tryz.prog.cellsOf 2)) = some (xs[1]'(by omega)) := (hf 1 _ rfl).trans (List.getElem?_eq_getElem (by omega))
  rw [(by kernel_rfl : Tryz.prog.cellsOf 2 = 1)] at e1
  obtain ⟨z1, k1, b1⟩ := (opensD_int Tryz.underlying2) H enc w base spare held n _ _ e1
  have e2 : DataW.trod enc Tryz.prog w base spare held n 2 ((cs.drop 2).take (Tryz.prog.cellsOf 2)) = some (xs[2]'(by omega)) := (hf 2 _ rfl).trans (List.getElem?_eq_getElem (by omega))
  rw [(by kernel_rfl : Tryz.prog.cellsOf 2 = 1)] at e2
  obtain ⟨z2, k2, b2⟩ := (opensD_int Tryz.underlying2) H enc w base spare held n _ _ e2
  have e3 : DataW.trod enc Tryz.prog w base spare held n 2 ((cs.drop 3).take (Tryz.prog.cellsOf 2)) = some (xs[3]'(by omega)) := (hf 3 _ rfl).trans (List.getElem?_eq_getElem (by omega))
  rw [(by kernel_rfl : Tryz.prog.cellsOf 2 = 1)] at e3
  obtain ⟨z3, k3, b3⟩ := (opensD_int Tryz.underlying2) H enc w base spare held n _ _ e3
  exact ⟨⟨z0, z1, z2, z3⟩, (show All2 _ _ (cs.drop 0) from all2_pair 0 1 k0 (all2_pair 1 1 k1 (all2_pair 2 1 k2 (all2_last 3 1 hcl2 k3)))), ⟨b0, b1, b2, b3⟩⟩
theorem opens_T70 : OpensD Tryz.prog 70 c69 B69 := by
  intro H enc w base spare held fuel cs x h
  obtain ⟨xs, n, _, _, hcl, hlen, hf⟩ := DataW.trod_struct Tryz.underlying70 h
  have hcl2 : cs.length = 9 := hcl.trans (by kernel_rfl)
  have hl : xs.length = 7 := hlen
  have e0 : DataW.trod enc Tryz.prog w base spare held n 9 ((cs.drop 0).take (Tryz.prog.cellsOf 9)) = some (xs[0]'(by omega)) := (hf 0 _ rfl).trans (List.getElem?_eq_getElem (by omega))
  rw [(by kernel_rfl : Tryz.prog.cellsOf 9 = 1)] at e0
  obtain ⟨z0, k0, b0⟩ := (opensD_string Tryz.underlying9) H enc w base spare held n _ _ e0
  have e1 : DataW.trod enc Tryz.prog w base spare held n 9 ((cs.drop 1).take (Tryz.prog.cellsOf 9)) = some (xs[1]'(by omega)) := (hf 1 _ rfl).trans (List.getElem?_eq_getElem (by omega))
  rw [(by kernel_rfl : Tryz.prog.cellsOf 9 = 1)] at e1
  obtain ⟨z1, k1, b1⟩ := (opensD_string Tryz.underlying9) H enc w base spare held n _ _ e1
  have e2 : DataW.trod enc Tryz.prog w base spare held n 2 ((cs.drop 2).take (Tryz.prog.cellsOf 2)) = some (xs[2]'(by omega)) := (hf 2 _ rfl).trans (List.getElem?_eq_getElem (by omega))
  rw [(by kernel_rfl : Tryz.prog.cellsOf 2 = 1)] at e2
  obtain ⟨z2, k2, b2⟩ := (opensD_int Tryz.underlying2) H enc w base spare held n _ _ e2
  have e3 : DataW.trod enc Tryz.prog w base spare held n 67 ((cs.drop 3).take (Tryz.prog.cellsOf 67)) = some (xs[3]'(by omega)) := (hf 3 _ rfl).trans (List.getElem?_eq_getElem (by omega))
  rw [(by kernel_rfl : Tryz.prog.cellsOf 67 = 3)] at e3
  obtain ⟨z3, k3, b3⟩ := opens_T67 H enc w base spare held n _ _ e3
  have e4 : DataW.trod enc Tryz.prog w base spare held n 2 ((cs.drop 6).take (Tryz.prog.cellsOf 2)) = some (xs[4]'(by omega)) := (hf 4 _ rfl).trans (List.getElem?_eq_getElem (by omega))
  rw [(by kernel_rfl : Tryz.prog.cellsOf 2 = 1)] at e4
  obtain ⟨z4, k4, b4⟩ := (opensD_int Tryz.underlying2) H enc w base spare held n _ _ e4
  have e5 : DataW.trod enc Tryz.prog w base spare held n 2 ((cs.drop 7).take (Tryz.prog.cellsOf 2)) = some (xs[5]'(by omega)) := (hf 5 _ rfl).trans (List.getElem?_eq_getElem (by omega))
  rw [(by kernel_rfl : Tryz.prog.cellsOf 2 = 1)] at e5
  obtain ⟨z5, k5, b5⟩ := (opensD_int Tryz.underlying2) H enc w base spare held n _ _ e5
  have e6 : DataW.trod enc Tryz.prog w base spare held n 68 ((cs.drop 8).take (Tryz.prog.cellsOf 68)) = some (xs[6]'(by omega)) := (hf 6 _ rfl).trans (List.getElem?_eq_getElem (by omega))
  rw [(by kernel_rfl : Tryz.prog.cellsOf 68 = 1)] at e6
  obtain ⟨z6, k6, b6⟩ := (opensD_slice Tryz.underlying68 (show 0 < Tryz.prog.cellsOf 161 from (by kernel_rfl : Tryz.prog.cellsOf 161 = 4).symm ▸ (by decide)) opens_T161) H enc w base spare held n _ _ e6
  exact ⟨⟨z0, z1, z2, z3, z4, z5, z6⟩, (show All2 _ _ (cs.drop 0) from all2_pair 0 1 k0 (all2_pair 1 1 k1 (all2_pair 2 1 k2 (all2_pair 3 3 k3 (all2_pair 6 1 k4 (all2_pair 7 1 k5 (all2_last 8 1 hcl2 k6))))))), ⟨b0, b1, b2, b3, b4, b5, b6⟩⟩
theorem opens_T84 : OpensD Tryz.prog 84 c81 B81 := by
  intro H enc w base spare held fuel cs x h
  obtain ⟨xs, n, _, _, hcl, hlen, hf⟩ := DataW.trod_struct Tryz.underlying84 h
  have hcl2 : cs.length = 5 := hcl.trans (by kernel_rfl)
  have hl : xs.length = 5 := hlen
  have e0 : DataW.trod enc Tryz.prog w base spare held n 2 ((cs.drop 0).take (Tryz.prog.cellsOf 2)) = some (xs[0]'(by omega)) := (hf 0 _ rfl).trans (List.getElem?_eq_getElem (by omega))
  rw [(by kernel_rfl : Tryz.prog.cellsOf 2 = 1)] at e0
  obtain ⟨z0, k0, b0⟩ := (opensD_int Tryz.underlying2) H enc w base spare held n _ _ e0
  have e1 : DataW.trod enc Tryz.prog w base spare held n 2 ((cs.drop 1).take (Tryz.prog.cellsOf 2)) = some (xs[1]'(by omega)) := (hf 1 _ rfl).trans (List.getElem?_eq_getElem (by omega))
  rw [(by kernel_rfl : Tryz.prog.cellsOf 2 = 1)] at e1
  obtain ⟨z1, k1, b1⟩ := (opensD_int Tryz.underlying2) H enc w base spare held n _ _ e1
  have e2 : DataW.trod enc Tryz.prog w base spare held n 2 ((cs.drop 2).take (Tryz.prog.cellsOf 2)) = some (xs[2]'(by omega)) := (hf 2 _ rfl).trans (List.getElem?_eq_getElem (by omega))
  rw [(by kernel_rfl : Tryz.prog.cellsOf 2 = 1)] at e2
  obtain ⟨z2, k2, b2⟩ := (opensD_int Tryz.underlying2) H enc w base spare held n _ _ e2
  have e3 : DataW.trod enc Tryz.prog w base spare held n 2 ((cs.drop 3).take (Tryz.prog.cellsOf 2)) = some (xs[3]'(by omega)) := (hf 3 _ rfl).trans (List.getElem?_eq_getElem (by omega))
  rw [(by kernel_rfl : Tryz.prog.cellsOf 2 = 1)] at e3
  obtain ⟨z3, k3, b3⟩ := (opensD_int Tryz.underlying2) H enc w base spare held n _ _ e3
  have e4 : DataW.trod enc Tryz.prog w base spare held n 2 ((cs.drop 4).take (Tryz.prog.cellsOf 2)) = some (xs[4]'(by omega)) := (hf 4 _ rfl).trans (List.getElem?_eq_getElem (by omega))
  rw [(by kernel_rfl : Tryz.prog.cellsOf 2 = 1)] at e4
  obtain ⟨z4, k4, b4⟩ := (opensD_int Tryz.underlying2) H enc w base spare held n _ _ e4
  exact ⟨⟨z0, z1, z2, z3, z4⟩, (show All2 _ _ (cs.drop 0) from all2_pair 0 1 k0 (all2_pair 1 1 k1 (all2_pair 2 1 k2 (all2_pair 3 1 k3 (all2_last 4 1 hcl2 k4))))), ⟨b0, b1, b2, b3, b4⟩⟩
theorem opens_T32 : OpensD Tryz.prog 32 c31 B31 := by
  intro H enc w base spare held fuel cs x h
  obtain ⟨xs, n, _, _, hcl, hlen, hf⟩ := DataW.trod_struct Tryz.underlying32 h
  have hcl2 : cs.length = 4 := hcl.trans (by kernel_rfl)
  have hl : xs.length = 4 := hlen
  have e0 : DataW.trod enc Tryz.prog w base spare held n 2 ((cs.drop 0).take (Tryz.prog.cellsOf 2)) = some (xs[0]'(by omega)) := (hf 0 _ rfl).trans (List.getElem?_eq_getElem (by omega))
  rw [(by kernel_rfl : Tryz.prog.cellsOf 2 = 1)] at e0
  obtain ⟨z0, k0, b0⟩ := (opensD_int Tryz.underlying2) H enc w base spare held n _ _ e0
  have e1 : DataW.trod enc Tryz.prog w base spare held n 2 ((cs.drop 1).take (Tryz.prog.cellsOf 2)) = some (xs[1]'(by omega)) := (hf 1 _ rfl).trans (List.getElem?_eq_getElem (by omega))
  rw [(by kernel_rfl : Tryz.prog.cellsOf 2 = 1)] at e1
  obtain ⟨z1, k1, b1⟩ := (opensD_int Tryz.underlying2) H enc w base spare held n _ _ e1
  have e2 : DataW.trod enc Tryz.prog w base spare held n 2 ((cs.drop 2).take (Tryz.prog.cellsOf 2)) = some (xs[2]'(by omega)) := (hf 2 _ rfl).trans (List.getElem?_eq_getElem (by omega))
  rw [(by kernel_rfl : Tryz.prog.cellsOf 2 = 1)] at e2
  obtain ⟨z2, k2, b2⟩ := (opensD_int Tryz.underlying2) H enc w base spare held n _ _ e2
  have e3 : DataW.trod enc Tryz.prog w base spare held n 2 ((cs.drop 3).take (Tryz.prog.cellsOf 2)) = some (xs[3]'(by omega)) := (hf 3 _ rfl).trans (List.getElem?_eq_getElem (by omega))
  rw [(by kernel_rfl : Tryz.prog.cellsOf 2 = 1)] at e3
  obtain ⟨z3, k3, b3⟩ := (opensD_int Tryz.underlying2) H enc w base spare held n _ _ e3
  exact ⟨⟨z0, z1, z2, z3⟩, (show All2 _ _ (cs.drop 0) from all2_pair 0 1 k0 (all2_pair 1 1 k1 (all2_pair 2 1 k2 (all2_last 3 1 hcl2 k3)))), ⟨b0, b1, b2, b3⟩⟩
set_option maxRecDepth 100000 in
theorem lifted (os : Os) (started : os.Started) (H : Type) (enc : TypeId × Value → H) :
    ReturnsInHanded {} Tryz.checked os 3 .any (Rows.fnExactIsNestingSpec.pre6 enc Tryz.prog Tryz.f3 Rows.fnExactIsNestingRow.domain false) (Rows.fnExactIsNestingSpec.post enc Tryz.prog Tryz.f3 false true false false) := by
  refine returnsInHanded_of_change_sized (C := Tryz.checked) own started (by kernel_rfl) Tryz.func3
    (ChangeSpec.witness6 (enc := enc) (C := Tryz.checked) false ⟨#[], #[.agg #[.int .i64 0, .int .i64 0, .slice none 0 0, .slice none 0 0, .slice none 0 0], .slice none 0 0, .slice none 0 0, .agg #[.int .i64 0, .int .i64 0, .int .i64 0, .int .i64 0]], []⟩ 8 (by kernel_rfl) (by kernel_rfl) (by kernel_rfl) (by kernel_rfl)) ?_
  intro W base args ds gs before hval0 hW hcnd hsz0 _
  have hval : ∀ (j : Nat) t v, Tryz.f3.params[j]? = some t → args[j]? = some v → Value.okWide Tryz.prog W .any base t v := hval0
  have hW' := hW
  obtain ⟨p, q, hA0, hV, rfl, hfz, hnd⟩ := hW
  have hA : DataW.TrodAll enc Tryz.prog W 0 (fun _ => true) true Tryz.f3.params.toList args.toList ds p := hA0
  rw [Tryz.params3] at hA hval
  obtain ⟨v0, vs0, d0, ds0, p0, q0, hargs, rfl, rfl, h0, r0⟩ := trodAll_cons hA
  obtain ⟨v1, vs1, d1, ds1, p1, q1, rfl, rfl, rfl, h1, r1⟩ := trodAll_cons r0
  obtain ⟨v2, vs2, d2, ds2, p2, q2, rfl, rfl, rfl, h2, r2⟩ := trodAll_cons r1
  obtain ⟨v3, vs3, d3, ds3, p3, q3, rfl, rfl, rfl, h3, r3⟩ := trodAll_cons r2
  obtain ⟨rfl, rfl, rfl⟩ := trodAll_nil r3
  obtain rfl : args = #[v0, v1, v2, v3] := by cases args; simp_all
  obtain ⟨rfl, rfl⟩ := trodVars_none hV
  obtain ⟨cs0, rfl, _⟩ := okWide_struct Tryz.underlying28 (hval 0 28 v0 rfl rfl)
  obtain ⟨cs0⟩ := cs0
  have k0 := h0
  have lt0 : ∀ x ∈ p0, x.block < W.heap.size := by obtain ⟨m, hm⟩ := k0; exact DataW.trod_lt m _ _ _ hm
  obtain ⟨fuel0, hf0⟩ := h0
  obtain ⟨z0, hK0, hB0⟩ := opens_T28 H enc W _ _ _ fuel0 _ _ hf0
  obtain ⟨a1, len1, cap1, rfl⟩ := okWide_slice Tryz.underlying29 (hval 1 29 v1 rfl rfl)
  have k1 := h1
  have lt1 : ∀ x ∈ p1, x.block < W.heap.size := by obtain ⟨m, hm⟩ := k1; exact DataW.trod_lt m _ _ _ hm
  obtain ⟨fuel1, hf1⟩ := h1
  obtain ⟨z1, hK1, hB1⟩ := (opensD_slice Tryz.underlying29 (show 0 < Tryz.prog.cellsOf 70 from (by kernel_rfl : Tryz.prog.cellsOf 70 = 9).symm ▸ (by decide)) opens_T70) H enc W _ _ _ fuel1 _ _ hf1
  obtain ⟨a2, len2, cap2, rfl⟩ := okWide_slice Tryz.underlying30 (hval 2 30 v2 rfl rfl)
  have k2 := h2
  have lt2 : ∀ x ∈ p2, x.block < W.heap.size := by obtain ⟨m, hm⟩ := k2; exact DataW.trod_lt m _ _ _ hm
  obtain ⟨fuel2, hf2⟩ := h2
  obtain ⟨z2, hK2, hB2⟩ := (opensD_slice Tryz.underlying30 (show 0 < Tryz.prog.cellsOf 84 from (by kernel_rfl : Tryz.prog.cellsOf 84 = 5).symm ▸ (by decide)) opens_T84) H enc W _ _ _ fuel2 _ _ hf2
  obtain ⟨cs3, rfl, _⟩ := okWide_struct Tryz.underlying32 (hval 3 32 v3 rfl rfl)
  obtain ⟨cs3⟩ := cs3
  have k3 := h3
  have lt3 : ∀ x ∈ p3, x.block < W.heap.size := by obtain ⟨m, hm⟩ := k3; exact DataW.trod_lt m _ _ _ hm
  obtain ⟨fuel3, hf3⟩ := h3
  obtain ⟨z3, hK3, hB3⟩ := opens_T32 H enc W _ _ _ fuel3 _ _ hf3
  clear hA0 hval0 hsz0
  obtain ⟨k, hh⟩ := Pure.FnExactIsNesting z0.f0.f0 z0.f0.f1 z0.f0.f2 z0.f0.f3 z0.f1 z1 z2 z3.f0 z3.f1 z3.f2 z3.f3 hB0 hB1 hB2 hB3
  refine Calls.mono (OkF.closed (w := W) (vals := [_, _, _, _]) (PFnExactIsNesting.laws_FnExactIsNesting.ok hh) (.cons (arg_agg hK0) (.cons (arg_one hK1) (.cons (arg_one hK2) (.cons (arg_agg hK3) .nil))))) fun e W' ⟨he, bel⟩ => ?_
  subst he
  exact ⟨_, rfl, _, _, _, [], _, [], hW', trodAll_mk1 (shut_bool Tryz.underlying4 _), (trodAll_cons_mk (Below.trod laidOut (by kernel_rfl) (of_decide_eq_true (by kernel_rfl)) k0 bel lt0) (trodAll_cons_mk (Below.trod laidOut (by kernel_rfl) (of_decide_eq_true (by kernel_rfl)) k1 bel lt1) (trodAll_cons_mk (Below.trod laidOut (by kernel_rfl) (of_decide_eq_true (by kernel_rfl)) k2 bel lt2) (trodAll_cons_mk (Below.trod laidOut (by kernel_rfl) (of_decide_eq_true (by kernel_rfl)) k3 bel lt3) trodAll_mk0)))), rfl, bel.frame _, fun h => by cases h⟩
theorem over : Rows.fnExactIsNestingRow.holds Tryz.pinned (OpenSpec.ofChange Rows.fnExactIsNestingSpec) :=
  OpenClaim.holds_of_wide 3 Tryz.f3 rfl rfl rfl rfl rfl rfl rfl ⟨rfl, rfl, rfl, rfl, rfl⟩ rfl rfl rfl rfl rfl (by kernel_rfl) Tryz.func3 (by kernel_rfl)
    (of_decide_eq_true (by kernel_rfl)) (by unfold Func.isWrapper; first | (rw [if_pos (by decide +kernel)]; kernel_rfl) | (rw [if_neg (by decide +kernel)]; exact ⟨rfl, rfl⟩))
    (fun os started H enc _ => lifted os started H enc)
theorem proved : Rows.FnExactIsNestingSaid := over
#print axioms proved
end Go.Proofs.YticimffljcljoaaGreat.fnExactIsNesting
namespace Go.Proofs.YticimffljcljoaaGreat
/-- The row, under a short name, for the claim. -/
theorem fnExactIsNesting_holds : Rows.FnExactIsNestingSaid := fnExactIsNesting.proved
end Go.Proofs.YticimffljcljoaaGreat

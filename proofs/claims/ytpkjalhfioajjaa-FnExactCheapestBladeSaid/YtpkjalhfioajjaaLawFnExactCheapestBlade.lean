/- For every input the law FnExactCheapestBlade returns true, and its arguments read afterwards as they read before. No condition. -/
import Derived.Test.YtpkjalhfioajjaaRows
import Derived.Test.YtpkjalhfioajjaaPFnExactCheapestBladex9
import Derived.Test.YtpkjalhfioajjaaPureFnExactCheapestBlade
import Derived.WalkKit
import Derived.ProofKit
import Derived.OpenShut
import Derived.ShutString
import Derived.ChangeOld
import Derived.Below
import Derived.SizedLaws
import Derived.Deep.Slices
namespace Go.Proofs.Ytpkjalhfioajjaa.fnExactCheapestBlade
open Go.ChangeShapes Go.WideShapes Go.ChangeAt Go.RowKit
open Go.ChangeMaps (open_string shut_string)
open Go.Proofs.Ytpkjalhfioajjaa.PFnExactCheapestBlade Go.Proofs.YtpkjalhfioajjaaW.PrintWords
set_option linter.unusedVariables false
set_option linter.unusedSimpArgs false
theorem own : ownKnob Try.prog.godebug = none := by kernel_rfl
theorem laidOut : laidOutB Try.prog = true := by kernel_rfl
theorem opens_T50 : Opens Try.prog 50 k50 B50 := by
  intro H enc w base spare held fuel cs x h
  obtain ⟨xs, n, _, _, hcl, hlen, hf⟩ := DataW.trod_struct Try.underlying50 h
  have hcl2 : cs.length = 4 := hcl.trans (by kernel_rfl)
  have hl : xs.length = 4 := hlen
  have e0 : DataW.trod enc Try.prog w base spare held n 9 ((cs.drop 0).take (Try.prog.cellsOf 9)) = some (xs[0]'(by omega)) := (hf 0 _ rfl).trans (List.getElem?_eq_getElem (by omega))
  rw [(by kernel_rfl : Try.prog.cellsOf 9 = 1)] at e0
  obtain ⟨z0, k0, b0⟩ := (opens_string Try.underlying9) H enc w base spare held n _ _ e0
  have e1 : DataW.trod enc Try.prog w base spare held n 2 ((cs.drop 1).take (Try.prog.cellsOf 2)) = some (xs[1]'(by omega)) := (hf 1 _ rfl).trans (List.getElem?_eq_getElem (by omega))
  rw [(by kernel_rfl : Try.prog.cellsOf 2 = 1)] at e1
  obtain ⟨z1, k1, b1⟩ := (opens_int Try.underlying2) H enc w base spare held n _ _ e1
  have e2 : DataW.trod enc Try.prog w base spare held n 2 ((cs.drop 2).take (Try.prog.cellsOf 2)) = some (xs[2]'(by omega)) := (hf 2 _ rfl).trans (List.getElem?_eq_getElem (by omega))
  rw [(by kernel_rfl : Try.prog.cellsOf 2 = 1)] at e2
  obtain ⟨z2, k2, b2⟩ := (opens_int Try.underlying2) H enc w base spare held n _ _ e2
  have e3 : DataW.trod enc Try.prog w base spare held n 2 ((cs.drop 3).take (Try.prog.cellsOf 2)) = some (xs[3]'(by omega)) := (hf 3 _ rfl).trans (List.getElem?_eq_getElem (by omega))
  rw [(by kernel_rfl : Try.prog.cellsOf 2 = 1)] at e3
  obtain ⟨z3, k3, b3⟩ := (opens_int Try.underlying2) H enc w base spare held n _ _ e3
  exact ⟨⟨z0, z1, z2, z3⟩, (show ((Kd.pair Kd.string (Kd.pair (Kd.int .i64) (Kd.pair (Kd.int .i64) (Kd.int .i64))))).K w (z0, z1, z2, z3) (cs.drop 0) from K_pair 0 k0 (K_pair 1 k1 (K_pair 2 k2 (K_last 3 hcl2 k3)))), ⟨b0, b1, b2, b3⟩⟩
theorem opens_T115 : Opens Try.prog 115 k115 B115 := by
  intro H enc w base spare held fuel cs x h
  obtain ⟨xs, n, _, _, hcl, hlen, hf⟩ := DataW.trod_struct Try.underlying115 h
  have hcl2 : cs.length = 3 := hcl.trans (by kernel_rfl)
  have hl : xs.length = 3 := hlen
  have e0 : DataW.trod enc Try.prog w base spare held n 9 ((cs.drop 0).take (Try.prog.cellsOf 9)) = some (xs[0]'(by omega)) := (hf 0 _ rfl).trans (List.getElem?_eq_getElem (by omega))
  rw [(by kernel_rfl : Try.prog.cellsOf 9 = 1)] at e0
  obtain ⟨z0, k0, b0⟩ := (opens_string Try.underlying9) H enc w base spare held n _ _ e0
  have e1 : DataW.trod enc Try.prog w base spare held n 2 ((cs.drop 1).take (Try.prog.cellsOf 2)) = some (xs[1]'(by omega)) := (hf 1 _ rfl).trans (List.getElem?_eq_getElem (by omega))
  rw [(by kernel_rfl : Try.prog.cellsOf 2 = 1)] at e1
  obtain ⟨z1, k1, b1⟩ := (opens_int Try.underlying2) H enc w base spare held n _ _ e1
  have e2 : DataW.trod enc Try.prog w base spare held n 2 ((cs.drop 2).take (Try.prog.cellsOf 2)) = some (xs[2]'(by omega)) := (hf 2 _ rfl).trans (List.getElem?_eq_getElem (by omega))
  rw [(by kernel_rfl : Try.prog.cellsOf 2 = 1)] at e2
  obtain ⟨z2, k2, b2⟩ := (opens_int Try.underlying2) H enc w base spare held n _ _ e2
  exact ⟨⟨z0, z1, z2⟩, (show ((Kd.pair Kd.string (Kd.pair (Kd.int .i64) (Kd.int .i64)))).K w (z0, z1, z2) (cs.drop 0) from K_pair 0 k0 (K_pair 1 k1 (K_last 2 hcl2 k2))), ⟨b0, b1, b2⟩⟩
set_option maxRecDepth 100000 in
theorem lifted (os : Os) (started : os.Started) (H : Type) (enc : TypeId × Value → H) :
    ReturnsInHanded {} Try.checked os 11 .any (Rows.fnExactCheapestBladeSpec.pre6 enc Try.prog Try.f11 Rows.fnExactCheapestBladeRow.domain false) (Rows.fnExactCheapestBladeSpec.post enc Try.prog Try.f11 false true false false) := by
  refine returnsInHanded_of_change_sized (C := Try.checked) own started (by kernel_rfl) Try.func11
    (ChangeSpec.witness6 (enc := enc) (C := Try.checked) false ⟨#[], #[.slice none 0 0, .slice none 0 0], []⟩ 8 (by kernel_rfl) (by kernel_rfl) (by kernel_rfl) (by kernel_rfl)) ?_
  intro W base args ds gs before hval0 hW hcnd hsz0 _
  have hval : ∀ (j : Nat) t v, Try.f11.params[j]? = some t → args[j]? = some v → Value.okWide Try.prog W .any base t v := hval0
  have hW' := hW
  obtain ⟨p, q, hA0, hV, rfl, hfz, hnd⟩ := hW
  have hA : DataW.TrodAll enc Try.prog W 0 (fun _ => true) true Try.f11.params.toList args.toList ds p := hA0
  rw [Try.params11] at hA hval
  obtain ⟨v0, vs0, d0, ds0, p0, q0, hargs, rfl, rfl, h0, r0⟩ := trodAll_cons hA
  obtain ⟨v1, vs1, d1, ds1, p1, q1, rfl, rfl, rfl, h1, r1⟩ := trodAll_cons r0
  obtain ⟨rfl, rfl, rfl⟩ := trodAll_nil r1
  obtain rfl : args = #[v0, v1] := by cases args; simp_all
  obtain ⟨rfl, rfl⟩ := trodVars_none hV
  obtain ⟨a0, len0, cap0, rfl⟩ := okWide_slice Try.underlying74 (hval 0 74 v0 rfl rfl)
  have k0 := h0
  have lt0 : ∀ x ∈ p0, x.block < W.heap.size := by obtain ⟨m, hm⟩ := k0; exact DataW.trod_lt m _ _ _ hm
  obtain ⟨fuel0, hf0⟩ := h0
  obtain ⟨z0, hK0, hB0⟩ := (opens_slice Try.underlying74 (show Try.prog.cellsOf 50 = (k50).sz from (by kernel_rfl : Try.prog.cellsOf 50 = 4)) opens_T50) H enc W _ _ _ fuel0 _ _ hf0
  obtain ⟨A0, c0, he0, l0, g0⟩ := hK0
  obtain ⟨rfl, rfl, rfl⟩ : a0 = A0 ∧ len0 = z0.length ∧ cap0 = c0 := by simpa [Value.cells] using he0
  obtain ⟨a1, len1, cap1, rfl⟩ := okWide_slice Try.underlying51 (hval 1 51 v1 rfl rfl)
  have k1 := h1
  have lt1 : ∀ x ∈ p1, x.block < W.heap.size := by obtain ⟨m, hm⟩ := k1; exact DataW.trod_lt m _ _ _ hm
  obtain ⟨fuel1, hf1⟩ := h1
  obtain ⟨z1, hK1, hB1⟩ := (opens_slice Try.underlying51 (show Try.prog.cellsOf 115 = (k115).sz from (by kernel_rfl : Try.prog.cellsOf 115 = 3)) opens_T115) H enc W _ _ _ fuel1 _ _ hf1
  obtain ⟨A1, c1, he1, l1, g1⟩ := hK1
  obtain ⟨rfl, rfl, rfl⟩ : a1 = A1 ∧ len1 = z1.length ∧ cap1 = c1 := by simpa [Value.cells] using he1
  clear hA0 hval0 hsz0
  obtain ⟨k, hh⟩ := Pure.FnExactCheapestBlade z0 z1 hB0 hB1
  refine (PFnExactCheapestBlade.laws_FnExactCheapestBlade.calls k _ _ z0 _ _ z1 true W g0 l0 g1 l1 hh).mono fun e W' ⟨he, bel0⟩ => ?_
  have bel : Below W.heap.size W W' := bel0
  subst he
  exact ⟨_, rfl, _, _, _, [], _, [], hW', trodAll_mk1 (shut_bool Try.underlying4 _), (trodAll_cons_mk (Below.trod laidOut (by kernel_rfl) (of_decide_eq_true (by kernel_rfl)) k0 bel lt0) (trodAll_cons_mk (Below.trod laidOut (by kernel_rfl) (of_decide_eq_true (by kernel_rfl)) k1 bel lt1) trodAll_mk0)), rfl, bel.frame _, fun h => by cases h⟩
theorem over : Rows.fnExactCheapestBladeRow.holds Try.pinned (OpenSpec.ofChange Rows.fnExactCheapestBladeSpec) :=
  OpenClaim.holds_of_wide 11 Try.f11 rfl rfl rfl rfl rfl rfl rfl ⟨rfl, rfl, rfl, rfl, rfl⟩ rfl rfl rfl rfl rfl (by kernel_rfl) Try.func11 (by kernel_rfl)
    (of_decide_eq_true (by kernel_rfl)) (by unfold Func.isWrapper; first | (rw [if_pos (by decide +kernel)]; kernel_rfl) | (rw [if_neg (by decide +kernel)]; exact ⟨rfl, rfl⟩))
    (fun os started H enc _ => lifted os started H enc)
theorem proved : Rows.FnExactCheapestBladeSaid := over
#print axioms proved
end Go.Proofs.Ytpkjalhfioajjaa.fnExactCheapestBlade
namespace Go.Proofs.Ytpkjalhfioajjaa
/-- The row, under a short name, for the claim. -/
theorem fnExactCheapestBlade_holds : Rows.FnExactCheapestBladeSaid := fnExactCheapestBlade.proved
end Go.Proofs.Ytpkjalhfioajjaa

/- For every input the law FnExactKerfLoss returns true, and its arguments read afterwards as they read before. No condition. -/
import Derived.Test.YtpkjalhfioajjaaRows
import Derived.Test.YtpkjalhfioajjaaZFnExactKerfLoss11
import Derived.Test.YtpkjalhfioajjaaZFnExactKerfLossp
import Derived.WalkKit
import Derived.ProofKit
import Derived.OpenShut
import Derived.ShutString
import Derived.ChangeOld
import Derived.Below
import Derived.SizedLaws
import Derived.Deep.Slices
namespace Go.Proofs.Ytpkjalhfioajjaa.fnExactKerfLoss
open Go.ChangeShapes Go.WideShapes Go.ChangeAt Go.RowKit
open Go.ChangeMaps (open_string shut_string)
open Go.Proofs.Ytpkjalhfioajjaa.PFnExactKerfLoss Go.Proofs.YtpkjalhfioajjaaW.PrintWords
set_option linter.unusedVariables false
set_option linter.unusedSimpArgs false
theorem own : ownKnob Try.prog.godebug = none := by kernel_rfl
theorem laidOut : laidOutB Try.prog = true := by kernel_rfl
theorem opens_T126 : Opens Try.prog 126 k126 B126 := by
  intro H enc w base spare held fuel cs x h
  obtain ⟨xs, n, _, _, hcl, hlen, hf⟩ := DataW.trod_struct Try.underlying126 h
  have hcl2 : cs.length = 2 := hcl.trans (by kernel_rfl)
  have hl : xs.length = 2 := hlen
  have e0 : DataW.trod enc Try.prog w base spare held n 2 ((cs.drop 0).take (Try.prog.cellsOf 2)) = some (xs[0]'(by omega)) := (hf 0 _ rfl).trans (List.getElem?_eq_getElem (by omega))
  rw [(by kernel_rfl : Try.prog.cellsOf 2 = 1)] at e0
  obtain ⟨z0, k0, b0⟩ := (opens_int Try.underlying2) H enc w base spare held n _ _ e0
  have e1 : DataW.trod enc Try.prog w base spare held n 2 ((cs.drop 1).take (Try.prog.cellsOf 2)) = some (xs[1]'(by omega)) := (hf 1 _ rfl).trans (List.getElem?_eq_getElem (by omega))
  rw [(by kernel_rfl : Try.prog.cellsOf 2 = 1)] at e1
  obtain ⟨z1, k1, b1⟩ := (opens_int Try.underlying2) H enc w base spare held n _ _ e1
  exact ⟨⟨z0, z1⟩, (show ((Kd.pair (Kd.int .i64) (Kd.int .i64))).K w (z0, z1) (cs.drop 0) from K_pair 0 k0 (K_last 1 hcl2 k1)), ⟨b0, b1⟩⟩
set_option maxRecDepth 100000 in
theorem lifted (os : Os) (started : os.Started) (H : Type) (enc : TypeId × Value → H) :
    ReturnsInHanded {} Try.checked os 9 .any (Rows.fnExactKerfLossSpec.pre6 enc Try.prog Try.f9 Rows.fnExactKerfLossRow.domain false) (Rows.fnExactKerfLossSpec.post enc Try.prog Try.f9 false true false false) := by
  refine returnsInHanded_of_change_sized (C := Try.checked) own started (by kernel_rfl) Try.func9
    (ChangeSpec.witness6 (enc := enc) (C := Try.checked) false ⟨#[], #[.slice none 0 0, .int .i64 0], []⟩ 8 (by kernel_rfl) (by kernel_rfl) (by kernel_rfl) (by kernel_rfl)) ?_
  intro W base args ds gs before hval0 hW hcnd hsz0 _
  have hval : ∀ (j : Nat) t v, Try.f9.params[j]? = some t → args[j]? = some v → Value.okWide Try.prog W .any base t v := hval0
  have hW' := hW
  obtain ⟨p, q, hA0, hV, rfl, hfz, hnd⟩ := hW
  have hA : DataW.TrodAll enc Try.prog W 0 (fun _ => true) true Try.f9.params.toList args.toList ds p := hA0
  rw [Try.params9] at hA hval
  obtain ⟨v0, vs0, d0, ds0, p0, q0, hargs, rfl, rfl, h0, r0⟩ := trodAll_cons hA
  obtain ⟨v1, vs1, d1, ds1, p1, q1, rfl, rfl, rfl, h1, r1⟩ := trodAll_cons r0
  obtain ⟨rfl, rfl, rfl⟩ := trodAll_nil r1
  obtain rfl : args = #[v0, v1] := by cases args; simp_all
  obtain ⟨rfl, rfl⟩ := trodVars_none hV
  obtain ⟨a0, len0, cap0, rfl⟩ := okWide_slice Try.underlying65 (hval 0 65 v0 rfl rfl)
  have k0 := h0
  have lt0 : ∀ x ∈ p0, x.block < W.heap.size := by obtain ⟨m, hm⟩ := k0; exact DataW.trod_lt m _ _ _ hm
  obtain ⟨fuel0, hf0⟩ := h0
  obtain ⟨z0, hK0, hB0⟩ := (opens_slice Try.underlying65 (show Try.prog.cellsOf 126 = (k126).sz from (by kernel_rfl : Try.prog.cellsOf 126 = 2)) opens_T126) H enc W _ _ _ fuel0 _ _ hf0
  obtain ⟨A0, c0, he0, l0, g0⟩ := hK0
  obtain ⟨rfl, rfl, rfl⟩ : a0 = A0 ∧ len0 = z0.length ∧ cap0 = c0 := by simpa [Value.cells] using he0
  obtain ⟨a1, rfl, rfl, rfl, w1⟩ := open_int Try.underlying2 (hval 1 2 v1 rfl rfl) h1
  clear hA0 hval0 hsz0
  obtain ⟨k, hh⟩ := Pure.FnExactKerfLoss z0 a1 hB0 w1
  refine (PFnExactKerfLoss.laws_FnExactKerfLoss.calls k _ _ z0 a1 true W g0 l0 hh).mono fun e W' ⟨he, bel0⟩ => ?_
  have bel : Below W.heap.size W W' := bel0
  subst he
  exact ⟨_, rfl, _, _, _, [], _, [], hW', trodAll_mk1 (shut_bool Try.underlying4 _), (trodAll_cons_mk (Below.trod laidOut (by kernel_rfl) (of_decide_eq_true (by kernel_rfl)) k0 bel lt0) (trodAll_cons_mk (shut_int Try.underlying2 w1) trodAll_mk0)), rfl, bel.frame _, fun h => by cases h⟩
theorem over : Rows.fnExactKerfLossRow.holds Try.pinned (OpenSpec.ofChange Rows.fnExactKerfLossSpec) :=
  OpenClaim.holds_of_wide 9 Try.f9 rfl rfl rfl rfl rfl rfl rfl ⟨rfl, rfl, rfl, rfl, rfl⟩ rfl rfl rfl rfl rfl (by kernel_rfl) Try.func9 (by kernel_rfl)
    (of_decide_eq_true (by kernel_rfl)) (by unfold Func.isWrapper; first | (rw [if_pos (by decide +kernel)]; kernel_rfl) | (rw [if_neg (by decide +kernel)]; exact ⟨rfl, rfl⟩))
    (fun os started H enc _ => lifted os started H enc)
theorem proved : Rows.FnExactKerfLossSaid := over
#print axioms proved
end Go.Proofs.Ytpkjalhfioajjaa.fnExactKerfLoss
namespace Go.Proofs.Ytpkjalhfioajjaa
theorem fnExactKerfLoss_holds : Rows.FnExactKerfLossSaid := fnExactKerfLoss.proved
end Go.Proofs.Ytpkjalhfioajjaa

/- For every input the law FnExactOffcutsOf returns true, and its arguments read afterwards as they read before. No condition. -/
import Derived.Test.YtfiiakhpdkdebaaRows
import Derived.Test.YtfiiakhpdkdebaaZFnExactOffcutsOf21
import Derived.Test.YtfiiakhpdkdebaaZFnExactOffcutsOfp
import Derived.WalkKit
import Derived.ProofKit
import Derived.OpenShut
import Derived.ShutString
import Derived.ChangeOld
import Derived.Below
import Derived.SizedLaws
import Derived.Deep.Slices
namespace Go.Proofs.Ytfiiakhpdkdebaa.fnExactOffcutsOf
open Go.ChangeShapes Go.WideShapes Go.ChangeAt Go.RowKit
open Go.ChangeMaps (open_string shut_string)
open Go.Proofs.Ytfiiakhpdkdebaa.PFnExactOffcutsOf Go.Proofs.YtfiiakhpdkdebaaW.PrintWords
set_option linter.unusedVariables false
set_option linter.unusedSimpArgs false
theorem own : ownKnob Try.prog.godebug = none := by kernel_rfl
theorem laidOut : laidOutB Try.prog = true := by kernel_rfl
theorem opens_T24 : Opens Try.prog 24 k24 B24 := by
  intro H enc w base spare held fuel cs x h
  obtain ⟨xs, n, _, _, hcl, hlen, hf⟩ := DataW.trod_struct Try.underlying24 h
  have hcl2 : cs.length = 3 := hcl.trans (by kernel_rfl)
  have hl : xs.length = 3 := hlen
  have e0 : DataW.trod enc Try.prog w base spare held n 9 ((cs.drop 0).take (Try.prog.cellsOf 9)) = some (xs[0]'(by omega)) := (hf 0 _ rfl).trans (List.getElem?_eq_getElem (by omega))
  rw [(by kernel_rfl : Try.prog.cellsOf 9 = 1)] at e0
  obtain ⟨z0, k0, b0⟩ := (opens_string Try.underlying9) H enc w base spare held n _ _ e0
  have e1 : DataW.trod enc Try.prog w base spare held n 2 ((cs.drop 1).take (Try.prog.cellsOf 2)) = some (xs[1]'(by omega)) := (hf 1 _ rfl).trans (List.getElem?_eq_getElem (by omega))
  rw [(by kernel_rfl : Try.prog.cellsOf 2 = 1)] at e1
  obtain ⟨z1, k1, b1⟩ := (opens_int Try.underlying2) H enc w base spare held n _ _ e1
  have e2 : DataW.trod enc Try.prog w base spare held n 2 ((cs.drop 2).take (Try.prog.cellsOf 2)) = some (xs[2]'(by omega)) := (hf 2 _ rfl).trans (List.getElem?_eq_getElem (by omega))
  rw [(by kernel_rfl : Try.prog.cellsOf 2 = 1)] at e2
  obtain ⟨z2, k2, b2⟩ := (opens_int Try.underlying2) H enc w base spare held n _ _ e2
  exact ⟨⟨z0, z1, z2⟩, (show ((Kd.pair Kd.string (Kd.pair (Kd.int .i64) (Kd.int .i64)))).K w (z0, z1, z2) (cs.drop 0) from K_pair 0 k0 (K_pair 1 k1 (K_last 2 hcl2 k2))), ⟨b0, b1, b2⟩⟩
theorem opens_T136 : Opens Try.prog 136 k136 B136 := by
  intro H enc w base spare held fuel cs x h
  obtain ⟨xs, n, _, _, hcl, hlen, hf⟩ := DataW.trod_struct Try.underlying136 h
  have hcl2 : cs.length = 4 := hcl.trans (by kernel_rfl)
  have hl : xs.length = 4 := hlen
  have e0 : DataW.trod enc Try.prog w base spare held n 2 ((cs.drop 0).take (Try.prog.cellsOf 2)) = some (xs[0]'(by omega)) := (hf 0 _ rfl).trans (List.getElem?_eq_getElem (by omega))
  rw [(by kernel_rfl : Try.prog.cellsOf 2 = 1)] at e0
  obtain ⟨z0, k0, b0⟩ := (opens_int Try.underlying2) H enc w base spare held n _ _ e0
  have e1 : DataW.trod enc Try.prog w base spare held n 2 ((cs.drop 1).take (Try.prog.cellsOf 2)) = some (xs[1]'(by omega)) := (hf 1 _ rfl).trans (List.getElem?_eq_getElem (by omega))
  rw [(by kernel_rfl : Try.prog.cellsOf 2 = 1)] at e1
  obtain ⟨z1, k1, b1⟩ := (opens_int Try.underlying2) H enc w base spare held n _ _ e1
  have e2 : DataW.trod enc Try.prog w base spare held n 2 ((cs.drop 2).take (Try.prog.cellsOf 2)) = some (xs[2]'(by omega)) := (hf 2 _ rfl).trans (List.getElem?_eq_getElem (by omega))
  rw [(by kernel_rfl : Try.prog.cellsOf 2 = 1)] at e2
  obtain ⟨z2, k2, b2⟩ := (opens_int Try.underlying2) H enc w base spare held n _ _ e2
  have e3 : DataW.trod enc Try.prog w base spare held n 2 ((cs.drop 3).take (Try.prog.cellsOf 2)) = some (xs[3]'(by omega)) := (hf 3 _ rfl).trans (List.getElem?_eq_getElem (by omega))
  rw [(by kernel_rfl : Try.prog.cellsOf 2 = 1)] at e3
  obtain ⟨z3, k3, b3⟩ := (opens_int Try.underlying2) H enc w base spare held n _ _ e3
  exact ⟨⟨z0, z1, z2, z3⟩, (show ((Kd.pair (Kd.int .i64) (Kd.pair (Kd.int .i64) (Kd.pair (Kd.int .i64) (Kd.int .i64))))).K w (z0, z1, z2, z3) (cs.drop 0) from K_pair 0 k0 (K_pair 1 k1 (K_pair 2 k2 (K_last 3 hcl2 k3)))), ⟨b0, b1, b2, b3⟩⟩
theorem opens_T27 : Opens Try.prog 27 k27 B27 := by
  intro H enc w base spare held fuel cs x h
  obtain ⟨xs, n, _, _, hcl, hlen, hf⟩ := DataW.trod_struct Try.underlying27 h
  have hcl2 : cs.length = 9 := hcl.trans (by kernel_rfl)
  have hl : xs.length = 7 := hlen
  have e0 : DataW.trod enc Try.prog w base spare held n 9 ((cs.drop 0).take (Try.prog.cellsOf 9)) = some (xs[0]'(by omega)) := (hf 0 _ rfl).trans (List.getElem?_eq_getElem (by omega))
  rw [(by kernel_rfl : Try.prog.cellsOf 9 = 1)] at e0
  obtain ⟨z0, k0, b0⟩ := (opens_string Try.underlying9) H enc w base spare held n _ _ e0
  have e1 : DataW.trod enc Try.prog w base spare held n 9 ((cs.drop 1).take (Try.prog.cellsOf 9)) = some (xs[1]'(by omega)) := (hf 1 _ rfl).trans (List.getElem?_eq_getElem (by omega))
  rw [(by kernel_rfl : Try.prog.cellsOf 9 = 1)] at e1
  obtain ⟨z1, k1, b1⟩ := (opens_string Try.underlying9) H enc w base spare held n _ _ e1
  have e2 : DataW.trod enc Try.prog w base spare held n 2 ((cs.drop 2).take (Try.prog.cellsOf 2)) = some (xs[2]'(by omega)) := (hf 2 _ rfl).trans (List.getElem?_eq_getElem (by omega))
  rw [(by kernel_rfl : Try.prog.cellsOf 2 = 1)] at e2
  obtain ⟨z2, k2, b2⟩ := (opens_int Try.underlying2) H enc w base spare held n _ _ e2
  have e3 : DataW.trod enc Try.prog w base spare held n 24 ((cs.drop 3).take (Try.prog.cellsOf 24)) = some (xs[3]'(by omega)) := (hf 3 _ rfl).trans (List.getElem?_eq_getElem (by omega))
  rw [(by kernel_rfl : Try.prog.cellsOf 24 = 3)] at e3
  obtain ⟨z3, k3, b3⟩ := opens_T24 H enc w base spare held n _ _ e3
  have e4 : DataW.trod enc Try.prog w base spare held n 2 ((cs.drop 6).take (Try.prog.cellsOf 2)) = some (xs[4]'(by omega)) := (hf 4 _ rfl).trans (List.getElem?_eq_getElem (by omega))
  rw [(by kernel_rfl : Try.prog.cellsOf 2 = 1)] at e4
  obtain ⟨z4, k4, b4⟩ := (opens_int Try.underlying2) H enc w base spare held n _ _ e4
  have e5 : DataW.trod enc Try.prog w base spare held n 2 ((cs.drop 7).take (Try.prog.cellsOf 2)) = some (xs[5]'(by omega)) := (hf 5 _ rfl).trans (List.getElem?_eq_getElem (by omega))
  rw [(by kernel_rfl : Try.prog.cellsOf 2 = 1)] at e5
  obtain ⟨z5, k5, b5⟩ := (opens_int Try.underlying2) H enc w base spare held n _ _ e5
  have e6 : DataW.trod enc Try.prog w base spare held n 25 ((cs.drop 8).take (Try.prog.cellsOf 25)) = some (xs[6]'(by omega)) := (hf 6 _ rfl).trans (List.getElem?_eq_getElem (by omega))
  rw [(by kernel_rfl : Try.prog.cellsOf 25 = 1)] at e6
  obtain ⟨z6, k6, b6⟩ := (opens_slice Try.underlying25 (show Try.prog.cellsOf 136 = (k136).sz from (by kernel_rfl : Try.prog.cellsOf 136 = 4)) opens_T136) H enc w base spare held n _ _ e6
  exact ⟨⟨z0, z1, z2, z3, z4, z5, z6⟩, (show ((Kd.pair Kd.string (Kd.pair Kd.string (Kd.pair (Kd.int .i64) (Kd.pair k24 (Kd.pair (Kd.int .i64) (Kd.pair (Kd.int .i64) (Kd.slice 136 k136)))))))).K w (z0, z1, z2, z3, z4, z5, z6) (cs.drop 0) from K_pair 0 k0 (K_pair 1 k1 (K_pair 2 k2 (K_pair 3 k3 (K_pair 6 k4 (K_pair 7 k5 (K_last 8 hcl2 k6))))))), ⟨b0, b1, b2, b3, b4, b5, b6⟩⟩
theorem opens_T93 : Opens Try.prog 93 k93 B93 := by
  intro H enc w base spare held fuel cs x h
  obtain ⟨xs, n, _, _, hcl, hlen, hf⟩ := DataW.trod_struct Try.underlying93 h
  have hcl2 : cs.length = 2 := hcl.trans (by kernel_rfl)
  have hl : xs.length = 2 := hlen
  have e0 : DataW.trod enc Try.prog w base spare held n 2 ((cs.drop 0).take (Try.prog.cellsOf 2)) = some (xs[0]'(by omega)) := (hf 0 _ rfl).trans (List.getElem?_eq_getElem (by omega))
  rw [(by kernel_rfl : Try.prog.cellsOf 2 = 1)] at e0
  obtain ⟨z0, k0, b0⟩ := (opens_int Try.underlying2) H enc w base spare held n _ _ e0
  have e1 : DataW.trod enc Try.prog w base spare held n 2 ((cs.drop 1).take (Try.prog.cellsOf 2)) = some (xs[1]'(by omega)) := (hf 1 _ rfl).trans (List.getElem?_eq_getElem (by omega))
  rw [(by kernel_rfl : Try.prog.cellsOf 2 = 1)] at e1
  obtain ⟨z1, k1, b1⟩ := (opens_int Try.underlying2) H enc w base spare held n _ _ e1
  exact ⟨⟨z0, z1⟩, (show ((Kd.pair (Kd.int .i64) (Kd.int .i64))).K w (z0, z1) (cs.drop 0) from K_pair 0 k0 (K_last 1 hcl2 k1)), ⟨b0, b1⟩⟩
set_option maxRecDepth 100000 in
theorem lifted (os : Os) (started : os.Started) (H : Type) (enc : TypeId × Value → H) :
    ReturnsInHanded {} Try.checked os 5 .any (Rows.fnExactOffcutsOfSpec.pre6 enc Try.prog Try.f5 Rows.fnExactOffcutsOfRow.domain false) (Rows.fnExactOffcutsOfSpec.post enc Try.prog Try.f5 false true false false) := by
  refine returnsInHanded_of_change_sized (C := Try.checked) own started (by kernel_rfl) Try.func5
    (ChangeSpec.witness6 (enc := enc) (C := Try.checked) false ⟨#[], #[.agg #[.string ByteArray.empty, .string ByteArray.empty, .int .i64 0, .string ByteArray.empty, .int .i64 0, .int .i64 0, .int .i64 0, .int .i64 0, .slice none 0 0], .slice none 0 0], []⟩ 8 (by kernel_rfl) (by kernel_rfl) (by kernel_rfl) (by kernel_rfl)) ?_
  intro W base args ds gs before hval0 hW hcnd hsz0 _
  have hval : ∀ (j : Nat) t v, Try.f5.params[j]? = some t → args[j]? = some v → Value.okWide Try.prog W .any base t v := hval0
  have hW' := hW
  obtain ⟨p, q, hA0, hV, rfl, hfz, hnd⟩ := hW
  have hA : DataW.TrodAll enc Try.prog W 0 (fun _ => true) true Try.f5.params.toList args.toList ds p := hA0
  rw [Try.params5] at hA hval
  obtain ⟨v0, vs0, d0, ds0, p0, q0, hargs, rfl, rfl, h0, r0⟩ := trodAll_cons hA
  obtain ⟨v1, vs1, d1, ds1, p1, q1, rfl, rfl, rfl, h1, r1⟩ := trodAll_cons r0
  obtain ⟨rfl, rfl, rfl⟩ := trodAll_nil r1
  obtain rfl : args = #[v0, v1] := by cases args; simp_all
  obtain ⟨rfl, rfl⟩ := trodVars_none hV
  obtain ⟨cs0, rfl, _⟩ := okWide_struct Try.underlying27 (hval 0 27 v0 rfl rfl)
  obtain ⟨cs0⟩ := cs0
  have k0 := h0
  have lt0 : ∀ x ∈ p0, x.block < W.heap.size := by obtain ⟨m, hm⟩ := k0; exact DataW.trod_lt m _ _ _ hm
  obtain ⟨fuel0, hf0⟩ := h0
  obtain ⟨z0, hK0, hB0⟩ := opens_T27 H enc W _ _ _ fuel0 _ _ hf0
  have hK0_ : k27.K W z0 cs0 := hK0
  obtain ⟨A0_8, c0_8, rfl, l0_8, g0_8⟩ := k27_open hK0_
  obtain ⟨a1, len1, cap1, rfl⟩ := okWide_slice Try.underlying22 (hval 1 22 v1 rfl rfl)
  have k1 := h1
  have lt1 : ∀ x ∈ p1, x.block < W.heap.size := by obtain ⟨m, hm⟩ := k1; exact DataW.trod_lt m _ _ _ hm
  obtain ⟨fuel1, hf1⟩ := h1
  obtain ⟨z1, hK1, hB1⟩ := (opens_slice Try.underlying22 (show Try.prog.cellsOf 93 = (k93).sz from (by kernel_rfl : Try.prog.cellsOf 93 = 2)) opens_T93) H enc W _ _ _ fuel1 _ _ hf1
  obtain ⟨A1, c1, he1, l1, g1⟩ := hK1
  obtain ⟨rfl, rfl, rfl⟩ : a1 = A1 ∧ len1 = z1.length ∧ cap1 = c1 := by simpa [Value.cells] using he1
  clear hA0 hval0 hsz0
  obtain ⟨k, hh⟩ := Pure.FnExactOffcutsOf z0.f0 z0.f1 z0.f2 z0.f3.f0 z0.f3.f1 z0.f3.f2 z0.f4 z0.f5 z0.f6 z1 hB0 hB1
  refine (PFnExactOffcutsOf.laws_FnExactOffcutsOf.calls k z0.f0 z0.f1 z0.f2 z0.f3.f0 z0.f3.f1 z0.f3.f2 z0.f4 z0.f5 _ _ z0.f6 _ _ z1 true W g0_8 l0_8 g1 l1 hh).mono fun e W' ⟨he, bel0⟩ => ?_
  have bel : Below W.heap.size W W' := bel0
  subst he
  exact ⟨_, rfl, _, _, _, [], _, [], hW', trodAll_mk1 (shut_bool Try.underlying4 _), (trodAll_cons_mk (Below.trod laidOut (by kernel_rfl) (of_decide_eq_true (by kernel_rfl)) k0 bel lt0) (trodAll_cons_mk (Below.trod laidOut (by kernel_rfl) (of_decide_eq_true (by kernel_rfl)) k1 bel lt1) trodAll_mk0)), rfl, bel.frame _, fun h => by cases h⟩
theorem over : Rows.fnExactOffcutsOfRow.holds Try.pinned (OpenSpec.ofChange Rows.fnExactOffcutsOfSpec) :=
  OpenClaim.holds_of_wide 5 Try.f5 rfl rfl rfl rfl rfl rfl rfl ⟨rfl, rfl, rfl, rfl, rfl⟩ rfl rfl rfl rfl rfl (by kernel_rfl) Try.func5 (by kernel_rfl)
    (of_decide_eq_true (by kernel_rfl)) (by unfold Func.isWrapper; first | (rw [if_pos (by decide +kernel)]; kernel_rfl) | (rw [if_neg (by decide +kernel)]; exact ⟨rfl, rfl⟩))
    (fun os started H enc _ => lifted os started H enc)
theorem proved : Rows.FnExactOffcutsOfSaid := over
#print axioms proved
end Go.Proofs.Ytfiiakhpdkdebaa.fnExactOffcutsOf
namespace Go.Proofs.Ytfiiakhpdkdebaa
theorem fnExactOffcutsOf_holds : Rows.FnExactOffcutsOfSaid := fnExactOffcutsOf.proved
end Go.Proofs.Ytfiiakhpdkdebaa

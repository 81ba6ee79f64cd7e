/- For every input the law FnBevel returns true, and its arguments read afterwards as they read before. No condition. -/
import Derived.Test.YtlplkcdlnplioaaDoorTie
import Derived.Test.YtlplkcdlnplioaaDoorCards
import Derived.Test.YtlplkcdlnplioaaDoorRows
import Derived.Test.YtlplkcdlnplioaaDoorPFnBevelx3
import Derived.Test.YtlplkcdlnplioaaDoorPureFnBevel
import Derived.WalkKit
import Derived.ProofKit
import Derived.OpenShut
import Derived.ShutString
import Derived.ChangeOld
import Derived.Below
import Derived.SizedLaws
import Derived.Deep.Slices
import Derived.ChangeVars
import Derived.LaidMore
import Derived.LaidLaws
import Derived.LaidHandle
import Derived.MakeChecks
import Derived.Carry
import Derived.SevenTiedAt
namespace Go.Proofs.YtlplkcdlnplioaaDoor.fnBevel
open Go.ChangeShapes Go.WideShapes Go.ChangeAt Go.RowKit
open Go.ChangeMaps (open_string shut_string)
open Go.Proofs.YtlplkcdlnplioaaDoor.PFnBevel Go.Proofs.YtlplkcdlnplioaaDoorW.PrintWords
set_option linter.unusedVariables false
set_option linter.unusedSimpArgs false
theorem own : ownKnob Tryd.prog.godebug = none := by kernel_rfl
theorem laidOut : laidOutB Tryd.prog = true := by kernel_rfl
theorem table_of_laid {P : Program} {W : World} {name : String} {D : DataW Unit} {g T E n : Nat} {k : IntKind} (tab : List Int)
    (hp : ([(name, D)].all fun x => x.2.handleName?.isNone) = true) (h : laidMetH P [(name, D)] W) (hg : P.globalNamed name = some g) (ht : (P.globals[g]?).map (·.type) = some T)
    (hT : P.underlying T = some (.array n E)) (hE : P.underlying E = some (.int k)) (hc : P.cellsOf E = 1) (hD : D = .agg (tab.map fun z => .lit (.int k z))) (hn : tab.length = n) (hm : n ≤ 9223372036854775807) :
    (Kd.int k).C W (some ⟨g, 0, none⟩) tab.length tab := by
  rw [MakeChecks.laidMetH_plain _ _ _ hp] at h
  obtain ⟨ps, ⟨g0, t0, cs0, f0, p0, q0, hg0, ht0, hv0, hd0, _, _⟩, _, _⟩ := h
  obtain rfl := Option.some.inj (hg.symm.trans hg0)
  obtain rfl := Option.some.inj (ht.symm.trans ht0)
  obtain ⟨xs, m, rfl, hx, hl, hxn, hel⟩ := DataW.trod_array hT hd0
  rw [hD] at hx
  have hx1 : tab.map (fun z => (DataW.lit (.int k z) : DataW Unit)) = xs.map (·.1) := by
    injection hx with h1 _
    injection h1
  refine ⟨rfl, by omega, fun _ => ⟨_, rfl, fun j p hj => ⟨[.int k p], rfl, rfl, fun i u hu => ?_⟩⟩⟩
  obtain ⟨hjl, hjp⟩ := List.getElem?_eq_some_iff.1 hj
  cases i with
  | succ i => simp at hu
  | zero =>
    obtain rfl : Value.int k p = u := by simpa using hu
    have he := hel j (by omega)
    rw [hc, List.getElem?_eq_getElem (by omega)] at he
    obtain ⟨z, e1, e2, _⟩ := DataW.trod_int hE he
    have hz : z = p := by
      have h2 := congrArg (·[j]?) hx1
      simp only [List.getElem?_map, hj, List.getElem?_eq_getElem (show j < xs.length by omega), Option.map_some] at h2
      rw [e2] at h2
      simpa using h2.symm
    subst hz
    have h3 : cs0.toList[j]? = some (.int k z) := by
      have := congrArg (·[0]?) e1
      simpa [List.getElem?_take, List.getElem?_drop] using this
    rw [show j * (Kd.int k).sz + 0 = j from by show j * 1 + 0 = j; omega]
    rw [WideShapes.add_plain, Nat.zero_add, World.var?_cell hg hv0 j, ← Array.getElem?_toList]
    exact h3
theorem vars_stay {H : Type} {enc : TypeId × Value → H} {P : Program} {W W' : World} {name : String} {g T fuel : Nat} {cs : Array Value} {d : DataW H} {p : List MemPlace} {sp : Nat → Bool} (hsp : sp = fun b => decide (b < W.heap.size))
    (hl : laidOutB P = true) (hr : P.readableRec T = true) (hrow : T < P.types.size) (hg : P.globalNamed name = some g) (ht : (P.globals[g]?).map (·.type) = some T) (hv : W.var? P name = some cs)
    (hd : DataW.trod enc P W 0 (fun _ => true) true fuel T cs.toList = some (d, p)) (hp : ∀ x ∈ p, x.block < W.heap.size) (hb : Below W.heap.size W W') :
    ∃ pv, DataW.TrodVars enc P W' sp [name] [d] pv := by
  subst hsp
  obtain ⟨m, hm⟩ := Below.trod hl hr hrow (v := .agg cs) ⟨fuel, hd⟩ hb hp
  refine ⟨_, trodVars_mk1 hg ht (cs := cs) ?_ hm⟩
  simp only [World.var?, hg, Option.bind_some] at hv ⊢
  rw [hb.block g ?_]
  · exact hv
  · cases hh : W.heap[g]? with
    | none => rw [hh] at hv; cases hv
    | some o => exact (Array.getElem?_eq_some_iff.1 hh).1

theorem gNum : Tryd.prog.globalNamed "loop.example/g00956/impl.tangents" = some 0 := by kernel_rfl
theorem gTy : (Tryd.prog.globals[0]?).map (·.type) = some 39 := by kernel_rfl
theorem door_met (os : Os) (args : Array Value) : laidMetH Tryd.prog Rows.fnBevelRow.laid ((World.doorLaid Tryd.prog 400 os).forCall (fun _ _ => 0) ⟨#[], args, []⟩).memory :=
  laidMetH_of_parts3 (fuel := 8) (laidMet_of_run' 8 (by kernel_rfl) (by kernel_rfl)) (by kernel_rfl) (by kernel_rfl)
set_option maxRecDepth 100000 in
theorem lifted (os : Os) (started : os.Started) (H : Type) (enc : TypeId × Value → H) :
    ReturnsInHanded {} Tryd.checked os 9 .any (fun w args => (Rows.fnBevelSpec.pre enc Tryd.prog Tryd.f9 [] false w args ∧ laidMetH Tryd.prog Rows.fnBevelRow.laid w) ∧ sizedMet enc Tryd.prog Tryd.f9 (OpenSpec.ofChange Rows.fnBevelSpec) false w args) (Rows.fnBevelSpec.post enc Tryd.prog Tryd.f9 false true false false) := by
  refine returnsInHanded_of_change_and (C := Tryd.checked) (X := fun w _ => laidMetH Tryd.prog Rows.fnBevelRow.laid w) (fun _ _ _ hh h => h.of_heap hh) own started (by kernel_rfl) Tryd.func9
    (ChangeSpec.witness_shaped (enc := enc) (C := Tryd.checked) (os := os) (X := fun w _ => laidMetH Tryd.prog Rows.fnBevelRow.laid w) false (World.doorLaid Tryd.prog 400 os) #[.slice none 0 0] 8 rfl (World.shaped_of_RefB (by kernel_rfl) (by kernel_rfl)) (by kernel_rfl) (by kernel_rfl) (by kernel_rfl) (door_met os _)) ?_
  intro W base args ds gs before hval0 hW hcnd hsz0 hLaid _
  have hval : ∀ (j : Nat) t v, Tryd.f9.params[j]? = some t → args[j]? = some v → Value.okWide Tryd.prog W .any base t v := hval0
  have hW' := hW
  obtain ⟨p, q, hA0, hV, rfl, hfz, hnd⟩ := hW
  have hA : DataW.TrodAll enc Tryd.prog W 0 (fun _ => true) true Tryd.f9.params.toList args.toList ds p := hA0
  rw [Tryd.params9] at hA hval
  obtain ⟨v0, vs0, d0, ds0, p0, q0, hargs, rfl, rfl, h0, r0⟩ := trodAll_cons hA
  obtain ⟨rfl, rfl, rfl⟩ := trodAll_nil r0
  obtain rfl : args = #[v0] := by cases args; simp_all
  have hV1 : DataW.TrodVars enc Tryd.prog W (fun _ => true) ["loop.example/g00956/impl.tangents"] gs q := hV
  obtain ⟨gg, gt, gcs, gfuel, gd, gp, rfl, hgg, hgt, hgv, hgd, rfl⟩ := trodVars_one hV1
  obtain rfl := Option.some.inj (gNum.symm.trans hgg)
  obtain rfl := Option.some.inj (gTy.symm.trans hgt)
  have hgp : ∀ x ∈ gp, x.block < W.heap.size := DataW.trod_lt _ _ _ _ hgd
  have hG0 : Kd.C (Kd.int .i64) W (some ⟨0, 0, none⟩) gt0.length gt0 := table_of_laid gt0 (by kernel_rfl) hLaid gNum gTy Tryd.underlying39 Tryd.underlying2 (by kernel_rfl) rfl rfl (by decide)
  obtain ⟨a0, len0, cap0, rfl⟩ := okWide_slice Tryd.underlying32 (hval 0 32 v0 rfl rfl)
  have k0 := h0
  have lt0 : ∀ x ∈ p0, x.block < W.heap.size := by obtain ⟨m, hm⟩ := k0; exact DataW.trod_lt m _ _ _ hm
  obtain ⟨fuel0, hf0⟩ := h0
  obtain ⟨z0, hK0, hB0⟩ := (opens_slice Tryd.underlying32 (show Tryd.prog.cellsOf 5 = ((Kd.int .u8)).sz from (by kernel_rfl : Tryd.prog.cellsOf 5 = 1)) (opens_int Tryd.underlying5)) H enc W _ _ _ fuel0 _ _ hf0
  obtain ⟨A0, c0, he0, l0, g0⟩ := hK0
  obtain ⟨rfl, rfl, rfl⟩ : a0 = A0 ∧ len0 = z0.length ∧ cap0 = c0 := by simpa [Value.cells] using he0
  clear hA0 hval0 hsz0
  obtain ⟨k, hh⟩ := Pure.FnBevel z0 hB0
  refine (PFnBevel.laws_FnBevel.calls k _ _ z0 true W g0 l0 hG0 hh).mono fun e W' ⟨he, bel0⟩ => ?_
  have bel : Below W.heap.size W W' := bel0
  subst he
  obtain ⟨pv, hpv⟩ := vars_stay (sp := fun b => decide (b < W.heap.size)) rfl laidOut (by kernel_rfl) (of_decide_eq_true (by kernel_rfl)) hgg hgt hgv hgd hgp bel
  exact ⟨_, rfl, _, _, _, [], _, pv, hW', trodAll_mk1 (shut_bool Tryd.underlying4 _), (trodAll_cons_mk (Below.trod laidOut (by kernel_rfl) (of_decide_eq_true (by kernel_rfl)) k0 bel lt0) trodAll_mk0), hpv, bel.frame _, fun h => by cases h⟩
theorem over : Rows.fnBevelRow.holds Tryd.pinned (OpenSpec.ofChange Rows.fnBevelSpec) :=
  OpenClaim.holds_of_wide 9 Tryd.f9 rfl rfl rfl rfl rfl rfl rfl ⟨rfl, rfl, rfl, rfl, rfl⟩ rfl rfl rfl rfl rfl (by kernel_rfl) Tryd.func9 (by kernel_rfl)
    (of_decide_eq_true (by kernel_rfl)) (by unfold Func.isWrapper; first | (rw [if_pos (by decide +kernel)]; kernel_rfl) | (rw [if_neg (by decide +kernel)]; exact ⟨rfl, rfl⟩))
    (fun os started H enc _ => lifted os started H enc)
theorem proved : Rows.FnBevelSaid := over
theorem card_proved : Rows.FnBevelCardSaid :=
  Claim7.holds_tied_plain_at .later [] [.data] true (true, "a2bff1b808e28daa25b10ef0475277b2cf7f1b400dd56bb4b276c17de560c7f2") false
    over (fun _ h => by cases h) (by kernel_rfl) (fun _ h => by cases h) fnBevel_row_tie rfl ⟨rfl, rfl⟩ (by kernel_rfl) rfl
    (fun f fn hf hfn => by
      obtain rfl : f = 9 := Option.some.inj ((show Tryd.prog.funcNamed "loop.example/g00956/laws.FnBevel" = some 9 by kernel_rfl).symm.trans hf) |>.symm
      obtain rfl : fn = Tryd.f9 := (Option.some.inj (Tryd.func9.symm.trans hfn)).symm
      exact ⟨by kernel_rfl, fun j t ht => by
        rw [Tryd.params9] at ht
        have hm : t ∈ [32] := by simpa using Array.mem_of_getElem? ht
        have hall : ([32].all fun u => !Tryd.prog.wantsStandIn u) = true := by kernel_rfl
        exact (show Tryd.prog.wantsStandIn t = false by simpa using List.all_eq_true.1 hall t hm)⟩)
    (by kernel_rfl)
#print axioms card_proved
end Go.Proofs.YtlplkcdlnplioaaDoor.fnBevel
namespace Go.Proofs.YtlplkcdlnplioaaDoor
/-- The row, under a short name, for the claim. -/
theorem fnBevel_holds : Rows.FnBevelCardSaid := fnBevel.card_proved
end Go.Proofs.YtlplkcdlnplioaaDoor

/- For every input the law FnExactPacketText returns true, and its arguments read afterwards as they read before. No condition. -/
import Derived.Test.YtgcfokcmjgoeeaaDoorTie
import Derived.Test.YtgcfokcmjgoeeaaDoorCards
import Derived.Test.YtgcfokcmjgoeeaaDoorRows
import Derived.Test.YtgcfokcmjgoeeaaDoorPFnExactPacketTextx7
import Derived.Test.YtgcfokcmjgoeeaaDoorPureFnExactPacketText
import Derived.WalkKit
import Derived.ProofKit
import Derived.OpenShut
import Derived.ShutString
import Derived.ChangeOld
import Derived.Below
import Derived.SizedLaws
import Derived.Deep.Slices
import Derived.ChangeVars
import Derived.LaidMore
import Derived.LaidLaws
import Derived.LaidHandle
import Derived.MakeChecks
import Derived.Carry
import Derived.SevenTiedAt
import Derived.Lib.LaidTab
namespace Go.Proofs.YtgcfokcmjgoeeaaDoor.fnExactPacketText
open Go.ChangeShapes Go.WideShapes Go.ChangeAt Go.RowKit
open Go.ChangeMaps (open_string shut_string)
open Go.Proofs.YtgcfokcmjgoeeaaDoor.PFnExactPacketText Go.Proofs.YtgcfokcmjgoeeaaDoorW.PrintWords
set_option linter.unusedVariables false
set_option linter.unusedSimpArgs false
theorem own : ownKnob Tryd.prog.godebug = none := by kernel_rfl
theorem laidOut : laidOutB Tryd.prog = true := by kernel_rfl
theorem opens_T65 : Opens Tryd.prog 65 k65 B65 := by
  intro H enc w base spare held fuel cs x h
  obtain ⟨xs, n, _, _, hcl, hlen, hf⟩ := DataW.trod_struct Tryd.underlying65 h
  have hcl2 : cs.length = 3 := hcl.trans (by kernel_rfl)
  have hl : xs.length = 3 := hlen
  have e0 : DataW.trod enc Tryd.prog w base spare held n 9 ((cs.drop 0).take (Tryd.prog.cellsOf 9)) = some (xs[0]'(by omega)) := (hf 0 _ rfl).trans (List.getElem?_eq_getElem (by omega))
  rw [(by kernel_rfl : Tryd.prog.cellsOf 9 = 1)] at e0
  obtain ⟨z0, k0, b0⟩ := (opens_string Tryd.underlying9) H enc w base spare held n _ _ e0
  have e1 : DataW.trod enc Tryd.prog w base spare held n 2 ((cs.drop 1).take (Tryd.prog.cellsOf 2)) = some (xs[1]'(by omega)) := (hf 1 _ rfl).trans (List.getElem?_eq_getElem (by omega))
  rw [(by kernel_rfl : Tryd.prog.cellsOf 2 = 1)] at e1
  obtain ⟨z1, k1, b1⟩ := (opens_int Tryd.underlying2) H enc w base spare held n _ _ e1
  have e2 : DataW.trod enc Tryd.prog w base spare held n 2 ((cs.drop 2).take (Tryd.prog.cellsOf 2)) = some (xs[2]'(by omega)) := (hf 2 _ rfl).trans (List.getElem?_eq_getElem (by omega))
  rw [(by kernel_rfl : Tryd.prog.cellsOf 2 = 1)] at e2
  obtain ⟨z2, k2, b2⟩ := (opens_int Tryd.underlying2) H enc w base spare held n _ _ e2
  exact ⟨⟨z0, z1, z2⟩, (show ((Kd.pair Kd.string (Kd.pair (Kd.int .i64) (Kd.int .i64)))).K w (z0, z1, z2) (cs.drop 0) from K_pair 0 k0 (K_pair 1 k1 (K_last 2 hcl2 k2))), ⟨b0, b1, b2⟩⟩
theorem opens_T32 : Opens Tryd.prog 32 k32 B32 := by
  intro H enc w base spare held fuel cs x h
  obtain ⟨xs, n, _, _, hcl, hlen, hf⟩ := DataW.trod_struct Tryd.underlying32 h
  have hcl2 : cs.length = 2 := hcl.trans (by kernel_rfl)
  have hl : xs.length = 2 := hlen
  have e0 : DataW.trod enc Tryd.prog w base spare held n 29 ((cs.drop 0).take (Tryd.prog.cellsOf 29)) = some (xs[0]'(by omega)) := (hf 0 _ rfl).trans (List.getElem?_eq_getElem (by omega))
  rw [(by kernel_rfl : Tryd.prog.cellsOf 29 = 1)] at e0
  obtain ⟨z0, k0, b0⟩ := (opens_slice Tryd.underlying29 (show Tryd.prog.cellsOf 65 = (k65).sz from (by kernel_rfl : Tryd.prog.cellsOf 65 = 3)) opens_T65) H enc w base spare held n _ _ e0
  have e1 : DataW.trod enc Tryd.prog w base spare held n 30 ((cs.drop 1).take (Tryd.prog.cellsOf 30)) = some (xs[1]'(by omega)) := (hf 1 _ rfl).trans (List.getElem?_eq_getElem (by omega))
  rw [(by kernel_rfl : Tryd.prog.cellsOf 30 = 1)] at e1
  obtain ⟨z1, k1, b1⟩ := (opens_slice Tryd.underlying30 (show Tryd.prog.cellsOf 2 = ((Kd.int .i64)).sz from (by kernel_rfl : Tryd.prog.cellsOf 2 = 1)) (opens_int Tryd.underlying2)) H enc w base spare held n _ _ e1
  exact ⟨⟨z0, z1⟩, (show ((Kd.pair (Kd.slice 65 k65) (Kd.slice 2 (Kd.int .i64)))).K w (z0, z1) (cs.drop 0) from K_pair 0 k0 (K_last 1 hcl2 k1)), ⟨b0, b1⟩⟩
theorem table_of_laid {P : Program} {W : World} {name : String} {D : DataW Unit} {g T E n : Nat} {k : IntKind} (tab : List Int)
    (hp : ([(name, D)].all fun x => x.2.handleName?.isNone) = true) (h : laidMetH P [(name, D)] W) (hg : P.globalNamed name = some g) (ht : (P.globals[g]?).map (·.type) = some T)
    (hT : P.underlying T = some (.array n E)) (hE : P.underlying E = some (.int k)) (hc : P.cellsOf E = 1) (hD : D = .agg (tab.map fun z => .lit (.int k z))) (hn : tab.length = n) (hm : n ≤ 9223372036854775807) :
    (Kd.int k).C W (some ⟨g, 0, none⟩) tab.length tab := by
  rw [MakeChecks.laidMetH_plain _ _ _ hp] at h
  obtain ⟨ps, ⟨g0, t0, cs0, f0, p0, q0, hg0, ht0, hv0, hd0, _, _⟩, _, _⟩ := h
  obtain rfl := Option.some.inj (hg.symm.trans hg0)
  obtain rfl := Option.some.inj (ht.symm.trans ht0)
  obtain ⟨xs, m, rfl, hx, hl, hxn, hel⟩ := DataW.trod_array hT hd0
  rw [hD] at hx
  have hx1 : tab.map (fun z => (DataW.lit (.int k z) : DataW Unit)) = xs.map (·.1) := by
    injection hx with h1 _
    injection h1
  refine ⟨rfl, by omega, fun _ => ⟨_, rfl, fun j p hj => ⟨[.int k p], rfl, rfl, fun i u hu => ?_⟩⟩⟩
  obtain ⟨hjl, hjp⟩ := List.getElem?_eq_some_iff.1 hj
  cases i with
  | succ i => simp at hu
  | zero =>
    obtain rfl : Value.int k p = u := by simpa using hu
    have he := hel j (by omega)
    rw [hc, List.getElem?_eq_getElem (by omega)] at he
    obtain ⟨z, e1, e2, _⟩ := DataW.trod_int hE he
    have hz : z = p := by
      have h2 := congrArg (·[j]?) hx1
      simp only [List.getElem?_map, hj, List.getElem?_eq_getElem (show j < xs.length by omega), Option.map_some] at h2
      rw [e2] at h2
      simpa using h2.symm
    subst hz
    have h3 : cs0.toList[j]? = some (.int k z) := by
      have := congrArg (·[0]?) e1
      simpa [List.getElem?_take, List.getElem?_drop] using this
    rw [show j * (Kd.int k).sz + 0 = j from by show j * 1 + 0 = j; omega]
    rw [WideShapes.add_plain, Nat.zero_add, World.var?_cell hg hv0 j, ← Array.getElem?_toList]
    exact h3
theorem vars_stay {H : Type} {enc : TypeId × Value → H} {P : Program} {W W' : World} {name : String} {g T fuel : Nat} {cs : Array Value} {d : DataW H} {p : List MemPlace} {sp : Nat → Bool} (hsp : sp = fun b => decide (b < W.heap.size))
    (hl : laidOutB P = true) (hr : P.readableRec T = true) (hrow : T < P.types.size) (hg : P.globalNamed name = some g) (ht : (P.globals[g]?).map (·.type) = some T) (hv : W.var? P name = some cs)
    (hd : DataW.trod enc P W 0 (fun _ => true) true fuel T cs.toList = some (d, p)) (hp : ∀ x ∈ p, x.block < W.heap.size) (hb : Below W.heap.size W W') :
    ∃ pv, DataW.TrodVars enc P W' sp [name] [d] pv := by
  subst hsp
  obtain ⟨m, hm⟩ := Below.trod hl hr hrow (v := .agg cs) ⟨fuel, hd⟩ hb hp
  refine ⟨_, trodVars_mk1 hg ht (cs := cs) ?_ hm⟩
  simp only [World.var?, hg, Option.bind_some] at hv ⊢
  rw [hb.block g ?_]
  · exact hv
  · cases hh : W.heap[g]? with
    | none => rw [hh] at hv; cases hv
    | some o => exact (Array.getElem?_eq_some_iff.1 hh).1
theorem tab_of_laidVars {P : Program} {W : World} {name : String} {k : IntKind} {zs : List Int} {g t e n : Nat} (hg : P.globalNamed name = some g) (hty : (P.globals[g]?).map (·.type) = some t) (ht : P.underlying t = some (.array n e)) (he : P.underlying e = some (.int k)) (hce : P.cellsOf e = 1) (hct : P.cellsOf t = n) :
    ∀ (l : List (String × DataW Unit)) (ps : List MemPlace), DataW.LaidVars P W l ps → (name, Go.Lib.tabData k zs) ∈ l → Go.Lib.TabIs P W name k zs
  | [], _, _, hm => by cases hm
  | (nm, d) :: r, ps, h, hm => by
    obtain ⟨g', t', cs, fuel, p, q, hg', ht', hvar, hd, hr, _⟩ := h
    rcases List.mem_cons.1 hm with heq | hm
    · injection heq with h1 h2
      subst h1
      subst h2
      obtain rfl := Option.some.inj (hg.symm.trans hg')
      obtain rfl := Option.some.inj (hty.symm.trans ht')
      unfold Go.Lib.TabIs
      rw [hvar, ← Go.Lib.cells_of_tab ht he hce hct hd]
    · exact tab_of_laidVars hg hty ht he hce hct r q hr hm

theorem gNum : Tryd.prog.globalNamed "internal/strconv.uint64pow10" = some 0 := by kernel_rfl
theorem gTy : (Tryd.prog.globals[0]?).map (·.type) = some 112 := by kernel_rfl
theorem door_met (os : Os) (args : Array Value) : laidMetH Tryd.prog Rows.fnExactPacketTextRow.laid ((World.doorLaid Tryd.prog 400 os).forCall (fun _ _ => 0) ⟨#[], args, []⟩).memory :=
  laidMetH_of_parts3 (fuel := 8) (laidMet_of_run' 8 (by kernel_rfl) (by kernel_rfl)) (by kernel_rfl) (by kernel_rfl)
set_option maxRecDepth 100000 in
theorem lifted (os : Os) (started : os.Started) (H : Type) (enc : TypeId × Value → H) :
    ReturnsInHanded {} Tryd.checked os 4 .any (fun w args => (Rows.fnExactPacketTextSpec.pre enc Tryd.prog Tryd.f4 [] false w args ∧ laidMetH Tryd.prog Rows.fnExactPacketTextRow.laid w) ∧ sizedMet enc Tryd.prog Tryd.f4 (OpenSpec.ofChange Rows.fnExactPacketTextSpec) false w args) (Rows.fnExactPacketTextSpec.post enc Tryd.prog Tryd.f4 false true false false) := by
  refine returnsInHanded_of_change_and (C := Tryd.checked) (X := fun w _ => laidMetH Tryd.prog Rows.fnExactPacketTextRow.laid w) (fun _ _ _ hh h => h.of_heap hh) own started (by kernel_rfl) Tryd.func4
    (ChangeSpec.witness_shaped (enc := enc) (C := Tryd.checked) (os := os) (X := fun w _ => laidMetH Tryd.prog Rows.fnExactPacketTextRow.laid w) false (World.doorLaid Tryd.prog 400 os) #[.agg #[.slice none 0 0, .slice none 0 0]] 8 rfl (World.shaped_of_RefB (by kernel_rfl) (by kernel_rfl)) (by kernel_rfl) (by kernel_rfl) (by kernel_rfl) (door_met os _)) ?_
  intro W base args ds gs before hval0 hW hcnd hsz0 hLaid _
  have hval : ∀ (j : Nat) t v, Tryd.f4.params[j]? = some t → args[j]? = some v → Value.okWide Tryd.prog W .any base t v := hval0
  have hW' := hW
  obtain ⟨p, q, hA0, hV, rfl, hfz, hnd⟩ := hW
  have hA : DataW.TrodAll enc Tryd.prog W 0 (fun _ => true) true Tryd.f4.params.toList args.toList ds p := hA0
  rw [Tryd.params4] at hA hval
  obtain ⟨v0, vs0, d0, ds0, p0, q0, hargs, rfl, rfl, h0, r0⟩ := trodAll_cons hA
  obtain ⟨rfl, rfl, rfl⟩ := trodAll_nil r0
  obtain rfl : args = #[v0] := by cases args; simp_all
  obtain ⟨rfl, rfl⟩ := trodVars_none hV
  have hL0_ := hLaid
  rw [MakeChecks.laidMetH_plain _ _ _ (by kernel_rfl)] at hL0_
  have hG0 : Go.Lib.TabIs Tryd.prog W "internal/strconv.uint64pow10" .u64 Go.Lib.pow10Tab := by
    obtain ⟨ps_, hlv_, _⟩ := hL0_
    exact tab_of_laidVars gNum gTy Tryd.underlying112 Tryd.underlying100 (by kernel_rfl) (by kernel_rfl) _ _ hlv_ (by repeat first | exact List.mem_cons_self | apply List.mem_cons_of_mem)
  obtain ⟨cs0, rfl, _⟩ := okWide_struct Tryd.underlying32 (hval 0 32 v0 rfl rfl)
  obtain ⟨cs0⟩ := cs0
  have k0 := h0
  have lt0 : ∀ x ∈ p0, x.block < W.heap.size := by obtain ⟨m, hm⟩ := k0; exact DataW.trod_lt m _ _ _ hm
  obtain ⟨fuel0, hf0⟩ := h0
  obtain ⟨z0, hK0, hB0⟩ := opens_T32 H enc W _ _ _ fuel0 _ _ hf0
  have hK0_ : k32.K W z0 cs0 := hK0
  obtain ⟨A0_0, c0_0, A0_1, c0_1, rfl, l0_0, g0_0, l0_1, g0_1⟩ := k32_open hK0_
  clear hA0 hval0 hsz0
  obtain ⟨k, hh⟩ := Pure.FnExactPacketText z0.f0 z0.f1 hB0
  refine (PFnExactPacketText.laws_FnExactPacketText.calls k _ _ z0.f0 _ _ z0.f1 true W g0_0 l0_0 g0_1 l0_1 hG0 hh).mono fun e W' ⟨he, bel0⟩ => ?_
  have bel : Below W.heap.size W W' := bel0
  subst he
  exact ⟨_, rfl, _, _, _, [], _, [], hW', trodAll_mk1 (shut_bool Tryd.underlying4 _), (trodAll_cons_mk (Below.trod laidOut (by kernel_rfl) (of_decide_eq_true (by kernel_rfl)) k0 bel lt0) trodAll_mk0), rfl, bel.frame _, fun h => by cases h⟩
theorem over : Rows.fnExactPacketTextRow.holds Tryd.pinned (OpenSpec.ofChange Rows.fnExactPacketTextSpec) :=
  OpenClaim.holds_of_wide 4 Tryd.f4 rfl rfl rfl rfl rfl rfl rfl ⟨rfl, rfl, rfl, rfl, rfl⟩ rfl rfl rfl rfl rfl (by kernel_rfl) Tryd.func4 (by kernel_rfl)
    (of_decide_eq_true (by kernel_rfl)) (by unfold Func.isWrapper; first | (rw [if_pos (by decide +kernel)]; kernel_rfl) | (rw [if_neg (by decide +kernel)]; exact ⟨rfl, rfl⟩))
    (fun os started H enc _ => lifted os started H enc)
theorem proved : Rows.FnExactPacketTextSaid := over
theorem card_proved : Rows.FnExactPacketTextCardSaid :=
  Claim7.holds_tied_plain_at .later [] [.data, .data, .data] true (true, "765045d44b09e8afa9a3092cfcf5f5b500a6275658abacd73996c39feb22d4d2") false
    over (fun _ h => by cases h) (by kernel_rfl) (fun _ h => by cases h) fnExactPacketText_row_tie rfl ⟨rfl, rfl⟩ (by kernel_rfl) rfl
    (fun f fn hf hfn => by
      obtain rfl : f = 4 := Option.some.inj ((show Tryd.prog.funcNamed "loop.example/g00956/laws.FnExactPacketText" = some 4 by kernel_rfl).symm.trans hf) |>.symm
      obtain rfl : fn = Tryd.f4 := (Option.some.inj (Tryd.func4.symm.trans hfn)).symm
      exact ⟨by kernel_rfl, fun j t ht => by
        rw [Tryd.params4] at ht
        have hm : t ∈ [32] := by simpa using Array.mem_of_getElem? ht
        have hall : ([32].all fun u => !Tryd.prog.wantsStandIn u) = true := by kernel_rfl
        exact (show Tryd.prog.wantsStandIn t = false by simpa using List.all_eq_true.1 hall t hm)⟩)
    (by kernel_rfl)
#print axioms card_proved
end Go.Proofs.YtgcfokcmjgoeeaaDoor.fnExactPacketText
namespace Go.Proofs.YtgcfokcmjgoeeaaDoor
/-- The row, under a short name, for the claim. -/
theorem fnExactPacketText_holds : Rows.FnExactPacketTextCardSaid := fnExactPacketText.card_proved
end Go.Proofs.YtgcfokcmjgoeeaaDoor

/- What each function that a law reaches comes to, and the proof that its walk comes to it; laid by a program of this session. No condition. -/
import Derived.Test.YtpkjalhfioajjaaZFnExactNormalTiling0
import Derived.Test.YtpkjalhfioajjaaZFnExactNormalTiling1
import Derived.Test.YtpkjalhfioajjaaZFnExactNormalTiling5
import Derived.Test.YtpkjalhfioajjaaZFnExactNormalTiling9
namespace Go.Proofs.Ytpkjalhfioajjaa.PFnExactNormalTiling
open Go.RowKit Go.Proofs.YtpkjalhfioajjaaW.PrintWords Go.Proofs.YtpkjalhfioajjaaW.PrintLast Go.Proofs.YtpkjalhfioajjaaW.PrintMore
attribute [local go_sem] max2_int min2_int max_two min_two max_three min_three max_four min_four
set_option linter.unusedVariables false
set_option linter.unusedSimpArgs false
mutual
def laws_FnExactNormalTiling.j0 : Nat → Int → Int → Bool → Int → Int → List Int → Int → Int → List Int → Int → Int → List Int → Int → Int → List Int → Option (Bool)
  | 0, _, _, _, _, _, _, _, _, _, _, _, _, _, _, _ => none
  | k + 1, x5, x8, x40, x262000, x262001, x262002, x275000, x275001, x275002, x281000, x281001, x281002, x288000, x288001, x288002 => if x40 = true then (some false) else ((laws_toTiling.f k x262000 x262001 x262002).bind fun bt289 => ((laws_eqTiling.f k x281000 x281001 x281002 bt289.1 bt289.2.1 bt289.2.2).bind fun t294 => (if t294 = true then ((laws_markTiling.f k x281000 x281001 x281002 1).bind fun bt295 => (if bt295.1 < 0 then (laws_FnExactNormalTiling.j1 k x5 true x262000 x262001 x262002 x275000 x275001 x275002 x288000 x288001 x288002) else ((laws_eqTiling.f k x288000 x288001 x288002 x275000 x275001 x275002).bind fun t297 => (if t297 = true then (laws_FnExactNormalTiling.j1 k x5 (x8 != x5) x262000 x262001 x262002 x275000 x275001 x275002 x288000 x288001 x288002) else (laws_FnExactNormalTiling.j1 k x5 true x262000 x262001 x262002 x275000 x275001 x275002 x288000 x288001 x288002))))) else (some false))))
def laws_FnExactNormalTiling.j1 : Nat → Int → Bool → Int → Int → List Int → Int → Int → List Int → Int → Int → List Int → Option (Bool)
  | 0, _, _, _, _, _, _, _, _, _, _, _ => none
  | k + 1, x5, x61, x262000, x262001, x262002, x275000, x275001, x275002, x288000, x288001, x288002 => if x61 = true then (some false) else ((laws_markTiling.f k x288000 x288001 x288002 1).bind fun bt298 => ((laws_heldTiling.f k x288000 x288001 bt298.2 1).bind fun t300 => (if t300 < 0 then (some false) else (if t300 = bt298.1 then ((laws_toTiling.f k x262000 x262001 x262002).bind fun bt301 => ((impl_NormalTiling.f k bt301.1 bt301.2.1 bt301.2.2).bind fun bt306 => ((laws_eqTiling.f k bt306.1 bt306.2.1 bt306.2.2.1 x275000 x275001 x275002).bind fun t313 => (if t313 = true then (laws_FnExactNormalTiling.j2 k bt298.1 (bt306.2.2.2 != x5) x288000 x288001 bt298.2) else (laws_FnExactNormalTiling.j2 k bt298.1 true x288000 x288001 bt298.2))))) else (some false)))))
def laws_FnExactNormalTiling.j2 : Nat → Int → Bool → Int → Int → List Int → Option (Bool)
  | 0, _, _, _, _, _ => none
  | k + 1, x10, x87, x288000, x288001, x288002 => if x87 = true then (some false) else ((laws_heldTiling.f k x288000 x288001 x288002 1).bind fun t314 => (if t314 < 0 then (some false) else (if t314 = x10 then (some true) else (some false))))
end
def laws_FnExactNormalTiling.f (k : Nat) (a0_0 : Int) (a0_1 : Int) (l0_2 : List Int) : Option (Bool) := (laws_szTiling.f a0_0 a0_1 l0_2 1048576).bind fun t262 => (if t262 < 0 then (some true) else ((laws_toTiling.f k a0_0 a0_1 l0_2).bind fun bt263 => ((spec_NormalTiling.f k bt263.1 bt263.2.1 bt263.2.2).bind fun bt268 => ((laws_toTiling.f k a0_0 a0_1 l0_2).bind fun bt275 => ((impl_NormalTiling.f k bt275.1 bt275.2.1 bt275.2.2).bind fun bt281 => ((laws_eqTiling.f k bt281.1 bt281.2.1 bt281.2.2.1 bt268.1 bt268.2.1 bt268.2.2.1).bind fun t288 => (if t288 = true then (laws_FnExactNormalTiling.j0 k bt268.2.2.2 bt281.2.2.2 (bt281.2.2.2 != bt268.2.2.2) a0_0 a0_1 l0_2 bt268.1 bt268.2.1 bt268.2.2.1 bt275.1 bt275.2.1 bt275.2.2 bt281.1 bt281.2.1 bt281.2.2.1) else (laws_FnExactNormalTiling.j0 k bt268.2.2.2 bt281.2.2.2 true a0_0 a0_1 l0_2 bt268.1 bt268.2.1 bt268.2.2.1 bt275.1 bt275.2.1 bt275.2.2 bt281.1 bt281.2.1 bt281.2.2.1))))))))
theorem laws_FnExactNormalTiling.mono_l : ∀ k, (∀ y0 y1 y2 y3 y4 y5 y6 y7 y8 y9 y10 y11 y12 y13 y14, LeO (laws_FnExactNormalTiling.j0 k y0 y1 y2 y3 y4 y5 y6 y7 y8 y9 y10 y11 y12 y13 y14) (laws_FnExactNormalTiling.j0 (k + 1) y0 y1 y2 y3 y4 y5 y6 y7 y8 y9 y10 y11 y12 y13 y14)) ∧ (∀ y0 y1 y2 y3 y4 y5 y6 y7 y8 y9 y10, LeO (laws_FnExactNormalTiling.j1 k y0 y1 y2 y3 y4 y5 y6 y7 y8 y9 y10) (laws_FnExactNormalTiling.j1 (k + 1) y0 y1 y2 y3 y4 y5 y6 y7 y8 y9 y10)) ∧ (∀ y0 y1 y2 y3 y4, LeO (laws_FnExactNormalTiling.j2 k y0 y1 y2 y3 y4) (laws_FnExactNormalTiling.j2 (k + 1) y0 y1 y2 y3 y4))
  | 0 => ⟨fun _ _ _ _ _ _ _ _ _ _ _ _ _ _ _ r h => by simp [laws_FnExactNormalTiling.j0] at h, fun _ _ _ _ _ _ _ _ _ _ _ r h => by simp [laws_FnExactNormalTiling.j1] at h, fun _ _ _ _ _ r h => by simp [laws_FnExactNormalTiling.j2] at h⟩
  | k + 1 => by
    obtain ⟨ih0, ih1, ih2⟩ := laws_FnExactNormalTiling.mono_l k
    refine ⟨?_, ?_, ?_⟩
    · intro y0 y1 y2 y3 y4 y5 y6 y7 y8 y9 y10 y11 y12 y13 y14
      unfold laws_FnExactNormalTiling.j0
      repeat' first
      | (with_reducible exact ih0 _ _ _ _ _ _ _ _ _ _ _ _ _ _ _)
      | (with_reducible exact ih1 _ _ _ _ _ _ _ _ _ _ _)
      | (with_reducible exact ih2 _ _ _ _ _)
      | (with_reducible exact impl_NormalTiling.mono _ _ _ _)
      | (with_reducible exact laws_eqTiling.mono _ _ _ _ _ _ _)
      | (with_reducible exact laws_heldTiling.mono _ _ _ _ _)
      | (with_reducible exact laws_markTiling.mono _ _ _ _ _)
      | (with_reducible exact laws_toTiling.mono _ _ _ _)
      | (with_reducible exact spec_NormalTiling.mono _ _ _ _)
      | (with_reducible exact LeO.refl _)
      | (with_reducible exact LeO.none _)
      | (with_reducible refine LeO.ite ?_ ?_)
      | (with_reducible refine LeO.bind ?_ (fun _ => ?_))
      | exact ih0 _ _ _ _ _ _ _ _ _ _ _ _ _ _ _
      | exact ih1 _ _ _ _ _ _ _ _ _ _ _
      | exact ih2 _ _ _ _ _
      | exact impl_NormalTiling.mono _ _ _ _
      | exact laws_eqTiling.mono _ _ _ _ _ _ _
      | exact laws_heldTiling.mono _ _ _ _ _
      | exact laws_markTiling.mono _ _ _ _ _
      | exact laws_toTiling.mono _ _ _ _
      | exact spec_NormalTiling.mono _ _ _ _
      | exact LeO.none _
      | refine LeO.ite ?_ ?_
      | refine LeO.bind ?_ (fun _ => ?_)
    · intro y0 y1 y2 y3 y4 y5 y6 y7 y8 y9 y10
      unfold laws_FnExactNormalTiling.j1
      repeat' first
      | (with_reducible exact ih0 _ _ _ _ _ _ _ _ _ _ _ _ _ _ _)
      | (with_reducible exact ih1 _ _ _ _ _ _ _ _ _ _ _)
      | (with_reducible exact ih2 _ _ _ _ _)
      | (with_reducible exact impl_NormalTiling.mono _ _ _ _)
      | (with_reducible exact laws_eqTiling.mono _ _ _ _ _ _ _)
      | (with_reducible exact laws_heldTiling.mono _ _ _ _ _)
      | (with_reducible exact laws_markTiling.mono _ _ _ _ _)
      | (with_reducible exact laws_toTiling.mono _ _ _ _)
      | (with_reducible exact spec_NormalTiling.mono _ _ _ _)
      | (with_reducible exact LeO.refl _)
      | (with_reducible exact LeO.none _)
      | (with_reducible refine LeO.ite ?_ ?_)
      | (with_reducible refine LeO.bind ?_ (fun _ => ?_))
      | exact ih0 _ _ _ _ _ _ _ _ _ _ _ _ _ _ _
      | exact ih1 _ _ _ _ _ _ _ _ _ _ _
      | exact ih2 _ _ _ _ _
      | exact impl_NormalTiling.mono _ _ _ _
      | exact laws_eqTiling.mono _ _ _ _ _ _ _
      | exact laws_heldTiling.mono _ _ _ _ _
      | exact laws_markTiling.mono _ _ _ _ _
      | exact laws_toTiling.mono _ _ _ _
      | exact spec_NormalTiling.mono _ _ _ _
      | exact LeO.none _
      | refine LeO.ite ?_ ?_
      | refine LeO.bind ?_ (fun _ => ?_)
    · intro y0 y1 y2 y3 y4
      unfold laws_FnExactNormalTiling.j2
      repeat' first
      | (with_reducible exact ih0 _ _ _ _ _ _ _ _ _ _ _ _ _ _ _)
      | (with_reducible exact ih1 _ _ _ _ _ _ _ _ _ _ _)
      | (with_reducible exact ih2 _ _ _ _ _)
      | (with_reducible exact impl_NormalTiling.mono _ _ _ _)
      | (with_reducible exact laws_eqTiling.mono _ _ _ _ _ _ _)
      | (with_reducible exact laws_heldTiling.mono _ _ _ _ _)
      | (with_reducible exact laws_markTiling.mono _ _ _ _ _)
      | (with_reducible exact laws_toTiling.mono _ _ _ _)
      | (with_reducible exact spec_NormalTiling.mono _ _ _ _)
      | (with_reducible exact LeO.refl _)
      | (with_reducible exact LeO.none _)
      | (with_reducible refine LeO.ite ?_ ?_)
      | (with_reducible refine LeO.bind ?_ (fun _ => ?_))
      | exact ih0 _ _ _ _ _ _ _ _ _ _ _ _ _ _ _
      | exact ih1 _ _ _ _ _ _ _ _ _ _ _
      | exact ih2 _ _ _ _ _
      | exact impl_NormalTiling.mono _ _ _ _
      | exact laws_eqTiling.mono _ _ _ _ _ _ _
      | exact laws_heldTiling.mono _ _ _ _ _
      | exact laws_markTiling.mono _ _ _ _ _
      | exact laws_toTiling.mono _ _ _ _
      | exact spec_NormalTiling.mono _ _ _ _
      | exact LeO.none _
      | refine LeO.ite ?_ ?_
      | refine LeO.bind ?_ (fun _ => ?_)
theorem laws_FnExactNormalTiling.mono : ∀ a0 a1 a2 k, LeO (laws_FnExactNormalTiling.f k a0 a1 a2) (laws_FnExactNormalTiling.f (k + 1) a0 a1 a2) := by
  intro a0 a1 a2 k
  obtain ⟨ih0, ih1, ih2⟩ := laws_FnExactNormalTiling.mono_l k
  unfold laws_FnExactNormalTiling.f
  repeat' first
      | (with_reducible exact ih0 _ _ _ _ _ _ _ _ _ _ _ _ _ _ _)
      | (with_reducible exact ih1 _ _ _ _ _ _ _ _ _ _ _)
      | (with_reducible exact ih2 _ _ _ _ _)
      | (with_reducible exact impl_NormalTiling.mono _ _ _ _)
      | (with_reducible exact laws_eqTiling.mono _ _ _ _ _ _ _)
      | (with_reducible exact laws_heldTiling.mono _ _ _ _ _)
      | (with_reducible exact laws_markTiling.mono _ _ _ _ _)
      | (with_reducible exact laws_toTiling.mono _ _ _ _)
      | (with_reducible exact spec_NormalTiling.mono _ _ _ _)
      | (with_reducible exact LeO.refl _)
      | (with_reducible exact LeO.none _)
      | (with_reducible refine LeO.ite ?_ ?_)
      | (with_reducible refine LeO.bind ?_ (fun _ => ?_))
      | exact ih0 _ _ _ _ _ _ _ _ _ _ _ _ _ _ _
      | exact ih1 _ _ _ _ _ _ _ _ _ _ _
      | exact ih2 _ _ _ _ _
      | exact impl_NormalTiling.mono _ _ _ _
      | exact laws_eqTiling.mono _ _ _ _ _ _ _
      | exact laws_heldTiling.mono _ _ _ _ _
      | exact laws_markTiling.mono _ _ _ _ _
      | exact laws_toTiling.mono _ _ _ _
      | exact spec_NormalTiling.mono _ _ _ _
      | exact LeO.none _
      | refine LeO.ite ?_ ?_
      | refine LeO.bind ?_ (fun _ => ?_)
set_option maxHeartbeats 8000000 in
set_option maxRecDepth 100000 in
theorem laws_FnExactNormalTiling.calls (k : Nat) (a0_0 : Int) (a0_1 : Int) (A0_2 : Option Addr) (c0_2 : Nat) (l0_2 : List Int) (r : Bool) (w : World) (hr0_2 : Kd.C (Kd.int .i64) w A0_2 l0_2.length l0_2) (hc0_2 : l0_2.length ≤ c0_2) (h : laws_FnExactNormalTiling.f k a0_0 a0_1 l0_2 = some r) :
    Calls Try.prog 8 #[.agg #[.int .i64 a0_0, .int .i64 a0_1, .slice A0_2 l0_2.length c0_2]] w fun e w' => e = .returned (.bool r) ∧ Below w.heap.size w w' := by
  have hu24 := Try.underlying24
  have hu28 := Try.underlying28
  have HR0_2 := Aside0.mk hr0_2
  have HC0_2 := Aside0.mk hc0_2
  clear hr0_2 hc0_2
  have HB := Aside0.mk (Below.refl w.heap.size w)
  have H : ((laws_szTiling.f a0_0 a0_1 l0_2 1048576).bind fun t262 => (if t262 < 0 then (some true) else ((laws_toTiling.f k a0_0 a0_1 l0_2).bind fun bt263 => ((spec_NormalTiling.f k bt263.1 bt263.2.1 bt263.2.2).bind fun bt268 => ((laws_toTiling.f k a0_0 a0_1 l0_2).bind fun bt275 => ((impl_NormalTiling.f k bt275.1 bt275.2.1 bt275.2.2).bind fun bt281 => ((laws_eqTiling.f k bt281.1 bt281.2.1 bt281.2.2.1 bt268.1 bt268.2.1 bt268.2.2.1).bind fun t288 => (if t288 = true then (laws_FnExactNormalTiling.j0 k bt268.2.2.2 bt281.2.2.2 (bt281.2.2.2 != bt268.2.2.2) a0_0 a0_1 l0_2 bt268.1 bt268.2.1 bt268.2.2.1 bt275.1 bt275.2.1 bt275.2.2 bt281.1 bt281.2.1 bt281.2.2.1) else (laws_FnExactNormalTiling.j0 k bt268.2.2.2 bt281.2.2.2 true a0_0 a0_1 l0_2 bt268.1 bt268.2.1 bt268.2.2.1 bt275.1 bt275.2.1 bt275.2.2 bt281.1 bt281.2.1 bt281.2.2.1))))))))) = some r := h
  clear h
  replace H := Option.bind_eq_some_iff.mp H
  obtain ⟨t262, A20, H⟩ := H
  replace H : (if t262 < 0 then (some true) else ((laws_toTiling.f k a0_0 a0_1 l0_2).bind fun bt263 => ((spec_NormalTiling.f k bt263.1 bt263.2.1 bt263.2.2).bind fun bt268 => ((laws_toTiling.f k a0_0 a0_1 l0_2).bind fun bt275 => ((impl_NormalTiling.f k bt275.1 bt275.2.1 bt275.2.2).bind fun bt281 => ((laws_eqTiling.f k bt281.1 bt281.2.1 bt281.2.2.1 bt268.1 bt268.2.1 bt268.2.2.1).bind fun t288 => (if t288 = true then (laws_FnExactNormalTiling.j0 k bt268.2.2.2 bt281.2.2.2 (bt281.2.2.2 != bt268.2.2.2) a0_0 a0_1 l0_2 bt268.1 bt268.2.1 bt268.2.2.1 bt275.1 bt275.2.1 bt275.2.2 bt281.1 bt281.2.1 bt281.2.2.1) else (laws_FnExactNormalTiling.j0 k bt268.2.2.2 bt281.2.2.2 true a0_0 a0_1 l0_2 bt268.1 bt268.2.1 bt268.2.2.1 bt275.1 bt275.2.1 bt275.2.2 bt281.1 bt281.2.1 bt281.2.2.1)))))))) = some r := H
  have A2 := Aside0.mk A20
  clear A20
  by_cases c3 : t262 < 0
  · rw [if_pos c3] at H
    have c3b0 : decide (t262 < 0) = true := decide_eq_true c3
    clear c3
    obtain rfl := Option.some.inj H
    go_enter Try.func8, Try.ntmps8
    go_wp2_with (first | ((with_reducible refine gate_dst (N := 1) rfl ?_); refine box_event ?hg (N := 1) ?hd (cs := #[.int .i64 a0_0, .int .i64 a0_1, .slice A0_2 l0_2.length c0_2]) (t := 24) ?hr ?_; (case hd => rfl); (case hg => rfl); (case hr => first | (go_simp; done) | (go_simp; rfl)); intro gb261 hg w4 hbox hb; have n0_ := Aside0.mk (below_step (pB0 HB.out) hb); have n1_ := Aside0.mk (hbox); have n2_ := Aside0.mk ((by rw [hg]; exact (below_size (pB0 HB.out)) : w.heap.size ≤ gb261)); have n3_ := Aside0.mk ((by rw [hg]; exact (below_size (pB0 HB.out)) : w.heap.size ≤ gb261)); clear HB; have HB := n0_; have BK261 := n1_; have GW261 := n2_; have GE261 := n3_; clear n0_ n1_ n2_ n3_; clear hb hbox hg; have hcz5_0 : w4.cell? ⟨gb261, 0, none⟩ = some (.int .i64 a0_0) := (blk_cell BK261.out 0).trans rfl; have hcz5_1 : w4.cell? ⟨gb261, 1, none⟩ = some (.int .i64 a0_1) := (blk_cell BK261.out 1).trans rfl; have hcz5_2 : w4.cell? ⟨gb261, 2, none⟩ = some (.slice A0_2 l0_2.length c0_2) := (blk_cell BK261.out 2).trans rfl; have hfz5_0 := blk_frozen BK261.out 0; have hfz5_1 := blk_frozen BK261.out 1; have hfz5_2 := blk_frozen BK261.out 2) | ((with_reducible refine gate_callee (f := 15) rfl ?_); refine goesL_ (some 16) rfl rfl Try.func15 (by kernel_rfl) rfl #[.agg #[.int .i64 a0_0, .int .i64 a0_1, .slice A0_2 l0_2.length c0_2], .int .i64 1048576] rfl pA ?_; (with_reducible refine (laws_szTiling.calls a0_0 a0_1 _ _ l0_2 1048576 t262 _ ?side1 ?side2 A2.out).mono ?_); (case side1 => exact pC (Kd.C_below HR0_2.out HB.out)); (case side2 => exact HC0_2.out); rintro e w6 ⟨rfl, hb⟩; refine ⟨_, rfl, ?_⟩; have n0_ := Aside0.mk (blk_below (g := gb261) (o := .cells #[.int .i64 a0_0, .int .i64 a0_1, .slice A0_2 l0_2.length c0_2] 24 (0, 0)) (pK BK261.out) hb); have n1_ := Aside0.mk (below_step (pB1 HB.out GE261.out) hb); clear BK261; clear HB; have BK261 := n0_; have HB := n1_; clear n0_ n1_; (try clear hb); (try clear hb2); (try clear hk); (try clear hi)))
    go_ret
    exact ⟨by first | rfl | (simp [errW_none, errW_some] <;> rfl) | (simp [*, errW_none, errW_some] <;> rfl), pB1 HB.out GE261.out⟩
  · rw [if_neg c3] at H
    have c3b0 : decide (t262 < 0) = false := decide_eq_false c3
    clear c3
    replace H := Option.bind_eq_some_iff.mp H
    obtain ⟨⟨t263, t264, t265⟩, A70, H⟩ := H
    replace H : ((spec_NormalTiling.f k t263 t264 t265).bind fun bt268 => ((laws_toTiling.f k a0_0 a0_1 l0_2).bind fun bt275 => ((impl_NormalTiling.f k bt275.1 bt275.2.1 bt275.2.2).bind fun bt281 => ((laws_eqTiling.f k bt281.1 bt281.2.1 bt281.2.2.1 bt268.1 bt268.2.1 bt268.2.2.1).bind fun t288 => (if t288 = true then (laws_FnExactNormalTiling.j0 k bt268.2.2.2 bt281.2.2.2 (bt281.2.2.2 != bt268.2.2.2) a0_0 a0_1 l0_2 bt268.1 bt268.2.1 bt268.2.2.1 bt275.1 bt275.2.1 bt275.2.2 bt281.1 bt281.2.1 bt281.2.2.1) else (laws_FnExactNormalTiling.j0 k bt268.2.2.2 bt281.2.2.2 true a0_0 a0_1 l0_2 bt268.1 bt268.2.1 bt268.2.2.1 bt275.1 bt275.2.1 bt275.2.2 bt281.1 bt281.2.1 bt281.2.2.1)))))) = some r := H
    have A7 := Aside0.mk A70
    clear A70
    replace H := Option.bind_eq_some_iff.mp H
    obtain ⟨⟨t268, t269, t270, t273⟩, A80, H⟩ := H
    replace H : ((laws_toTiling.f k a0_0 a0_1 l0_2).bind fun bt275 => ((impl_NormalTiling.f k bt275.1 bt275.2.1 bt275.2.2).bind fun bt281 => ((laws_eqTiling.f k bt281.1 bt281.2.1 bt281.2.2.1 t268 t269 t270).bind fun t288 => (if t288 = true then (laws_FnExactNormalTiling.j0 k t273 bt281.2.2.2 (bt281.2.2.2 != t273) a0_0 a0_1 l0_2 t268 t269 t270 bt275.1 bt275.2.1 bt275.2.2 bt281.1 bt281.2.1 bt281.2.2.1) else (laws_FnExactNormalTiling.j0 k t273 bt281.2.2.2 true a0_0 a0_1 l0_2 t268 t269 t270 bt275.1 bt275.2.1 bt275.2.2 bt281.1 bt281.2.1 bt281.2.2.1))))) = some r := H
    have A8 := Aside0.mk A80
    clear A80
    replace H := Option.bind_eq_some_iff.mp H
    obtain ⟨⟨t275, t276, t277⟩, A90, H⟩ := H
    replace H : ((impl_NormalTiling.f k t275 t276 t277).bind fun bt281 => ((laws_eqTiling.f k bt281.1 bt281.2.1 bt281.2.2.1 t268 t269 t270).bind fun t288 => (if t288 = true then (laws_FnExactNormalTiling.j0 k t273 bt281.2.2.2 (bt281.2.2.2 != t273) a0_0 a0_1 l0_2 t268 t269 t270 t275 t276 t277 bt281.1 bt281.2.1 bt281.2.2.1) else (laws_FnExactNormalTiling.j0 k t273 bt281.2.2.2 true a0_0 a0_1 l0_2 t268 t269 t270 t275 t276 t277 bt281.1 bt281.2.1 bt281.2.2.1)))) = some r := H
    have A9 := Aside0.mk A90
    clear A90
    replace H := Option.bind_eq_some_iff.mp H
    obtain ⟨⟨t281, t282, t283, t286⟩, A100, H⟩ := H
    replace H : ((laws_eqTiling.f k t281 t282 t283 t268 t269 t270).bind fun t288 => (if t288 = true then (laws_FnExactNormalTiling.j0 k t273 t286 (t286 != t273) a0_0 a0_1 l0_2 t268 t269 t270 t275 t276 t277 t281 t282 t283) else (laws_FnExactNormalTiling.j0 k t273 t286 true a0_0 a0_1 l0_2 t268 t269 t270 t275 t276 t277 t281 t282 t283))) = some r := H
    have A10 := Aside0.mk A100
    clear A100
    have HC11 := Aside0.mk H
    clear H
    go_enter Try.func8, Try.ntmps8
    go_upto_region 8 with (first | ((with_reducible refine gate_dst (N := 1) rfl ?_); refine box_event ?hg (N := 1) ?hd (cs := #[.int .i64 a0_0, .int .i64 a0_1, .slice A0_2 l0_2.length c0_2]) (t := 24) ?hr ?_; (case hd => rfl); (case hg => rfl); (case hr => first | (go_simp; done) | (go_simp; rfl)); intro gb261 hg w12 hbox hb; have n0_ := Aside0.mk (below_step (pB0 HB.out) hb); have n1_ := Aside0.mk (hbox); have n2_ := Aside0.mk ((by rw [hg]; exact (below_size (pB0 HB.out)) : w.heap.size ≤ gb261)); have n3_ := Aside0.mk ((by rw [hg]; exact (below_size (pB0 HB.out)) : w.heap.size ≤ gb261)); clear HB; have HB := n0_; have BK261 := n1_; have GW261 := n2_; have GE261 := n3_; clear n0_ n1_ n2_ n3_; clear hb hbox hg; have hcz13_0 : w12.cell? ⟨gb261, 0, none⟩ = some (.int .i64 a0_0) := (blk_cell BK261.out 0).trans rfl; have hcz13_1 : w12.cell? ⟨gb261, 1, none⟩ = some (.int .i64 a0_1) := (blk_cell BK261.out 1).trans rfl; have hcz13_2 : w12.cell? ⟨gb261, 2, none⟩ = some (.slice A0_2 l0_2.length c0_2) := (blk_cell BK261.out 2).trans rfl; have hfz13_0 := blk_frozen BK261.out 0; have hfz13_1 := blk_frozen BK261.out 1; have hfz13_2 := blk_frozen BK261.out 2) | ((with_reducible refine gate_callee (f := 15) rfl ?_); refine goesL_ (some 16) rfl rfl Try.func15 (by kernel_rfl) rfl #[.agg #[.int .i64 a0_0, .int .i64 a0_1, .slice A0_2 l0_2.length c0_2], .int .i64 1048576] rfl pA ?_; (with_reducible refine (laws_szTiling.calls a0_0 a0_1 _ _ l0_2 1048576 t262 _ ?side1 ?side2 A2.out).mono ?_); (case side1 => exact pC (Kd.C_below HR0_2.out HB.out)); (case side2 => exact HC0_2.out); rintro e w14 ⟨rfl, hb⟩; refine ⟨_, rfl, ?_⟩; have n0_ := Aside0.mk (blk_below (g := gb261) (o := .cells #[.int .i64 a0_0, .int .i64 a0_1, .slice A0_2 l0_2.length c0_2] 24 (0, 0)) (pK BK261.out) hb); have n1_ := Aside0.mk (below_step (pB1 HB.out GE261.out) hb); clear BK261; clear HB; have BK261 := n0_; have HB := n1_; clear n0_ n1_; (try clear hb); (try clear hb2); (try clear hk); (try clear hi); have hcz15_0 : w14.cell? ⟨gb261, 0, none⟩ = some (.int .i64 a0_0) := (blk_cell BK261.out 0).trans rfl; have hcz15_1 : w14.cell? ⟨gb261, 1, none⟩ = some (.int .i64 a0_1) := (blk_cell BK261.out 1).trans rfl; have hcz15_2 : w14.cell? ⟨gb261, 2, none⟩ = some (.slice A0_2 l0_2.length c0_2) := (blk_cell BK261.out 2).trans rfl; have hfz15_0 := blk_frozen BK261.out 0; have hfz15_1 := blk_frozen BK261.out 1; have hfz15_2 := blk_frozen BK261.out 2) | ((with_reducible refine gate_callee (f := 17) rfl ?_); refine goesL_ (some 21) rfl rfl Try.func17 (by kernel_rfl) rfl #[.agg #[.int .i64 a0_0, .int .i64 a0_1, .slice A0_2 l0_2.length c0_2]] rfl pA ?_; (with_reducible refine (laws_toTiling.calls k a0_0 a0_1 _ _ l0_2 t263 t264 t265 _ ?side1 ?side2 A7.out).mono ?_); (case side1 => exact pC (Kd.C_below HR0_2.out HB.out)); (case side2 => exact HC0_2.out); rintro e w16 ⟨v266, rfl, ho0, hb⟩; refine ⟨_, rfl, ?_⟩; have n0_ := Aside0.mk (Kd.R_lower ho0 (below_size (pB1 HB.out GE261.out))); have n1_ := Aside0.mk (blk_below (g := gb261) (o := .cells #[.int .i64 a0_0, .int .i64 a0_1, .slice A0_2 l0_2.length c0_2] 24 (0, 0)) (pK BK261.out) hb); have n2_ := Aside0.mk (below_step (pB1 HB.out GE261.out) hb); clear BK261; clear HB; have HO267 := n0_; have BK261 := n1_; have HB := n2_; clear n0_ n1_ n2_; (try clear hb); (try clear hb2); (try clear hk); (try clear hi); (try clear ho0); obtain ⟨Ao17, co17, eo17⟩ := Kd.R_slice HO267.out; subst eo17) | ((with_reducible refine gate_callee (f := 41) rfl ?_); refine goesL_ (some 22) rfl rfl Try.func41 (by kernel_rfl) rfl #[.agg #[.int .i64 t263, .int .i64 t264, .slice Ao17 t265.length co17]] rfl pA ?_; (with_reducible refine (spec_NormalTiling.calls k t263 t264 _ _ t265 t268 t269 t270 t273 _ ?side1 ?side2 A8.out).mono ?_); (case side1 => exact pC ((Kd.R_reads' HO267.out).2.2)); (case side2 => exact (Kd.R_reads' HO267.out).2.1); rintro e w18 ⟨v271, rfl, ho0, hb⟩; refine ⟨_, rfl, ?_⟩; have n0_ := Aside0.mk (Kd.R_elder' (pR HO267.out) (Kd.R_base ho0) hb); have n1_ := Aside0.mk (Kd.R_lower (Kd.R_new' ho0 (Kd.R_lt (pR HO267.out))) (below_size (pB1 HB.out GE261.out))); have n2_ := Aside0.mk (blk_below (g := gb261) (o := .cells #[.int .i64 a0_0, .int .i64 a0_1, .slice A0_2 l0_2.length c0_2] 24 (0, 0)) (pK BK261.out) hb); have n3_ := Aside0.mk (below_step (pB1 HB.out GE261.out) hb); clear HO267; clear BK261; clear HB; have HO267 := n0_; have HO272 := n1_; have BK261 := n2_; have HB := n3_; clear n0_ n1_ n2_ n3_; (try clear hb); (try clear hb2); (try clear hk); (try clear hi); (try clear ho0)) | ((with_reducible refine gate_dst (N := 4) rfl ?_); refine box_event ?hg (N := 4) ?hd (cs := #[.int .i64 0, .int .i64 0, .slice none 0 0]) (t := 28) ?hr ?_; (case hd => rfl); (case hg => rfl); (case hr => first | (go_simp; done) | (go_simp; rfl)); intro gb274 hg w19 hbox hb; have n0_ := Aside0.mk (Kd.R_below (pR HO267.out) hb); have n1_ := Aside0.mk (Kd.R_below (pR HO272.out) hb); have n2_ := Aside0.mk (blk_below (g := gb261) (o := .cells #[.int .i64 a0_0, .int .i64 a0_1, .slice A0_2 l0_2.length c0_2] 24 (0, 0)) (pK BK261.out) hb); have n3_ := Aside0.mk (below_step (pB1 HB.out GE261.out) hb); have n4_ := Aside0.mk (hbox); have n5_ := Aside0.mk ((by rw [hg]; exact (below_size (pB1 HB.out GE261.out)) : w.heap.size ≤ gb274)); have n6_ := Aside0.mk ((by rw [hg]; exact (below_size (pB1 HB.out GE261.out)) : w.heap.size ≤ gb274)); have n7_ := Aside0.mk ((by rw [hg]; exact Nat.ne_of_lt (blk_lt (g := gb261) (o := .cells #[.int .i64 a0_0, .int .i64 a0_1, .slice A0_2 l0_2.length c0_2] 24 (0, 0)) (pK BK261.out)) : gb261 ≠ gb274)); have n8_ := Aside0.mk ((by rw [hg]; exact Nat.ne_of_gt (blk_lt (g := gb261) (o := .cells #[.int .i64 a0_0, .int .i64 a0_1, .slice A0_2 l0_2.length c0_2] 24 (0, 0)) (pK BK261.out)) : gb274 ≠ gb261)); clear HO267; clear HO272; clear BK261; clear HB; have HO267 := n0_; have HO272 := n1_; have BK261 := n2_; have HB := n3_; have BK274 := n4_; have GW274 := n5_; have GE274 := n6_; have NB261_274 := n7_; have NB274_261 := n8_; clear n0_ n1_ n2_ n3_ n4_ n5_ n6_ n7_ n8_; clear hb hbox hg; have hnb20 := NB274_261.out; have hnc20 := NB261_274.out; have hcz21_0 : w19.cell? ⟨gb274, 0, none⟩ = some (.int .i64 0) := (blk_cell BK274.out 0).trans rfl; have hcz21_1 : w19.cell? ⟨gb274, 1, none⟩ = some (.int .i64 0) := (blk_cell BK274.out 1).trans rfl; have hcz21_2 : w19.cell? ⟨gb274, 2, none⟩ = some (.slice none 0 0) := (blk_cell BK274.out 2).trans rfl; have hfz21_0 := blk_frozen BK274.out 0; have hfz21_1 := blk_frozen BK274.out 1; have hfz21_2 := blk_frozen BK274.out 2; obtain ⟨Ao22, co22, eo22⟩ := Kd.R_slice HO272.out; subst eo22; have hcz23_0 : w19.cell? ⟨gb261, 0, none⟩ = some (.int .i64 a0_0) := (blk_cell BK261.out 0).trans rfl; have hcz23_1 : w19.cell? ⟨gb261, 1, none⟩ = some (.int .i64 a0_1) := (blk_cell BK261.out 1).trans rfl; have hcz23_2 : w19.cell? ⟨gb261, 2, none⟩ = some (.slice A0_2 l0_2.length c0_2) := (blk_cell BK261.out 2).trans rfl; have hfz23_0 := blk_frozen BK261.out 0; have hfz23_1 := blk_frozen BK261.out 1; have hfz23_2 := blk_frozen BK261.out 2) | ((with_reducible refine gate_callee (f := 17) rfl ?_); refine goesL_ (some 26) rfl rfl Try.func17 (by kernel_rfl) rfl #[.agg #[.int .i64 a0_0, .int .i64 a0_1, .slice A0_2 l0_2.length c0_2]] rfl pA ?_; (with_reducible refine (laws_toTiling.calls k a0_0 a0_1 _ _ l0_2 t275 t276 t277 _ ?side1 ?side2 A9.out).mono ?_); (case side1 => exact Kd.C_below HR0_2.out (pB2 HB.out GE261.out GE274.out)); (case side2 => exact HC0_2.out); rintro e w24 ⟨v278, rfl, ho0, hb⟩; refine ⟨_, rfl, ?_⟩; have n0_ := Aside0.mk (Kd.R_elder' (by (with_reducible repeat (first | apply Kd.R_alloc | apply Kd.R_drewN | apply Kd.R_drew)); exact (Kd.R_mono (Kd.R_far (p := ⟨gb274, 2, none⟩) (Kd.R_far (p := ⟨gb274, 1, none⟩) (Kd.R_far (p := ⟨gb274, 0, none⟩) (Kd.R_types HO267.out BK274.out (by decide)) (fun _ hk => hk.2) (.int .i64 t268)) (fun _ hk => hk.2) (.int .i64 t269)) (fun _ hk => hk.2) (.slice Ao22 t270.length co22)) (fun _ h_ => h_.1))) (Kd.R_base ho0) hb); have n1_ := Aside0.mk (Kd.R_elder' (by (with_reducible repeat (first | apply Kd.R_alloc | apply Kd.R_drewN | apply Kd.R_drew)); exact (Kd.R_mono (Kd.R_far (p := ⟨gb274, 2, none⟩) (Kd.R_far (p := ⟨gb274, 1, none⟩) (Kd.R_far (p := ⟨gb274, 0, none⟩) (Kd.R_types HO272.out BK274.out (by decide)) (fun _ hk => hk.2) (.int .i64 t268)) (fun _ hk => hk.2) (.int .i64 t269)) (fun _ hk => hk.2) (.slice Ao22 t270.length co22)) (fun _ h_ => h_.1))) (Kd.R_base ho0) hb); have n2_ := Aside0.mk (Kd.R_lower (Kd.R_new' (Kd.R_new' ho0 (Kd.R_lt (by (with_reducible repeat (first | apply Kd.R_alloc | apply Kd.R_drewN | apply Kd.R_drew)); exact (Kd.R_mono (Kd.R_far (p := ⟨gb274, 2, none⟩) (Kd.R_far (p := ⟨gb274, 1, none⟩) (Kd.R_far (p := ⟨gb274, 0, none⟩) (Kd.R_types HO267.out BK274.out (by decide)) (fun _ hk => hk.2) (.int .i64 t268)) (fun _ hk => hk.2) (.int .i64 t269)) (fun _ hk => hk.2) (.slice Ao22 t270.length co22)) (fun _ h_ => h_.1))))) (Kd.R_lt (by (with_reducible repeat (first | apply Kd.R_alloc | apply Kd.R_drewN | apply Kd.R_drew)); exact (Kd.R_mono (Kd.R_far (p := ⟨gb274, 2, none⟩) (Kd.R_far (p := ⟨gb274, 1, none⟩) (Kd.R_far (p := ⟨gb274, 0, none⟩) (Kd.R_types HO272.out BK274.out (by decide)) (fun _ hk => hk.2) (.int .i64 t268)) (fun _ hk => hk.2) (.int .i64 t269)) (fun _ hk => hk.2) (.slice Ao22 t270.length co22)) (fun _ h_ => h_.1))))) (below_size (pB2 HB.out GE261.out GE274.out))); have n3_ := Aside0.mk (blk_below (g := gb261) (o := .cells #[.int .i64 a0_0, .int .i64 a0_1, .slice A0_2 l0_2.length c0_2] 24 (0, 0)) (by (with_reducible repeat (first | refine blk_drewN ?_ _ | refine blk_drew ?_ | refine blk_alloc ?_ _)); refine blk_far ?_ NB261_274.out _; (with_reducible repeat (first | refine blk_drewN ?_ _ | refine blk_drew ?_ | refine blk_alloc ?_ _)); refine blk_far ?_ NB261_274.out _; (with_reducible repeat (first | refine blk_drewN ?_ _ | refine blk_drew ?_ | refine blk_alloc ?_ _)); refine blk_far ?_ NB261_274.out _; (with_reducible repeat (first | refine blk_drewN ?_ _ | refine blk_drew ?_ | refine blk_alloc ?_ _)); exact BK261.out) hb); have n4_ := Aside0.mk (blk_below (g := gb274) (o := .cells #[.int .i64 t268, .int .i64 t269, .slice Ao22 t270.length co22] 28 (0, 0)) (by (with_reducible repeat (first | refine blk_drewN ?_ _ | refine blk_drew ?_ | refine blk_alloc ?_ _)); refine blk_put (cs := #[.int .i64 t268, .int .i64 t269, .slice none 0 0]) ?_ 2 _ rfl; (with_reducible repeat (first | refine blk_drewN ?_ _ | refine blk_drew ?_ | refine blk_alloc ?_ _)); refine blk_put (cs := #[.int .i64 t268, .int .i64 0, .slice none 0 0]) ?_ 1 _ rfl; (with_reducible repeat (first | refine blk_drewN ?_ _ | refine blk_drew ?_ | refine blk_alloc ?_ _)); refine blk_put (cs := #[.int .i64 0, .int .i64 0, .slice none 0 0]) ?_ 0 _ rfl; (with_reducible repeat (first | refine blk_drewN ?_ _ | refine blk_drew ?_ | refine blk_alloc ?_ _)); exact BK274.out) hb); have n5_ := Aside0.mk (below_step (pB2 HB.out GE261.out GE274.out) hb); clear HO267; clear HO272; clear BK261; clear BK274; clear HB; have HO267 := n0_; have HO272 := n1_; have HO279 := n2_; have BK261 := n3_; have BK274 := n4_; have HB := n5_; clear n0_ n1_ n2_ n3_ n4_ n5_; (try clear hb); (try clear hb2); (try clear hk); (try clear hi); (try clear ho0)) | ((with_reducible refine gate_dst (N := 6) rfl ?_); refine box_event ?hg (N := 6) ?hd (cs := #[.int .i64 0, .int .i64 0, .slice none 0 0]) (t := 28) ?hr ?_; (case hd => rfl); (case hg => rfl); (case hr => first | (go_simp; done) | (go_simp; rfl)); intro gb280 hg w25 hbox hb; have n0_ := Aside0.mk (Kd.R_below (pR HO267.out) hb); have n1_ := Aside0.mk (Kd.R_below (pR HO272.out) hb); have n2_ := Aside0.mk (Kd.R_below (pR HO279.out) hb); have n3_ := Aside0.mk (blk_below (g := gb261) (o := .cells #[.int .i64 a0_0, .int .i64 a0_1, .slice A0_2 l0_2.length c0_2] 24 (0, 0)) (pK BK261.out) hb); have n4_ := Aside0.mk (blk_below (g := gb274) (o := .cells #[.int .i64 t268, .int .i64 t269, .slice Ao22 t270.length co22] 28 (0, 0)) (pK BK274.out) hb); have n5_ := Aside0.mk (below_step (pB2 HB.out GE261.out GE274.out) hb); have n6_ := Aside0.mk (hbox); have n7_ := Aside0.mk ((by rw [hg]; exact (below_size (pB2 HB.out GE261.out GE274.out)) : w.heap.size ≤ gb280)); have n8_ := Aside0.mk ((by rw [hg]; exact (below_size (pB2 HB.out GE261.out GE274.out)) : w.heap.size ≤ gb280)); have n9_ := Aside0.mk ((by rw [hg]; exact Nat.ne_of_lt (blk_lt (g := gb261) (o := .cells #[.int .i64 a0_0, .int .i64 a0_1, .slice A0_2 l0_2.length c0_2] 24 (0, 0)) (pK BK261.out)) : gb261 ≠ gb280)); have n10_ := Aside0.mk ((by rw [hg]; exact Nat.ne_of_gt (blk_lt (g := gb261) (o := .cells #[.int .i64 a0_0, .int .i64 a0_1, .slice A0_2 l0_2.length c0_2] 24 (0, 0)) (pK BK261.out)) : gb280 ≠ gb261)); have n11_ := Aside0.mk ((by rw [hg]; exact Nat.ne_of_lt (blk_lt (g := gb274) (o := .cells #[.int .i64 t268, .int .i64 t269, .slice Ao22 t270.length co22] 28 (0, 0)) (pK BK274.out)) : gb274 ≠ gb280)); have n12_ := Aside0.mk ((by rw [hg]; exact Nat.ne_of_gt (blk_lt (g := gb274) (o := .cells #[.int .i64 t268, .int .i64 t269, .slice Ao22 t270.length co22] 28 (0, 0)) (pK BK274.out)) : gb280 ≠ gb274)); clear HO267; clear HO272; clear HO279; clear BK261; clear BK274; clear HB; have HO267 := n0_; have HO272 := n1_; have HO279 := n2_; have BK261 := n3_; have BK274 := n4_; have HB := n5_; have BK280 := n6_; have GW280 := n7_; have GE280 := n8_; have NB261_280 := n9_; have NB280_261 := n10_; have NB274_280 := n11_; have NB280_274 := n12_; clear n0_ n1_ n2_ n3_ n4_ n5_ n6_ n7_ n8_ n9_ n10_ n11_ n12_; clear hb hbox hg; have hnb26 := NB280_261.out; have hnc26 := NB261_280.out; have hnb27 := NB280_274.out; have hnc27 := NB274_280.out; have hcz28_0 : w25.cell? ⟨gb280, 0, none⟩ = some (.int .i64 0) := (blk_cell BK280.out 0).trans rfl; have hcz28_1 : w25.cell? ⟨gb280, 1, none⟩ = some (.int .i64 0) := (blk_cell BK280.out 1).trans rfl; have hcz28_2 : w25.cell? ⟨gb280, 2, none⟩ = some (.slice none 0 0) := (blk_cell BK280.out 2).trans rfl; have hfz28_0 := blk_frozen BK280.out 0; have hfz28_1 := blk_frozen BK280.out 1; have hfz28_2 := blk_frozen BK280.out 2; obtain ⟨Ao29, co29, eo29⟩ := Kd.R_slice HO279.out; subst eo29) | ((with_reducible refine gate_callee (f := 42) rfl ?_); refine goesL_ (some 29) rfl rfl Try.func42 (by kernel_rfl) rfl #[.agg #[.int .i64 t275, .int .i64 t276, .slice Ao29 t277.length co29]] rfl pA ?_; (with_reducible refine (impl_NormalTiling.calls k t275 t276 _ _ t277 t281 t282 t283 t286 _ ?side1 ?side2 A10.out).mono ?_); (case side1 => refine (Kd.R_reads' (e := 2) (base := w.heap.size) (ok := fun k_ => ((True ∧ some k_ ≠ (.slice Ao17 t265.length co17 : Value).ownBlock) ∧ some k_ ≠ (.slice Ao22 t270.length co22 : Value).ownBlock)) (n := t277.length) (c := co29) ?_).2.2; exact (by (with_reducible repeat (first | apply Kd.R_alloc | apply Kd.R_drewN | apply Kd.R_drew)); exact (Kd.R_mono (Kd.R_far (p := ⟨gb280, 2, none⟩) (Kd.R_far (p := ⟨gb280, 1, none⟩) (Kd.R_far (p := ⟨gb280, 0, none⟩) (Kd.R_types HO279.out BK280.out (by decide)) (fun _ hk => hk.2) (.int .i64 t275)) (fun _ hk => hk.2) (.int .i64 t276)) (fun _ hk => hk.2) (.slice Ao29 t277.length co29)) (fun _ h_ => h_.1)))); (case side2 => exact (Kd.R_reads' HO279.out).2.1); rintro e w30 ⟨v284, rfl, ho0, hb⟩; refine ⟨_, rfl, ?_⟩; have n0_ := Aside0.mk (Kd.R_elder' (by (with_reducible repeat (first | apply Kd.R_alloc | apply Kd.R_drewN | apply Kd.R_drew)); exact (Kd.R_mono (Kd.R_far (p := ⟨gb280, 2, none⟩) (Kd.R_far (p := ⟨gb280, 1, none⟩) (Kd.R_far (p := ⟨gb280, 0, none⟩) (Kd.R_types HO267.out BK280.out (by decide)) (fun _ hk => hk.2) (.int .i64 t275)) (fun _ hk => hk.2) (.int .i64 t276)) (fun _ hk => hk.2) (.slice Ao29 t277.length co29)) (fun _ h_ => h_.1))) (Kd.R_base ho0) hb); have n1_ := Aside0.mk (Kd.R_elder' (by (with_reducible repeat (first | apply Kd.R_alloc | apply Kd.R_drewN | apply Kd.R_drew)); exact (Kd.R_mono (Kd.R_far (p := ⟨gb280, 2, none⟩) (Kd.R_far (p := ⟨gb280, 1, none⟩) (Kd.R_far (p := ⟨gb280, 0, none⟩) (Kd.R_types HO272.out BK280.out (by decide)) (fun _ hk => hk.2) (.int .i64 t275)) (fun _ hk => hk.2) (.int .i64 t276)) (fun _ hk => hk.2) (.slice Ao29 t277.length co29)) (fun _ h_ => h_.1))) (Kd.R_base ho0) hb); have n2_ := Aside0.mk (Kd.R_elder' (by (with_reducible repeat (first | apply Kd.R_alloc | apply Kd.R_drewN | apply Kd.R_drew)); exact (Kd.R_mono (Kd.R_far (p := ⟨gb280, 2, none⟩) (Kd.R_far (p := ⟨gb280, 1, none⟩) (Kd.R_far (p := ⟨gb280, 0, none⟩) (Kd.R_types HO279.out BK280.out (by decide)) (fun _ hk => hk.2) (.int .i64 t275)) (fun _ hk => hk.2) (.int .i64 t276)) (fun _ hk => hk.2) (.slice Ao29 t277.length co29)) (fun _ h_ => h_.1))) (Kd.R_base ho0) hb); have n3_ := Aside0.mk (Kd.R_lower (Kd.R_new' (Kd.R_new' (Kd.R_new' ho0 (Kd.R_lt (by (with_reducible repeat (first | apply Kd.R_alloc | apply Kd.R_drewN | apply Kd.R_drew)); exact (Kd.R_mono (Kd.R_far (p := ⟨gb280, 2, none⟩) (Kd.R_far (p := ⟨gb280, 1, none⟩) (Kd.R_far (p := ⟨gb280, 0, none⟩) (Kd.R_types HO267.out BK280.out (by decide)) (fun _ hk => hk.2) (.int .i64 t275)) (fun _ hk => hk.2) (.int .i64 t276)) (fun _ hk => hk.2) (.slice Ao29 t277.length co29)) (fun _ h_ => h_.1))))) (Kd.R_lt (by (with_reducible repeat (first | apply Kd.R_alloc | apply Kd.R_drewN | apply Kd.R_drew)); exact (Kd.R_mono (Kd.R_far (p := ⟨gb280, 2, none⟩) (Kd.R_far (p := ⟨gb280, 1, none⟩) (Kd.R_far (p := ⟨gb280, 0, none⟩) (Kd.R_types HO272.out BK280.out (by decide)) (fun _ hk => hk.2) (.int .i64 t275)) (fun _ hk => hk.2) (.int .i64 t276)) (fun _ hk => hk.2) (.slice Ao29 t277.length co29)) (fun _ h_ => h_.1))))) (Kd.R_lt (by (with_reducible repeat (first | apply Kd.R_alloc | apply Kd.R_drewN | apply Kd.R_drew)); exact (Kd.R_mono (Kd.R_far (p := ⟨gb280, 2, none⟩) (Kd.R_far (p := ⟨gb280, 1, none⟩) (Kd.R_far (p := ⟨gb280, 0, none⟩) (Kd.R_types HO279.out BK280.out (by decide)) (fun _ hk => hk.2) (.int .i64 t275)) (fun _ hk => hk.2) (.int .i64 t276)) (fun _ hk => hk.2) (.slice Ao29 t277.length co29)) (fun _ h_ => h_.1))))) (below_size (pB3 HB.out GE261.out GE274.out GE280.out))); have n4_ := Aside0.mk (blk_below (g := gb261) (o := .cells #[.int .i64 a0_0, .int .i64 a0_1, .slice A0_2 l0_2.length c0_2] 24 (0, 0)) (by (with_reducible repeat (first | refine blk_drewN ?_ _ | refine blk_drew ?_ | refine blk_alloc ?_ _)); refine blk_far ?_ NB261_280.out _; (with_reducible repeat (first | refine blk_drewN ?_ _ | refine blk_drew ?_ | refine blk_alloc ?_ _)); refine blk_far ?_ NB261_280.out _; (with_reducible repeat (first | refine blk_drewN ?_ _ | refine blk_drew ?_ | refine blk_alloc ?_ _)); refine blk_far ?_ NB261_280.out _; (with_reducible repeat (first | refine blk_drewN ?_ _ | refine blk_drew ?_ | refine blk_alloc ?_ _)); exact BK261.out) hb); have n5_ := Aside0.mk (blk_below (g := gb274) (o := .cells #[.int .i64 t268, .int .i64 t269, .slice Ao22 t270.length co22] 28 (0, 0)) (by (with_reducible repeat (first | refine blk_drewN ?_ _ | refine blk_drew ?_ | refine blk_alloc ?_ _)); refine blk_far ?_ NB274_280.out _; (with_reducible repeat (first | refine blk_drewN ?_ _ | refine blk_drew ?_ | refine blk_alloc ?_ _)); refine blk_far ?_ NB274_280.out _; (with_reducible repeat (first | refine blk_drewN ?_ _ | refine blk_drew ?_ | refine blk_alloc ?_ _)); refine blk_far ?_ NB274_280.out _; (with_reducible repeat (first | refine blk_drewN ?_ _ | refine blk_drew ?_ | refine blk_alloc ?_ _)); exact BK274.out) hb); have n6_ := Aside0.mk (blk_below (g := gb280) (o := .cells #[.int .i64 t275, .int .i64 t276, .slice Ao29 t277.length co29] 28 (0, 0)) (by (with_reducible repeat (first | refine blk_drewN ?_ _ | refine blk_drew ?_ | refine blk_alloc ?_ _)); refine blk_put (cs := #[.int .i64 t275, .int .i64 t276, .slice none 0 0]) ?_ 2 _ rfl; (with_reducible repeat (first | refine blk_drewN ?_ _ | refine blk_drew ?_ | refine blk_alloc ?_ _)); refine blk_put (cs := #[.int .i64 t275, .int .i64 0, .slice none 0 0]) ?_ 1 _ rfl; (with_reducible repeat (first | refine blk_drewN ?_ _ | refine blk_drew ?_ | refine blk_alloc ?_ _)); refine blk_put (cs := #[.int .i64 0, .int .i64 0, .slice none 0 0]) ?_ 0 _ rfl; (with_reducible repeat (first | refine blk_drewN ?_ _ | refine blk_drew ?_ | refine blk_alloc ?_ _)); exact BK280.out) hb); have n7_ := Aside0.mk (below_step (pB3 HB.out GE261.out GE274.out GE280.out) hb); clear HO267; clear HO272; clear HO279; clear BK261; clear BK274; clear BK280; clear HB; have HO267 := n0_; have HO272 := n1_; have HO279 := n2_; have HO285 := n3_; have BK261 := n4_; have BK274 := n5_; have BK280 := n6_; have HB := n7_; clear n0_ n1_ n2_ n3_ n4_ n5_ n6_ n7_; (try clear hb); (try clear hb2); (try clear hk); (try clear hi); (try clear ho0)) | ((with_reducible refine gate_dst (N := 7) rfl ?_); refine box_event ?hg (N := 7) ?hd (cs := #[.int .i64 0, .int .i64 0, .slice none 0 0]) (t := 28) ?hr ?_; (case hd => rfl); (case hg => rfl); (case hr => first | (go_simp; done) | (go_simp; rfl)); intro gb287 hg w31 hbox hb; have n0_ := Aside0.mk (Kd.R_below (pR HO267.out) hb); have n1_ := Aside0.mk (Kd.R_below (pR HO272.out) hb); have n2_ := Aside0.mk (Kd.R_below (pR HO279.out) hb); have n3_ := Aside0.mk (Kd.R_below (pR HO285.out) hb); have n4_ := Aside0.mk (blk_below (g := gb261) (o := .cells #[.int .i64 a0_0, .int .i64 a0_1, .slice A0_2 l0_2.length c0_2] 24 (0, 0)) (pK BK261.out) hb); have n5_ := Aside0.mk (blk_below (g := gb274) (o := .cells #[.int .i64 t268, .int .i64 t269, .slice Ao22 t270.length co22] 28 (0, 0)) (pK BK274.out) hb); have n6_ := Aside0.mk (blk_below (g := gb280) (o := .cells #[.int .i64 t275, .int .i64 t276, .slice Ao29 t277.length co29] 28 (0, 0)) (pK BK280.out) hb); have n7_ := Aside0.mk (below_step (pB3 HB.out GE261.out GE274.out GE280.out) hb); have n8_ := Aside0.mk (hbox); have n9_ := Aside0.mk ((by rw [hg]; exact (below_size (pB3 HB.out GE261.out GE274.out GE280.out)) : w.heap.size ≤ gb287)); have n10_ := Aside0.mk ((by rw [hg]; exact (below_size (pB3 HB.out GE261.out GE274.out GE280.out)) : w.heap.size ≤ gb287)); have n11_ := Aside0.mk ((by rw [hg]; exact Nat.ne_of_lt (blk_lt (g := gb261) (o := .cells #[.int .i64 a0_0, .int .i64 a0_1, .slice A0_2 l0_2.length c0_2] 24 (0, 0)) (pK BK261.out)) : gb261 ≠ gb287)); have n12_ := Aside0.mk ((by rw [hg]; exact Nat.ne_of_gt (blk_lt (g := gb261) (o := .cells #[.int .i64 a0_0, .int .i64 a0_1, .slice A0_2 l0_2.length c0_2] 24 (0, 0)) (pK BK261.out)) : gb287 ≠ gb261)); have n13_ := Aside0.mk ((by rw [hg]; exact Nat.ne_of_lt (blk_lt (g := gb274) (o := .cells #[.int .i64 t268, .int .i64 t269, .slice Ao22 t270.length co22] 28 (0, 0)) (pK BK274.out)) : gb274 ≠ gb287)); have n14_ := Aside0.mk ((by rw [hg]; exact Nat.ne_of_gt (blk_lt (g := gb274) (o := .cells #[.int .i64 t268, .int .i64 t269, .slice Ao22 t270.length co22] 28 (0, 0)) (pK BK274.out)) : gb287 ≠ gb274)); have n15_ := Aside0.mk ((by rw [hg]; exact Nat.ne_of_lt (blk_lt (g := gb280) (o := .cells #[.int .i64 t275, .int .i64 t276, .slice Ao29 t277.length co29] 28 (0, 0)) (pK BK280.out)) : gb280 ≠ gb287)); have n16_ := Aside0.mk ((by rw [hg]; exact Nat.ne_of_gt (blk_lt (g := gb280) (o := .cells #[.int .i64 t275, .int .i64 t276, .slice Ao29 t277.length co29] 28 (0, 0)) (pK BK280.out)) : gb287 ≠ gb280)); clear HO267; clear HO272; clear HO279; clear HO285; clear BK261; clear BK274; clear BK280; clear HB; have HO267 := n0_; have HO272 := n1_; have HO279 := n2_; have HO285 := n3_; have BK261 := n4_; have BK274 := n5_; have BK280 := n6_; have HB := n7_; have BK287 := n8_; have GW287 := n9_; have GE287 := n10_; have NB261_287 := n11_; have NB287_261 := n12_; have NB274_287 := n13_; have NB287_274 := n14_; have NB280_287 := n15_; have NB287_280 := n16_; clear n0_ n1_ n2_ n3_ n4_ n5_ n6_ n7_ n8_ n9_ n10_ n11_ n12_ n13_ n14_ n15_ n16_; clear hb hbox hg; have hnb32 := NB287_261.out; have hnc32 := NB261_287.out; have hnb33 := NB287_274.out; have hnc33 := NB274_287.out; have hnb34 := NB287_280.out; have hnc34 := NB280_287.out; have hcz35_0 : w31.cell? ⟨gb287, 0, none⟩ = some (.int .i64 0) := (blk_cell BK287.out 0).trans rfl; have hcz35_1 : w31.cell? ⟨gb287, 1, none⟩ = some (.int .i64 0) := (blk_cell BK287.out 1).trans rfl; have hcz35_2 : w31.cell? ⟨gb287, 2, none⟩ = some (.slice none 0 0) := (blk_cell BK287.out 2).trans rfl; have hfz35_0 := blk_frozen BK287.out 0; have hfz35_1 := blk_frozen BK287.out 1; have hfz35_2 := blk_frozen BK287.out 2; obtain ⟨Ao36, co36, eo36⟩ := Kd.R_slice HO285.out; subst eo36))
    (try simp only [Act.put, List.setIfInBounds_toArray, List.set_cons_zero, List.set_cons_succ])
    go_cut [40] (fun v40 wc => ∃ (kq : Nat) (x40_10 : Bool), v40 = .bool x40_10 ∧ Aside0 (laws_FnExactNormalTiling.j0 kq t273 t286 x40_10 a0_0 a0_1 l0_2 t268 t269 t270 t275 t276 t277 t281 t282 t283 = some r) ∧ Aside0 (kq ≤ k) ∧ Aside0 (Kd.R (Kd.int .i64) 2 wc w.heap.size (fun k_ => some k_ ≠ ((.slice Ao29 t277.length co29) : Value).ownBlock ∧ some k_ ≠ ((.slice Ao36 t283.length co36) : Value).ownBlock) (.slice Ao22 t270.length co22) t270) ∧ Aside0 (Kd.R (Kd.int .i64) 2 wc w.heap.size (fun k_ => some k_ ≠ ((.slice Ao22 t270.length co22) : Value).ownBlock ∧ some k_ ≠ ((.slice Ao36 t283.length co36) : Value).ownBlock) (.slice Ao29 t277.length co29) t277) ∧ Aside0 (Kd.R (Kd.int .i64) 2 wc w.heap.size (fun k_ => some k_ ≠ ((.slice Ao22 t270.length co22) : Value).ownBlock ∧ some k_ ≠ ((.slice Ao29 t277.length co29) : Value).ownBlock) (.slice Ao36 t283.length co36) t283) ∧ Aside0 (wc.heap[gb261]? = some (.cells #[.int .i64 a0_0, .int .i64 a0_1, (.slice A0_2 l0_2.length c0_2)] 24 (0, 0))) ∧ Aside0 (wc.heap[gb274]? = some (.cells #[.int .i64 t268, .int .i64 t269, (.slice Ao22 t270.length co22)] 28 (0, 0))) ∧ Aside0 (wc.heap[gb280]? = some (.cells #[.int .i64 t275, .int .i64 t276, (.slice Ao29 t277.length co29)] 28 (0, 0))) ∧ Aside0 (wc.heap[gb287]? = some (.cells #[.int .i64 t281, .int .i64 t282, (.slice Ao36 t283.length co36)] 28 (0, 0))) ∧ Aside0 (Below w.heap.size w wc))
    case first =>
      have H := HC11.out
      clear HC11
      replace H := Option.bind_eq_some_iff.mp H
      obtain ⟨t288, A370, H⟩ := H
      replace H : (if t288 = true then (laws_FnExactNormalTiling.j0 k t273 t286 (t286 != t273) a0_0 a0_1 l0_2 t268 t269 t270 t275 t276 t277 t281 t282 t283) else (laws_FnExactNormalTiling.j0 k t273 t286 true a0_0 a0_1 l0_2 t268 t269 t270 t275 t276 t277 t281 t282 t283)) = some r := H
      have A37 := Aside0.mk A370
      clear A370
      by_cases c38 : t288 = true
      · subst c38
        have H1 : (laws_FnExactNormalTiling.j0 k t273 t286 (t286 != t273) a0_0 a0_1 l0_2 t268 t269 t270 t275 t276 t277 t281 t282 t283) = some r := by rw [if_pos rfl] at H; exact H
        clear H
        have H := H1
        clear H1
        have H' := Aside0.mk H
        clear H
        have hnb39 := NB287_261.out
        have hnc39 := NB261_287.out
        have hnb40 := NB287_274.out
        have hnc40 := NB274_287.out
        have hnb41 := NB287_280.out
        have hnc41 := NB280_287.out
        have hcz42_0 : w31.cell? ⟨gb287, 0, none⟩ = some (.int .i64 0) := (blk_cell BK287.out 0).trans rfl
        have hcz42_1 : w31.cell? ⟨gb287, 1, none⟩ = some (.int .i64 0) := (blk_cell BK287.out 1).trans rfl
        have hcz42_2 : w31.cell? ⟨gb287, 2, none⟩ = some (.slice none 0 0) := (blk_cell BK287.out 2).trans rfl
        have hfz42_0 := blk_frozen BK287.out 0
        have hfz42_1 := blk_frozen BK287.out 1
        have hfz42_2 := blk_frozen BK287.out 2
        have hnb43 := NB274_261.out
        have hnc43 := NB261_274.out
        have hnb44 := NB274_280.out
        have hnc44 := NB280_274.out
        have hcz45_0 : w31.cell? ⟨gb274, 0, none⟩ = some (.int .i64 t268) := (blk_cell BK274.out 0).trans rfl
        have hcz45_1 : w31.cell? ⟨gb274, 1, none⟩ = some (.int .i64 t269) := (blk_cell BK274.out 1).trans rfl
        have hcz45_2 : w31.cell? ⟨gb274, 2, none⟩ = some (.slice Ao22 t270.length co22) := (blk_cell BK274.out 2).trans rfl
        have hfz45_0 := blk_frozen BK274.out 0
        have hfz45_1 := blk_frozen BK274.out 1
        have hfz45_2 := blk_frozen BK274.out 2
        go_wp2_with (first | ((with_reducible refine gate_callee (f := 19) rfl ?_); refine goesL_ (some 34) rfl rfl Try.func19 (by kernel_rfl) rfl #[.agg #[.int .i64 t281, .int .i64 t282, .slice Ao36 t283.length co36], .agg #[.int .i64 t268, .int .i64 t269, .slice Ao22 t270.length co22]] rfl pA ?_; (with_reducible refine (laws_eqTiling.calls k t281 t282 _ _ t283 t268 t269 _ _ t270 true _ ?side1 ?side2 ?side3 ?side4 A37.out).mono ?_); (case side1 => refine (Kd.R_reads' (e := 2) (base := w.heap.size) (ok := fun k_ => (((True ∧ some k_ ≠ (.slice Ao17 t265.length co17 : Value).ownBlock) ∧ some k_ ≠ (.slice Ao22 t270.length co22 : Value).ownBlock) ∧ some k_ ≠ (.slice Ao29 t277.length co29 : Value).ownBlock)) (n := t283.length) (c := co36) ?_).2.2; exact (by (with_reducible repeat (first | apply Kd.R_alloc | apply Kd.R_drewN | apply Kd.R_drew)); exact (Kd.R_mono (Kd.R_far (p := ⟨gb287, 2, none⟩) (Kd.R_far (p := ⟨gb287, 1, none⟩) (Kd.R_far (p := ⟨gb287, 0, none⟩) (Kd.R_types HO285.out BK287.out (by decide)) (fun _ hk => hk.2) (.int .i64 t281)) (fun _ hk => hk.2) (.int .i64 t282)) (fun _ hk => hk.2) (.slice Ao36 t283.length co36)) (fun _ h_ => h_.1)))); (case side2 => exact (Kd.R_reads' HO285.out).2.1); (case side3 => refine (Kd.R_reads' (e := 2) (base := w.heap.size) (ok := fun k_ => (((True ∧ some k_ ≠ (.slice Ao17 t265.length co17 : Value).ownBlock) ∧ some k_ ≠ (.slice Ao29 t277.length co29 : Value).ownBlock) ∧ some k_ ≠ (.slice Ao36 t283.length co36 : Value).ownBlock)) (n := t270.length) (c := co22) ?_).2.2; exact (by (with_reducible repeat (first | apply Kd.R_alloc | apply Kd.R_drewN | apply Kd.R_drew)); exact (Kd.R_mono (Kd.R_far (p := ⟨gb287, 2, none⟩) (Kd.R_far (p := ⟨gb287, 1, none⟩) (Kd.R_far (p := ⟨gb287, 0, none⟩) (Kd.R_types HO272.out BK287.out (by decide)) (fun _ hk => hk.2) (.int .i64 t281)) (fun _ hk => hk.2) (.int .i64 t282)) (fun _ hk => hk.2) (.slice Ao36 t283.length co36)) (fun _ h_ => h_.1)))); (case side4 => exact (Kd.R_reads' HO272.out).2.1); rintro e w46 ⟨rfl, hb⟩; refine ⟨_, rfl, ?_⟩; have n0_ := Aside0.mk (Kd.R_below (by (with_reducible repeat (first | apply Kd.R_alloc | apply Kd.R_drewN | apply Kd.R_drew)); exact (Kd.R_mono (Kd.R_far (p := ⟨gb287, 2, none⟩) (Kd.R_far (p := ⟨gb287, 1, none⟩) (Kd.R_far (p := ⟨gb287, 0, none⟩) (Kd.R_types HO267.out BK287.out (by decide)) (fun _ hk => hk.2) (.int .i64 t281)) (fun _ hk => hk.2) (.int .i64 t282)) (fun _ hk => hk.2) (.slice Ao36 t283.length co36)) (fun _ h_ => h_.1))) hb); have n1_ := Aside0.mk (Kd.R_below (by (with_reducible repeat (first | apply Kd.R_alloc | apply Kd.R_drewN | apply Kd.R_drew)); exact (Kd.R_mono (Kd.R_far (p := ⟨gb287, 2, none⟩) (Kd.R_far (p := ⟨gb287, 1, none⟩) (Kd.R_far (p := ⟨gb287, 0, none⟩) (Kd.R_types HO272.out BK287.out (by decide)) (fun _ hk => hk.2) (.int .i64 t281)) (fun _ hk => hk.2) (.int .i64 t282)) (fun _ hk => hk.2) (.slice Ao36 t283.length co36)) (fun _ h_ => h_.1))) hb); have n2_ := Aside0.mk (Kd.R_below (by (with_reducible repeat (first | apply Kd.R_alloc | apply Kd.R_drewN | apply Kd.R_drew)); exact (Kd.R_mono (Kd.R_far (p := ⟨gb287, 2, none⟩) (Kd.R_far (p := ⟨gb287, 1, none⟩) (Kd.R_far (p := ⟨gb287, 0, none⟩) (Kd.R_types HO279.out BK287.out (by decide)) (fun _ hk => hk.2) (.int .i64 t281)) (fun _ hk => hk.2) (.int .i64 t282)) (fun _ hk => hk.2) (.slice Ao36 t283.length co36)) (fun _ h_ => h_.1))) hb); have n3_ := Aside0.mk (Kd.R_below (by (with_reducible repeat (first | apply Kd.R_alloc | apply Kd.R_drewN | apply Kd.R_drew)); exact (Kd.R_mono (Kd.R_far (p := ⟨gb287, 2, none⟩) (Kd.R_far (p := ⟨gb287, 1, none⟩) (Kd.R_far (p := ⟨gb287, 0, none⟩) (Kd.R_types HO285.out BK287.out (by decide)) (fun _ hk => hk.2) (.int .i64 t281)) (fun _ hk => hk.2) (.int .i64 t282)) (fun _ hk => hk.2) (.slice Ao36 t283.length co36)) (fun _ h_ => h_.1))) hb); have n4_ := Aside0.mk (blk_below (g := gb261) (o := .cells #[.int .i64 a0_0, .int .i64 a0_1, .slice A0_2 l0_2.length c0_2] 24 (0, 0)) (by (with_reducible repeat (first | refine blk_drewN ?_ _ | refine blk_drew ?_ | refine blk_alloc ?_ _)); refine blk_far ?_ NB261_287.out _; (with_reducible repeat (first | refine blk_drewN ?_ _ | refine blk_drew ?_ | refine blk_alloc ?_ _)); refine blk_far ?_ NB261_287.out _; (with_reducible repeat (first | refine blk_drewN ?_ _ | refine blk_drew ?_ | refine blk_alloc ?_ _)); refine blk_far ?_ NB261_287.out _; (with_reducible repeat (first | refine blk_drewN ?_ _ | refine blk_drew ?_ | refine blk_alloc ?_ _)); exact BK261.out) hb); have n5_ := Aside0.mk (blk_below (g := gb274) (o := .cells #[.int .i64 t268, .int .i64 t269, .slice Ao22 t270.length co22] 28 (0, 0)) (by (with_reducible repeat (first | refine blk_drewN ?_ _ | refine blk_drew ?_ | refine blk_alloc ?_ _)); refine blk_far ?_ NB274_287.out _; (with_reducible repeat (first | refine blk_drewN ?_ _ | refine blk_drew ?_ | refine blk_alloc ?_ _)); refine blk_far ?_ NB274_287.out _; (with_reducible repeat (first | refine blk_drewN ?_ _ | refine blk_drew ?_ | refine blk_alloc ?_ _)); refine blk_far ?_ NB274_287.out _; (with_reducible repeat (first | refine blk_drewN ?_ _ | refine blk_drew ?_ | refine blk_alloc ?_ _)); exact BK274.out) hb); have n6_ := Aside0.mk (blk_below (g := gb280) (o := .cells #[.int .i64 t275, .int .i64 t276, .slice Ao29 t277.length co29] 28 (0, 0)) (by (with_reducible repeat (first | refine blk_drewN ?_ _ | refine blk_drew ?_ | refine blk_alloc ?_ _)); refine blk_far ?_ NB280_287.out _; (with_reducible repeat (first | refine blk_drewN ?_ _ | refine blk_drew ?_ | refine blk_alloc ?_ _)); refine blk_far ?_ NB280_287.out _; (with_reducible repeat (first | refine blk_drewN ?_ _ | refine blk_drew ?_ | refine blk_alloc ?_ _)); refine blk_far ?_ NB280_287.out _; (with_reducible repeat (first | refine blk_drewN ?_ _ | refine blk_drew ?_ | refine blk_alloc ?_ _)); exact BK280.out) hb); have n7_ := Aside0.mk (blk_below (g := gb287) (o := .cells #[.int .i64 t281, .int .i64 t282, .slice Ao36 t283.length co36] 28 (0, 0)) (by (with_reducible repeat (first | refine blk_drewN ?_ _ | refine blk_drew ?_ | refine blk_alloc ?_ _)); refine blk_put (cs := #[.int .i64 t281, .int .i64 t282, .slice none 0 0]) ?_ 2 _ rfl; (with_reducible repeat (first | refine blk_drewN ?_ _ | refine blk_drew ?_ | refine blk_alloc ?_ _)); refine blk_put (cs := #[.int .i64 t281, .int .i64 0, .slice none 0 0]) ?_ 1 _ rfl; (with_reducible repeat (first | refine blk_drewN ?_ _ | refine blk_drew ?_ | refine blk_alloc ?_ _)); refine blk_put (cs := #[.int .i64 0, .int .i64 0, .slice none 0 0]) ?_ 0 _ rfl; (with_reducible repeat (first | refine blk_drewN ?_ _ | refine blk_drew ?_ | refine blk_alloc ?_ _)); exact BK287.out) hb); have n8_ := Aside0.mk (below_step (pB4 HB.out GE261.out GE274.out GE280.out GE287.out) hb); clear HO267; clear HO272; clear HO279; clear HO285; clear BK261; clear BK274; clear BK280; clear BK287; clear HB; have HO267 := n0_; have HO272 := n1_; have HO279 := n2_; have HO285 := n3_; have BK261 := n4_; have BK274 := n5_; have BK280 := n6_; have BK287 := n7_; have HB := n8_; clear n0_ n1_ n2_ n3_ n4_ n5_ n6_ n7_ n8_; (try clear hb); (try clear hb2); (try clear hk); (try clear hi)))
        go_meet
        case rel => exact ⟨_, ((t286 != t273)), (by first | rfl | (simp; done) | (simp [*]; done)), H', ⟨by first | omega | exact Nat.le_refl _⟩, ⟨by (with_reducible repeat (first | apply Kd.R_alloc | apply Kd.R_drewN | apply Kd.R_drew)); exact Kd.R_mono HO272.out (fun _ hk => ⟨hk.1.2, hk.2⟩)⟩, ⟨by (with_reducible repeat (first | apply Kd.R_alloc | apply Kd.R_drewN | apply Kd.R_drew)); exact Kd.R_mono HO279.out (fun _ hk => ⟨hk.1.2, hk.2⟩)⟩, ⟨by (with_reducible repeat (first | apply Kd.R_alloc | apply Kd.R_drewN | apply Kd.R_drew)); exact Kd.R_mono HO285.out (fun _ hk => ⟨hk.1.2, hk.2⟩)⟩, ⟨by (with_reducible repeat (first | refine blk_drewN ?_ _ | refine blk_drew ?_ | refine blk_alloc ?_ _)); exact BK261.out⟩, ⟨by (with_reducible repeat (first | refine blk_drewN ?_ _ | refine blk_drew ?_ | refine blk_alloc ?_ _)); exact BK274.out⟩, ⟨by (with_reducible repeat (first | refine blk_drewN ?_ _ | refine blk_drew ?_ | refine blk_alloc ?_ _)); exact BK280.out⟩, ⟨by (with_reducible repeat (first | refine blk_drewN ?_ _ | refine blk_drew ?_ | refine blk_alloc ?_ _)); exact BK287.out⟩, ⟨pB4 HB.out GE261.out GE274.out GE280.out GE287.out⟩⟩
      · replace c38 := Bool.eq_false_iff.mpr c38
        subst c38
        have H1 : (laws_FnExactNormalTiling.j0 k t273 t286 true a0_0 a0_1 l0_2 t268 t269 t270 t275 t276 t277 t281 t282 t283) = some r := by rw [if_neg (show ¬ (false = true) by decide)] at H; exact H
        clear H
        have H := H1
        clear H1
        have H' := Aside0.mk H
        clear H
        have hnb47 := NB287_261.out
        have hnc47 := NB261_287.out
        have hnb48 := NB287_274.out
        have hnc48 := NB274_287.out
        have hnb49 := NB287_280.out
        have hnc49 := NB280_287.out
        have hcz50_0 : w31.cell? ⟨gb287, 0, none⟩ = some (.int .i64 0) := (blk_cell BK287.out 0).trans rfl
        have hcz50_1 : w31.cell? ⟨gb287, 1, none⟩ = some (.int .i64 0) := (blk_cell BK287.out 1).trans rfl
        have hcz50_2 : w31.cell? ⟨gb287, 2, none⟩ = some (.slice none 0 0) := (blk_cell BK287.out 2).trans rfl
        have hfz50_0 := blk_frozen BK287.out 0
        have hfz50_1 := blk_frozen BK287.out 1
        have hfz50_2 := blk_frozen BK287.out 2
        have hnb51 := NB274_261.out
        have hnc51 := NB261_274.out
        have hnb52 := NB274_280.out
        have hnc52 := NB280_274.out
        have hcz53_0 : w31.cell? ⟨gb274, 0, none⟩ = some (.int .i64 t268) := (blk_cell BK274.out 0).trans rfl
        have hcz53_1 : w31.cell? ⟨gb274, 1, none⟩ = some (.int .i64 t269) := (blk_cell BK274.out 1).trans rfl
        have hcz53_2 : w31.cell? ⟨gb274, 2, none⟩ = some (.slice Ao22 t270.length co22) := (blk_cell BK274.out 2).trans rfl
        have hfz53_0 := blk_frozen BK274.out 0
        have hfz53_1 := blk_frozen BK274.out 1
        have hfz53_2 := blk_frozen BK274.out 2
        go_wp2_with (first | ((with_reducible refine gate_callee (f := 19) rfl ?_); refine goesL_ (some 34) rfl rfl Try.func19 (by kernel_rfl) rfl #[.agg #[.int .i64 t281, .int .i64 t282, .slice Ao36 t283.length co36], .agg #[.int .i64 t268, .int .i64 t269, .slice Ao22 t270.length co22]] rfl pA ?_; (with_reducible refine (laws_eqTiling.calls k t281 t282 _ _ t283 t268 t269 _ _ t270 false _ ?side1 ?side2 ?side3 ?side4 A37.out).mono ?_); (case side1 => refine (Kd.R_reads' (e := 2) (base := w.heap.size) (ok := fun k_ => (((True ∧ some k_ ≠ (.slice Ao17 t265.length co17 : Value).ownBlock) ∧ some k_ ≠ (.slice Ao22 t270.length co22 : Value).ownBlock) ∧ some k_ ≠ (.slice Ao29 t277.length co29 : Value).ownBlock)) (n := t283.length) (c := co36) ?_).2.2; exact (by (with_reducible repeat (first | apply Kd.R_alloc | apply Kd.R_drewN | apply Kd.R_drew)); exact (Kd.R_mono (Kd.R_far (p := ⟨gb287, 2, none⟩) (Kd.R_far (p := ⟨gb287, 1, none⟩) (Kd.R_far (p := ⟨gb287, 0, none⟩) (Kd.R_types HO285.out BK287.out (by decide)) (fun _ hk => hk.2) (.int .i64 t281)) (fun _ hk => hk.2) (.int .i64 t282)) (fun _ hk => hk.2) (.slice Ao36 t283.length co36)) (fun _ h_ => h_.1)))); (case side2 => exact (Kd.R_reads' HO285.out).2.1); (case side3 => refine (Kd.R_reads' (e := 2) (base := w.heap.size) (ok := fun k_ => (((True ∧ some k_ ≠ (.slice Ao17 t265.length co17 : Value).ownBlock) ∧ some k_ ≠ (.slice Ao29 t277.length co29 : Value).ownBlock) ∧ some k_ ≠ (.slice Ao36 t283.length co36 : Value).ownBlock)) (n := t270.length) (c := co22) ?_).2.2; exact (by (with_reducible repeat (first | apply Kd.R_alloc | apply Kd.R_drewN | apply Kd.R_drew)); exact (Kd.R_mono (Kd.R_far (p := ⟨gb287, 2, none⟩) (Kd.R_far (p := ⟨gb287, 1, none⟩) (Kd.R_far (p := ⟨gb287, 0, none⟩) (Kd.R_types HO272.out BK287.out (by decide)) (fun _ hk => hk.2) (.int .i64 t281)) (fun _ hk => hk.2) (.int .i64 t282)) (fun _ hk => hk.2) (.slice Ao36 t283.length co36)) (fun _ h_ => h_.1)))); (case side4 => exact (Kd.R_reads' HO272.out).2.1); rintro e w54 ⟨rfl, hb⟩; refine ⟨_, rfl, ?_⟩; have n0_ := Aside0.mk (Kd.R_below (by (with_reducible repeat (first | apply Kd.R_alloc | apply Kd.R_drewN | apply Kd.R_drew)); exact (Kd.R_mono (Kd.R_far (p := ⟨gb287, 2, none⟩) (Kd.R_far (p := ⟨gb287, 1, none⟩) (Kd.R_far (p := ⟨gb287, 0, none⟩) (Kd.R_types HO267.out BK287.out (by decide)) (fun _ hk => hk.2) (.int .i64 t281)) (fun _ hk => hk.2) (.int .i64 t282)) (fun _ hk => hk.2) (.slice Ao36 t283.length co36)) (fun _ h_ => h_.1))) hb); have n1_ := Aside0.mk (Kd.R_below (by (with_reducible repeat (first | apply Kd.R_alloc | apply Kd.R_drewN | apply Kd.R_drew)); exact (Kd.R_mono (Kd.R_far (p := ⟨gb287, 2, none⟩) (Kd.R_far (p := ⟨gb287, 1, none⟩) (Kd.R_far (p := ⟨gb287, 0, none⟩) (Kd.R_types HO272.out BK287.out (by decide)) (fun _ hk => hk.2) (.int .i64 t281)) (fun _ hk => hk.2) (.int .i64 t282)) (fun _ hk => hk.2) (.slice Ao36 t283.length co36)) (fun _ h_ => h_.1))) hb); have n2_ := Aside0.mk (Kd.R_below (by (with_reducible repeat (first | apply Kd.R_alloc | apply Kd.R_drewN | apply Kd.R_drew)); exact (Kd.R_mono (Kd.R_far (p := ⟨gb287, 2, none⟩) (Kd.R_far (p := ⟨gb287, 1, none⟩) (Kd.R_far (p := ⟨gb287, 0, none⟩) (Kd.R_types HO279.out BK287.out (by decide)) (fun _ hk => hk.2) (.int .i64 t281)) (fun _ hk => hk.2) (.int .i64 t282)) (fun _ hk => hk.2) (.slice Ao36 t283.length co36)) (fun _ h_ => h_.1))) hb); have n3_ := Aside0.mk (Kd.R_below (by (with_reducible repeat (first | apply Kd.R_alloc | apply Kd.R_drewN | apply Kd.R_drew)); exact (Kd.R_mono (Kd.R_far (p := ⟨gb287, 2, none⟩) (Kd.R_far (p := ⟨gb287, 1, none⟩) (Kd.R_far (p := ⟨gb287, 0, none⟩) (Kd.R_types HO285.out BK287.out (by decide)) (fun _ hk => hk.2) (.int .i64 t281)) (fun _ hk => hk.2) (.int .i64 t282)) (fun _ hk => hk.2) (.slice Ao36 t283.length co36)) (fun _ h_ => h_.1))) hb); have n4_ := Aside0.mk (blk_below (g := gb261) (o := .cells #[.int .i64 a0_0, .int .i64 a0_1, .slice A0_2 l0_2.length c0_2] 24 (0, 0)) (by (with_reducible repeat (first | refine blk_drewN ?_ _ | refine blk_drew ?_ | refine blk_alloc ?_ _)); refine blk_far ?_ NB261_287.out _; (with_reducible repeat (first | refine blk_drewN ?_ _ | refine blk_drew ?_ | refine blk_alloc ?_ _)); refine blk_far ?_ NB261_287.out _; (with_reducible repeat (first | refine blk_drewN ?_ _ | refine blk_drew ?_ | refine blk_alloc ?_ _)); refine blk_far ?_ NB261_287.out _; (with_reducible repeat (first | refine blk_drewN ?_ _ | refine blk_drew ?_ | refine blk_alloc ?_ _)); exact BK261.out) hb); have n5_ := Aside0.mk (blk_below (g := gb274) (o := .cells #[.int .i64 t268, .int .i64 t269, .slice Ao22 t270.length co22] 28 (0, 0)) (by (with_reducible repeat (first | refine blk_drewN ?_ _ | refine blk_drew ?_ | refine blk_alloc ?_ _)); refine blk_far ?_ NB274_287.out _; (with_reducible repeat (first | refine blk_drewN ?_ _ | refine blk_drew ?_ | refine blk_alloc ?_ _)); refine blk_far ?_ NB274_287.out _; (with_reducible repeat (first | refine blk_drewN ?_ _ | refine blk_drew ?_ | refine blk_alloc ?_ _)); refine blk_far ?_ NB274_287.out _; (with_reducible repeat (first | refine blk_drewN ?_ _ | refine blk_drew ?_ | refine blk_alloc ?_ _)); exact BK274.out) hb); have n6_ := Aside0.mk (blk_below (g := gb280) (o := .cells #[.int .i64 t275, .int .i64 t276, .slice Ao29 t277.length co29] 28 (0, 0)) (by (with_reducible repeat (first | refine blk_drewN ?_ _ | refine blk_drew ?_ | refine blk_alloc ?_ _)); refine blk_far ?_ NB280_287.out _; (with_reducible repeat (first | refine blk_drewN ?_ _ | refine blk_drew ?_ | refine blk_alloc ?_ _)); refine blk_far ?_ NB280_287.out _; (with_reducible repeat (first | refine blk_drewN ?_ _ | refine blk_drew ?_ | refine blk_alloc ?_ _)); refine blk_far ?_ NB280_287.out _; (with_reducible repeat (first | refine blk_drewN ?_ _ | refine blk_drew ?_ | refine blk_alloc ?_ _)); exact BK280.out) hb); have n7_ := Aside0.mk (blk_below (g := gb287) (o := .cells #[.int .i64 t281, .int .i64 t282, .slice Ao36 t283.length co36] 28 (0, 0)) (by (with_reducible repeat (first | refine blk_drewN ?_ _ | refine blk_drew ?_ | refine blk_alloc ?_ _)); refine blk_put (cs := #[.int .i64 t281, .int .i64 t282, .slice none 0 0]) ?_ 2 _ rfl; (with_reducible repeat (first | refine blk_drewN ?_ _ | refine blk_drew ?_ | refine blk_alloc ?_ _)); refine blk_put (cs := #[.int .i64 t281, .int .i64 0, .slice none 0 0]) ?_ 1 _ rfl; (with_reducible repeat (first | refine blk_drewN ?_ _ | refine blk_drew ?_ | refine blk_alloc ?_ _)); refine blk_put (cs := #[.int .i64 0, .int .i64 0, .slice none 0 0]) ?_ 0 _ rfl; (with_reducible repeat (first | refine blk_drewN ?_ _ | refine blk_drew ?_ | refine blk_alloc ?_ _)); exact BK287.out) hb); have n8_ := Aside0.mk (below_step (pB4 HB.out GE261.out GE274.out GE280.out GE287.out) hb); clear HO267; clear HO272; clear HO279; clear HO285; clear BK261; clear BK274; clear BK280; clear BK287; clear HB; have HO267 := n0_; have HO272 := n1_; have HO279 := n2_; have HO285 := n3_; have BK261 := n4_; have BK274 := n5_; have BK280 := n6_; have BK287 := n7_; have HB := n8_; clear n0_ n1_ n2_ n3_ n4_ n5_ n6_ n7_ n8_; (try clear hb); (try clear hb2); (try clear hk); (try clear hi)))
        go_meet
        case rel => exact ⟨_, (true), (by first | rfl | (simp; done) | (simp [*]; done)), H', ⟨by first | omega | exact Nat.le_refl _⟩, ⟨by (with_reducible repeat (first | apply Kd.R_alloc | apply Kd.R_drewN | apply Kd.R_drew)); exact Kd.R_mono HO272.out (fun _ hk => ⟨hk.1.2, hk.2⟩)⟩, ⟨by (with_reducible repeat (first | apply Kd.R_alloc | apply Kd.R_drewN | apply Kd.R_drew)); exact Kd.R_mono HO279.out (fun _ hk => ⟨hk.1.2, hk.2⟩)⟩, ⟨by (with_reducible repeat (first | apply Kd.R_alloc | apply Kd.R_drewN | apply Kd.R_drew)); exact Kd.R_mono HO285.out (fun _ hk => ⟨hk.1.2, hk.2⟩)⟩, ⟨by (with_reducible repeat (first | refine blk_drewN ?_ _ | refine blk_drew ?_ | refine blk_alloc ?_ _)); exact BK261.out⟩, ⟨by (with_reducible repeat (first | refine blk_drewN ?_ _ | refine blk_drew ?_ | refine blk_alloc ?_ _)); exact BK274.out⟩, ⟨by (with_reducible repeat (first | refine blk_drewN ?_ _ | refine blk_drew ?_ | refine blk_alloc ?_ _)); exact BK280.out⟩, ⟨by (with_reducible repeat (first | refine blk_drewN ?_ _ | refine blk_drew ?_ | refine blk_alloc ?_ _)); exact BK287.out⟩, ⟨pB4 HB.out GE261.out GE274.out GE280.out GE287.out⟩⟩
    case rest =>
      clear HC11
      try clear c1
      try clear c2
      try clear p2
      try clear c3
      try clear c3b0
      try clear c4
      try clear c5
      try clear c8
      try clear c15
      try clear c17
      try clear c19
      try clear c20
      try clear c26
      try clear c27
      try clear c32
      try clear c33
      try clear c34
      try clear c38
      try clear c39
      try clear c40
      try clear c41
      try clear c42
      try clear c43
      try clear c44
      try clear c47
      try clear c48
      try clear c49
      try clear c51
      try clear c52
      try clear hcz13_0
      try clear hcz13_1
      try clear hcz13_2
      try clear hcz15_0
      try clear hcz15_1
      try clear hcz15_2
      try clear hcz21_0
      try clear hcz21_1
      try clear hcz21_2
      try clear hcz23_0
      try clear hcz23_1
      try clear hcz23_2
      try clear hcz28_0
      try clear hcz28_1
      try clear hcz28_2
      try clear hcz35_0
      try clear hcz35_1
      try clear hcz35_2
      try clear hcz42_0
      try clear hcz42_1
      try clear hcz42_2
      try clear hcz45_0
      try clear hcz45_1
      try clear hcz45_2
      try clear hcz50_0
      try clear hcz50_1
      try clear hcz50_2
      try clear hcz53_0
      try clear hcz53_1
      try clear hcz53_2
      try clear hcz5_0
      try clear hcz5_1
      try clear hcz5_2
      try clear hfz13_0
      try clear hfz13_1
      try clear hfz13_2
      try clear hfz15_0
      try clear hfz15_1
      try clear hfz15_2
      try clear hfz21_0
      try clear hfz21_1
      try clear hfz21_2
      try clear hfz23_0
      try clear hfz23_1
      try clear hfz23_2
      try clear hfz28_0
      try clear hfz28_1
      try clear hfz28_2
      try clear hfz35_0
      try clear hfz35_1
      try clear hfz35_2
      try clear hfz42_0
      try clear hfz42_1
      try clear hfz42_2
      try clear hfz45_0
      try clear hfz45_1
      try clear hfz45_2
      try clear hfz50_0
      try clear hfz50_1
      try clear hfz50_2
      try clear hfz53_0
      try clear hfz53_1
      try clear hfz53_2
      try clear hfz5_0
      try clear hfz5_1
      try clear hfz5_2
      obtain ⟨kq, x40_10, rfl, HA, HJ10, HO_275002, HO_281002, HO_288002, BK261, BK274, BK280, BK287, HB⟩ := hcut
      cases kq with
      | zero => exact absurd HA.out (by simp [laws_FnExactNormalTiling.j0])
      | succ kj10 =>
        have H := HA.out
        clear HA
        simp only [laws_FnExactNormalTiling.j0] at H
        by_cases c55 : x40_10 = true
        · subst c55
          have H1 : (some false) = some r := by rw [if_pos rfl] at H; exact H
          clear H
          have H := H1
          clear H1
          obtain rfl := Option.some.inj H
          go_wp2
          go_ret
          exact ⟨by first | rfl | (simp [errW_none, errW_some] <;> rfl) | (simp [*, errW_none, errW_some] <;> rfl), pB4 HB.out GE261.out GE274.out GE280.out GE287.out⟩
        · replace c55 := Bool.eq_false_iff.mpr c55
          subst c55
          have H1 : ((laws_toTiling.f kj10 a0_0 a0_1 l0_2).bind fun bt289 => ((laws_eqTiling.f kj10 t275 t276 t277 bt289.1 bt289.2.1 bt289.2.2).bind fun t294 => (if t294 = true then ((laws_markTiling.f kj10 t275 t276 t277 1).bind fun bt295 => (if bt295.1 < 0 then (laws_FnExactNormalTiling.j1 kj10 t273 true a0_0 a0_1 l0_2 t268 t269 t270 t281 t282 t283) else ((laws_eqTiling.f kj10 t281 t282 t283 t268 t269 t270).bind fun t297 => (if t297 = true then (laws_FnExactNormalTiling.j1 kj10 t273 (t286 != t273) a0_0 a0_1 l0_2 t268 t269 t270 t281 t282 t283) else (laws_FnExactNormalTiling.j1 kj10 t273 true a0_0 a0_1 l0_2 t268 t269 t270 t281 t282 t283))))) else (some false)))) = some r := by rw [if_neg (show ¬ (false = true) by decide)] at H; exact H
          clear H
          have H := H1
          clear H1
          replace H := Option.bind_eq_some_iff.mp H
          obtain ⟨⟨t289, t290, t291⟩, A560, H⟩ := H
          replace H : ((laws_eqTiling.f kj10 t275 t276 t277 t289 t290 t291).bind fun t294 => (if t294 = true then ((laws_markTiling.f kj10 t275 t276 t277 1).bind fun bt295 => (if bt295.1 < 0 then (laws_FnExactNormalTiling.j1 kj10 t273 true a0_0 a0_1 l0_2 t268 t269 t270 t281 t282 t283) else ((laws_eqTiling.f kj10 t281 t282 t283 t268 t269 t270).bind fun t297 => (if t297 = true then (laws_FnExactNormalTiling.j1 kj10 t273 (t286 != t273) a0_0 a0_1 l0_2 t268 t269 t270 t281 t282 t283) else (laws_FnExactNormalTiling.j1 kj10 t273 true a0_0 a0_1 l0_2 t268 t269 t270 t281 t282 t283))))) else (some false))) = some r := H
          have A56 := Aside0.mk A560
          clear A560
          replace H := Option.bind_eq_some_iff.mp H
          obtain ⟨t294, A570, H⟩ := H
          replace H : (if t294 = true then ((laws_markTiling.f kj10 t275 t276 t277 1).bind fun bt295 => (if bt295.1 < 0 then (laws_FnExactNormalTiling.j1 kj10 t273 true a0_0 a0_1 l0_2 t268 t269 t270 t281 t282 t283) else ((laws_eqTiling.f kj10 t281 t282 t283 t268 t269 t270).bind fun t297 => (if t297 = true then (laws_FnExactNormalTiling.j1 kj10 t273 (t286 != t273) a0_0 a0_1 l0_2 t268 t269 t270 t281 t282 t283) else (laws_FnExactNormalTiling.j1 kj10 t273 true a0_0 a0_1 l0_2 t268 t269 t270 t281 t282 t283))))) else (some false)) = some r := H
          have A57 := Aside0.mk A570
          clear A570
          by_cases c58 : t294 = true
          · subst c58
            have H1 : ((laws_markTiling.f kj10 t275 t276 t277 1).bind fun bt295 => (if bt295.1 < 0 then (laws_FnExactNormalTiling.j1 kj10 t273 true a0_0 a0_1 l0_2 t268 t269 t270 t281 t282 t283) else ((laws_eqTiling.f kj10 t281 t282 t283 t268 t269 t270).bind fun t297 => (if t297 = true then (laws_FnExactNormalTiling.j1 kj10 t273 (t286 != t273) a0_0 a0_1 l0_2 t268 t269 t270 t281 t282 t283) else (laws_FnExactNormalTiling.j1 kj10 t273 true a0_0 a0_1 l0_2 t268 t269 t270 t281 t282 t283))))) = some r := by rw [if_pos rfl] at H; exact H
            clear H
            have H := H1
            clear H1
            replace H := Option.bind_eq_some_iff.mp H
            obtain ⟨⟨t295, t296⟩, A590, H⟩ := H
            replace H : (if t295 < 0 then (laws_FnExactNormalTiling.j1 kj10 t273 true a0_0 a0_1 l0_2 t268 t269 t270 t281 t282 t283) else ((laws_eqTiling.f kj10 t281 t282 t283 t268 t269 t270).bind fun t297 => (if t297 = true then (laws_FnExactNormalTiling.j1 kj10 t273 (t286 != t273) a0_0 a0_1 l0_2 t268 t269 t270 t281 t282 t283) else (laws_FnExactNormalTiling.j1 kj10 t273 true a0_0 a0_1 l0_2 t268 t269 t270 t281 t282 t283)))) = some r := H
            have A59 := Aside0.mk A590
            clear A590
            have HC60 := Aside0.mk H
            clear H
            try go_wp2
            have n0_ := Aside0.mk (Kd.R_drew HO_275002.out)
            have n1_ := Aside0.mk (Kd.R_drew HO_281002.out)
            have n2_ := Aside0.mk (Kd.R_drew HO_288002.out)
            have n3_ := Aside0.mk (blk_drew BK261.out)
            have n4_ := Aside0.mk (blk_drew BK274.out)
            have n5_ := Aside0.mk (blk_drew BK280.out)
            have n6_ := Aside0.mk (blk_drew BK287.out)
            have n7_ := Aside0.mk (below_drew1 HB.out)
            clear HO_275002
            clear HO_281002
            clear HO_288002
            clear BK261
            clear BK274
            clear BK280
            clear BK287
            clear HB
            have HO_275002 := n0_
            have HO_281002 := n1_
            have HO_288002 := n2_
            have BK261 := n3_
            have BK274 := n4_
            have BK280 := n5_
            have BK287 := n6_
            have HB := n7_
            clear n0_ n1_ n2_ n3_ n4_ n5_ n6_ n7_
            refine start_ (n := 5) (S := fun w' => w'.cell? ⟨gb280, 0, none⟩ = some (.int .i64 t275) ∧ w'.cell? ⟨gb280, 1, none⟩ = some (.int .i64 t276) ∧ w'.cell? ⟨gb280, 2, none⟩ = some (.slice Ao29 t277.length co29) ∧ w'.cell? ⟨gb261, 0, none⟩ = some (.int .i64 a0_0) ∧ w'.cell? ⟨gb261, 1, none⟩ = some (.int .i64 a0_1) ∧ w'.cell? ⟨gb261, 2, none⟩ = some (.slice A0_2 l0_2.length c0_2)) (ds := []) #[false, false, false, false, false] (by kernel_rfl) rfl rfl ⟨(blk_cell BK280.out 0).trans rfl, (blk_cell BK280.out 1).trans rfl, (blk_cell BK280.out 2).trans rfl, (blk_cell BK261.out 0).trans rfl, (blk_cell BK261.out 1).trans rfl, (blk_cell BK261.out 2).trans rfl⟩ (fun hHeld => ?_)
            generalize wc.drew = w61 at HO_275002 HO_281002 HO_288002 BK261 BK274 BK280 BK287 HB hHeld ⊢
            refine take_ (i := 0) (N := some 41) (v := ?_) (a' := ?_) #[true, false, false, false, false] rfl rfl (by kernel_rfl) (fun _ _ _ h => h) (Or.inl ⟨by rfl, ?_⟩) hHeld ?_ ?_
            rotate_left
            · rintro w' ⟨s0, s1, s2, s3, s4, s5⟩
              go_simp
              with_reducible rfl
            rotate_left
            · simp only [Act.put, List.setIfInBounds_toArray, List.set_cons_zero, List.set_cons_succ, i64_w, i32_w]
              rfl
            refine take_ (i := 1) (N := some 42) (v := ?_) (a' := ?_) #[true, true, false, false, false] rfl rfl (by kernel_rfl) (fun _ _ _ h => h) (Or.inl ⟨by rfl, ?_⟩) hHeld ?_ ?_
            rotate_left
            · rintro w' ⟨s0, s1, s2, s3, s4, s5⟩
              go_simp
              with_reducible rfl
            rotate_left
            · simp only [Act.put, List.setIfInBounds_toArray, List.set_cons_zero, List.set_cons_succ, i64_w, i32_w]
              rfl
            refine one_ (i := 2) (N := some 43) #[true, true, true, false, false] rfl rfl (by kernel_rfl) (by decide) (fun K hK => ?_)
            refine goes_ Try.func17 (by kernel_rfl) rfl #[.agg #[.int .i64 a0_0, .int .i64 a0_1, .slice A0_2 l0_2.length c0_2]] (by rfl) rfl rfl pA ?_
            with_reducible refine (laws_toTiling.calls kj10 a0_0 a0_1 _ _ l0_2 t289 t290 t291 _ ?side1 ?side2 A56.out).mono ?_
            (case side1 => exact pC (Kd.C_below HR0_2.out HB.out))
            (case side2 => exact HC0_2.out)
            rintro e w62 ⟨v292, rfl, ho0, hb⟩
            refine ⟨_, rfl, ?_⟩
            have n0_ := Aside0.mk (Kd.R_elder' (pR HO_275002.out) (Kd.R_base ho0) hb)
            have n1_ := Aside0.mk (Kd.R_elder' (pR HO_281002.out) (Kd.R_base ho0) hb)
            have n2_ := Aside0.mk (Kd.R_elder' (pR HO_288002.out) (Kd.R_base ho0) hb)
            have n3_ := Aside0.mk (Kd.R_lower (Kd.R_new' (Kd.R_new' (Kd.R_new' ho0 (Kd.R_lt (pR HO_275002.out))) (Kd.R_lt (pR HO_281002.out))) (Kd.R_lt (pR HO_288002.out))) (below_size (pB4 HB.out GE261.out GE274.out GE280.out GE287.out)))
            have n4_ := Aside0.mk (blk_below (g := gb261) (o := .cells #[.int .i64 a0_0, .int .i64 a0_1, .slice A0_2 l0_2.length c0_2] 24 (0, 0)) (pK BK261.out) hb)
            have n5_ := Aside0.mk (blk_below (g := gb274) (o := .cells #[.int .i64 t268, .int .i64 t269, .slice Ao22 t270.length co22] 28 (0, 0)) (pK BK274.out) hb)
            have n6_ := Aside0.mk (blk_below (g := gb280) (o := .cells #[.int .i64 t275, .int .i64 t276, .slice Ao29 t277.length co29] 28 (0, 0)) (pK BK280.out) hb)
            have n7_ := Aside0.mk (blk_below (g := gb287) (o := .cells #[.int .i64 t281, .int .i64 t282, .slice Ao36 t283.length co36] 28 (0, 0)) (pK BK287.out) hb)
            have n8_ := Aside0.mk (below_step (pB4 HB.out GE261.out GE274.out GE280.out GE287.out) hb)
            clear HO_275002
            clear HO_281002
            clear HO_288002
            clear BK261
            clear BK274
            clear BK280
            clear BK287
            clear HB
            have HO_275002 := n0_
            have HO_281002 := n1_
            have HO_288002 := n2_
            have HO293 := n3_
            have BK261 := n4_
            have BK274 := n5_
            have BK280 := n6_
            have BK287 := n7_
            have HB := n8_
            clear n0_ n1_ n2_ n3_ n4_ n5_ n6_ n7_ n8_
            (try clear hb)
            (try clear hb2)
            (try clear hk)
            (try clear hi)
            (try clear ho0)
            obtain ⟨Ao63, co63, eo63⟩ := Kd.R_slice HO293.out
            (first | subst eo63 | (injection eo63 with f1_ f2_ f3_; have f4_ := f1_.symm; have f5_ := f3_.symm; clear f1_ f2_ f3_; subst f4_; subst f5_))
            refine hK.out _ _ ⟨(blk_cell BK280.out 0).trans rfl, (blk_cell BK280.out 1).trans rfl, (blk_cell BK280.out 2).trans rfl, (blk_cell BK261.out 0).trans rfl, (blk_cell BK261.out 1).trans rfl, (blk_cell BK261.out 2).trans rfl⟩ (fun hHeld => ?_)
            clear hK K
            refine norm_ (a' := ?_) ?_ ?_
            rotate_left
            · show Act.put _ (some 43) _ = _
              simp only [Act.put, List.setIfInBounds_toArray, List.set_cons_zero, List.set_cons_succ, i64_w, i32_w]
              rfl
            refine one_ (i := 3) (N := some 44) #[true, true, true, true, false] rfl rfl (by kernel_rfl) (by decide) (fun K hK => ?_)
            refine goes_ Try.func19 (by kernel_rfl) rfl #[.agg #[.int .i64 t275, .int .i64 t276, .slice Ao29 t277.length co29], .agg #[.int .i64 t289, .int .i64 t290, .slice Ao63 t291.length co63]] (by rfl) rfl rfl pA ?_
            with_reducible refine (laws_eqTiling.calls kj10 t275 t276 _ _ t277 t289 t290 _ _ t291 true _ ?side1 ?side2 ?side3 ?side4 A57.out).mono ?_
            (case side1 => exact pC ((Kd.R_reads' HO_281002.out).2.2))
            (case side2 => exact (Kd.R_reads' HO_281002.out).2.1)
            (case side3 => exact pC ((Kd.R_reads' HO293.out).2.2))
            (case side4 => exact (Kd.R_reads' HO293.out).2.1)
            rintro e w64 ⟨rfl, hb⟩
            refine ⟨_, rfl, ?_⟩
            have n0_ := Aside0.mk (Kd.R_below (pR HO_275002.out) hb)
            have n1_ := Aside0.mk (Kd.R_below (pR HO_281002.out) hb)
            have n2_ := Aside0.mk (Kd.R_below (pR HO_288002.out) hb)
            have n3_ := Aside0.mk (Kd.R_below (pR HO293.out) hb)
            have n4_ := Aside0.mk (blk_below (g := gb261) (o := .cells #[.int .i64 a0_0, .int .i64 a0_1, .slice A0_2 l0_2.length c0_2] 24 (0, 0)) (pK BK261.out) hb)
            have n5_ := Aside0.mk (blk_below (g := gb274) (o := .cells #[.int .i64 t268, .int .i64 t269, .slice Ao22 t270.length co22] 28 (0, 0)) (pK BK274.out) hb)
            have n6_ := Aside0.mk (blk_below (g := gb280) (o := .cells #[.int .i64 t275, .int .i64 t276, .slice Ao29 t277.length co29] 28 (0, 0)) (pK BK280.out) hb)
            have n7_ := Aside0.mk (blk_below (g := gb287) (o := .cells #[.int .i64 t281, .int .i64 t282, .slice Ao36 t283.length co36] 28 (0, 0)) (pK BK287.out) hb)
            have n8_ := Aside0.mk (below_step (pB4 HB.out GE261.out GE274.out GE280.out GE287.out) hb)
            clear HO_275002
            clear HO_281002
            clear HO_288002
            clear HO293
            clear BK261
            clear BK274
            clear BK280
            clear BK287
            clear HB
            have HO_275002 := n0_
            have HO_281002 := n1_
            have HO_288002 := n2_
            have HO293 := n3_
            have BK261 := n4_
            have BK274 := n5_
            have BK280 := n6_
            have BK287 := n7_
            have HB := n8_
            clear n0_ n1_ n2_ n3_ n4_ n5_ n6_ n7_ n8_
            (try clear hb)
            (try clear hb2)
            (try clear hk)
            (try clear hi)
            refine hK.out _ _ ⟨(blk_cell BK280.out 0).trans rfl, (blk_cell BK280.out 1).trans rfl, (blk_cell BK280.out 2).trans rfl, (blk_cell BK261.out 0).trans rfl, (blk_cell BK261.out 1).trans rfl, (blk_cell BK261.out 2).trans rfl⟩ (fun hHeld => ?_)
            clear hK K
            refine norm_ (a' := ?_) ?_ ?_
            rotate_left
            · show Act.put _ (some 44) _ = _
              simp only [Act.put, List.setIfInBounds_toArray, List.set_cons_zero, List.set_cons_succ, i64_w, i32_w]
              rfl
            refine pure_ (i := 4) (N := some 45) (v := ?_) (a' := ?_) #[true, true, true, true, true] rfl rfl (by kernel_rfl) (fun _ _ _ h => h) (Or.inl ⟨by rfl, ?_⟩) ?_ ?_
            rotate_left
            · intro w'
              go_simp
              with_reducible rfl
            rotate_left
            · simp only [Act.put, List.setIfInBounds_toArray, List.set_cons_zero, List.set_cons_succ, i64_w, i32_w]
              rfl
            refine done_ (by kernel_rfl) ?_
            have hnb65 := NB280_261.out
            have hnc65 := NB261_280.out
            have hnb66 := NB280_274.out
            have hnc66 := NB274_280.out
            have hnb67 := NB280_287.out
            have hnc67 := NB287_280.out
            have hcz68_0 : w64.cell? ⟨gb280, 0, none⟩ = some (.int .i64 t275) := (blk_cell BK280.out 0).trans rfl
            have hcz68_1 : w64.cell? ⟨gb280, 1, none⟩ = some (.int .i64 t276) := (blk_cell BK280.out 1).trans rfl
            have hcz68_2 : w64.cell? ⟨gb280, 2, none⟩ = some (.slice Ao29 t277.length co29) := (blk_cell BK280.out 2).trans rfl
            have hfz68_0 := blk_frozen BK280.out 0
            have hfz68_1 := blk_frozen BK280.out 1
            have hfz68_2 := blk_frozen BK280.out 2
            go_upto_region 14 with (first | ((with_reducible refine gate_callee (f := 23) rfl ?_); refine goesL_ (some 48) rfl rfl Try.func23 (by kernel_rfl) rfl #[.agg #[.int .i64 t275, .int .i64 t276, .slice Ao29 t277.length co29], .int .i64 1] rfl pA ?_; (with_reducible refine (laws_markTiling.calls kj10 t275 t276 (fun k_ => some k_ = (.slice Ao29 t277.length co29 : Value).ownBlock) (.slice Ao29 t277.length co29) t277 1 t295 t296 w _ ?side1 ?side2 A59.out).mono ?_); (case side1 => repeat (first | (with_reducible first | exact HB.out | apply below_alloc | apply pw_below_drewN | apply below_drew1 | refine below_set ?_ GE261.out | refine below_set ?_ GE274.out | refine below_set ?_ GE280.out | refine below_set ?_ GE287.out) | exact HB.out)); (case side2 => exact Kd.R_tight rfl HO_281002.out); rintro e w69 ⟨rfl, hy0, hb, hkp⟩; refine ⟨_, rfl, ?_⟩; have n0_ := Aside0.mk (Kd.R_mono (ok' := fun k_ => some k_ ≠ (.slice Ao29 t277.length co29 : Value).ownBlock ∧ some k_ ≠ (.slice Ao36 t283.length co36 : Value).ownBlock ∧ some k_ ≠ (.slice Ao63 t291.length co63 : Value).ownBlock) (Kd.R_keptB (HO_275002.out) hkp (fun k_ hk_ hs_ => (hk_.1.1) hs_)) (fun k_ hk_ => ⟨hk_.1.1.1, hk_.1.1.2, hk_.1.2⟩)); have n1_ := Aside0.mk (Kd.R_reok rfl hy0 (fun k_ e_ => HO_281002.out.1 k_ e_)); have n2_ := Aside0.mk (Kd.R_mono (ok' := fun k_ => some k_ ≠ (.slice Ao22 t270.length co22 : Value).ownBlock ∧ some k_ ≠ (.slice Ao29 t277.length co29 : Value).ownBlock ∧ some k_ ≠ (.slice Ao63 t291.length co63 : Value).ownBlock) (Kd.R_keptB (HO_288002.out) hkp (fun k_ hk_ hs_ => (hk_.1.2) hs_)) (fun k_ hk_ => ⟨hk_.1.1.1, hk_.1.1.2, hk_.1.2⟩)); have n3_ := Aside0.mk (blk_kept (pK BK261.out) hkp (fun hs_ => (fun e_ => (Kd.R_ne HO_281002.out BK261.out (by decide)) e_) hs_)); have n4_ := Aside0.mk (blk_kept (pK BK274.out) hkp (fun hs_ => (fun e_ => (Kd.R_ne HO_281002.out BK274.out (by decide)) e_) hs_)); have n5_ := Aside0.mk (blk_kept (pK BK280.out) hkp (fun hs_ => (fun e_ => (Kd.R_ne HO_281002.out BK280.out (by decide)) e_) hs_)); have n6_ := Aside0.mk (blk_kept (pK BK287.out) hkp (fun hs_ => (fun e_ => (Kd.R_ne HO_281002.out BK287.out (by decide)) e_) hs_)); have n7_ := Aside0.mk (Kd.R_mono (ok' := fun k_ => some k_ ≠ (.slice Ao22 t270.length co22 : Value).ownBlock ∧ some k_ ≠ (.slice Ao29 t277.length co29 : Value).ownBlock ∧ some k_ ≠ (.slice Ao36 t283.length co36 : Value).ownBlock) (Kd.R_keptB (HO293.out) hkp (fun k_ hk_ hs_ => (hk_.1.2) hs_)) (fun k_ hk_ => ⟨hk_.1.1.1.2, hk_.1.1.2, hk_.1.2⟩)); have n8_ := Aside0.mk (hb); clear HO_275002; clear HO_281002; clear HO_288002; clear BK261; clear BK274; clear BK280; clear BK287; clear HO293; clear HB; have HO_275002 := n0_; have HO_281002 := n1_; have HO_288002 := n2_; have BK261 := n3_; have BK274 := n4_; have BK280 := n5_; have BK287 := n6_; have HO293 := n7_; have HB := n8_; clear n0_ n1_ n2_ n3_ n4_ n5_ n6_ n7_ n8_; (try clear hb); (try clear hkp); (try clear hy0)))
            (try simp only [Act.put, List.setIfInBounds_toArray, List.set_cons_zero, List.set_cons_succ])
            go_cut [61] (fun v61 wc => ∃ (kq : Nat) (x61_59 : Bool), v61 = .bool x61_59 ∧ Aside0 (laws_FnExactNormalTiling.j1 kq t273 x61_59 a0_0 a0_1 l0_2 t268 t269 t270 t281 t282 t283 = some r) ∧ Aside0 (kq ≤ kj10) ∧ Aside0 (Kd.R (Kd.int .i64) 2 wc w.heap.size (fun k_ => some k_ ≠ ((.slice Ao29 t277.length co29) : Value).ownBlock ∧ some k_ ≠ ((.slice Ao36 t283.length co36) : Value).ownBlock) (.slice Ao22 t270.length co22) t270) ∧ Aside0 (Kd.R (Kd.int .i64) 2 wc w.heap.size (fun k_ => some k_ ≠ ((.slice Ao22 t270.length co22) : Value).ownBlock ∧ some k_ ≠ ((.slice Ao36 t283.length co36) : Value).ownBlock) (.slice Ao29 t277.length co29) t296) ∧ Aside0 (Kd.R (Kd.int .i64) 2 wc w.heap.size (fun k_ => some k_ ≠ ((.slice Ao22 t270.length co22) : Value).ownBlock ∧ some k_ ≠ ((.slice Ao29 t277.length co29) : Value).ownBlock) (.slice Ao36 t283.length co36) t283) ∧ Aside0 (wc.heap[gb261]? = some (.cells #[.int .i64 a0_0, .int .i64 a0_1, (.slice A0_2 l0_2.length c0_2)] 24 (0, 0))) ∧ Aside0 (wc.heap[gb274]? = some (.cells #[.int .i64 t268, .int .i64 t269, (.slice Ao22 t270.length co22)] 28 (0, 0))) ∧ Aside0 (wc.heap[gb280]? = some (.cells #[.int .i64 t275, .int .i64 t276, (.slice Ao29 t277.length co29)] 28 (0, 0))) ∧ Aside0 (wc.heap[gb287]? = some (.cells #[.int .i64 t281, .int .i64 t282, (.slice Ao36 t283.length co36)] 28 (0, 0))) ∧ Aside0 (Below w.heap.size w wc))
            case first =>
              have H := HC60.out
              clear HC60
              by_cases c70 : t295 < 0
              · rw [if_pos c70] at H
                have c70b0 : decide (t295 < 0) = true := decide_eq_true c70
                clear c70
                (first | rw [c70b0] | (simp only [i64_w, i32_w]; rw [c70b0]) | skip)
                have H' := Aside0.mk H
                clear H
                go_wp2
                go_meet
                case rel => exact ⟨_, (true), (by first | rfl | (simp; done) | (simp [*]; done)), H', ⟨by have := HJ10.out; first | omega | exact Nat.le_refl _⟩, ⟨by (with_reducible repeat (first | apply Kd.R_alloc | apply Kd.R_drewN | apply Kd.R_drew)); exact Kd.R_mono HO_275002.out (fun _ hk => ⟨hk.1, hk.2.1⟩)⟩, ⟨by (with_reducible repeat (first | apply Kd.R_alloc | apply Kd.R_drewN | apply Kd.R_drew)); exact Kd.R_mono HO_281002.out (fun _ hk => ⟨hk.1.1, hk.1.2⟩)⟩, ⟨by (with_reducible repeat (first | apply Kd.R_alloc | apply Kd.R_drewN | apply Kd.R_drew)); exact Kd.R_mono HO_288002.out (fun _ hk => ⟨hk.1, hk.2.1⟩)⟩, ⟨by (with_reducible repeat (first | refine blk_drewN ?_ _ | refine blk_drew ?_ | refine blk_alloc ?_ _)); exact BK261.out⟩, ⟨by (with_reducible repeat (first | refine blk_drewN ?_ _ | refine blk_drew ?_ | refine blk_alloc ?_ _)); exact BK274.out⟩, ⟨by (with_reducible repeat (first | refine blk_drewN ?_ _ | refine blk_drew ?_ | refine blk_alloc ?_ _)); exact BK280.out⟩, ⟨by (with_reducible repeat (first | refine blk_drewN ?_ _ | refine blk_drew ?_ | refine blk_alloc ?_ _)); exact BK287.out⟩, ⟨pB4 HB.out GE261.out GE274.out GE280.out GE287.out⟩⟩
              · rw [if_neg c70] at H
                have c70b0 : decide (t295 < 0) = false := decide_eq_false c70
                clear c70
                (first | rw [c70b0] | (simp only [i64_w, i32_w]; rw [c70b0]) | skip)
                replace H := Option.bind_eq_some_iff.mp H
                obtain ⟨t297, A710, H⟩ := H
                replace H : (if t297 = true then (laws_FnExactNormalTiling.j1 kj10 t273 (t286 != t273) a0_0 a0_1 l0_2 t268 t269 t270 t281 t282 t283) else (laws_FnExactNormalTiling.j1 kj10 t273 true a0_0 a0_1 l0_2 t268 t269 t270 t281 t282 t283)) = some r := H
                have A71 := Aside0.mk A710
                clear A710
                by_cases c72 : t297 = true
                · subst c72
                  have H1 : (laws_FnExactNormalTiling.j1 kj10 t273 (t286 != t273) a0_0 a0_1 l0_2 t268 t269 t270 t281 t282 t283) = some r := by rw [if_pos rfl] at H; exact H
                  clear H
                  have H := H1
                  clear H1
                  have H' := Aside0.mk H
                  clear H
                  have hnb73 := NB287_261.out
                  have hnc73 := NB261_287.out
                  have hnb74 := NB287_274.out
                  have hnc74 := NB274_287.out
                  have hnb75 := NB287_280.out
                  have hnc75 := NB280_287.out
                  have hcz76_0 : w69.cell? ⟨gb287, 0, none⟩ = some (.int .i64 t281) := (blk_cell BK287.out 0).trans rfl
                  have hcz76_1 : w69.cell? ⟨gb287, 1, none⟩ = some (.int .i64 t282) := (blk_cell BK287.out 1).trans rfl
                  have hcz76_2 : w69.cell? ⟨gb287, 2, none⟩ = some (.slice Ao36 t283.length co36) := (blk_cell BK287.out 2).trans rfl
                  have hfz76_0 := blk_frozen BK287.out 0
                  have hfz76_1 := blk_frozen BK287.out 1
                  have hfz76_2 := blk_frozen BK287.out 2
                  have hnb77 := NB274_261.out
                  have hnc77 := NB261_274.out
                  have hnb78 := NB274_280.out
                  have hnc78 := NB280_274.out
                  have hcz79_0 : w69.cell? ⟨gb274, 0, none⟩ = some (.int .i64 t268) := (blk_cell BK274.out 0).trans rfl
                  have hcz79_1 : w69.cell? ⟨gb274, 1, none⟩ = some (.int .i64 t269) := (blk_cell BK274.out 1).trans rfl
                  have hcz79_2 : w69.cell? ⟨gb274, 2, none⟩ = some (.slice Ao22 t270.length co22) := (blk_cell BK274.out 2).trans rfl
                  have hfz79_0 := blk_frozen BK274.out 0
                  have hfz79_1 := blk_frozen BK274.out 1
                  have hfz79_2 := blk_frozen BK274.out 2
                  go_wp2_with (first | (go_at_call 19; (with_reducible refine (laws_eqTiling.calls kj10 t281 t282 _ _ t283 t268 t269 _ _ t270 true _ ?side1 ?side2 ?side3 ?side4 A71.out).mono ?_); (case side1 => exact pC ((Kd.R_reads' HO_288002.out).2.2)); (case side2 => exact (Kd.R_reads' HO_288002.out).2.1); (case side3 => exact pC ((Kd.R_reads' HO_275002.out).2.2)); (case side4 => exact (Kd.R_reads' HO_275002.out).2.1); rintro e w80 ⟨rfl, hb⟩; have n0_ := Aside0.mk (Kd.R_below (pR HO_275002.out) hb); have n1_ := Aside0.mk (Kd.R_below (pR HO_281002.out) hb); have n2_ := Aside0.mk (Kd.R_below (pR HO_288002.out) hb); have n3_ := Aside0.mk (Kd.R_below (pR HO293.out) hb); have n4_ := Aside0.mk (blk_below (g := gb261) (o := .cells #[.int .i64 a0_0, .int .i64 a0_1, .slice A0_2 l0_2.length c0_2] 24 (0, 0)) (pK BK261.out) hb); have n5_ := Aside0.mk (blk_below (g := gb274) (o := .cells #[.int .i64 t268, .int .i64 t269, .slice Ao22 t270.length co22] 28 (0, 0)) (pK BK274.out) hb); have n6_ := Aside0.mk (blk_below (g := gb280) (o := .cells #[.int .i64 t275, .int .i64 t276, .slice Ao29 t277.length co29] 28 (0, 0)) (pK BK280.out) hb); have n7_ := Aside0.mk (blk_below (g := gb287) (o := .cells #[.int .i64 t281, .int .i64 t282, .slice Ao36 t283.length co36] 28 (0, 0)) (pK BK287.out) hb); have n8_ := Aside0.mk (below_step (pB4 HB.out GE261.out GE274.out GE280.out GE287.out) hb); clear HO_275002; clear HO_281002; clear HO_288002; clear HO293; clear BK261; clear BK274; clear BK280; clear BK287; clear HB; have HO_275002 := n0_; have HO_281002 := n1_; have HO_288002 := n2_; have HO293 := n3_; have BK261 := n4_; have BK274 := n5_; have BK280 := n6_; have BK287 := n7_; have HB := n8_; clear n0_ n1_ n2_ n3_ n4_ n5_ n6_ n7_ n8_; (try clear hb); (try clear hb2); (try clear hk); (try clear hi)))
                  go_meet
                  case rel => exact ⟨_, ((t286 != t273)), (by first | rfl | (simp; done) | (simp [*]; done)), H', ⟨by have := HJ10.out; first | omega | exact Nat.le_refl _⟩, ⟨by (with_reducible repeat (first | apply Kd.R_alloc | apply Kd.R_drewN | apply Kd.R_drew)); exact Kd.R_mono HO_275002.out (fun _ hk => ⟨hk.1, hk.2.1⟩)⟩, ⟨by (with_reducible repeat (first | apply Kd.R_alloc | apply Kd.R_drewN | apply Kd.R_drew)); exact Kd.R_mono HO_281002.out (fun _ hk => ⟨hk.1.1, hk.1.2⟩)⟩, ⟨by (with_reducible repeat (first | apply Kd.R_alloc | apply Kd.R_drewN | apply Kd.R_drew)); exact Kd.R_mono HO_288002.out (fun _ hk => ⟨hk.1, hk.2.1⟩)⟩, ⟨by (with_reducible repeat (first | refine blk_drewN ?_ _ | refine blk_drew ?_ | refine blk_alloc ?_ _)); exact BK261.out⟩, ⟨by (with_reducible repeat (first | refine blk_drewN ?_ _ | refine blk_drew ?_ | refine blk_alloc ?_ _)); exact BK274.out⟩, ⟨by (with_reducible repeat (first | refine blk_drewN ?_ _ | refine blk_drew ?_ | refine blk_alloc ?_ _)); exact BK280.out⟩, ⟨by (with_reducible repeat (first | refine blk_drewN ?_ _ | refine blk_drew ?_ | refine blk_alloc ?_ _)); exact BK287.out⟩, ⟨pB4 HB.out GE261.out GE274.out GE280.out GE287.out⟩⟩
                · replace c72 := Bool.eq_false_iff.mpr c72
                  subst c72
                  have H1 : (laws_FnExactNormalTiling.j1 kj10 t273 true a0_0 a0_1 l0_2 t268 t269 t270 t281 t282 t283) = some r := by rw [if_neg (show ¬ (false = true) by decide)] at H; exact H
                  clear H
                  have H := H1
                  clear H1
                  have H' := Aside0.mk H
                  clear H
                  have hnb81 := NB287_261.out
                  have hnc81 := NB261_287.out
                  have hnb82 := NB287_274.out
                  have hnc82 := NB274_287.out
                  have hnb83 := NB287_280.out
                  have hnc83 := NB280_287.out
                  have hcz84_0 : w69.cell? ⟨gb287, 0, none⟩ = some (.int .i64 t281) := (blk_cell BK287.out 0).trans rfl
                  have hcz84_1 : w69.cell? ⟨gb287, 1, none⟩ = some (.int .i64 t282) := (blk_cell BK287.out 1).trans rfl
                  have hcz84_2 : w69.cell? ⟨gb287, 2, none⟩ = some (.slice Ao36 t283.length co36) := (blk_cell BK287.out 2).trans rfl
                  have hfz84_0 := blk_frozen BK287.out 0
                  have hfz84_1 := blk_frozen BK287.out 1
                  have hfz84_2 := blk_frozen BK287.out 2
                  have hnb85 := NB274_261.out
                  have hnc85 := NB261_274.out
                  have hnb86 := NB274_280.out
                  have hnc86 := NB280_274.out
                  have hcz87_0 : w69.cell? ⟨gb274, 0, none⟩ = some (.int .i64 t268) := (blk_cell BK274.out 0).trans rfl
                  have hcz87_1 : w69.cell? ⟨gb274, 1, none⟩ = some (.int .i64 t269) := (blk_cell BK274.out 1).trans rfl
                  have hcz87_2 : w69.cell? ⟨gb274, 2, none⟩ = some (.slice Ao22 t270.length co22) := (blk_cell BK274.out 2).trans rfl
                  have hfz87_0 := blk_frozen BK274.out 0
                  have hfz87_1 := blk_frozen BK274.out 1
                  have hfz87_2 := blk_frozen BK274.out 2
                  go_wp2_with (first | (go_at_call 19; (with_reducible refine (laws_eqTiling.calls kj10 t281 t282 _ _ t283 t268 t269 _ _ t270 false _ ?side1 ?side2 ?side3 ?side4 A71.out).mono ?_); (case side1 => exact pC ((Kd.R_reads' HO_288002.out).2.2)); (case side2 => exact (Kd.R_reads' HO_288002.out).2.1); (case side3 => exact pC ((Kd.R_reads' HO_275002.out).2.2)); (case side4 => exact (Kd.R_reads' HO_275002.out).2.1); rintro e w88 ⟨rfl, hb⟩; have n0_ := Aside0.mk (Kd.R_below (pR HO_275002.out) hb); have n1_ := Aside0.mk (Kd.R_below (pR HO_281002.out) hb); have n2_ := Aside0.mk (Kd.R_below (pR HO_288002.out) hb); have n3_ := Aside0.mk (Kd.R_below (pR HO293.out) hb); have n4_ := Aside0.mk (blk_below (g := gb261) (o := .cells #[.int .i64 a0_0, .int .i64 a0_1, .slice A0_2 l0_2.length c0_2] 24 (0, 0)) (pK BK261.out) hb); have n5_ := Aside0.mk (blk_below (g := gb274) (o := .cells #[.int .i64 t268, .int .i64 t269, .slice Ao22 t270.length co22] 28 (0, 0)) (pK BK274.out) hb); have n6_ := Aside0.mk (blk_below (g := gb280) (o := .cells #[.int .i64 t275, .int .i64 t276, .slice Ao29 t277.length co29] 28 (0, 0)) (pK BK280.out) hb); have n7_ := Aside0.mk (blk_below (g := gb287) (o := .cells #[.int .i64 t281, .int .i64 t282, .slice Ao36 t283.length co36] 28 (0, 0)) (pK BK287.out) hb); have n8_ := Aside0.mk (below_step (pB4 HB.out GE261.out GE274.out GE280.out GE287.out) hb); clear HO_275002; clear HO_281002; clear HO_288002; clear HO293; clear BK261; clear BK274; clear BK280; clear BK287; clear HB; have HO_275002 := n0_; have HO_281002 := n1_; have HO_288002 := n2_; have HO293 := n3_; have BK261 := n4_; have BK274 := n5_; have BK280 := n6_; have BK287 := n7_; have HB := n8_; clear n0_ n1_ n2_ n3_ n4_ n5_ n6_ n7_ n8_; (try clear hb); (try clear hb2); (try clear hk); (try clear hi)))
                  go_meet
                  case rel => exact ⟨_, (true), (by first | rfl | (simp; done) | (simp [*]; done)), H', ⟨by have := HJ10.out; first | omega | exact Nat.le_refl _⟩, ⟨by (with_reducible repeat (first | apply Kd.R_alloc | apply Kd.R_drewN | apply Kd.R_drew)); exact Kd.R_mono HO_275002.out (fun _ hk => ⟨hk.1, hk.2.1⟩)⟩, ⟨by (with_reducible repeat (first | apply Kd.R_alloc | apply Kd.R_drewN | apply Kd.R_drew)); exact Kd.R_mono HO_281002.out (fun _ hk => ⟨hk.1.1, hk.1.2⟩)⟩, ⟨by (with_reducible repeat (first | apply Kd.R_alloc | apply Kd.R_drewN | apply Kd.R_drew)); exact Kd.R_mono HO_288002.out (fun _ hk => ⟨hk.1, hk.2.1⟩)⟩, ⟨by (with_reducible repeat (first | refine blk_drewN ?_ _ | refine blk_drew ?_ | refine blk_alloc ?_ _)); exact BK261.out⟩, ⟨by (with_reducible repeat (first | refine blk_drewN ?_ _ | refine blk_drew ?_ | refine blk_alloc ?_ _)); exact BK274.out⟩, ⟨by (with_reducible repeat (first | refine blk_drewN ?_ _ | refine blk_drew ?_ | refine blk_alloc ?_ _)); exact BK280.out⟩, ⟨by (with_reducible repeat (first | refine blk_drewN ?_ _ | refine blk_drew ?_ | refine blk_alloc ?_ _)); exact BK287.out⟩, ⟨pB4 HB.out GE261.out GE274.out GE280.out GE287.out⟩⟩
            case rest =>
              clear HC60
              try clear c1
              try clear c2
              try clear p2
              try clear c3
              try clear c3b0
              try clear c4
              try clear c5
              try clear c6
              try clear c7
              try clear c8
              try clear c15
              try clear c17
              try clear c19
              try clear c20
              try clear c23
              try clear c26
              try clear c27
              try clear c32
              try clear c33
              try clear c34
              try clear c38
              try clear c39
              try clear c40
              try clear c41
              try clear c42
              try clear c43
              try clear c44
              try clear c47
              try clear c48
              try clear c49
              try clear c51
              try clear c52
              try clear c55
              try clear c58
              try clear c65
              try clear c66
              try clear c67
              try clear c70
              try clear c70b0
              try clear c72
              try clear c73
              try clear c74
              try clear c75
              try clear c77
              try clear c78
              try clear c81
              try clear c82
              try clear c83
              try clear c85
              try clear c86
              try clear hcz13_0
              try clear hcz13_1
              try clear hcz13_2
              try clear hcz15_0
              try clear hcz15_1
              try clear hcz15_2
              try clear hcz21_0
              try clear hcz21_1
              try clear hcz21_2
              try clear hcz23_0
              try clear hcz23_1
              try clear hcz23_2
              try clear hcz28_0
              try clear hcz28_1
              try clear hcz28_2
              try clear hcz35_0
              try clear hcz35_1
              try clear hcz35_2
              try clear hcz42_0
              try clear hcz42_1
              try clear hcz42_2
              try clear hcz45_0
              try clear hcz45_1
              try clear hcz45_2
              try clear hcz50_0
              try clear hcz50_1
              try clear hcz50_2
              try clear hcz53_0
              try clear hcz53_1
              try clear hcz53_2
              try clear hcz5_0
              try clear hcz5_1
              try clear hcz5_2
              try clear hcz68_0
              try clear hcz68_1
              try clear hcz68_2
              try clear hcz76_0
              try clear hcz76_1
              try clear hcz76_2
              try clear hcz79_0
              try clear hcz79_1
              try clear hcz79_2
              try clear hcz84_0
              try clear hcz84_1
              try clear hcz84_2
              try clear hcz87_0
              try clear hcz87_1
              try clear hcz87_2
              try clear hfz13_0
              try clear hfz13_1
              try clear hfz13_2
              try clear hfz15_0
              try clear hfz15_1
              try clear hfz15_2
              try clear hfz21_0
              try clear hfz21_1
              try clear hfz21_2
              try clear hfz23_0
              try clear hfz23_1
              try clear hfz23_2
              try clear hfz28_0
              try clear hfz28_1
              try clear hfz28_2
              try clear hfz35_0
              try clear hfz35_1
              try clear hfz35_2
              try clear hfz42_0
              try clear hfz42_1
              try clear hfz42_2
              try clear hfz45_0
              try clear hfz45_1
              try clear hfz45_2
              try clear hfz50_0
              try clear hfz50_1
              try clear hfz50_2
              try clear hfz53_0
              try clear hfz53_1
              try clear hfz53_2
              try clear hfz5_0
              try clear hfz5_1
              try clear hfz5_2
              try clear hfz68_0
              try clear hfz68_1
              try clear hfz68_2
              try clear hfz76_0
              try clear hfz76_1
              try clear hfz76_2
              try clear hfz79_0
              try clear hfz79_1
              try clear hfz79_2
              try clear hfz84_0
              try clear hfz84_1
              try clear hfz84_2
              try clear hfz87_0
              try clear hfz87_1
              try clear hfz87_2
              try clear p2
              obtain ⟨kq, x61_59, rfl, HA, HJ59, HO_275002, HO_281002, HO_288002, BK261, BK274, BK280, BK287, HB⟩ := hcut
              have hl281002_59 := (Kd.R_reads' HO_281002.out).1
              rw [hl281002_59] at HO_281002
              (try simp only [hl281002_59])
              (try simp only [hl281002_59] at BK261)
              (try simp only [hl281002_59] at BK274)
              (try simp only [hl281002_59] at BK280)
              (try simp only [hl281002_59] at BK287)
              (try simp only [hl281002_59] at HO_275002)
              (try simp only [hl281002_59] at HO_288002)
              cases kq with
              | zero => exact absurd HA.out (by simp [laws_FnExactNormalTiling.j1])
              | succ kj59 =>
                have H := HA.out
                clear HA
                simp only [laws_FnExactNormalTiling.j1] at H
                by_cases c89 : x61_59 = true
                · subst c89
                  have H1 : (some false) = some r := by rw [if_pos rfl] at H; exact H
                  clear H
                  have H := H1
                  clear H1
                  obtain rfl := Option.some.inj H
                  go_wp2
                  go_ret
                  exact ⟨by first | rfl | (simp [errW_none, errW_some] <;> rfl) | (simp [*, errW_none, errW_some] <;> rfl), pB4 HB.out GE261.out GE274.out GE280.out GE287.out⟩
                · replace c89 := Bool.eq_false_iff.mpr c89
                  subst c89
                  have H1 : ((laws_markTiling.f kj59 t281 t282 t283 1).bind fun bt298 => ((laws_heldTiling.f kj59 t281 t282 bt298.2 1).bind fun t300 => (if t300 < 0 then (some false) else (if t300 = bt298.1 then ((laws_toTiling.f kj59 a0_0 a0_1 l0_2).bind fun bt301 => ((impl_NormalTiling.f kj59 bt301.1 bt301.2.1 bt301.2.2).bind fun bt306 => ((laws_eqTiling.f kj59 bt306.1 bt306.2.1 bt306.2.2.1 t268 t269 t270).bind fun t313 => (if t313 = true then (laws_FnExactNormalTiling.j2 kj59 bt298.1 (bt306.2.2.2 != t273) t281 t282 bt298.2) else (laws_FnExactNormalTiling.j2 kj59 bt298.1 true t281 t282 bt298.2))))) else (some false))))) = some r := by rw [if_neg (show ¬ (false = true) by decide)] at H; exact H
                  clear H
                  have H := H1
                  clear H1
                  replace H := Option.bind_eq_some_iff.mp H
                  obtain ⟨⟨t298, t299⟩, A900, H⟩ := H
                  replace H : ((laws_heldTiling.f kj59 t281 t282 t299 1).bind fun t300 => (if t300 < 0 then (some false) else (if t300 = t298 then ((laws_toTiling.f kj59 a0_0 a0_1 l0_2).bind fun bt301 => ((impl_NormalTiling.f kj59 bt301.1 bt301.2.1 bt301.2.2).bind fun bt306 => ((laws_eqTiling.f kj59 bt306.1 bt306.2.1 bt306.2.2.1 t268 t269 t270).bind fun t313 => (if t313 = true then (laws_FnExactNormalTiling.j2 kj59 t298 (bt306.2.2.2 != t273) t281 t282 t299) else (laws_FnExactNormalTiling.j2 kj59 t298 true t281 t282 t299))))) else (some false)))) = some r := H
                  have A90 := Aside0.mk A900
                  clear A900
                  replace H := Option.bind_eq_some_iff.mp H
                  obtain ⟨t300, A910, H⟩ := H
                  replace H : (if t300 < 0 then (some false) else (if t300 = t298 then ((laws_toTiling.f kj59 a0_0 a0_1 l0_2).bind fun bt301 => ((impl_NormalTiling.f kj59 bt301.1 bt301.2.1 bt301.2.2).bind fun bt306 => ((laws_eqTiling.f kj59 bt306.1 bt306.2.1 bt306.2.2.1 t268 t269 t270).bind fun t313 => (if t313 = true then (laws_FnExactNormalTiling.j2 kj59 t298 (bt306.2.2.2 != t273) t281 t282 t299) else (laws_FnExactNormalTiling.j2 kj59 t298 true t281 t282 t299))))) else (some false))) = some r := H
                  have A91 := Aside0.mk A910
                  clear A910
                  by_cases c92 : t300 < 0
                  · rw [if_pos c92] at H
                    have c92b0 : decide (t300 < 0) = true := decide_eq_true c92
                    clear c92
                    obtain rfl := Option.some.inj H
                    have hnb93 := NB287_261.out
                    have hnc93 := NB261_287.out
                    have hnb94 := NB287_274.out
                    have hnc94 := NB274_287.out
                    have hnb95 := NB287_280.out
                    have hnc95 := NB280_287.out
                    have hcz96_0 : wc.cell? ⟨gb287, 0, none⟩ = some (.int .i64 t281) := (blk_cell BK287.out 0).trans rfl
                    have hcz96_1 : wc.cell? ⟨gb287, 1, none⟩ = some (.int .i64 t282) := (blk_cell BK287.out 1).trans rfl
                    have hcz96_2 : wc.cell? ⟨gb287, 2, none⟩ = some (.slice Ao36 t283.length co36) := (blk_cell BK287.out 2).trans rfl
                    have hfz96_0 := blk_frozen BK287.out 0
                    have hfz96_1 := blk_frozen BK287.out 1
                    have hfz96_2 := blk_frozen BK287.out 2
                    go_wp2_with (first | ((with_reducible refine gate_callee (f := 23) rfl ?_); refine goesL_ (some 64) rfl rfl Try.func23 (by kernel_rfl) rfl #[.agg #[.int .i64 t281, .int .i64 t282, .slice Ao36 t283.length co36], .int .i64 1] rfl pA ?_; (with_reducible refine (laws_markTiling.calls kj59 t281 t282 (fun k_ => some k_ = (.slice Ao36 t283.length co36 : Value).ownBlock) (.slice Ao36 t283.length co36) t283 1 t298 t299 w _ ?side1 ?side2 A90.out).mono ?_); (case side1 => repeat (first | (with_reducible first | exact HB.out | apply below_alloc | apply pw_below_drewN | apply below_drew1 | refine below_set ?_ GE261.out | refine below_set ?_ GE274.out | refine below_set ?_ GE280.out | refine below_set ?_ GE287.out) | exact HB.out)); (case side2 => exact Kd.R_tight rfl HO_288002.out); rintro e w97 ⟨rfl, hy0, hb, hkp⟩; refine ⟨_, rfl, ?_⟩; have n0_ := Aside0.mk (Kd.R_mono (ok' := fun k_ => some k_ ≠ (.slice Ao29 t296.length co29 : Value).ownBlock ∧ some k_ ≠ (.slice Ao36 t283.length co36 : Value).ownBlock) (Kd.R_keptB (HO_275002.out) hkp (fun k_ hk_ hs_ => (hk_.2) hs_)) (fun k_ hk_ => ⟨hk_.1.1, hk_.1.2⟩)); have n1_ := Aside0.mk (Kd.R_mono (ok' := fun k_ => some k_ ≠ (.slice Ao22 t270.length co22 : Value).ownBlock ∧ some k_ ≠ (.slice Ao36 t283.length co36 : Value).ownBlock) (Kd.R_keptB (HO_281002.out) hkp (fun k_ hk_ hs_ => (hk_.2) hs_)) (fun k_ hk_ => ⟨hk_.1.1, hk_.1.2⟩)); have n2_ := Aside0.mk (Kd.R_reok rfl hy0 (fun k_ e_ => HO_288002.out.1 k_ e_)); have n3_ := Aside0.mk (blk_kept (pK BK261.out) hkp (fun hs_ => (fun e_ => (Kd.R_ne HO_288002.out BK261.out (by decide)) e_) hs_)); have n4_ := Aside0.mk (blk_kept (pK BK274.out) hkp (fun hs_ => (fun e_ => (Kd.R_ne HO_288002.out BK274.out (by decide)) e_) hs_)); have n5_ := Aside0.mk (blk_kept (pK BK280.out) hkp (fun hs_ => (fun e_ => (Kd.R_ne HO_288002.out BK280.out (by decide)) e_) hs_)); have n6_ := Aside0.mk (blk_kept (pK BK287.out) hkp (fun hs_ => (fun e_ => (Kd.R_ne HO_288002.out BK287.out (by decide)) e_) hs_)); have n7_ := Aside0.mk (hb); clear HO_275002; clear HO_281002; clear HO_288002; clear BK261; clear BK274; clear BK280; clear BK287; clear HB; have HO_275002 := n0_; have HO_281002 := n1_; have HO_288002 := n2_; have BK261 := n3_; have BK274 := n4_; have BK280 := n5_; have BK287 := n6_; have HB := n7_; clear n0_ n1_ n2_ n3_ n4_ n5_ n6_ n7_; (try clear hb); (try clear hkp); (try clear hy0); have hcz98_0 : w97.cell? ⟨gb287, 0, none⟩ = some (.int .i64 t281) := (blk_cell BK287.out 0).trans rfl; have hcz98_1 : w97.cell? ⟨gb287, 1, none⟩ = some (.int .i64 t282) := (blk_cell BK287.out 1).trans rfl; have hcz98_2 : w97.cell? ⟨gb287, 2, none⟩ = some (.slice Ao36 t283.length co36) := (blk_cell BK287.out 2).trans rfl; have hfz98_0 := blk_frozen BK287.out 0; have hfz98_1 := blk_frozen BK287.out 1; have hfz98_2 := blk_frozen BK287.out 2) | ((with_reducible refine gate_callee (f := 43) rfl ?_); refine goesL_ (some 67) rfl rfl Try.func43 (by kernel_rfl) rfl #[.agg #[.int .i64 t281, .int .i64 t282, .slice Ao36 t299.length co36], .int .i64 1] rfl (by (try simp only [List.map_toArray, List.map_cons, List.map_nil]); first | done | (rw [show t299.length = t283.length from (Kd.R_reads' HO_288002.out).1.symm] <;> rfl) | rfl | (simp only [List.length_drop, List.length_take]; rfl)) ?_; (with_reducible refine (laws_heldTiling.calls kj59 t281 t282 _ _ t299 1 t300 _ ?side1 ?side2 A91.out).mono ?_); (case side1 => exact pC ((Kd.R_reads' HO_288002.out).2.2)); (case side2 => rw [show t299.length = t283.length from (Kd.R_reads' HO_288002.out).1.symm]; exact (Kd.R_reads' HO_288002.out).2.1); rintro e w99 ⟨rfl, hb⟩; refine ⟨_, rfl, ?_⟩; have n0_ := Aside0.mk (Kd.R_below (pR HO_275002.out) hb); have n1_ := Aside0.mk (Kd.R_below (pR HO_281002.out) hb); have n2_ := Aside0.mk (Kd.R_below (pR HO_288002.out) hb); have n3_ := Aside0.mk (blk_below (g := gb261) (o := .cells #[.int .i64 a0_0, .int .i64 a0_1, .slice A0_2 l0_2.length c0_2] 24 (0, 0)) (pK BK261.out) hb); have n4_ := Aside0.mk (blk_below (g := gb274) (o := .cells #[.int .i64 t268, .int .i64 t269, .slice Ao22 t270.length co22] 28 (0, 0)) (pK BK274.out) hb); have n5_ := Aside0.mk (blk_below (g := gb280) (o := .cells #[.int .i64 t275, .int .i64 t276, .slice Ao29 t296.length co29] 28 (0, 0)) (pK BK280.out) hb); have n6_ := Aside0.mk (blk_below (g := gb287) (o := .cells #[.int .i64 t281, .int .i64 t282, .slice Ao36 t283.length co36] 28 (0, 0)) (pK BK287.out) hb); have n7_ := Aside0.mk (below_step (pB4 HB.out GE261.out GE274.out GE280.out GE287.out) hb); clear HO_275002; clear HO_281002; clear HO_288002; clear BK261; clear BK274; clear BK280; clear BK287; clear HB; have HO_275002 := n0_; have HO_281002 := n1_; have HO_288002 := n2_; have BK261 := n3_; have BK274 := n4_; have BK280 := n5_; have BK287 := n6_; have HB := n7_; clear n0_ n1_ n2_ n3_ n4_ n5_ n6_ n7_; (try clear hb); (try clear hb2); (try clear hk); (try clear hi)))
                    go_ret
                    exact ⟨by first | rfl | (simp [errW_none, errW_some] <;> rfl) | (simp [*, errW_none, errW_some] <;> rfl), pB4 HB.out GE261.out GE274.out GE280.out GE287.out⟩
                  · rw [if_neg c92] at H
                    have c92b0 : decide (t300 < 0) = false := decide_eq_false c92
                    clear c92
                    by_cases c100 : t300 = t298
                    · rw [if_pos c100] at H
                      have c100b0 : (t300 == t298) = true := beq_iff_eq.mpr c100
                      have c100b1 : (t300 != t298) = false := bne_eq_false_iff_eq.mpr c100
                      clear c100
                      replace H := Option.bind_eq_some_iff.mp H
                      obtain ⟨⟨t301, t302, t303⟩, A1010, H⟩ := H
                      replace H : ((impl_NormalTiling.f kj59 t301 t302 t303).bind fun bt306 => ((laws_eqTiling.f kj59 bt306.1 bt306.2.1 bt306.2.2.1 t268 t269 t270).bind fun t313 => (if t313 = true then (laws_FnExactNormalTiling.j2 kj59 t298 (bt306.2.2.2 != t273) t281 t282 t299) else (laws_FnExactNormalTiling.j2 kj59 t298 true t281 t282 t299)))) = some r := H
                      have A101 := Aside0.mk A1010
                      clear A1010
                      replace H := Option.bind_eq_some_iff.mp H
                      obtain ⟨⟨t306, t307, t308, t311⟩, A1020, H⟩ := H
                      replace H : ((laws_eqTiling.f kj59 t306 t307 t308 t268 t269 t270).bind fun t313 => (if t313 = true then (laws_FnExactNormalTiling.j2 kj59 t298 (t311 != t273) t281 t282 t299) else (laws_FnExactNormalTiling.j2 kj59 t298 true t281 t282 t299))) = some r := H
                      have A102 := Aside0.mk A1020
                      clear A1020
                      have HC103 := Aside0.mk H
                      clear H
                      have hnb104 := NB287_261.out
                      have hnc104 := NB261_287.out
                      have hnb105 := NB287_274.out
                      have hnc105 := NB274_287.out
                      have hnb106 := NB287_280.out
                      have hnc106 := NB280_287.out
                      have hcz107_0 : wc.cell? ⟨gb287, 0, none⟩ = some (.int .i64 t281) := (blk_cell BK287.out 0).trans rfl
                      have hcz107_1 : wc.cell? ⟨gb287, 1, none⟩ = some (.int .i64 t282) := (blk_cell BK287.out 1).trans rfl
                      have hcz107_2 : wc.cell? ⟨gb287, 2, none⟩ = some (.slice Ao36 t283.length co36) := (blk_cell BK287.out 2).trans rfl
                      have hfz107_0 := blk_frozen BK287.out 0
                      have hfz107_1 := blk_frozen BK287.out 1
                      have hfz107_2 := blk_frozen BK287.out 2
                      go_upto_region 25 with (first | ((with_reducible refine gate_callee (f := 23) rfl ?_); refine goesL_ (some 64) rfl rfl Try.func23 (by kernel_rfl) rfl #[.agg #[.int .i64 t281, .int .i64 t282, .slice Ao36 t283.length co36], .int .i64 1] rfl pA ?_; (with_reducible refine (laws_markTiling.calls kj59 t281 t282 (fun k_ => some k_ = (.slice Ao36 t283.length co36 : Value).ownBlock) (.slice Ao36 t283.length co36) t283 1 t298 t299 w _ ?side1 ?side2 A90.out).mono ?_); (case side1 => repeat (first | (with_reducible first | exact HB.out | apply below_alloc | apply pw_below_drewN | apply below_drew1 | refine below_set ?_ GE261.out | refine below_set ?_ GE274.out | refine below_set ?_ GE280.out | refine below_set ?_ GE287.out) | exact HB.out)); (case side2 => exact Kd.R_tight rfl HO_288002.out); rintro e w108 ⟨rfl, hy0, hb, hkp⟩; refine ⟨_, rfl, ?_⟩; have n0_ := Aside0.mk (Kd.R_mono (ok' := fun k_ => some k_ ≠ (.slice Ao29 t296.length co29 : Value).ownBlock ∧ some k_ ≠ (.slice Ao36 t283.length co36 : Value).ownBlock) (Kd.R_keptB (HO_275002.out) hkp (fun k_ hk_ hs_ => (hk_.2) hs_)) (fun k_ hk_ => ⟨hk_.1.1, hk_.1.2⟩)); have n1_ := Aside0.mk (Kd.R_mono (ok' := fun k_ => some k_ ≠ (.slice Ao22 t270.length co22 : Value).ownBlock ∧ some k_ ≠ (.slice Ao36 t283.length co36 : Value).ownBlock) (Kd.R_keptB (HO_281002.out) hkp (fun k_ hk_ hs_ => (hk_.2) hs_)) (fun k_ hk_ => ⟨hk_.1.1, hk_.1.2⟩)); have n2_ := Aside0.mk (Kd.R_reok rfl hy0 (fun k_ e_ => HO_288002.out.1 k_ e_)); have n3_ := Aside0.mk (blk_kept (pK BK261.out) hkp (fun hs_ => (fun e_ => (Kd.R_ne HO_288002.out BK261.out (by decide)) e_) hs_)); have n4_ := Aside0.mk (blk_kept (pK BK274.out) hkp (fun hs_ => (fun e_ => (Kd.R_ne HO_288002.out BK274.out (by decide)) e_) hs_)); have n5_ := Aside0.mk (blk_kept (pK BK280.out) hkp (fun hs_ => (fun e_ => (Kd.R_ne HO_288002.out BK280.out (by decide)) e_) hs_)); have n6_ := Aside0.mk (blk_kept (pK BK287.out) hkp (fun hs_ => (fun e_ => (Kd.R_ne HO_288002.out BK287.out (by decide)) e_) hs_)); have n7_ := Aside0.mk (hb); clear HO_275002; clear HO_281002; clear HO_288002; clear BK261; clear BK274; clear BK280; clear BK287; clear HB; have HO_275002 := n0_; have HO_281002 := n1_; have HO_288002 := n2_; have BK261 := n3_; have BK274 := n4_; have BK280 := n5_; have BK287 := n6_; have HB := n7_; clear n0_ n1_ n2_ n3_ n4_ n5_ n6_ n7_; (try clear hb); (try clear hkp); (try clear hy0); have hcz109_0 : w108.cell? ⟨gb287, 0, none⟩ = some (.int .i64 t281) := (blk_cell BK287.out 0).trans rfl; have hcz109_1 : w108.cell? ⟨gb287, 1, none⟩ = some (.int .i64 t282) := (blk_cell BK287.out 1).trans rfl; have hcz109_2 : w108.cell? ⟨gb287, 2, none⟩ = some (.slice Ao36 t283.length co36) := (blk_cell BK287.out 2).trans rfl; have hfz109_0 := blk_frozen BK287.out 0; have hfz109_1 := blk_frozen BK287.out 1; have hfz109_2 := blk_frozen BK287.out 2) | ((with_reducible refine gate_callee (f := 43) rfl ?_); refine goesL_ (some 67) rfl rfl Try.func43 (by kernel_rfl) rfl #[.agg #[.int .i64 t281, .int .i64 t282, .slice Ao36 t299.length co36], .int .i64 1] rfl (by (try simp only [List.map_toArray, List.map_cons, List.map_nil]); first | done | (rw [show t299.length = t283.length from (Kd.R_reads' HO_288002.out).1.symm] <;> rfl) | rfl | (simp only [List.length_drop, List.length_take]; rfl)) ?_; (with_reducible refine (laws_heldTiling.calls kj59 t281 t282 _ _ t299 1 t300 _ ?side1 ?side2 A91.out).mono ?_); (case side1 => exact pC ((Kd.R_reads' HO_288002.out).2.2)); (case side2 => rw [show t299.length = t283.length from (Kd.R_reads' HO_288002.out).1.symm]; exact (Kd.R_reads' HO_288002.out).2.1); rintro e w110 ⟨rfl, hb⟩; refine ⟨_, rfl, ?_⟩; have n0_ := Aside0.mk (Kd.R_below (pR HO_275002.out) hb); have n1_ := Aside0.mk (Kd.R_below (pR HO_281002.out) hb); have n2_ := Aside0.mk (Kd.R_below (pR HO_288002.out) hb); have n3_ := Aside0.mk (blk_below (g := gb261) (o := .cells #[.int .i64 a0_0, .int .i64 a0_1, .slice A0_2 l0_2.length c0_2] 24 (0, 0)) (pK BK261.out) hb); have n4_ := Aside0.mk (blk_below (g := gb274) (o := .cells #[.int .i64 t268, .int .i64 t269, .slice Ao22 t270.length co22] 28 (0, 0)) (pK BK274.out) hb); have n5_ := Aside0.mk (blk_below (g := gb280) (o := .cells #[.int .i64 t275, .int .i64 t276, .slice Ao29 t296.length co29] 28 (0, 0)) (pK BK280.out) hb); have n6_ := Aside0.mk (blk_below (g := gb287) (o := .cells #[.int .i64 t281, .int .i64 t282, .slice Ao36 t283.length co36] 28 (0, 0)) (pK BK287.out) hb); have n7_ := Aside0.mk (below_step (pB4 HB.out GE261.out GE274.out GE280.out GE287.out) hb); clear HO_275002; clear HO_281002; clear HO_288002; clear BK261; clear BK274; clear BK280; clear BK287; clear HB; have HO_275002 := n0_; have HO_281002 := n1_; have HO_288002 := n2_; have BK261 := n3_; have BK274 := n4_; have BK280 := n5_; have BK287 := n6_; have HB := n7_; clear n0_ n1_ n2_ n3_ n4_ n5_ n6_ n7_; (try clear hb); (try clear hb2); (try clear hk); (try clear hi); have hnb111 := NB261_274.out; have hnc111 := NB274_261.out; have hnb112 := NB261_280.out; have hnc112 := NB280_261.out; have hcz113_0 : w110.cell? ⟨gb261, 0, none⟩ = some (.int .i64 a0_0) := (blk_cell BK261.out 0).trans rfl; have hcz113_1 : w110.cell? ⟨gb261, 1, none⟩ = some (.int .i64 a0_1) := (blk_cell BK261.out 1).trans rfl; have hcz113_2 : w110.cell? ⟨gb261, 2, none⟩ = some (.slice A0_2 l0_2.length c0_2) := (blk_cell BK261.out 2).trans rfl; have hfz113_0 := blk_frozen BK261.out 0; have hfz113_1 := blk_frozen BK261.out 1; have hfz113_2 := blk_frozen BK261.out 2) | ((with_reducible refine gate_callee (f := 17) rfl ?_); refine goesL_ (some 75) rfl rfl Try.func17 (by kernel_rfl) rfl #[.agg #[.int .i64 a0_0, .int .i64 a0_1, .slice A0_2 l0_2.length c0_2]] rfl pA ?_; (with_reducible refine (laws_toTiling.calls kj59 a0_0 a0_1 _ _ l0_2 t301 t302 t303 _ ?side1 ?side2 A101.out).mono ?_); (case side1 => exact pC (Kd.C_below HR0_2.out HB.out)); (case side2 => exact HC0_2.out); rintro e w114 ⟨v304, rfl, ho0, hb⟩; refine ⟨_, rfl, ?_⟩; have n0_ := Aside0.mk (Kd.R_elder' (pR HO_275002.out) (Kd.R_base ho0) hb); have n1_ := Aside0.mk (Kd.R_elder' (pR HO_281002.out) (Kd.R_base ho0) hb); have n2_ := Aside0.mk (Kd.R_elder' (pR HO_288002.out) (Kd.R_base ho0) hb); have n3_ := Aside0.mk (Kd.R_lower (Kd.R_new' (Kd.R_new' (Kd.R_new' ho0 (Kd.R_lt (pR HO_275002.out))) (Kd.R_lt (pR HO_281002.out))) (Kd.R_lt (pR HO_288002.out))) (below_size (pB4 HB.out GE261.out GE274.out GE280.out GE287.out))); have n4_ := Aside0.mk (blk_below (g := gb261) (o := .cells #[.int .i64 a0_0, .int .i64 a0_1, .slice A0_2 l0_2.length c0_2] 24 (0, 0)) (pK BK261.out) hb); have n5_ := Aside0.mk (blk_below (g := gb274) (o := .cells #[.int .i64 t268, .int .i64 t269, .slice Ao22 t270.length co22] 28 (0, 0)) (pK BK274.out) hb); have n6_ := Aside0.mk (blk_below (g := gb280) (o := .cells #[.int .i64 t275, .int .i64 t276, .slice Ao29 t296.length co29] 28 (0, 0)) (pK BK280.out) hb); have n7_ := Aside0.mk (blk_below (g := gb287) (o := .cells #[.int .i64 t281, .int .i64 t282, .slice Ao36 t283.length co36] 28 (0, 0)) (pK BK287.out) hb); have n8_ := Aside0.mk (below_step (pB4 HB.out GE261.out GE274.out GE280.out GE287.out) hb); clear HO_275002; clear HO_281002; clear HO_288002; clear BK261; clear BK274; clear BK280; clear BK287; clear HB; have HO_275002 := n0_; have HO_281002 := n1_; have HO_288002 := n2_; have HO305 := n3_; have BK261 := n4_; have BK274 := n5_; have BK280 := n6_; have BK287 := n7_; have HB := n8_; clear n0_ n1_ n2_ n3_ n4_ n5_ n6_ n7_ n8_; (try clear hb); (try clear hb2); (try clear hk); (try clear hi); (try clear ho0); obtain ⟨Ao115, co115, eo115⟩ := Kd.R_slice HO305.out; subst eo115) | ((with_reducible refine gate_callee (f := 42) rfl ?_); refine goesL_ (some 76) rfl rfl Try.func42 (by kernel_rfl) rfl #[.agg #[.int .i64 t301, .int .i64 t302, .slice Ao115 t303.length co115]] rfl pA ?_; (with_reducible refine (impl_NormalTiling.calls kj59 t301 t302 _ _ t303 t306 t307 t308 t311 _ ?side1 ?side2 A102.out).mono ?_); (case side1 => exact pC ((Kd.R_reads' HO305.out).2.2)); (case side2 => exact (Kd.R_reads' HO305.out).2.1); rintro e w116 ⟨v309, rfl, ho0, hb⟩; refine ⟨_, rfl, ?_⟩; have n0_ := Aside0.mk (Kd.R_elder' (pR HO_275002.out) (Kd.R_base ho0) hb); have n1_ := Aside0.mk (Kd.R_elder' (pR HO_281002.out) (Kd.R_base ho0) hb); have n2_ := Aside0.mk (Kd.R_elder' (pR HO_288002.out) (Kd.R_base ho0) hb); have n3_ := Aside0.mk (Kd.R_elder' (pR HO305.out) (Kd.R_base ho0) hb); have n4_ := Aside0.mk (Kd.R_lower (Kd.R_new' (Kd.R_new' (Kd.R_new' (Kd.R_new' ho0 (Kd.R_lt (pR HO_275002.out))) (Kd.R_lt (pR HO_281002.out))) (Kd.R_lt (pR HO_288002.out))) (Kd.R_lt (pR HO305.out))) (below_size (pB4 HB.out GE261.out GE274.out GE280.out GE287.out))); have n5_ := Aside0.mk (blk_below (g := gb261) (o := .cells #[.int .i64 a0_0, .int .i64 a0_1, .slice A0_2 l0_2.length c0_2] 24 (0, 0)) (pK BK261.out) hb); have n6_ := Aside0.mk (blk_below (g := gb274) (o := .cells #[.int .i64 t268, .int .i64 t269, .slice Ao22 t270.length co22] 28 (0, 0)) (pK BK274.out) hb); have n7_ := Aside0.mk (blk_below (g := gb280) (o := .cells #[.int .i64 t275, .int .i64 t276, .slice Ao29 t296.length co29] 28 (0, 0)) (pK BK280.out) hb); have n8_ := Aside0.mk (blk_below (g := gb287) (o := .cells #[.int .i64 t281, .int .i64 t282, .slice Ao36 t283.length co36] 28 (0, 0)) (pK BK287.out) hb); have n9_ := Aside0.mk (below_step (pB4 HB.out GE261.out GE274.out GE280.out GE287.out) hb); clear HO_275002; clear HO_281002; clear HO_288002; clear HO305; clear BK261; clear BK274; clear BK280; clear BK287; clear HB; have HO_275002 := n0_; have HO_281002 := n1_; have HO_288002 := n2_; have HO305 := n3_; have HO310 := n4_; have BK261 := n5_; have BK274 := n6_; have BK280 := n7_; have BK287 := n8_; have HB := n9_; clear n0_ n1_ n2_ n3_ n4_ n5_ n6_ n7_ n8_ n9_; (try clear hb); (try clear hb2); (try clear hk); (try clear hi); (try clear ho0)) | ((with_reducible refine gate_dst (N := 12) rfl ?_); refine box_event ?hg (N := 12) ?hd (cs := #[.int .i64 0, .int .i64 0, .slice none 0 0]) (t := 28) ?hr ?_; (case hd => rfl); (case hg => rfl); (case hr => first | (go_simp; done) | (go_simp; rfl)); intro gb312 hg w117 hbox hb; have n0_ := Aside0.mk (Kd.R_below (pR HO_275002.out) hb); have n1_ := Aside0.mk (Kd.R_below (pR HO_281002.out) hb); have n2_ := Aside0.mk (Kd.R_below (pR HO_288002.out) hb); have n3_ := Aside0.mk (Kd.R_below (pR HO305.out) hb); have n4_ := Aside0.mk (Kd.R_below (pR HO310.out) hb); have n5_ := Aside0.mk (blk_below (g := gb261) (o := .cells #[.int .i64 a0_0, .int .i64 a0_1, .slice A0_2 l0_2.length c0_2] 24 (0, 0)) (pK BK261.out) hb); have n6_ := Aside0.mk (blk_below (g := gb274) (o := .cells #[.int .i64 t268, .int .i64 t269, .slice Ao22 t270.length co22] 28 (0, 0)) (pK BK274.out) hb); have n7_ := Aside0.mk (blk_below (g := gb280) (o := .cells #[.int .i64 t275, .int .i64 t276, .slice Ao29 t296.length co29] 28 (0, 0)) (pK BK280.out) hb); have n8_ := Aside0.mk (blk_below (g := gb287) (o := .cells #[.int .i64 t281, .int .i64 t282, .slice Ao36 t283.length co36] 28 (0, 0)) (pK BK287.out) hb); have n9_ := Aside0.mk (below_step (pB4 HB.out GE261.out GE274.out GE280.out GE287.out) hb); have n10_ := Aside0.mk (hbox); have n11_ := Aside0.mk ((by rw [hg]; exact (below_size (pB4 HB.out GE261.out GE274.out GE280.out GE287.out)) : w.heap.size ≤ gb312)); have n12_ := Aside0.mk ((by rw [hg]; exact (below_size (pB4 HB.out GE261.out GE274.out GE280.out GE287.out)) : w.heap.size ≤ gb312)); have n13_ := Aside0.mk ((by rw [hg]; exact Nat.ne_of_lt (blk_lt (g := gb261) (o := .cells #[.int .i64 a0_0, .int .i64 a0_1, .slice A0_2 l0_2.length c0_2] 24 (0, 0)) (pK BK261.out)) : gb261 ≠ gb312)); have n14_ := Aside0.mk ((by rw [hg]; exact Nat.ne_of_gt (blk_lt (g := gb261) (o := .cells #[.int .i64 a0_0, .int .i64 a0_1, .slice A0_2 l0_2.length c0_2] 24 (0, 0)) (pK BK261.out)) : gb312 ≠ gb261)); have n15_ := Aside0.mk ((by rw [hg]; exact Nat.ne_of_lt (blk_lt (g := gb274) (o := .cells #[.int .i64 t268, .int .i64 t269, .slice Ao22 t270.length co22] 28 (0, 0)) (pK BK274.out)) : gb274 ≠ gb312)); have n16_ := Aside0.mk ((by rw [hg]; exact Nat.ne_of_gt (blk_lt (g := gb274) (o := .cells #[.int .i64 t268, .int .i64 t269, .slice Ao22 t270.length co22] 28 (0, 0)) (pK BK274.out)) : gb312 ≠ gb274)); have n17_ := Aside0.mk ((by rw [hg]; exact Nat.ne_of_lt (blk_lt (g := gb280) (o := .cells #[.int .i64 t275, .int .i64 t276, .slice Ao29 t296.length co29] 28 (0, 0)) (pK BK280.out)) : gb280 ≠ gb312)); have n18_ := Aside0.mk ((by rw [hg]; exact Nat.ne_of_gt (blk_lt (g := gb280) (o := .cells #[.int .i64 t275, .int .i64 t276, .slice Ao29 t296.length co29] 28 (0, 0)) (pK BK280.out)) : gb312 ≠ gb280)); have n19_ := Aside0.mk ((by rw [hg]; exact Nat.ne_of_lt (blk_lt (g := gb287) (o := .cells #[.int .i64 t281, .int .i64 t282, .slice Ao36 t283.length co36] 28 (0, 0)) (pK BK287.out)) : gb287 ≠ gb312)); have n20_ := Aside0.mk ((by rw [hg]; exact Nat.ne_of_gt (blk_lt (g := gb287) (o := .cells #[.int .i64 t281, .int .i64 t282, .slice Ao36 t283.length co36] 28 (0, 0)) (pK BK287.out)) : gb312 ≠ gb287)); clear HO_275002; clear HO_281002; clear HO_288002; clear HO305; clear HO310; clear BK261; clear BK274; clear BK280; clear BK287; clear HB; have HO_275002 := n0_; have HO_281002 := n1_; have HO_288002 := n2_; have HO305 := n3_; have HO310 := n4_; have BK261 := n5_; have BK274 := n6_; have BK280 := n7_; have BK287 := n8_; have HB := n9_; have BK312 := n10_; have GW312 := n11_; have GE312 := n12_; have NB261_312 := n13_; have NB312_261 := n14_; have NB274_312 := n15_; have NB312_274 := n16_; have NB280_312 := n17_; have NB312_280 := n18_; have NB287_312 := n19_; have NB312_287 := n20_; clear n0_ n1_ n2_ n3_ n4_ n5_ n6_ n7_ n8_ n9_ n10_ n11_ n12_ n13_ n14_ n15_ n16_ n17_ n18_ n19_ n20_; clear hb hbox hg; have hnb118 := NB312_261.out; have hnc118 := NB261_312.out; have hnb119 := NB312_274.out; have hnc119 := NB274_312.out; have hnb120 := NB312_280.out; have hnc120 := NB280_312.out; have hnb121 := NB312_287.out; have hnc121 := NB287_312.out; have hcz122_0 : w117.cell? ⟨gb312, 0, none⟩ = some (.int .i64 0) := (blk_cell BK312.out 0).trans rfl; have hcz122_1 : w117.cell? ⟨gb312, 1, none⟩ = some (.int .i64 0) := (blk_cell BK312.out 1).trans rfl; have hcz122_2 : w117.cell? ⟨gb312, 2, none⟩ = some (.slice none 0 0) := (blk_cell BK312.out 2).trans rfl; have hfz122_0 := blk_frozen BK312.out 0; have hfz122_1 := blk_frozen BK312.out 1; have hfz122_2 := blk_frozen BK312.out 2; obtain ⟨Ao123, co123, eo123⟩ := Kd.R_slice HO310.out; subst eo123))
                      (try simp only [Act.put, List.setIfInBounds_toArray, List.set_cons_zero, List.set_cons_succ])
                      go_cut [87] (fun v87 wc => ∃ (kq : Nat) (x87_102 : Bool), v87 = .bool x87_102 ∧ Aside0 (laws_FnExactNormalTiling.j2 kq t298 x87_102 t281 t282 t299 = some r) ∧ Aside0 (kq ≤ kj59) ∧ Aside0 (Kd.R (Kd.int .i64) 2 wc w.heap.size (fun k_ => some k_ ≠ ((.slice Ao29 t296.length co29) : Value).ownBlock ∧ some k_ ≠ ((.slice Ao36 t283.length co36) : Value).ownBlock ∧ some k_ ≠ ((.slice Ao123 t308.length co123) : Value).ownBlock) (.slice Ao22 t270.length co22) t270) ∧ Aside0 (Kd.R (Kd.int .i64) 2 wc w.heap.size (fun k_ => some k_ ≠ ((.slice Ao22 t270.length co22) : Value).ownBlock ∧ some k_ ≠ ((.slice Ao36 t283.length co36) : Value).ownBlock ∧ some k_ ≠ ((.slice Ao123 t308.length co123) : Value).ownBlock) (.slice Ao29 t296.length co29) t296) ∧ Aside0 (Kd.R (Kd.int .i64) 2 wc w.heap.size (fun k_ => some k_ ≠ ((.slice Ao22 t270.length co22) : Value).ownBlock ∧ some k_ ≠ ((.slice Ao29 t296.length co29) : Value).ownBlock ∧ some k_ ≠ ((.slice Ao123 t308.length co123) : Value).ownBlock) (.slice Ao36 t283.length co36) t299) ∧ Aside0 (Kd.R (Kd.int .i64) 2 wc w.heap.size (fun k_ => some k_ ≠ ((.slice Ao22 t270.length co22) : Value).ownBlock ∧ some k_ ≠ ((.slice Ao29 t296.length co29) : Value).ownBlock ∧ some k_ ≠ ((.slice Ao36 t283.length co36) : Value).ownBlock) (.slice Ao123 t308.length co123) t308) ∧ Aside0 (wc.heap[gb261]? = some (.cells #[.int .i64 a0_0, .int .i64 a0_1, (.slice A0_2 l0_2.length c0_2)] 24 (0, 0))) ∧ Aside0 (wc.heap[gb274]? = some (.cells #[.int .i64 t268, .int .i64 t269, (.slice Ao22 t270.length co22)] 28 (0, 0))) ∧ Aside0 (wc.heap[gb280]? = some (.cells #[.int .i64 t275, .int .i64 t276, (.slice Ao29 t296.length co29)] 28 (0, 0))) ∧ Aside0 (wc.heap[gb287]? = some (.cells #[.int .i64 t281, .int .i64 t282, (.slice Ao36 t283.length co36)] 28 (0, 0))) ∧ Aside0 (wc.heap[gb312]? = some (.cells #[.int .i64 t306, .int .i64 t307, (.slice Ao123 t308.length co123)] 28 (0, 0))) ∧ Aside0 (Below w.heap.size w wc))
                      case first =>
                        have H := HC103.out
                        clear HC103
                        replace H := Option.bind_eq_some_iff.mp H
                        obtain ⟨t313, A1240, H⟩ := H
                        replace H : (if t313 = true then (laws_FnExactNormalTiling.j2 kj59 t298 (t311 != t273) t281 t282 t299) else (laws_FnExactNormalTiling.j2 kj59 t298 true t281 t282 t299)) = some r := H
                        have A124 := Aside0.mk A1240
                        clear A1240
                        by_cases c125 : t313 = true
                        · subst c125
                          have H1 : (laws_FnExactNormalTiling.j2 kj59 t298 (t311 != t273) t281 t282 t299) = some r := by rw [if_pos rfl] at H; exact H
                          clear H
                          have H := H1
                          clear H1
                          have H' := Aside0.mk H
                          clear H
                          have hnb126 := NB312_261.out
                          have hnc126 := NB261_312.out
                          have hnb127 := NB312_274.out
                          have hnc127 := NB274_312.out
                          have hnb128 := NB312_280.out
                          have hnc128 := NB280_312.out
                          have hnb129 := NB312_287.out
                          have hnc129 := NB287_312.out
                          have hcz130_0 : w117.cell? ⟨gb312, 0, none⟩ = some (.int .i64 0) := (blk_cell BK312.out 0).trans rfl
                          have hcz130_1 : w117.cell? ⟨gb312, 1, none⟩ = some (.int .i64 0) := (blk_cell BK312.out 1).trans rfl
                          have hcz130_2 : w117.cell? ⟨gb312, 2, none⟩ = some (.slice none 0 0) := (blk_cell BK312.out 2).trans rfl
                          have hfz130_0 := blk_frozen BK312.out 0
                          have hfz130_1 := blk_frozen BK312.out 1
                          have hfz130_2 := blk_frozen BK312.out 2
                          have hnb131 := NB274_261.out
                          have hnc131 := NB261_274.out
                          have hnb132 := NB274_280.out
                          have hnc132 := NB280_274.out
                          have hnb133 := NB274_287.out
                          have hnc133 := NB287_274.out
                          have hcz134_0 : w117.cell? ⟨gb274, 0, none⟩ = some (.int .i64 t268) := (blk_cell BK274.out 0).trans rfl
                          have hcz134_1 : w117.cell? ⟨gb274, 1, none⟩ = some (.int .i64 t269) := (blk_cell BK274.out 1).trans rfl
                          have hcz134_2 : w117.cell? ⟨gb274, 2, none⟩ = some (.slice Ao22 t270.length co22) := (blk_cell BK274.out 2).trans rfl
                          have hfz134_0 := blk_frozen BK274.out 0
                          have hfz134_1 := blk_frozen BK274.out 1
                          have hfz134_2 := blk_frozen BK274.out 2
                          go_wp2_with (first | ((with_reducible refine gate_callee (f := 19) rfl ?_); refine goesL_ (some 81) rfl rfl Try.func19 (by kernel_rfl) rfl #[.agg #[.int .i64 t306, .int .i64 t307, .slice Ao123 t308.length co123], .agg #[.int .i64 t268, .int .i64 t269, .slice Ao22 t270.length co22]] rfl pA ?_; (with_reducible refine (laws_eqTiling.calls kj59 t306 t307 _ _ t308 t268 t269 _ _ t270 true _ ?side1 ?side2 ?side3 ?side4 A124.out).mono ?_); (case side1 => refine (Kd.R_reads' (e := 2) (base := w.heap.size) (ok := fun k_ => ((((True ∧ some k_ ≠ (.slice Ao22 t270.length co22 : Value).ownBlock) ∧ some k_ ≠ (.slice Ao29 t296.length co29 : Value).ownBlock) ∧ some k_ ≠ (.slice Ao36 t283.length co36 : Value).ownBlock) ∧ some k_ ≠ (.slice Ao115 t303.length co115 : Value).ownBlock)) (n := t308.length) (c := co123) ?_).2.2; exact (by (with_reducible repeat (first | apply Kd.R_alloc | apply Kd.R_drewN | apply Kd.R_drew)); exact (Kd.R_mono (Kd.R_far (p := ⟨gb312, 2, none⟩) (Kd.R_far (p := ⟨gb312, 1, none⟩) (Kd.R_far (p := ⟨gb312, 0, none⟩) (Kd.R_types HO310.out BK312.out (by decide)) (fun _ hk => hk.2) (.int .i64 t306)) (fun _ hk => hk.2) (.int .i64 t307)) (fun _ hk => hk.2) (.slice Ao123 t308.length co123)) (fun _ h_ => h_.1)))); (case side2 => exact (Kd.R_reads' HO310.out).2.1); (case side3 => refine (Kd.R_reads' (e := 2) (base := w.heap.size) (ok := fun k_ => (((some k_ ≠ (.slice Ao29 t296.length co29 : Value).ownBlock ∧ some k_ ≠ (.slice Ao36 t283.length co36 : Value).ownBlock) ∧ some k_ ≠ (.slice Ao115 t303.length co115 : Value).ownBlock) ∧ some k_ ≠ (.slice Ao123 t308.length co123 : Value).ownBlock)) (n := t270.length) (c := co22) ?_).2.2; exact (by (with_reducible repeat (first | apply Kd.R_alloc | apply Kd.R_drewN | apply Kd.R_drew)); exact (Kd.R_mono (Kd.R_far (p := ⟨gb312, 2, none⟩) (Kd.R_far (p := ⟨gb312, 1, none⟩) (Kd.R_far (p := ⟨gb312, 0, none⟩) (Kd.R_types HO_275002.out BK312.out (by decide)) (fun _ hk => hk.2) (.int .i64 t306)) (fun _ hk => hk.2) (.int .i64 t307)) (fun _ hk => hk.2) (.slice Ao123 t308.length co123)) (fun _ h_ => h_.1)))); (case side4 => exact (Kd.R_reads' HO_275002.out).2.1); rintro e w135 ⟨rfl, hb⟩; refine ⟨_, rfl, ?_⟩; have n0_ := Aside0.mk (Kd.R_below (by (with_reducible repeat (first | apply Kd.R_alloc | apply Kd.R_drewN | apply Kd.R_drew)); exact (Kd.R_mono (Kd.R_far (p := ⟨gb312, 2, none⟩) (Kd.R_far (p := ⟨gb312, 1, none⟩) (Kd.R_far (p := ⟨gb312, 0, none⟩) (Kd.R_types HO_275002.out BK312.out (by decide)) (fun _ hk => hk.2) (.int .i64 t306)) (fun _ hk => hk.2) (.int .i64 t307)) (fun _ hk => hk.2) (.slice Ao123 t308.length co123)) (fun _ h_ => h_.1))) hb); have n1_ := Aside0.mk (Kd.R_below (by (with_reducible repeat (first | apply Kd.R_alloc | apply Kd.R_drewN | apply Kd.R_drew)); exact (Kd.R_mono (Kd.R_far (p := ⟨gb312, 2, none⟩) (Kd.R_far (p := ⟨gb312, 1, none⟩) (Kd.R_far (p := ⟨gb312, 0, none⟩) (Kd.R_types HO_281002.out BK312.out (by decide)) (fun _ hk => hk.2) (.int .i64 t306)) (fun _ hk => hk.2) (.int .i64 t307)) (fun _ hk => hk.2) (.slice Ao123 t308.length co123)) (fun _ h_ => h_.1))) hb); have n2_ := Aside0.mk (Kd.R_below (by (with_reducible repeat (first | apply Kd.R_alloc | apply Kd.R_drewN | apply Kd.R_drew)); exact (Kd.R_mono (Kd.R_far (p := ⟨gb312, 2, none⟩) (Kd.R_far (p := ⟨gb312, 1, none⟩) (Kd.R_far (p := ⟨gb312, 0, none⟩) (Kd.R_types HO_288002.out BK312.out (by decide)) (fun _ hk => hk.2) (.int .i64 t306)) (fun _ hk => hk.2) (.int .i64 t307)) (fun _ hk => hk.2) (.slice Ao123 t308.length co123)) (fun _ h_ => h_.1))) hb); have n3_ := Aside0.mk (Kd.R_below (by (with_reducible repeat (first | apply Kd.R_alloc | apply Kd.R_drewN | apply Kd.R_drew)); exact (Kd.R_mono (Kd.R_far (p := ⟨gb312, 2, none⟩) (Kd.R_far (p := ⟨gb312, 1, none⟩) (Kd.R_far (p := ⟨gb312, 0, none⟩) (Kd.R_types HO305.out BK312.out (by decide)) (fun _ hk => hk.2) (.int .i64 t306)) (fun _ hk => hk.2) (.int .i64 t307)) (fun _ hk => hk.2) (.slice Ao123 t308.length co123)) (fun _ h_ => h_.1))) hb); have n4_ := Aside0.mk (Kd.R_below (by (with_reducible repeat (first | apply Kd.R_alloc | apply Kd.R_drewN | apply Kd.R_drew)); exact (Kd.R_mono (Kd.R_far (p := ⟨gb312, 2, none⟩) (Kd.R_far (p := ⟨gb312, 1, none⟩) (Kd.R_far (p := ⟨gb312, 0, none⟩) (Kd.R_types HO310.out BK312.out (by decide)) (fun _ hk => hk.2) (.int .i64 t306)) (fun _ hk => hk.2) (.int .i64 t307)) (fun _ hk => hk.2) (.slice Ao123 t308.length co123)) (fun _ h_ => h_.1))) hb); have n5_ := Aside0.mk (blk_below (g := gb261) (o := .cells #[.int .i64 a0_0, .int .i64 a0_1, .slice A0_2 l0_2.length c0_2] 24 (0, 0)) (by (with_reducible repeat (first | refine blk_drewN ?_ _ | refine blk_drew ?_ | refine blk_alloc ?_ _)); refine blk_far ?_ NB261_312.out _; (with_reducible repeat (first | refine blk_drewN ?_ _ | refine blk_drew ?_ | refine blk_alloc ?_ _)); refine blk_far ?_ NB261_312.out _; (with_reducible repeat (first | refine blk_drewN ?_ _ | refine blk_drew ?_ | refine blk_alloc ?_ _)); refine blk_far ?_ NB261_312.out _; (with_reducible repeat (first | refine blk_drewN ?_ _ | refine blk_drew ?_ | refine blk_alloc ?_ _)); exact BK261.out) hb); have n6_ := Aside0.mk (blk_below (g := gb274) (o := .cells #[.int .i64 t268, .int .i64 t269, .slice Ao22 t270.length co22] 28 (0, 0)) (by (with_reducible repeat (first | refine blk_drewN ?_ _ | refine blk_drew ?_ | refine blk_alloc ?_ _)); refine blk_far ?_ NB274_312.out _; (with_reducible repeat (first | refine blk_drewN ?_ _ | refine blk_drew ?_ | refine blk_alloc ?_ _)); refine blk_far ?_ NB274_312.out _; (with_reducible repeat (first | refine blk_drewN ?_ _ | refine blk_drew ?_ | refine blk_alloc ?_ _)); refine blk_far ?_ NB274_312.out _; (with_reducible repeat (first | refine blk_drewN ?_ _ | refine blk_drew ?_ | refine blk_alloc ?_ _)); exact BK274.out) hb); have n7_ := Aside0.mk (blk_below (g := gb280) (o := .cells #[.int .i64 t275, .int .i64 t276, .slice Ao29 t296.length co29] 28 (0, 0)) (by (with_reducible repeat (first | refine blk_drewN ?_ _ | refine blk_drew ?_ | refine blk_alloc ?_ _)); refine blk_far ?_ NB280_312.out _; (with_reducible repeat (first | refine blk_drewN ?_ _ | refine blk_drew ?_ | refine blk_alloc ?_ _)); refine blk_far ?_ NB280_312.out _; (with_reducible repeat (first | refine blk_drewN ?_ _ | refine blk_drew ?_ | refine blk_alloc ?_ _)); refine blk_far ?_ NB280_312.out _; (with_reducible repeat (first | refine blk_drewN ?_ _ | refine blk_drew ?_ | refine blk_alloc ?_ _)); exact BK280.out) hb); have n8_ := Aside0.mk (blk_below (g := gb287) (o := .cells #[.int .i64 t281, .int .i64 t282, .slice Ao36 t283.length co36] 28 (0, 0)) (by (with_reducible repeat (first | refine blk_drewN ?_ _ | refine blk_drew ?_ | refine blk_alloc ?_ _)); refine blk_far ?_ NB287_312.out _; (with_reducible repeat (first | refine blk_drewN ?_ _ | refine blk_drew ?_ | refine blk_alloc ?_ _)); refine blk_far ?_ NB287_312.out _; (with_reducible repeat (first | refine blk_drewN ?_ _ | refine blk_drew ?_ | refine blk_alloc ?_ _)); refine blk_far ?_ NB287_312.out _; (with_reducible repeat (first | refine blk_drewN ?_ _ | refine blk_drew ?_ | refine blk_alloc ?_ _)); exact BK287.out) hb); have n9_ := Aside0.mk (blk_below (g := gb312) (o := .cells #[.int .i64 t306, .int .i64 t307, .slice Ao123 t308.length co123] 28 (0, 0)) (by (with_reducible repeat (first | refine blk_drewN ?_ _ | refine blk_drew ?_ | refine blk_alloc ?_ _)); refine blk_put (cs := #[.int .i64 t306, .int .i64 t307, .slice none 0 0]) ?_ 2 _ rfl; (with_reducible repeat (first | refine blk_drewN ?_ _ | refine blk_drew ?_ | refine blk_alloc ?_ _)); refine blk_put (cs := #[.int .i64 t306, .int .i64 0, .slice none 0 0]) ?_ 1 _ rfl; (with_reducible repeat (first | refine blk_drewN ?_ _ | refine blk_drew ?_ | refine blk_alloc ?_ _)); refine blk_put (cs := #[.int .i64 0, .int .i64 0, .slice none 0 0]) ?_ 0 _ rfl; (with_reducible repeat (first | refine blk_drewN ?_ _ | refine blk_drew ?_ | refine blk_alloc ?_ _)); exact BK312.out) hb); have n10_ := Aside0.mk (below_step (pB5 HB.out GE261.out GE274.out GE280.out GE287.out GE312.out) hb); clear HO_275002; clear HO_281002; clear HO_288002; clear HO305; clear HO310; clear BK261; clear BK274; clear BK280; clear BK287; clear BK312; clear HB; have HO_275002 := n0_; have HO_281002 := n1_; have HO_288002 := n2_; have HO305 := n3_; have HO310 := n4_; have BK261 := n5_; have BK274 := n6_; have BK280 := n7_; have BK287 := n8_; have BK312 := n9_; have HB := n10_; clear n0_ n1_ n2_ n3_ n4_ n5_ n6_ n7_ n8_ n9_ n10_; (try clear hb); (try clear hb2); (try clear hk); (try clear hi)))
                          go_meet
                          case rel => exact ⟨_, ((t311 != t273)), (by first | rfl | (simp; done) | (simp [*]; done)), H', ⟨by have := HJ10.out; have := HJ59.out; first | omega | exact Nat.le_refl _⟩, ⟨by (try simp only [hl281002_59]); (with_reducible repeat (first | apply Kd.R_alloc | apply Kd.R_drewN | apply Kd.R_drew)); exact Kd.R_mono HO_275002.out (fun _ hk => ⟨hk.1.1.1, ⟨hk.1.1.2, hk.2⟩⟩)⟩, ⟨by (try simp only [hl281002_59]); (with_reducible repeat (first | apply Kd.R_alloc | apply Kd.R_drewN | apply Kd.R_drew)); exact Kd.R_mono HO_281002.out (fun _ hk => ⟨hk.1.1.1, ⟨hk.1.1.2, hk.2⟩⟩)⟩, ⟨by (try simp only [hl281002_59]); (with_reducible repeat (first | apply Kd.R_alloc | apply Kd.R_drewN | apply Kd.R_drew)); exact Kd.R_mono HO_288002.out (fun _ hk => ⟨hk.1.1.1, ⟨hk.1.1.2, hk.2⟩⟩)⟩, ⟨by (try simp only [hl281002_59]); (with_reducible repeat (first | apply Kd.R_alloc | apply Kd.R_drewN | apply Kd.R_drew)); exact Kd.R_mono HO310.out (fun _ hk => ⟨hk.1.1.1.2, ⟨hk.1.1.2, hk.1.2⟩⟩)⟩, ⟨by (try simp only [hl281002_59]); (with_reducible repeat (first | refine blk_drewN ?_ _ | refine blk_drew ?_ | refine blk_alloc ?_ _)); exact BK261.out⟩, ⟨by (try simp only [hl281002_59]); (with_reducible repeat (first | refine blk_drewN ?_ _ | refine blk_drew ?_ | refine blk_alloc ?_ _)); exact BK274.out⟩, ⟨by (try simp only [hl281002_59]); (with_reducible repeat (first | refine blk_drewN ?_ _ | refine blk_drew ?_ | refine blk_alloc ?_ _)); exact BK280.out⟩, ⟨by (try simp only [hl281002_59]); (with_reducible repeat (first | refine blk_drewN ?_ _ | refine blk_drew ?_ | refine blk_alloc ?_ _)); exact BK287.out⟩, ⟨by (try simp only [hl281002_59]); (with_reducible repeat (first | refine blk_drewN ?_ _ | refine blk_drew ?_ | refine blk_alloc ?_ _)); exact BK312.out⟩, ⟨pB5 HB.out GE261.out GE274.out GE280.out GE287.out GE312.out⟩⟩
                        · replace c125 := Bool.eq_false_iff.mpr c125
                          subst c125
                          have H1 : (laws_FnExactNormalTiling.j2 kj59 t298 true t281 t282 t299) = some r := by rw [if_neg (show ¬ (false = true) by decide)] at H; exact H
                          clear H
                          have H := H1
                          clear H1
                          have H' := Aside0.mk H
                          clear H
                          have hnb136 := NB312_261.out
                          have hnc136 := NB261_312.out
                          have hnb137 := NB312_274.out
                          have hnc137 := NB274_312.out
                          have hnb138 := NB312_280.out
                          have hnc138 := NB280_312.out
                          have hnb139 := NB312_287.out
                          have hnc139 := NB287_312.out
                          have hcz140_0 : w117.cell? ⟨gb312, 0, none⟩ = some (.int .i64 0) := (blk_cell BK312.out 0).trans rfl
                          have hcz140_1 : w117.cell? ⟨gb312, 1, none⟩ = some (.int .i64 0) := (blk_cell BK312.out 1).trans rfl
                          have hcz140_2 : w117.cell? ⟨gb312, 2, none⟩ = some (.slice none 0 0) := (blk_cell BK312.out 2).trans rfl
                          have hfz140_0 := blk_frozen BK312.out 0
                          have hfz140_1 := blk_frozen BK312.out 1
                          have hfz140_2 := blk_frozen BK312.out 2
                          have hnb141 := NB274_261.out
                          have hnc141 := NB261_274.out
                          have hnb142 := NB274_280.out
                          have hnc142 := NB280_274.out
                          have hnb143 := NB274_287.out
                          have hnc143 := NB287_274.out
                          have hcz144_0 : w117.cell? ⟨gb274, 0, none⟩ = some (.int .i64 t268) := (blk_cell BK274.out 0).trans rfl
                          have hcz144_1 : w117.cell? ⟨gb274, 1, none⟩ = some (.int .i64 t269) := (blk_cell BK274.out 1).trans rfl
                          have hcz144_2 : w117.cell? ⟨gb274, 2, none⟩ = some (.slice Ao22 t270.length co22) := (blk_cell BK274.out 2).trans rfl
                          have hfz144_0 := blk_frozen BK274.out 0
                          have hfz144_1 := blk_frozen BK274.out 1
                          have hfz144_2 := blk_frozen BK274.out 2
                          go_wp2_with (first | ((with_reducible refine gate_callee (f := 19) rfl ?_); refine goesL_ (some 81) rfl rfl Try.func19 (by kernel_rfl) rfl #[.agg #[.int .i64 t306, .int .i64 t307, .slice Ao123 t308.length co123], .agg #[.int .i64 t268, .int .i64 t269, .slice Ao22 t270.length co22]] rfl pA ?_; (with_reducible refine (laws_eqTiling.calls kj59 t306 t307 _ _ t308 t268 t269 _ _ t270 false _ ?side1 ?side2 ?side3 ?side4 A124.out).mono ?_); (case side1 => refine (Kd.R_reads' (e := 2) (base := w.heap.size) (ok := fun k_ => ((((True ∧ some k_ ≠ (.slice Ao22 t270.length co22 : Value).ownBlock) ∧ some k_ ≠ (.slice Ao29 t296.length co29 : Value).ownBlock) ∧ some k_ ≠ (.slice Ao36 t283.length co36 : Value).ownBlock) ∧ some k_ ≠ (.slice Ao115 t303.length co115 : Value).ownBlock)) (n := t308.length) (c := co123) ?_).2.2; exact (by (with_reducible repeat (first | apply Kd.R_alloc | apply Kd.R_drewN | apply Kd.R_drew)); exact (Kd.R_mono (Kd.R_far (p := ⟨gb312, 2, none⟩) (Kd.R_far (p := ⟨gb312, 1, none⟩) (Kd.R_far (p := ⟨gb312, 0, none⟩) (Kd.R_types HO310.out BK312.out (by decide)) (fun _ hk => hk.2) (.int .i64 t306)) (fun _ hk => hk.2) (.int .i64 t307)) (fun _ hk => hk.2) (.slice Ao123 t308.length co123)) (fun _ h_ => h_.1)))); (case side2 => exact (Kd.R_reads' HO310.out).2.1); (case side3 => refine (Kd.R_reads' (e := 2) (base := w.heap.size) (ok := fun k_ => (((some k_ ≠ (.slice Ao29 t296.length co29 : Value).ownBlock ∧ some k_ ≠ (.slice Ao36 t283.length co36 : Value).ownBlock) ∧ some k_ ≠ (.slice Ao115 t303.length co115 : Value).ownBlock) ∧ some k_ ≠ (.slice Ao123 t308.length co123 : Value).ownBlock)) (n := t270.length) (c := co22) ?_).2.2; exact (by (with_reducible repeat (first | apply Kd.R_alloc | apply Kd.R_drewN | apply Kd.R_drew)); exact (Kd.R_mono (Kd.R_far (p := ⟨gb312, 2, none⟩) (Kd.R_far (p := ⟨gb312, 1, none⟩) (Kd.R_far (p := ⟨gb312, 0, none⟩) (Kd.R_types HO_275002.out BK312.out (by decide)) (fun _ hk => hk.2) (.int .i64 t306)) (fun _ hk => hk.2) (.int .i64 t307)) (fun _ hk => hk.2) (.slice Ao123 t308.length co123)) (fun _ h_ => h_.1)))); (case side4 => exact (Kd.R_reads' HO_275002.out).2.1); rintro e w145 ⟨rfl, hb⟩; refine ⟨_, rfl, ?_⟩; have n0_ := Aside0.mk (Kd.R_below (by (with_reducible repeat (first | apply Kd.R_alloc | apply Kd.R_drewN | apply Kd.R_drew)); exact (Kd.R_mono (Kd.R_far (p := ⟨gb312, 2, none⟩) (Kd.R_far (p := ⟨gb312, 1, none⟩) (Kd.R_far (p := ⟨gb312, 0, none⟩) (Kd.R_types HO_275002.out BK312.out (by decide)) (fun _ hk => hk.2) (.int .i64 t306)) (fun _ hk => hk.2) (.int .i64 t307)) (fun _ hk => hk.2) (.slice Ao123 t308.length co123)) (fun _ h_ => h_.1))) hb); have n1_ := Aside0.mk (Kd.R_below (by (with_reducible repeat (first | apply Kd.R_alloc | apply Kd.R_drewN | apply Kd.R_drew)); exact (Kd.R_mono (Kd.R_far (p := ⟨gb312, 2, none⟩) (Kd.R_far (p := ⟨gb312, 1, none⟩) (Kd.R_far (p := ⟨gb312, 0, none⟩) (Kd.R_types HO_281002.out BK312.out (by decide)) (fun _ hk => hk.2) (.int .i64 t306)) (fun _ hk => hk.2) (.int .i64 t307)) (fun _ hk => hk.2) (.slice Ao123 t308.length co123)) (fun _ h_ => h_.1))) hb); have n2_ := Aside0.mk (Kd.R_below (by (with_reducible repeat (first | apply Kd.R_alloc | apply Kd.R_drewN | apply Kd.R_drew)); exact (Kd.R_mono (Kd.R_far (p := ⟨gb312, 2, none⟩) (Kd.R_far (p := ⟨gb312, 1, none⟩) (Kd.R_far (p := ⟨gb312, 0, none⟩) (Kd.R_types HO_288002.out BK312.out (by decide)) (fun _ hk => hk.2) (.int .i64 t306)) (fun _ hk => hk.2) (.int .i64 t307)) (fun _ hk => hk.2) (.slice Ao123 t308.length co123)) (fun _ h_ => h_.1))) hb); have n3_ := Aside0.mk (Kd.R_below (by (with_reducible repeat (first | apply Kd.R_alloc | apply Kd.R_drewN | apply Kd.R_drew)); exact (Kd.R_mono (Kd.R_far (p := ⟨gb312, 2, none⟩) (Kd.R_far (p := ⟨gb312, 1, none⟩) (Kd.R_far (p := ⟨gb312, 0, none⟩) (Kd.R_types HO305.out BK312.out (by decide)) (fun _ hk => hk.2) (.int .i64 t306)) (fun _ hk => hk.2) (.int .i64 t307)) (fun _ hk => hk.2) (.slice Ao123 t308.length co123)) (fun _ h_ => h_.1))) hb); have n4_ := Aside0.mk (Kd.R_below (by (with_reducible repeat (first | apply Kd.R_alloc | apply Kd.R_drewN | apply Kd.R_drew)); exact (Kd.R_mono (Kd.R_far (p := ⟨gb312, 2, none⟩) (Kd.R_far (p := ⟨gb312, 1, none⟩) (Kd.R_far (p := ⟨gb312, 0, none⟩) (Kd.R_types HO310.out BK312.out (by decide)) (fun _ hk => hk.2) (.int .i64 t306)) (fun _ hk => hk.2) (.int .i64 t307)) (fun _ hk => hk.2) (.slice Ao123 t308.length co123)) (fun _ h_ => h_.1))) hb); have n5_ := Aside0.mk (blk_below (g := gb261) (o := .cells #[.int .i64 a0_0, .int .i64 a0_1, .slice A0_2 l0_2.length c0_2] 24 (0, 0)) (by (with_reducible repeat (first | refine blk_drewN ?_ _ | refine blk_drew ?_ | refine blk_alloc ?_ _)); refine blk_far ?_ NB261_312.out _; (with_reducible repeat (first | refine blk_drewN ?_ _ | refine blk_drew ?_ | refine blk_alloc ?_ _)); refine blk_far ?_ NB261_312.out _; (with_reducible repeat (first | refine blk_drewN ?_ _ | refine blk_drew ?_ | refine blk_alloc ?_ _)); refine blk_far ?_ NB261_312.out _; (with_reducible repeat (first | refine blk_drewN ?_ _ | refine blk_drew ?_ | refine blk_alloc ?_ _)); exact BK261.out) hb); have n6_ := Aside0.mk (blk_below (g := gb274) (o := .cells #[.int .i64 t268, .int .i64 t269, .slice Ao22 t270.length co22] 28 (0, 0)) (by (with_reducible repeat (first | refine blk_drewN ?_ _ | refine blk_drew ?_ | refine blk_alloc ?_ _)); refine blk_far ?_ NB274_312.out _; (with_reducible repeat (first | refine blk_drewN ?_ _ | refine blk_drew ?_ | refine blk_alloc ?_ _)); refine blk_far ?_ NB274_312.out _; (with_reducible repeat (first | refine blk_drewN ?_ _ | refine blk_drew ?_ | refine blk_alloc ?_ _)); refine blk_far ?_ NB274_312.out _; (with_reducible repeat (first | refine blk_drewN ?_ _ | refine blk_drew ?_ | refine blk_alloc ?_ _)); exact BK274.out) hb); have n7_ := Aside0.mk (blk_below (g := gb280) (o := .cells #[.int .i64 t275, .int .i64 t276, .slice Ao29 t296.length co29] 28 (0, 0)) (by (with_reducible repeat (first | refine blk_drewN ?_ _ | refine blk_drew ?_ | refine blk_alloc ?_ _)); refine blk_far ?_ NB280_312.out _; (with_reducible repeat (first | refine blk_drewN ?_ _ | refine blk_drew ?_ | refine blk_alloc ?_ _)); refine blk_far ?_ NB280_312.out _; (with_reducible repeat (first | refine blk_drewN ?_ _ | refine blk_drew ?_ | refine blk_alloc ?_ _)); refine blk_far ?_ NB280_312.out _; (with_reducible repeat (first | refine blk_drewN ?_ _ | refine blk_drew ?_ | refine blk_alloc ?_ _)); exact BK280.out) hb); have n8_ := Aside0.mk (blk_below (g := gb287) (o := .cells #[.int .i64 t281, .int .i64 t282, .slice Ao36 t283.length co36] 28 (0, 0)) (by (with_reducible repeat (first | refine blk_drewN ?_ _ | refine blk_drew ?_ | refine blk_alloc ?_ _)); refine blk_far ?_ NB287_312.out _; (with_reducible repeat (first | refine blk_drewN ?_ _ | refine blk_drew ?_ | refine blk_alloc ?_ _)); refine blk_far ?_ NB287_312.out _; (with_reducible repeat (first | refine blk_drewN ?_ _ | refine blk_drew ?_ | refine blk_alloc ?_ _)); refine blk_far ?_ NB287_312.out _; (with_reducible repeat (first | refine blk_drewN ?_ _ | refine blk_drew ?_ | refine blk_alloc ?_ _)); exact BK287.out) hb); have n9_ := Aside0.mk (blk_below (g := gb312) (o := .cells #[.int .i64 t306, .int .i64 t307, .slice Ao123 t308.length co123] 28 (0, 0)) (by (with_reducible repeat (first | refine blk_drewN ?_ _ | refine blk_drew ?_ | refine blk_alloc ?_ _)); refine blk_put (cs := #[.int .i64 t306, .int .i64 t307, .slice none 0 0]) ?_ 2 _ rfl; (with_reducible repeat (first | refine blk_drewN ?_ _ | refine blk_drew ?_ | refine blk_alloc ?_ _)); refine blk_put (cs := #[.int .i64 t306, .int .i64 0, .slice none 0 0]) ?_ 1 _ rfl; (with_reducible repeat (first | refine blk_drewN ?_ _ | refine blk_drew ?_ | refine blk_alloc ?_ _)); refine blk_put (cs := #[.int .i64 0, .int .i64 0, .slice none 0 0]) ?_ 0 _ rfl; (with_reducible repeat (first | refine blk_drewN ?_ _ | refine blk_drew ?_ | refine blk_alloc ?_ _)); exact BK312.out) hb); have n10_ := Aside0.mk (below_step (pB5 HB.out GE261.out GE274.out GE280.out GE287.out GE312.out) hb); clear HO_275002; clear HO_281002; clear HO_288002; clear HO305; clear HO310; clear BK261; clear BK274; clear BK280; clear BK287; clear BK312; clear HB; have HO_275002 := n0_; have HO_281002 := n1_; have HO_288002 := n2_; have HO305 := n3_; have HO310 := n4_; have BK261 := n5_; have BK274 := n6_; have BK280 := n7_; have BK287 := n8_; have BK312 := n9_; have HB := n10_; clear n0_ n1_ n2_ n3_ n4_ n5_ n6_ n7_ n8_ n9_ n10_; (try clear hb); (try clear hb2); (try clear hk); (try clear hi)))
                          go_meet
                          case rel => exact ⟨_, (true), (by first | rfl | (simp; done) | (simp [*]; done)), H', ⟨by have := HJ10.out; have := HJ59.out; first | omega | exact Nat.le_refl _⟩, ⟨by (try simp only [hl281002_59]); (with_reducible repeat (first | apply Kd.R_alloc | apply Kd.R_drewN | apply Kd.R_drew)); exact Kd.R_mono HO_275002.out (fun _ hk => ⟨hk.1.1.1, ⟨hk.1.1.2, hk.2⟩⟩)⟩, ⟨by (try simp only [hl281002_59]); (with_reducible repeat (first | apply Kd.R_alloc | apply Kd.R_drewN | apply Kd.R_drew)); exact Kd.R_mono HO_281002.out (fun _ hk => ⟨hk.1.1.1, ⟨hk.1.1.2, hk.2⟩⟩)⟩, ⟨by (try simp only [hl281002_59]); (with_reducible repeat (first | apply Kd.R_alloc | apply Kd.R_drewN | apply Kd.R_drew)); exact Kd.R_mono HO_288002.out (fun _ hk => ⟨hk.1.1.1, ⟨hk.1.1.2, hk.2⟩⟩)⟩, ⟨by (try simp only [hl281002_59]); (with_reducible repeat (first | apply Kd.R_alloc | apply Kd.R_drewN | apply Kd.R_drew)); exact Kd.R_mono HO310.out (fun _ hk => ⟨hk.1.1.1.2, ⟨hk.1.1.2, hk.1.2⟩⟩)⟩, ⟨by (try simp only [hl281002_59]); (with_reducible repeat (first | refine blk_drewN ?_ _ | refine blk_drew ?_ | refine blk_alloc ?_ _)); exact BK261.out⟩, ⟨by (try simp only [hl281002_59]); (with_reducible repeat (first | refine blk_drewN ?_ _ | refine blk_drew ?_ | refine blk_alloc ?_ _)); exact BK274.out⟩, ⟨by (try simp only [hl281002_59]); (with_reducible repeat (first | refine blk_drewN ?_ _ | refine blk_drew ?_ | refine blk_alloc ?_ _)); exact BK280.out⟩, ⟨by (try simp only [hl281002_59]); (with_reducible repeat (first | refine blk_drewN ?_ _ | refine blk_drew ?_ | refine blk_alloc ?_ _)); exact BK287.out⟩, ⟨by (try simp only [hl281002_59]); (with_reducible repeat (first | refine blk_drewN ?_ _ | refine blk_drew ?_ | refine blk_alloc ?_ _)); exact BK312.out⟩, ⟨pB5 HB.out GE261.out GE274.out GE280.out GE287.out GE312.out⟩⟩
                      case rest =>
                        clear HC103
                        try clear c1
                        try clear c2
                        try clear p2
                        try clear c3
                        try clear c3b0
                        try clear c4
                        try clear c5
                        try clear c6
                        try clear c7
                        try clear c8
                        try clear c9
                        try clear c10
                        try clear c11
                        try clear c12
                        try clear c13
                        try clear c14
                        try clear c15
                        try clear c17
                        try clear c19
                        try clear c20
                        try clear c23
                        try clear c26
                        try clear c27
                        try clear c32
                        try clear c33
                        try clear c34
                        try clear c38
                        try clear c39
                        try clear c40
                        try clear c41
                        try clear c42
                        try clear c43
                        try clear c44
                        try clear c47
                        try clear c48
                        try clear c49
                        try clear c51
                        try clear c52
                        try clear c55
                        try clear c58
                        try clear c65
                        try clear c66
                        try clear c67
                        try clear c70
                        try clear c70b0
                        try clear c72
                        try clear c73
                        try clear c74
                        try clear c75
                        try clear c77
                        try clear c78
                        try clear c81
                        try clear c82
                        try clear c83
                        try clear c85
                        try clear c86
                        try clear c89
                        try clear c92
                        try clear c92b0
                        try clear c93
                        try clear c94
                        try clear c95
                        try clear c100
                        try clear c100b0
                        try clear c100b1
                        try clear c104
                        try clear c105
                        try clear c106
                        try clear c111
                        try clear c112
                        try clear c118
                        try clear c119
                        try clear c120
                        try clear c121
                        try clear c125
                        try clear c126
                        try clear c127
                        try clear c128
                        try clear c129
                        try clear c131
                        try clear c132
                        try clear c133
                        try clear c136
                        try clear c137
                        try clear c138
                        try clear c139
                        try clear c141
                        try clear c142
                        try clear c143
                        try clear hcz107_0
                        try clear hcz107_1
                        try clear hcz107_2
                        try clear hcz109_0
                        try clear hcz109_1
                        try clear hcz109_2
                        try clear hcz113_0
                        try clear hcz113_1
                        try clear hcz113_2
                        try clear hcz122_0
                        try clear hcz122_1
                        try clear hcz122_2
                        try clear hcz130_0
                        try clear hcz130_1
                        try clear hcz130_2
                        try clear hcz134_0
                        try clear hcz134_1
                        try clear hcz134_2
                        try clear hcz13_0
                        try clear hcz13_1
                        try clear hcz13_2
                        try clear hcz140_0
                        try clear hcz140_1
                        try clear hcz140_2
                        try clear hcz144_0
                        try clear hcz144_1
                        try clear hcz144_2
                        try clear hcz15_0
                        try clear hcz15_1
                        try clear hcz15_2
                        try clear hcz21_0
                        try clear hcz21_1
                        try clear hcz21_2
                        try clear hcz23_0
                        try clear hcz23_1
                        try clear hcz23_2
                        try clear hcz28_0
                        try clear hcz28_1
                        try clear hcz28_2
                        try clear hcz35_0
                        try clear hcz35_1
                        try clear hcz35_2
                        try clear hcz42_0
                        try clear hcz42_1
                        try clear hcz42_2
                        try clear hcz45_0
                        try clear hcz45_1
                        try clear hcz45_2
                        try clear hcz50_0
                        try clear hcz50_1
                        try clear hcz50_2
                        try clear hcz53_0
                        try clear hcz53_1
                        try clear hcz53_2
                        try clear hcz5_0
                        try clear hcz5_1
                        try clear hcz5_2
                        try clear hcz68_0
                        try clear hcz68_1
                        try clear hcz68_2
                        try clear hcz76_0
                        try clear hcz76_1
                        try clear hcz76_2
                        try clear hcz79_0
                        try clear hcz79_1
                        try clear hcz79_2
                        try clear hcz84_0
                        try clear hcz84_1
                        try clear hcz84_2
                        try clear hcz87_0
                        try clear hcz87_1
                        try clear hcz87_2
                        try clear hcz96_0
                        try clear hcz96_1
                        try clear hcz96_2
                        try clear hcz98_0
                        try clear hcz98_1
                        try clear hcz98_2
                        try clear hfz107_0
                        try clear hfz107_1
                        try clear hfz107_2
                        try clear hfz109_0
                        try clear hfz109_1
                        try clear hfz109_2
                        try clear hfz113_0
                        try clear hfz113_1
                        try clear hfz113_2
                        try clear hfz122_0
                        try clear hfz122_1
                        try clear hfz122_2
                        try clear hfz130_0
                        try clear hfz130_1
                        try clear hfz130_2
                        try clear hfz134_0
                        try clear hfz134_1
                        try clear hfz134_2
                        try clear hfz13_0
                        try clear hfz13_1
                        try clear hfz13_2
                        try clear hfz140_0
                        try clear hfz140_1
                        try clear hfz140_2
                        try clear hfz144_0
                        try clear hfz144_1
                        try clear hfz144_2
                        try clear hfz15_0
                        try clear hfz15_1
                        try clear hfz15_2
                        try clear hfz21_0
                        try clear hfz21_1
                        try clear hfz21_2
                        try clear hfz23_0
                        try clear hfz23_1
                        try clear hfz23_2
                        try clear hfz28_0
                        try clear hfz28_1
                        try clear hfz28_2
                        try clear hfz35_0
                        try clear hfz35_1
                        try clear hfz35_2
                        try clear hfz42_0
                        try clear hfz42_1
                        try clear hfz42_2
                        try clear hfz45_0
                        try clear hfz45_1
                        try clear hfz45_2
                        try clear hfz50_0
                        try clear hfz50_1
                        try clear hfz50_2
                        try clear hfz53_0
                        try clear hfz53_1
                        try clear hfz53_2
                        try clear hfz5_0
                        try clear hfz5_1
                        try clear hfz5_2
                        try clear hfz68_0
                        try clear hfz68_1
                        try clear hfz68_2
                        try clear hfz76_0
                        try clear hfz76_1
                        try clear hfz76_2
                        try clear hfz79_0
                        try clear hfz79_1
                        try clear hfz79_2
                        try clear hfz84_0
                        try clear hfz84_1
                        try clear hfz84_2
                        try clear hfz87_0
                        try clear hfz87_1
                        try clear hfz87_2
                        try clear hfz96_0
                        try clear hfz96_1
                        try clear hfz96_2
                        try clear hfz98_0
                        try clear hfz98_1
                        try clear hfz98_2
                        try clear p2
                        obtain ⟨kq, x87_102, rfl, HA, HJ102, HO_275002, HO_281002, HO_288002, HO_313002, BK261, BK274, BK280, BK287, BK312, HB⟩ := hcut
                        have hl288002_102 := (Kd.R_reads' HO_288002.out).1
                        rw [hl288002_102] at HO_288002
                        (try simp only [hl288002_102])
                        (try simp only [hl288002_102] at BK261)
                        (try simp only [hl288002_102] at BK274)
                        (try simp only [hl288002_102] at BK280)
                        (try simp only [hl288002_102] at BK287)
                        (try simp only [hl288002_102] at BK312)
                        (try simp only [hl288002_102] at HO_275002)
                        (try simp only [hl288002_102] at HO_281002)
                        (try simp only [hl288002_102] at HO_313002)
                        cases kq with
                        | zero => exact absurd HA.out (by simp [laws_FnExactNormalTiling.j2])
                        | succ kj102 =>
                          have H := HA.out
                          clear HA
                          simp only [laws_FnExactNormalTiling.j2] at H
                          by_cases c146 : x87_102 = true
                          · subst c146
                            have H1 : (some false) = some r := by rw [if_pos rfl] at H; exact H
                            clear H
                            have H := H1
                            clear H1
                            obtain rfl := Option.some.inj H
                            go_wp2
                            go_ret
                            exact ⟨by first | rfl | (simp [errW_none, errW_some] <;> rfl) | (simp [*, errW_none, errW_some] <;> rfl), pB5 HB.out GE261.out GE274.out GE280.out GE287.out GE312.out⟩
                          · replace c146 := Bool.eq_false_iff.mpr c146
                            subst c146
                            have H1 : ((laws_heldTiling.f kj102 t281 t282 t299 1).bind fun t314 => (if t314 < 0 then (some false) else (if t314 = t298 then (some true) else (some false)))) = some r := by rw [if_neg (show ¬ (false = true) by decide)] at H; exact H
                            clear H
                            have H := H1
                            clear H1
                            replace H := Option.bind_eq_some_iff.mp H
                            obtain ⟨t314, A1470, H⟩ := H
                            replace H : (if t314 < 0 then (some false) else (if t314 = t298 then (some true) else (some false))) = some r := H
                            have A147 := Aside0.mk A1470
                            clear A1470
                            by_cases c148 : t314 < 0
                            · rw [if_pos c148] at H
                              have c148b0 : decide (t314 < 0) = true := decide_eq_true c148
                              clear c148
                              obtain rfl := Option.some.inj H
                              have hnb149 := NB287_261.out
                              have hnc149 := NB261_287.out
                              have hnb150 := NB287_274.out
                              have hnc150 := NB274_287.out
                              have hnb151 := NB287_280.out
                              have hnc151 := NB280_287.out
                              have hnb152 := NB287_312.out
                              have hnc152 := NB312_287.out
                              have hcz153_0 : wc.cell? ⟨gb287, 0, none⟩ = some (.int .i64 t281) := (blk_cell BK287.out 0).trans rfl
                              have hcz153_1 : wc.cell? ⟨gb287, 1, none⟩ = some (.int .i64 t282) := (blk_cell BK287.out 1).trans rfl
                              have hcz153_2 : wc.cell? ⟨gb287, 2, none⟩ = some (.slice Ao36 t299.length co36) := (blk_cell BK287.out 2).trans rfl
                              have hfz153_0 := blk_frozen BK287.out 0
                              have hfz153_1 := blk_frozen BK287.out 1
                              have hfz153_2 := blk_frozen BK287.out 2
                              go_wp2_with (first | ((with_reducible refine gate_callee (f := 43) rfl ?_); refine goesL_ (some 90) rfl rfl Try.func43 (by kernel_rfl) rfl #[.agg #[.int .i64 t281, .int .i64 t282, .slice Ao36 t299.length co36], .int .i64 1] rfl pA ?_; (with_reducible refine (laws_heldTiling.calls kj102 t281 t282 _ _ t299 1 t314 _ ?side1 ?side2 A147.out).mono ?_); (case side1 => exact pC ((Kd.R_reads' HO_288002.out).2.2)); (case side2 => exact (Kd.R_reads' HO_288002.out).2.1); rintro e w154 ⟨rfl, hb⟩; refine ⟨_, rfl, ?_⟩; have n0_ := Aside0.mk (Kd.R_below (pR HO_275002.out) hb); have n1_ := Aside0.mk (Kd.R_below (pR HO_281002.out) hb); have n2_ := Aside0.mk (Kd.R_below (pR HO_288002.out) hb); have n3_ := Aside0.mk (Kd.R_below (pR HO_313002.out) hb); have n4_ := Aside0.mk (blk_below (g := gb261) (o := .cells #[.int .i64 a0_0, .int .i64 a0_1, .slice A0_2 l0_2.length c0_2] 24 (0, 0)) (pK BK261.out) hb); have n5_ := Aside0.mk (blk_below (g := gb274) (o := .cells #[.int .i64 t268, .int .i64 t269, .slice Ao22 t270.length co22] 28 (0, 0)) (pK BK274.out) hb); have n6_ := Aside0.mk (blk_below (g := gb280) (o := .cells #[.int .i64 t275, .int .i64 t276, .slice Ao29 t296.length co29] 28 (0, 0)) (pK BK280.out) hb); have n7_ := Aside0.mk (blk_below (g := gb287) (o := .cells #[.int .i64 t281, .int .i64 t282, .slice Ao36 t299.length co36] 28 (0, 0)) (pK BK287.out) hb); have n8_ := Aside0.mk (blk_below (g := gb312) (o := .cells #[.int .i64 t306, .int .i64 t307, .slice Ao123 t308.length co123] 28 (0, 0)) (pK BK312.out) hb); have n9_ := Aside0.mk (below_step (pB5 HB.out GE261.out GE274.out GE280.out GE287.out GE312.out) hb); clear HO_275002; clear HO_281002; clear HO_288002; clear HO_313002; clear BK261; clear BK274; clear BK280; clear BK287; clear BK312; clear HB; have HO_275002 := n0_; have HO_281002 := n1_; have HO_288002 := n2_; have HO_313002 := n3_; have BK261 := n4_; have BK274 := n5_; have BK280 := n6_; have BK287 := n7_; have BK312 := n8_; have HB := n9_; clear n0_ n1_ n2_ n3_ n4_ n5_ n6_ n7_ n8_ n9_; (try clear hb); (try clear hb2); (try clear hk); (try clear hi)))
                              go_ret
                              exact ⟨by first | rfl | (simp [errW_none, errW_some] <;> rfl) | (simp [*, errW_none, errW_some] <;> rfl), pB5 HB.out GE261.out GE274.out GE280.out GE287.out GE312.out⟩
                            · rw [if_neg c148] at H
                              have c148b0 : decide (t314 < 0) = false := decide_eq_false c148
                              clear c148
                              by_cases c155 : t314 = t298
                              · rw [if_pos c155] at H
                                have c155b0 : (t314 == t298) = true := beq_iff_eq.mpr c155
                                have c155b1 : (t314 != t298) = false := bne_eq_false_iff_eq.mpr c155
                                clear c155
                                obtain rfl := Option.some.inj H
                                have hnb156 := NB287_261.out
                                have hnc156 := NB261_287.out
                                have hnb157 := NB287_274.out
                                have hnc157 := NB274_287.out
                                have hnb158 := NB287_280.out
                                have hnc158 := NB280_287.out
                                have hnb159 := NB287_312.out
                                have hnc159 := NB312_287.out
                                have hcz160_0 : wc.cell? ⟨gb287, 0, none⟩ = some (.int .i64 t281) := (blk_cell BK287.out 0).trans rfl
                                have hcz160_1 : wc.cell? ⟨gb287, 1, none⟩ = some (.int .i64 t282) := (blk_cell BK287.out 1).trans rfl
                                have hcz160_2 : wc.cell? ⟨gb287, 2, none⟩ = some (.slice Ao36 t299.length co36) := (blk_cell BK287.out 2).trans rfl
                                have hfz160_0 := blk_frozen BK287.out 0
                                have hfz160_1 := blk_frozen BK287.out 1
                                have hfz160_2 := blk_frozen BK287.out 2
                                go_wp2_with (first | ((with_reducible refine gate_callee (f := 43) rfl ?_); refine goesL_ (some 90) rfl rfl Try.func43 (by kernel_rfl) rfl #[.agg #[.int .i64 t281, .int .i64 t282, .slice Ao36 t299.length co36], .int .i64 1] rfl pA ?_; (with_reducible refine (laws_heldTiling.calls kj102 t281 t282 _ _ t299 1 t314 _ ?side1 ?side2 A147.out).mono ?_); (case side1 => exact pC ((Kd.R_reads' HO_288002.out).2.2)); (case side2 => exact (Kd.R_reads' HO_288002.out).2.1); rintro e w161 ⟨rfl, hb⟩; refine ⟨_, rfl, ?_⟩; have n0_ := Aside0.mk (Kd.R_below (pR HO_275002.out) hb); have n1_ := Aside0.mk (Kd.R_below (pR HO_281002.out) hb); have n2_ := Aside0.mk (Kd.R_below (pR HO_288002.out) hb); have n3_ := Aside0.mk (Kd.R_below (pR HO_313002.out) hb); have n4_ := Aside0.mk (blk_below (g := gb261) (o := .cells #[.int .i64 a0_0, .int .i64 a0_1, .slice A0_2 l0_2.length c0_2] 24 (0, 0)) (pK BK261.out) hb); have n5_ := Aside0.mk (blk_below (g := gb274) (o := .cells #[.int .i64 t268, .int .i64 t269, .slice Ao22 t270.length co22] 28 (0, 0)) (pK BK274.out) hb); have n6_ := Aside0.mk (blk_below (g := gb280) (o := .cells #[.int .i64 t275, .int .i64 t276, .slice Ao29 t296.length co29] 28 (0, 0)) (pK BK280.out) hb); have n7_ := Aside0.mk (blk_below (g := gb287) (o := .cells #[.int .i64 t281, .int .i64 t282, .slice Ao36 t299.length co36] 28 (0, 0)) (pK BK287.out) hb); have n8_ := Aside0.mk (blk_below (g := gb312) (o := .cells #[.int .i64 t306, .int .i64 t307, .slice Ao123 t308.length co123] 28 (0, 0)) (pK BK312.out) hb); have n9_ := Aside0.mk (below_step (pB5 HB.out GE261.out GE274.out GE280.out GE287.out GE312.out) hb); clear HO_275002; clear HO_281002; clear HO_288002; clear HO_313002; clear BK261; clear BK274; clear BK280; clear BK287; clear BK312; clear HB; have HO_275002 := n0_; have HO_281002 := n1_; have HO_288002 := n2_; have HO_313002 := n3_; have BK261 := n4_; have BK274 := n5_; have BK280 := n6_; have BK287 := n7_; have BK312 := n8_; have HB := n9_; clear n0_ n1_ n2_ n3_ n4_ n5_ n6_ n7_ n8_ n9_; (try clear hb); (try clear hb2); (try clear hk); (try clear hi)))
                                go_ret
                                exact ⟨by first | rfl | (simp [errW_none, errW_some] <;> rfl) | (simp [*, errW_none, errW_some] <;> rfl), pB5 HB.out GE261.out GE274.out GE280.out GE287.out GE312.out⟩
                              · rw [if_neg c155] at H
                                have c155b0 : (t314 == t298) = false := beq_eq_false_iff_ne.mpr c155
                                have c155b1 : (t314 != t298) = true := bne_iff_ne.mpr c155
                                obtain rfl := Option.some.inj H
                                have hnb162 := NB287_261.out
                                have hnc162 := NB261_287.out
                                have hnb163 := NB287_274.out
                                have hnc163 := NB274_287.out
                                have hnb164 := NB287_280.out
                                have hnc164 := NB280_287.out
                                have hnb165 := NB287_312.out
                                have hnc165 := NB312_287.out
                                have hcz166_0 : wc.cell? ⟨gb287, 0, none⟩ = some (.int .i64 t281) := (blk_cell BK287.out 0).trans rfl
                                have hcz166_1 : wc.cell? ⟨gb287, 1, none⟩ = some (.int .i64 t282) := (blk_cell BK287.out 1).trans rfl
                                have hcz166_2 : wc.cell? ⟨gb287, 2, none⟩ = some (.slice Ao36 t299.length co36) := (blk_cell BK287.out 2).trans rfl
                                have hfz166_0 := blk_frozen BK287.out 0
                                have hfz166_1 := blk_frozen BK287.out 1
                                have hfz166_2 := blk_frozen BK287.out 2
                                go_wp2_with (first | ((with_reducible refine gate_callee (f := 43) rfl ?_); refine goesL_ (some 90) rfl rfl Try.func43 (by kernel_rfl) rfl #[.agg #[.int .i64 t281, .int .i64 t282, .slice Ao36 t299.length co36], .int .i64 1] rfl pA ?_; (with_reducible refine (laws_heldTiling.calls kj102 t281 t282 _ _ t299 1 t314 _ ?side1 ?side2 A147.out).mono ?_); (case side1 => exact pC ((Kd.R_reads' HO_288002.out).2.2)); (case side2 => exact (Kd.R_reads' HO_288002.out).2.1); rintro e w167 ⟨rfl, hb⟩; refine ⟨_, rfl, ?_⟩; have n0_ := Aside0.mk (Kd.R_below (pR HO_275002.out) hb); have n1_ := Aside0.mk (Kd.R_below (pR HO_281002.out) hb); have n2_ := Aside0.mk (Kd.R_below (pR HO_288002.out) hb); have n3_ := Aside0.mk (Kd.R_below (pR HO_313002.out) hb); have n4_ := Aside0.mk (blk_below (g := gb261) (o := .cells #[.int .i64 a0_0, .int .i64 a0_1, .slice A0_2 l0_2.length c0_2] 24 (0, 0)) (pK BK261.out) hb); have n5_ := Aside0.mk (blk_below (g := gb274) (o := .cells #[.int .i64 t268, .int .i64 t269, .slice Ao22 t270.length co22] 28 (0, 0)) (pK BK274.out) hb); have n6_ := Aside0.mk (blk_below (g := gb280) (o := .cells #[.int .i64 t275, .int .i64 t276, .slice Ao29 t296.length co29] 28 (0, 0)) (pK BK280.out) hb); have n7_ := Aside0.mk (blk_below (g := gb287) (o := .cells #[.int .i64 t281, .int .i64 t282, .slice Ao36 t299.length co36] 28 (0, 0)) (pK BK287.out) hb); have n8_ := Aside0.mk (blk_below (g := gb312) (o := .cells #[.int .i64 t306, .int .i64 t307, .slice Ao123 t308.length co123] 28 (0, 0)) (pK BK312.out) hb); have n9_ := Aside0.mk (below_step (pB5 HB.out GE261.out GE274.out GE280.out GE287.out GE312.out) hb); clear HO_275002; clear HO_281002; clear HO_288002; clear HO_313002; clear BK261; clear BK274; clear BK280; clear BK287; clear BK312; clear HB; have HO_275002 := n0_; have HO_281002 := n1_; have HO_288002 := n2_; have HO_313002 := n3_; have BK261 := n4_; have BK274 := n5_; have BK280 := n6_; have BK287 := n7_; have BK312 := n8_; have HB := n9_; clear n0_ n1_ n2_ n3_ n4_ n5_ n6_ n7_ n8_ n9_; (try clear hb); (try clear hb2); (try clear hk); (try clear hi)))
                                go_ret
                                exact ⟨by first | rfl | (simp [errW_none, errW_some] <;> rfl) | (simp [*, errW_none, errW_some] <;> rfl), pB5 HB.out GE261.out GE274.out GE280.out GE287.out GE312.out⟩
                    · rw [if_neg c100] at H
                      have c100b0 : (t300 == t298) = false := beq_eq_false_iff_ne.mpr c100
                      have c100b1 : (t300 != t298) = true := bne_iff_ne.mpr c100
                      obtain rfl := Option.some.inj H
                      have hnb168 := NB287_261.out
                      have hnc168 := NB261_287.out
                      have hnb169 := NB287_274.out
                      have hnc169 := NB274_287.out
                      have hnb170 := NB287_280.out
                      have hnc170 := NB280_287.out
                      have hcz171_0 : wc.cell? ⟨gb287, 0, none⟩ = some (.int .i64 t281) := (blk_cell BK287.out 0).trans rfl
                      have hcz171_1 : wc.cell? ⟨gb287, 1, none⟩ = some (.int .i64 t282) := (blk_cell BK287.out 1).trans rfl
                      have hcz171_2 : wc.cell? ⟨gb287, 2, none⟩ = some (.slice Ao36 t283.length co36) := (blk_cell BK287.out 2).trans rfl
                      have hfz171_0 := blk_frozen BK287.out 0
                      have hfz171_1 := blk_frozen BK287.out 1
                      have hfz171_2 := blk_frozen BK287.out 2
                      go_wp2_with (first | ((with_reducible refine gate_callee (f := 23) rfl ?_); refine goesL_ (some 64) rfl rfl Try.func23 (by kernel_rfl) rfl #[.agg #[.int .i64 t281, .int .i64 t282, .slice Ao36 t283.length co36], .int .i64 1] rfl pA ?_; (with_reducible refine (laws_markTiling.calls kj59 t281 t282 (fun k_ => some k_ = (.slice Ao36 t283.length co36 : Value).ownBlock) (.slice Ao36 t283.length co36) t283 1 t298 t299 w _ ?side1 ?side2 A90.out).mono ?_); (case side1 => repeat (first | (with_reducible first | exact HB.out | apply below_alloc | apply pw_below_drewN | apply below_drew1 | refine below_set ?_ GE261.out | refine below_set ?_ GE274.out | refine below_set ?_ GE280.out | refine below_set ?_ GE287.out) | exact HB.out)); (case side2 => exact Kd.R_tight rfl HO_288002.out); rintro e w172 ⟨rfl, hy0, hb, hkp⟩; refine ⟨_, rfl, ?_⟩; have n0_ := Aside0.mk (Kd.R_mono (ok' := fun k_ => some k_ ≠ (.slice Ao29 t296.length co29 : Value).ownBlock ∧ some k_ ≠ (.slice Ao36 t283.length co36 : Value).ownBlock) (Kd.R_keptB (HO_275002.out) hkp (fun k_ hk_ hs_ => (hk_.2) hs_)) (fun k_ hk_ => ⟨hk_.1.1, hk_.1.2⟩)); have n1_ := Aside0.mk (Kd.R_mono (ok' := fun k_ => some k_ ≠ (.slice Ao22 t270.length co22 : Value).ownBlock ∧ some k_ ≠ (.slice Ao36 t283.length co36 : Value).ownBlock) (Kd.R_keptB (HO_281002.out) hkp (fun k_ hk_ hs_ => (hk_.2) hs_)) (fun k_ hk_ => ⟨hk_.1.1, hk_.1.2⟩)); have n2_ := Aside0.mk (Kd.R_reok rfl hy0 (fun k_ e_ => HO_288002.out.1 k_ e_)); have n3_ := Aside0.mk (blk_kept (pK BK261.out) hkp (fun hs_ => (fun e_ => (Kd.R_ne HO_288002.out BK261.out (by decide)) e_) hs_)); have n4_ := Aside0.mk (blk_kept (pK BK274.out) hkp (fun hs_ => (fun e_ => (Kd.R_ne HO_288002.out BK274.out (by decide)) e_) hs_)); have n5_ := Aside0.mk (blk_kept (pK BK280.out) hkp (fun hs_ => (fun e_ => (Kd.R_ne HO_288002.out BK280.out (by decide)) e_) hs_)); have n6_ := Aside0.mk (blk_kept (pK BK287.out) hkp (fun hs_ => (fun e_ => (Kd.R_ne HO_288002.out BK287.out (by decide)) e_) hs_)); have n7_ := Aside0.mk (hb); clear HO_275002; clear HO_281002; clear HO_288002; clear BK261; clear BK274; clear BK280; clear BK287; clear HB; have HO_275002 := n0_; have HO_281002 := n1_; have HO_288002 := n2_; have BK261 := n3_; have BK274 := n4_; have BK280 := n5_; have BK287 := n6_; have HB := n7_; clear n0_ n1_ n2_ n3_ n4_ n5_ n6_ n7_; (try clear hb); (try clear hkp); (try clear hy0); have hcz173_0 : w172.cell? ⟨gb287, 0, none⟩ = some (.int .i64 t281) := (blk_cell BK287.out 0).trans rfl; have hcz173_1 : w172.cell? ⟨gb287, 1, none⟩ = some (.int .i64 t282) := (blk_cell BK287.out 1).trans rfl; have hcz173_2 : w172.cell? ⟨gb287, 2, none⟩ = some (.slice Ao36 t283.length co36) := (blk_cell BK287.out 2).trans rfl; have hfz173_0 := blk_frozen BK287.out 0; have hfz173_1 := blk_frozen BK287.out 1; have hfz173_2 := blk_frozen BK287.out 2) | ((with_reducible refine gate_callee (f := 43) rfl ?_); refine goesL_ (some 67) rfl rfl Try.func43 (by kernel_rfl) rfl #[.agg #[.int .i64 t281, .int .i64 t282, .slice Ao36 t299.length co36], .int .i64 1] rfl (by (try simp only [List.map_toArray, List.map_cons, List.map_nil]); first | done | (rw [show t299.length = t283.length from (Kd.R_reads' HO_288002.out).1.symm] <;> rfl) | rfl | (simp only [List.length_drop, List.length_take]; rfl)) ?_; (with_reducible refine (laws_heldTiling.calls kj59 t281 t282 _ _ t299 1 t300 _ ?side1 ?side2 A91.out).mono ?_); (case side1 => exact pC ((Kd.R_reads' HO_288002.out).2.2)); (case side2 => rw [show t299.length = t283.length from (Kd.R_reads' HO_288002.out).1.symm]; exact (Kd.R_reads' HO_288002.out).2.1); rintro e w174 ⟨rfl, hb⟩; refine ⟨_, rfl, ?_⟩; have n0_ := Aside0.mk (Kd.R_below (pR HO_275002.out) hb); have n1_ := Aside0.mk (Kd.R_below (pR HO_281002.out) hb); have n2_ := Aside0.mk (Kd.R_below (pR HO_288002.out) hb); have n3_ := Aside0.mk (blk_below (g := gb261) (o := .cells #[.int .i64 a0_0, .int .i64 a0_1, .slice A0_2 l0_2.length c0_2] 24 (0, 0)) (pK BK261.out) hb); have n4_ := Aside0.mk (blk_below (g := gb274) (o := .cells #[.int .i64 t268, .int .i64 t269, .slice Ao22 t270.length co22] 28 (0, 0)) (pK BK274.out) hb); have n5_ := Aside0.mk (blk_below (g := gb280) (o := .cells #[.int .i64 t275, .int .i64 t276, .slice Ao29 t296.length co29] 28 (0, 0)) (pK BK280.out) hb); have n6_ := Aside0.mk (blk_below (g := gb287) (o := .cells #[.int .i64 t281, .int .i64 t282, .slice Ao36 t283.length co36] 28 (0, 0)) (pK BK287.out) hb); have n7_ := Aside0.mk (below_step (pB4 HB.out GE261.out GE274.out GE280.out GE287.out) hb); clear HO_275002; clear HO_281002; clear HO_288002; clear BK261; clear BK274; clear BK280; clear BK287; clear HB; have HO_275002 := n0_; have HO_281002 := n1_; have HO_288002 := n2_; have BK261 := n3_; have BK274 := n4_; have BK280 := n5_; have BK287 := n6_; have HB := n7_; clear n0_ n1_ n2_ n3_ n4_ n5_ n6_ n7_; (try clear hb); (try clear hb2); (try clear hk); (try clear hi)))
                      go_ret
                      exact ⟨by first | rfl | (simp [errW_none, errW_some] <;> rfl) | (simp [*, errW_none, errW_some] <;> rfl), pB4 HB.out GE261.out GE274.out GE280.out GE287.out⟩
          · replace c58 := Bool.eq_false_iff.mpr c58
            subst c58
            have H1 : (some false) = some r := by rw [if_neg (show ¬ (false = true) by decide)] at H; exact H
            clear H
            have H := H1
            clear H1
            obtain rfl := Option.some.inj H
            try go_wp2
            have n0_ := Aside0.mk (Kd.R_drew HO_275002.out)
            have n1_ := Aside0.mk (Kd.R_drew HO_281002.out)
            have n2_ := Aside0.mk (Kd.R_drew HO_288002.out)
            have n3_ := Aside0.mk (blk_drew BK261.out)
            have n4_ := Aside0.mk (blk_drew BK274.out)
            have n5_ := Aside0.mk (blk_drew BK280.out)
            have n6_ := Aside0.mk (blk_drew BK287.out)
            have n7_ := Aside0.mk (below_drew1 HB.out)
            clear HO_275002
            clear HO_281002
            clear HO_288002
            clear BK261
            clear BK274
            clear BK280
            clear BK287
            clear HB
            have HO_275002 := n0_
            have HO_281002 := n1_
            have HO_288002 := n2_
            have BK261 := n3_
            have BK274 := n4_
            have BK280 := n5_
            have BK287 := n6_
            have HB := n7_
            clear n0_ n1_ n2_ n3_ n4_ n5_ n6_ n7_
            refine start_ (n := 5) (S := fun w' => w'.cell? ⟨gb280, 0, none⟩ = some (.int .i64 t275) ∧ w'.cell? ⟨gb280, 1, none⟩ = some (.int .i64 t276) ∧ w'.cell? ⟨gb280, 2, none⟩ = some (.slice Ao29 t277.length co29) ∧ w'.cell? ⟨gb261, 0, none⟩ = some (.int .i64 a0_0) ∧ w'.cell? ⟨gb261, 1, none⟩ = some (.int .i64 a0_1) ∧ w'.cell? ⟨gb261, 2, none⟩ = some (.slice A0_2 l0_2.length c0_2)) (ds := []) #[false, false, false, false, false] (by kernel_rfl) rfl rfl ⟨(blk_cell BK280.out 0).trans rfl, (blk_cell BK280.out 1).trans rfl, (blk_cell BK280.out 2).trans rfl, (blk_cell BK261.out 0).trans rfl, (blk_cell BK261.out 1).trans rfl, (blk_cell BK261.out 2).trans rfl⟩ (fun hHeld => ?_)
            generalize wc.drew = w175 at HO_275002 HO_281002 HO_288002 BK261 BK274 BK280 BK287 HB hHeld ⊢
            refine take_ (i := 0) (N := some 41) (v := ?_) (a' := ?_) #[true, false, false, false, false] rfl rfl (by kernel_rfl) (fun _ _ _ h => h) (Or.inl ⟨by rfl, ?_⟩) hHeld ?_ ?_
            rotate_left
            · rintro w' ⟨s0, s1, s2, s3, s4, s5⟩
              go_simp
              with_reducible rfl
            rotate_left
            · simp only [Act.put, List.setIfInBounds_toArray, List.set_cons_zero, List.set_cons_succ, i64_w, i32_w]
              rfl
            refine take_ (i := 1) (N := some 42) (v := ?_) (a' := ?_) #[true, true, false, false, false] rfl rfl (by kernel_rfl) (fun _ _ _ h => h) (Or.inl ⟨by rfl, ?_⟩) hHeld ?_ ?_
            rotate_left
            · rintro w' ⟨s0, s1, s2, s3, s4, s5⟩
              go_simp
              with_reducible rfl
            rotate_left
            · simp only [Act.put, List.setIfInBounds_toArray, List.set_cons_zero, List.set_cons_succ, i64_w, i32_w]
              rfl
            refine one_ (i := 2) (N := some 43) #[true, true, true, false, false] rfl rfl (by kernel_rfl) (by decide) (fun K hK => ?_)
            refine goes_ Try.func17 (by kernel_rfl) rfl #[.agg #[.int .i64 a0_0, .int .i64 a0_1, .slice A0_2 l0_2.length c0_2]] (by rfl) rfl rfl pA ?_
            with_reducible refine (laws_toTiling.calls kj10 a0_0 a0_1 _ _ l0_2 t289 t290 t291 _ ?side1 ?side2 A56.out).mono ?_
            (case side1 => exact pC (Kd.C_below HR0_2.out HB.out))
            (case side2 => exact HC0_2.out)
            rintro e w176 ⟨v292, rfl, ho0, hb⟩
            refine ⟨_, rfl, ?_⟩
            have n0_ := Aside0.mk (Kd.R_elder' (pR HO_275002.out) (Kd.R_base ho0) hb)
            have n1_ := Aside0.mk (Kd.R_elder' (pR HO_281002.out) (Kd.R_base ho0) hb)
            have n2_ := Aside0.mk (Kd.R_elder' (pR HO_288002.out) (Kd.R_base ho0) hb)
            have n3_ := Aside0.mk (Kd.R_lower (Kd.R_new' (Kd.R_new' (Kd.R_new' ho0 (Kd.R_lt (pR HO_275002.out))) (Kd.R_lt (pR HO_281002.out))) (Kd.R_lt (pR HO_288002.out))) (below_size (pB4 HB.out GE261.out GE274.out GE280.out GE287.out)))
            have n4_ := Aside0.mk (blk_below (g := gb261) (o := .cells #[.int .i64 a0_0, .int .i64 a0_1, .slice A0_2 l0_2.length c0_2] 24 (0, 0)) (pK BK261.out) hb)
            have n5_ := Aside0.mk (blk_below (g := gb274) (o := .cells #[.int .i64 t268, .int .i64 t269, .slice Ao22 t270.length co22] 28 (0, 0)) (pK BK274.out) hb)
            have n6_ := Aside0.mk (blk_below (g := gb280) (o := .cells #[.int .i64 t275, .int .i64 t276, .slice Ao29 t277.length co29] 28 (0, 0)) (pK BK280.out) hb)
            have n7_ := Aside0.mk (blk_below (g := gb287) (o := .cells #[.int .i64 t281, .int .i64 t282, .slice Ao36 t283.length co36] 28 (0, 0)) (pK BK287.out) hb)
            have n8_ := Aside0.mk (below_step (pB4 HB.out GE261.out GE274.out GE280.out GE287.out) hb)
            clear HO_275002
            clear HO_281002
            clear HO_288002
            clear BK261
            clear BK274
            clear BK280
            clear BK287
            clear HB
            have HO_275002 := n0_
            have HO_281002 := n1_
            have HO_288002 := n2_
            have HO293 := n3_
            have BK261 := n4_
            have BK274 := n5_
            have BK280 := n6_
            have BK287 := n7_
            have HB := n8_
            clear n0_ n1_ n2_ n3_ n4_ n5_ n6_ n7_ n8_
            (try clear hb)
            (try clear hb2)
            (try clear hk)
            (try clear hi)
            (try clear ho0)
            obtain ⟨Ao177, co177, eo177⟩ := Kd.R_slice HO293.out
            (first | subst eo177 | (injection eo177 with f1_ f2_ f3_; have f4_ := f1_.symm; have f5_ := f3_.symm; clear f1_ f2_ f3_; subst f4_; subst f5_))
            refine hK.out _ _ ⟨(blk_cell BK280.out 0).trans rfl, (blk_cell BK280.out 1).trans rfl, (blk_cell BK280.out 2).trans rfl, (blk_cell BK261.out 0).trans rfl, (blk_cell BK261.out 1).trans rfl, (blk_cell BK261.out 2).trans rfl⟩ (fun hHeld => ?_)
            clear hK K
            refine norm_ (a' := ?_) ?_ ?_
            rotate_left
            · show Act.put _ (some 43) _ = _
              simp only [Act.put, List.setIfInBounds_toArray, List.set_cons_zero, List.set_cons_succ, i64_w, i32_w]
              rfl
            refine one_ (i := 3) (N := some 44) #[true, true, true, true, false] rfl rfl (by kernel_rfl) (by decide) (fun K hK => ?_)
            refine goes_ Try.func19 (by kernel_rfl) rfl #[.agg #[.int .i64 t275, .int .i64 t276, .slice Ao29 t277.length co29], .agg #[.int .i64 t289, .int .i64 t290, .slice Ao177 t291.length co177]] (by rfl) rfl rfl pA ?_
            with_reducible refine (laws_eqTiling.calls kj10 t275 t276 _ _ t277 t289 t290 _ _ t291 false _ ?side1 ?side2 ?side3 ?side4 A57.out).mono ?_
            (case side1 => exact pC ((Kd.R_reads' HO_281002.out).2.2))
            (case side2 => exact (Kd.R_reads' HO_281002.out).2.1)
            (case side3 => exact pC ((Kd.R_reads' HO293.out).2.2))
            (case side4 => exact (Kd.R_reads' HO293.out).2.1)
            rintro e w178 ⟨rfl, hb⟩
            refine ⟨_, rfl, ?_⟩
            have n0_ := Aside0.mk (Kd.R_below (pR HO_275002.out) hb)
            have n1_ := Aside0.mk (Kd.R_below (pR HO_281002.out) hb)
            have n2_ := Aside0.mk (Kd.R_below (pR HO_288002.out) hb)
            have n3_ := Aside0.mk (Kd.R_below (pR HO293.out) hb)
            have n4_ := Aside0.mk (blk_below (g := gb261) (o := .cells #[.int .i64 a0_0, .int .i64 a0_1, .slice A0_2 l0_2.length c0_2] 24 (0, 0)) (pK BK261.out) hb)
            have n5_ := Aside0.mk (blk_below (g := gb274) (o := .cells #[.int .i64 t268, .int .i64 t269, .slice Ao22 t270.length co22] 28 (0, 0)) (pK BK274.out) hb)
            have n6_ := Aside0.mk (blk_below (g := gb280) (o := .cells #[.int .i64 t275, .int .i64 t276, .slice Ao29 t277.length co29] 28 (0, 0)) (pK BK280.out) hb)
            have n7_ := Aside0.mk (blk_below (g := gb287) (o := .cells #[.int .i64 t281, .int .i64 t282, .slice Ao36 t283.length co36] 28 (0, 0)) (pK BK287.out) hb)
            have n8_ := Aside0.mk (below_step (pB4 HB.out GE261.out GE274.out GE280.out GE287.out) hb)
            clear HO_275002
            clear HO_281002
            clear HO_288002
            clear HO293
            clear BK261
            clear BK274
            clear BK280
            clear BK287
            clear HB
            have HO_275002 := n0_
            have HO_281002 := n1_
            have HO_288002 := n2_
            have HO293 := n3_
            have BK261 := n4_
            have BK274 := n5_
            have BK280 := n6_
            have BK287 := n7_
            have HB := n8_
            clear n0_ n1_ n2_ n3_ n4_ n5_ n6_ n7_ n8_
            (try clear hb)
            (try clear hb2)
            (try clear hk)
            (try clear hi)
            refine hK.out _ _ ⟨(blk_cell BK280.out 0).trans rfl, (blk_cell BK280.out 1).trans rfl, (blk_cell BK280.out 2).trans rfl, (blk_cell BK261.out 0).trans rfl, (blk_cell BK261.out 1).trans rfl, (blk_cell BK261.out 2).trans rfl⟩ (fun hHeld => ?_)
            clear hK K
            refine norm_ (a' := ?_) ?_ ?_
            rotate_left
            · show Act.put _ (some 44) _ = _
              simp only [Act.put, List.setIfInBounds_toArray, List.set_cons_zero, List.set_cons_succ, i64_w, i32_w]
              rfl
            refine pure_ (i := 4) (N := some 45) (v := ?_) (a' := ?_) #[true, true, true, true, true] rfl rfl (by kernel_rfl) (fun _ _ _ h => h) (Or.inl ⟨by rfl, ?_⟩) ?_ ?_
            rotate_left
            · intro w'
              go_simp
              with_reducible rfl
            rotate_left
            · simp only [Act.put, List.setIfInBounds_toArray, List.set_cons_zero, List.set_cons_succ, i64_w, i32_w]
              rfl
            refine done_ (by kernel_rfl) ?_
            try go_wp2
            go_ret
            exact ⟨by first | rfl | (simp [errW_none, errW_some] <;> rfl) | (simp [*, errW_none, errW_some] <;> rfl), pB4 HB.out GE261.out GE274.out GE280.out GE287.out⟩
def B24 (x : S24) : Prop := (Lit.int .i64 x.f0).wf = true ∧ (Lit.int .i64 x.f1).wf = true ∧ (x.f2.length ≤ maxLen ∧ ∀ x_ ∈ x.f2, (Lit.int .i64 x_).wf = true)
def laws_FnExactNormalTiling.Pure : Prop := ∀ (a0_0 : Int) (a0_1 : Int) (l0_2 : List Int), B24 (⟨a0_0, a0_1, l0_2⟩ : S24) → ∃ k, laws_FnExactNormalTiling.f k a0_0 a0_1 l0_2 = some true
end Go.Proofs.Ytpkjalhfioajjaa.PFnExactNormalTiling

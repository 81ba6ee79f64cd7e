/- What each function that a law reaches comes to, and the proof that its walk comes to it; laid by a program of this session. No condition. -/
import Derived.Test.YtlplkcdlnplioaaDoorPFnBevelx0
import Derived.Test.YtlplkcdlnplioaaDoorPFnBevelx1
import Derived.Test.YtlplkcdlnplioaaDoorPFnBevelx2
namespace Go.Proofs.YtlplkcdlnplioaaDoor.PFnBevel
open Go.RowKit Go.Proofs.YtlplkcdlnplioaaDoorW.PrintWords Go.Proofs.YtlplkcdlnplioaaDoorW.PrintLast Go.Proofs.YtlplkcdlnplioaaDoorW.PrintMore
attribute [local go_sem] max2_int min2_int max_two min_two max_three min_three max_four min_four   -- for this text's walks alone
set_option linter.unusedVariables false
set_option linter.unusedSimpArgs false

/-! ### laws_FnBevel: function 9 -/
mutual
def laws_FnBevel.j0 : Nat → Int → Int → Int → Int → Int → Int → Int → Bool → Option (Bool)
  | 0, _, _, _, _, _, _, _, _ => none
  | k + 1, x3, x4, x5, x8, x10, x11, x12, x77 => if x77 = true then (some false) else (laws_FnBevel.l0 k x3 x4 x5 x8 x10 x11 x12 0)
def laws_FnBevel.l0 : Nat → Int → Int → Int → Int → Int → Int → Int → Int → Option (Bool)
  | 0, _, _, _, _, _, _, _, _ => none
  | k + 1, x3, x4, x5, x8, x10, x11, x12, x15 => if x15 ≤ 30 then ((impl_BevelGap.f x3 x4 x15).bind fun bt147 => ((impl_ClosesGap.f x3 x4 x15 x5).bind fun t149 => (if bt147.2 = 0 then ((laws_r8Abs.f bt147.1).bind fun t150 => ((laws_r8Abs.f x8).bind fun t151 => (if t150 < t151 then (some false) else (if (t149 != (decide (t150 ≤ x5))) = true then (some false) else (if x12 = 0 then (if x15 ≥ x10 then (if (t149 != (decide (x15 ≤ x11))) = true then (some false) else (laws_FnBevel.l0 k x3 x4 x5 x8 x10 x11 x12 (wrap64 (x15 + 1)))) else (if (t149 != false) = true then (some false) else (laws_FnBevel.l0 k x3 x4 x5 x8 x10 x11 x12 (wrap64 (x15 + 1))))) else (if (t149 != false) = true then (some false) else (laws_FnBevel.l0 k x3 x4 x5 x8 x10 x11 x12 (wrap64 (x15 + 1))))))))) else (some false)))) else (if x12 = 0 then (some true) else (some (x12 == 3)))
end
def laws_FnBevel.f (k : Nat) (l0 : List Int) : Option (Bool) := if (l0.length : Int) > 1048576 then (some true) else ((laws_r8Wide.f l0 0 300).bind fun t132 => ((laws_r8Wide.f l0 2 60).bind fun t133 => ((laws_r8At.f l0 4 8).bind fun t134 => ((impl_BestBevel.f k (wrap64 (1 + t132)) t133).bind fun bt135 => ((impl_BevelGap.f (wrap64 (1 + t132)) t133 bt135.1).bind fun bt137 => ((impl_BevelRange.f k (wrap64 (1 + t132)) t133 t134).bind fun bt139 => ((impl_CommonBevel.f k (([wrap64 (1 + t132)] : List Int)) t133 t134).bind fun bt145 => (if bt135.2 = 0 then (if bt137.2 = 0 then (if bt139.2.2 = bt145.2 then (if bt139.2.2 = 0 then (laws_FnBevel.j0 k (wrap64 (1 + t132)) t133 t134 bt137.1 bt139.1 bt139.2.1 bt139.2.2 (bt145.1 != bt139.1)) else (laws_FnBevel.j0 k (wrap64 (1 + t132)) t133 t134 bt137.1 bt139.1 bt139.2.1 bt139.2.2 false)) else (laws_FnBevel.j0 k (wrap64 (1 + t132)) t133 t134 bt137.1 bt139.1 bt139.2.1 bt139.2.2 true)) else (laws_FnBevel.j0 k (wrap64 (1 + t132)) t133 t134 bt137.1 bt139.1 bt139.2.1 bt139.2.2 true)) else (laws_FnBevel.j0 k (wrap64 (1 + t132)) t133 t134 bt137.1 bt139.1 bt139.2.1 bt139.2.2 true)))))))))
theorem laws_FnBevel.mono_l : ∀ k, (∀ y0 y1 y2 y3 y4 y5 y6 y7, LeO (laws_FnBevel.j0 k y0 y1 y2 y3 y4 y5 y6 y7) (laws_FnBevel.j0 (k + 1) y0 y1 y2 y3 y4 y5 y6 y7)) ∧ (∀ y0 y1 y2 y3 y4 y5 y6 y7, LeO (laws_FnBevel.l0 k y0 y1 y2 y3 y4 y5 y6 y7) (laws_FnBevel.l0 (k + 1) y0 y1 y2 y3 y4 y5 y6 y7))
  | 0 => ⟨fun _ _ _ _ _ _ _ _ r h => by simp [laws_FnBevel.j0] at h, fun _ _ _ _ _ _ _ _ r h => by simp [laws_FnBevel.l0] at h⟩
  | k + 1 => by
    obtain ⟨ih0, ih1⟩ := laws_FnBevel.mono_l k
    refine ⟨?_, ?_⟩
    · intro y0 y1 y2 y3 y4 y5 y6 y7
      unfold laws_FnBevel.j0
      repeat' first
      | (with_reducible exact ih0 _ _ _ _ _ _ _ _)
      | (with_reducible exact ih1 _ _ _ _ _ _ _ _)
      | (with_reducible exact impl_BestBevel.mono _ _ _)
      | (with_reducible exact impl_BevelRange.mono _ _ _ _)
      | (with_reducible exact impl_CommonBevel.mono _ _ _ _)
      | (with_reducible exact LeO.refl _)
      | (with_reducible exact LeO.none _)
      | (with_reducible refine LeO.ite ?_ ?_)
      | (with_reducible refine LeO.bind ?_ (fun _ => ?_))
      | exact ih0 _ _ _ _ _ _ _ _
      | exact ih1 _ _ _ _ _ _ _ _
      | exact impl_BestBevel.mono _ _ _
      | exact impl_BevelRange.mono _ _ _ _
      | exact impl_CommonBevel.mono _ _ _ _
      | exact LeO.none _
      | refine LeO.ite ?_ ?_
      | refine LeO.bind ?_ (fun _ => ?_)
    · intro y0 y1 y2 y3 y4 y5 y6 y7
      unfold laws_FnBevel.l0
      repeat' first
      | (with_reducible exact ih0 _ _ _ _ _ _ _ _)
      | (with_reducible exact ih1 _ _ _ _ _ _ _ _)
      | (with_reducible exact impl_BestBevel.mono _ _ _)
      | (with_reducible exact impl_BevelRange.mono _ _ _ _)
      | (with_reducible exact impl_CommonBevel.mono _ _ _ _)
      | (with_reducible exact LeO.refl _)
      | (with_reducible exact LeO.none _)
      | (with_reducible refine LeO.ite ?_ ?_)
      | (with_reducible refine LeO.bind ?_ (fun _ => ?_))
      | exact ih0 _ _ _ _ _ _ _ _
      | exact ih1 _ _ _ _ _ _ _ _
      | exact impl_BestBevel.mono _ _ _
      | exact impl_BevelRange.mono _ _ _ _
      | exact impl_CommonBevel.mono _ _ _ _
      | exact LeO.none _
      | refine LeO.ite ?_ ?_
      | refine LeO.bind ?_ (fun _ => ?_)
theorem laws_FnBevel.mono : ∀ a0 k, LeO (laws_FnBevel.f k a0) (laws_FnBevel.f (k + 1) a0) := by
  intro a0 k
  obtain ⟨ih0, ih1⟩ := laws_FnBevel.mono_l k
  unfold laws_FnBevel.f
  repeat' first
      | (with_reducible exact ih0 _ _ _ _ _ _ _ _)
      | (with_reducible exact ih1 _ _ _ _ _ _ _ _)
      | (with_reducible exact impl_BestBevel.mono _ _ _)
      | (with_reducible exact impl_BevelRange.mono _ _ _ _)
      | (with_reducible exact impl_CommonBevel.mono _ _ _ _)
      | (with_reducible exact LeO.refl _)
      | (with_reducible exact LeO.none _)
      | (with_reducible refine LeO.ite ?_ ?_)
      | (with_reducible refine LeO.bind ?_ (fun _ => ?_))
      | exact ih0 _ _ _ _ _ _ _ _
      | exact ih1 _ _ _ _ _ _ _ _
      | exact impl_BestBevel.mono _ _ _
      | exact impl_BevelRange.mono _ _ _ _
      | exact impl_CommonBevel.mono _ _ _ _
      | exact LeO.none _
      | refine LeO.ite ?_ ?_
      | refine LeO.bind ?_ (fun _ => ?_)
set_option maxHeartbeats 8000000 in
set_option maxRecDepth 100000 in
theorem laws_FnBevel.calls (k : Nat) (A0 : Option Addr) (c0 : Nat) (l0 : List Int) (r : Bool) (w : World) (hr0 : Kd.C (Kd.int .u8) w A0 l0.length l0) (hc0 : l0.length ≤ c0) (hG0 : Kd.C (Kd.int .i64) w (some ⟨0, 0, none⟩) gt0.length gt0) (h : laws_FnBevel.f k l0 = some r) :
    Calls Tryd.prog 9 #[.slice A0 l0.length c0] w fun e w' => e = .returned (.bool r) ∧ Below w.heap.size w w' := by
  have HR0 := Aside0.mk hr0
  have HC0 := Aside0.mk hc0
  clear hr0 hc0
  have HRG0 := Aside0.mk hG0
  clear hG0
  have HB := Aside0.mk (Below.refl w.heap.size w)
  have H : (if (l0.length : Int) > 1048576 then (some true) else ((laws_r8Wide.f l0 0 300).bind fun t132 => ((laws_r8Wide.f l0 2 60).bind fun t133 => ((laws_r8At.f l0 4 8).bind fun t134 => ((impl_BestBevel.f k (wrap64 (1 + t132)) t133).bind fun bt135 => ((impl_BevelGap.f (wrap64 (1 + t132)) t133 bt135.1).bind fun bt137 => ((impl_BevelRange.f k (wrap64 (1 + t132)) t133 t134).bind fun bt139 => ((impl_CommonBevel.f k (([wrap64 (1 + t132)] : List Int)) t133 t134).bind fun bt145 => (if bt135.2 = 0 then (if bt137.2 = 0 then (if bt139.2.2 = bt145.2 then (if bt139.2.2 = 0 then (laws_FnBevel.j0 k (wrap64 (1 + t132)) t133 t134 bt137.1 bt139.1 bt139.2.1 bt139.2.2 (bt145.1 != bt139.1)) else (laws_FnBevel.j0 k (wrap64 (1 + t132)) t133 t134 bt137.1 bt139.1 bt139.2.1 bt139.2.2 false)) else (laws_FnBevel.j0 k (wrap64 (1 + t132)) t133 t134 bt137.1 bt139.1 bt139.2.1 bt139.2.2 true)) else (laws_FnBevel.j0 k (wrap64 (1 + t132)) t133 t134 bt137.1 bt139.1 bt139.2.1 bt139.2.2 true)) else (laws_FnBevel.j0 k (wrap64 (1 + t132)) t133 t134 bt137.1 bt139.1 bt139.2.1 bt139.2.2 true)))))))))) = some r := h
  clear h
  by_cases c2 : (l0.length : Int) > 1048576
  · rw [if_pos c2] at H
    have c2b0 : decide (1048576 < (l0.length : Int)) = true := decide_eq_true c2
    have c2b1 : decide (1048576 < l0.length) = true := decide_eq_true (by omega)
    clear c2
    obtain rfl := Option.some.inj H
    go_enter Tryd.func9, Tryd.ntmps9
    go_wp2
    go_ret
    exact ⟨by first | rfl | (simp [errW_none, errW_some] <;> rfl) | (simp [*, errW_none, errW_some] <;> rfl), by repeat (first | (with_reducible first | exact HB.out | apply below_alloc | apply pw_below_drewN | apply below_drew1) | exact HB.out)⟩
  · rw [if_neg c2] at H
    have c2b0 : decide (1048576 < (l0.length : Int)) = false := decide_eq_false c2
    have c2b1 : decide (1048576 < l0.length) = false := decide_eq_false (by omega)
    clear c2
    replace H := Option.bind_eq_some_iff.mp H
    obtain ⟨t132, A30, H⟩ := H
    replace H : ((laws_r8Wide.f l0 2 60).bind fun t133 => ((laws_r8At.f l0 4 8).bind fun t134 => ((impl_BestBevel.f k (wrap64 (1 + t132)) t133).bind fun bt135 => ((impl_BevelGap.f (wrap64 (1 + t132)) t133 bt135.1).bind fun bt137 => ((impl_BevelRange.f k (wrap64 (1 + t132)) t133 t134).bind fun bt139 => ((impl_CommonBevel.f k (([wrap64 (1 + t132)] : List Int)) t133 t134).bind fun bt145 => (if bt135.2 = 0 then (if bt137.2 = 0 then (if bt139.2.2 = bt145.2 then (if bt139.2.2 = 0 then (laws_FnBevel.j0 k (wrap64 (1 + t132)) t133 t134 bt137.1 bt139.1 bt139.2.1 bt139.2.2 (bt145.1 != bt139.1)) else (laws_FnBevel.j0 k (wrap64 (1 + t132)) t133 t134 bt137.1 bt139.1 bt139.2.1 bt139.2.2 false)) else (laws_FnBevel.j0 k (wrap64 (1 + t132)) t133 t134 bt137.1 bt139.1 bt139.2.1 bt139.2.2 true)) else (laws_FnBevel.j0 k (wrap64 (1 + t132)) t133 t134 bt137.1 bt139.1 bt139.2.1 bt139.2.2 true)) else (laws_FnBevel.j0 k (wrap64 (1 + t132)) t133 t134 bt137.1 bt139.1 bt139.2.1 bt139.2.2 true)))))))) = some r := H
    have A3 := Aside0.mk A30
    clear A30
    replace H := Option.bind_eq_some_iff.mp H
    obtain ⟨t133, A40, H⟩ := H
    replace H : ((laws_r8At.f l0 4 8).bind fun t134 => ((impl_BestBevel.f k (wrap64 (1 + t132)) t133).bind fun bt135 => ((impl_BevelGap.f (wrap64 (1 + t132)) t133 bt135.1).bind fun bt137 => ((impl_BevelRange.f k (wrap64 (1 + t132)) t133 t134).bind fun bt139 => ((impl_CommonBevel.f k (([wrap64 (1 + t132)] : List Int)) t133 t134).bind fun bt145 => (if bt135.2 = 0 then (if bt137.2 = 0 then (if bt139.2.2 = bt145.2 then (if bt139.2.2 = 0 then (laws_FnBevel.j0 k (wrap64 (1 + t132)) t133 t134 bt137.1 bt139.1 bt139.2.1 bt139.2.2 (bt145.1 != bt139.1)) else (laws_FnBevel.j0 k (wrap64 (1 + t132)) t133 t134 bt137.1 bt139.1 bt139.2.1 bt139.2.2 false)) else (laws_FnBevel.j0 k (wrap64 (1 + t132)) t133 t134 bt137.1 bt139.1 bt139.2.1 bt139.2.2 true)) else (laws_FnBevel.j0 k (wrap64 (1 + t132)) t133 t134 bt137.1 bt139.1 bt139.2.1 bt139.2.2 true)) else (laws_FnBevel.j0 k (wrap64 (1 + t132)) t133 t134 bt137.1 bt139.1 bt139.2.1 bt139.2.2 true))))))) = some r := H
    have A4 := Aside0.mk A40
    clear A40
    replace H := Option.bind_eq_some_iff.mp H
    obtain ⟨t134, A50, H⟩ := H
    replace H : ((impl_BestBevel.f k (wrap64 (1 + t132)) t133).bind fun bt135 => ((impl_BevelGap.f (wrap64 (1 + t132)) t133 bt135.1).bind fun bt137 => ((impl_BevelRange.f k (wrap64 (1 + t132)) t133 t134).bind fun bt139 => ((impl_CommonBevel.f k (([wrap64 (1 + t132)] : List Int)) t133 t134).bind fun bt145 => (if bt135.2 = 0 then (if bt137.2 = 0 then (if bt139.2.2 = bt145.2 then (if bt139.2.2 = 0 then (laws_FnBevel.j0 k (wrap64 (1 + t132)) t133 t134 bt137.1 bt139.1 bt139.2.1 bt139.2.2 (bt145.1 != bt139.1)) else (laws_FnBevel.j0 k (wrap64 (1 + t132)) t133 t134 bt137.1 bt139.1 bt139.2.1 bt139.2.2 false)) else (laws_FnBevel.j0 k (wrap64 (1 + t132)) t133 t134 bt137.1 bt139.1 bt139.2.1 bt139.2.2 true)) else (laws_FnBevel.j0 k (wrap64 (1 + t132)) t133 t134 bt137.1 bt139.1 bt139.2.1 bt139.2.2 true)) else (laws_FnBevel.j0 k (wrap64 (1 + t132)) t133 t134 bt137.1 bt139.1 bt139.2.1 bt139.2.2 true)))))) = some r := H
    have A5 := Aside0.mk A50
    clear A50
    replace H := Option.bind_eq_some_iff.mp H
    obtain ⟨⟨t135, t136⟩, A60, H⟩ := H
    replace H : ((impl_BevelGap.f (wrap64 (1 + t132)) t133 t135).bind fun bt137 => ((impl_BevelRange.f k (wrap64 (1 + t132)) t133 t134).bind fun bt139 => ((impl_CommonBevel.f k (([wrap64 (1 + t132)] : List Int)) t133 t134).bind fun bt145 => (if t136 = 0 then (if bt137.2 = 0 then (if bt139.2.2 = bt145.2 then (if bt139.2.2 = 0 then (laws_FnBevel.j0 k (wrap64 (1 + t132)) t133 t134 bt137.1 bt139.1 bt139.2.1 bt139.2.2 (bt145.1 != bt139.1)) else (laws_FnBevel.j0 k (wrap64 (1 + t132)) t133 t134 bt137.1 bt139.1 bt139.2.1 bt139.2.2 false)) else (laws_FnBevel.j0 k (wrap64 (1 + t132)) t133 t134 bt137.1 bt139.1 bt139.2.1 bt139.2.2 true)) else (laws_FnBevel.j0 k (wrap64 (1 + t132)) t133 t134 bt137.1 bt139.1 bt139.2.1 bt139.2.2 true)) else (laws_FnBevel.j0 k (wrap64 (1 + t132)) t133 t134 bt137.1 bt139.1 bt139.2.1 bt139.2.2 true))))) = some r := H
    have A6 := Aside0.mk A60
    clear A60
    replace H := Option.bind_eq_some_iff.mp H
    obtain ⟨⟨t137, t138⟩, A70, H⟩ := H
    replace H : ((impl_BevelRange.f k (wrap64 (1 + t132)) t133 t134).bind fun bt139 => ((impl_CommonBevel.f k (([wrap64 (1 + t132)] : List Int)) t133 t134).bind fun bt145 => (if t136 = 0 then (if t138 = 0 then (if bt139.2.2 = bt145.2 then (if bt139.2.2 = 0 then (laws_FnBevel.j0 k (wrap64 (1 + t132)) t133 t134 t137 bt139.1 bt139.2.1 bt139.2.2 (bt145.1 != bt139.1)) else (laws_FnBevel.j0 k (wrap64 (1 + t132)) t133 t134 t137 bt139.1 bt139.2.1 bt139.2.2 false)) else (laws_FnBevel.j0 k (wrap64 (1 + t132)) t133 t134 t137 bt139.1 bt139.2.1 bt139.2.2 true)) else (laws_FnBevel.j0 k (wrap64 (1 + t132)) t133 t134 t137 bt139.1 bt139.2.1 bt139.2.2 true)) else (laws_FnBevel.j0 k (wrap64 (1 + t132)) t133 t134 t137 bt139.1 bt139.2.1 bt139.2.2 true)))) = some r := H
    have A7 := Aside0.mk A70
    clear A70
    replace H := Option.bind_eq_some_iff.mp H
    obtain ⟨⟨t139, t140, t141⟩, A80, H⟩ := H
    replace H : ((impl_CommonBevel.f k (([wrap64 (1 + t132)] : List Int)) t133 t134).bind fun bt145 => (if t136 = 0 then (if t138 = 0 then (if t141 = bt145.2 then (if t141 = 0 then (laws_FnBevel.j0 k (wrap64 (1 + t132)) t133 t134 t137 t139 t140 t141 (bt145.1 != t139)) else (laws_FnBevel.j0 k (wrap64 (1 + t132)) t133 t134 t137 t139 t140 t141 false)) else (laws_FnBevel.j0 k (wrap64 (1 + t132)) t133 t134 t137 t139 t140 t141 true)) else (laws_FnBevel.j0 k (wrap64 (1 + t132)) t133 t134 t137 t139 t140 t141 true)) else (laws_FnBevel.j0 k (wrap64 (1 + t132)) t133 t134 t137 t139 t140 t141 true))) = some r := H
    have A8 := Aside0.mk A80
    clear A80
    obtain ⟨y142, hy142⟩ : ∃ y_ : List Int, y_ = (([wrap64 (1 + t132)] : List Int)) := ⟨_, rfl⟩
    replace H : ((impl_CommonBevel.f k y142 t133 t134).bind fun bt145 => (if t136 = 0 then (if t138 = 0 then (if t141 = bt145.2 then (if t141 = 0 then (laws_FnBevel.j0 k (wrap64 (1 + t132)) t133 t134 t137 t139 t140 t141 (bt145.1 != t139)) else (laws_FnBevel.j0 k (wrap64 (1 + t132)) t133 t134 t137 t139 t140 t141 false)) else (laws_FnBevel.j0 k (wrap64 (1 + t132)) t133 t134 t137 t139 t140 t141 true)) else (laws_FnBevel.j0 k (wrap64 (1 + t132)) t133 t134 t137 t139 t140 t141 true)) else (laws_FnBevel.j0 k (wrap64 (1 + t132)) t133 t134 t137 t139 t140 t141 true))) = some r := by first | (rw [hy142]; with_reducible exact H) | (have H2_ := (Option.bind_some _ _).symm.trans H; rw [hy142]; with_reducible exact H2_) | (have H2_ := (Option.bind_some _ _).symm.trans H; with_reducible exact H2_) | with_reducible exact H | (rw [hy142]; exact H) | exact H
    have Ny142 := Aside0.mk hy142
    clear hy142
    replace H := Option.bind_eq_some_iff.mp H
    obtain ⟨⟨t145, t146⟩, A90, H⟩ := H
    replace H : (if t136 = 0 then (if t138 = 0 then (if t141 = t146 then (if t141 = 0 then (laws_FnBevel.j0 k (wrap64 (1 + t132)) t133 t134 t137 t139 t140 t141 (t145 != t139)) else (laws_FnBevel.j0 k (wrap64 (1 + t132)) t133 t134 t137 t139 t140 t141 false)) else (laws_FnBevel.j0 k (wrap64 (1 + t132)) t133 t134 t137 t139 t140 t141 true)) else (laws_FnBevel.j0 k (wrap64 (1 + t132)) t133 t134 t137 t139 t140 t141 true)) else (laws_FnBevel.j0 k (wrap64 (1 + t132)) t133 t134 t137 t139 t140 t141 true)) = some r := H
    have A9 := Aside0.mk A90
    clear A90
    have HC10 := Aside0.mk H
    clear H
    go_enter Tryd.func9, Tryd.ntmps9
    go_upto_region 10 with (first | ((with_reducible refine gate_callee (f := 22) rfl ?_); refine goesL_ (some 23) rfl rfl Tryd.func22 (by kernel_rfl) rfl #[.slice A0 l0.length c0, .int .i64 0, .int .i64 300] rfl (by (try simp only [List.map_toArray, List.map_cons, List.map_nil]); first | done | rfl | (simp only [List.length_drop, List.length_take]; rfl)) ?_; (with_reducible refine (laws_r8Wide.calls _ _ l0 0 300 t132 _ ?side1 ?side2 A3.out).mono ?_); (case side1 => repeat (first | exact HR0.out | (with_reducible refine Kd.C_alloc ?_ _) | (with_reducible refine Kd.C_drewN ?_ _) | (with_reducible refine Kd.C_drew ?_))); (case side2 => exact HC0.out); rintro e w' ⟨rfl, ⟨nd, rfl⟩⟩; refine ⟨_, rfl, ?_⟩) | ((with_reducible refine gate_callee (f := 22) rfl ?_); refine goesL_ (some 26) rfl rfl Tryd.func22 (by kernel_rfl) rfl #[.slice A0 l0.length c0, .int .i64 2, .int .i64 60] rfl (by (try simp only [List.map_toArray, List.map_cons, List.map_nil]); first | done | rfl | (simp only [List.length_drop, List.length_take]; rfl)) ?_; (with_reducible refine (laws_r8Wide.calls _ _ l0 2 60 t133 _ ?side1 ?side2 A4.out).mono ?_); (case side1 => repeat (first | exact HR0.out | (with_reducible refine Kd.C_alloc ?_ _) | (with_reducible refine Kd.C_drewN ?_ _) | (with_reducible refine Kd.C_drew ?_))); (case side2 => exact HC0.out); rintro e w' ⟨rfl, ⟨nd, rfl⟩⟩; refine ⟨_, rfl, ?_⟩) | ((with_reducible refine gate_callee (f := 23) rfl ?_); refine goesL_ (some 28) rfl rfl Tryd.func23 (by kernel_rfl) rfl #[.slice A0 l0.length c0, .int .i64 4, .int .i64 8] rfl (by (try simp only [List.map_toArray, List.map_cons, List.map_nil]); first | done | rfl | (simp only [List.length_drop, List.length_take]; rfl)) ?_; (with_reducible refine (laws_r8At.calls _ _ l0 4 8 t134 _ ?side1 ?side2 A5.out).mono ?_); (case side1 => repeat (first | exact HR0.out | (with_reducible refine Kd.C_alloc ?_ _) | (with_reducible refine Kd.C_drewN ?_ _) | (with_reducible refine Kd.C_drew ?_))); (case side2 => exact HC0.out); rintro e w' ⟨rfl, ⟨nd, rfl⟩⟩; refine ⟨_, rfl, ?_⟩) | ((with_reducible refine gate_callee (f := 19) rfl ?_); refine goesL_ (some 32) rfl rfl Tryd.func19 (by kernel_rfl) rfl #[.int .i64 (wrap64 (1 + t132)), .int .i64 t133] rfl (by (try simp only [List.map_toArray, List.map_cons, List.map_nil]); first | done | rfl | (simp only [List.length_drop, List.length_take]; rfl)) ?_; (with_reducible refine (impl_BestBevel.calls k (wrap64 (1 + t132)) t133 t135 t136 _ ?side1 A6.out).mono ?_); (case side1 => repeat (first | exact HRG0.out | (with_reducible refine Kd.C_alloc ?_ _) | (with_reducible refine Kd.C_drewN ?_ _) | (with_reducible refine Kd.C_drew ?_))); rintro e w11 ⟨rfl, hb⟩; refine ⟨_, rfl, ?_⟩; have n0_ := Aside0.mk (below_step (by repeat (first | (with_reducible first | exact HB.out | apply below_alloc | apply pw_below_drewN | apply below_drew1) | exact HB.out)) hb); clear HB; have HB := n0_; clear n0_; (try clear hb); (try clear hb2); (try clear hk); (try clear hi)) | ((with_reducible refine gate_callee (f := 13) rfl ?_); refine goesL_ (some 39) rfl rfl Tryd.func13 (by kernel_rfl) rfl #[.int .i64 (wrap64 (1 + t132)), .int .i64 t133, .int .i64 t135] rfl (by (try simp only [List.map_toArray, List.map_cons, List.map_nil]); first | done | rfl | (simp only [List.length_drop, List.length_take]; rfl)) ?_; (with_reducible refine (impl_BevelGap.calls (wrap64 (1 + t132)) t133 t135 t137 t138 _ ?side1 A7.out).mono ?_); (case side1 => repeat (first | exact (Kd.C_below HRG0.out HB.out) | (with_reducible refine Kd.C_alloc ?_ _) | (with_reducible refine Kd.C_drewN ?_ _) | (with_reducible refine Kd.C_drew ?_))); rintro e w12 ⟨rfl, hb⟩; refine ⟨_, rfl, ?_⟩; have n0_ := Aside0.mk (below_step (by repeat (first | (with_reducible first | exact HB.out | apply below_alloc | apply pw_below_drewN | apply below_drew1) | exact HB.out)) hb); clear HB; have HB := n0_; clear n0_; (try clear hb); (try clear hb2); (try clear hk); (try clear hi)) | ((with_reducible refine gate_callee (f := 21) rfl ?_); refine goesL_ (some 46) rfl rfl Tryd.func21 (by kernel_rfl) rfl #[.int .i64 (wrap64 (1 + t132)), .int .i64 t133, .int .i64 t134] rfl (by (try simp only [List.map_toArray, List.map_cons, List.map_nil]); first | done | rfl | (simp only [List.length_drop, List.length_take]; rfl)) ?_; (with_reducible refine (impl_BevelRange.calls k (wrap64 (1 + t132)) t133 t134 t139 t140 t141 _ ?side1 A8.out).mono ?_); (case side1 => repeat (first | exact (Kd.C_below HRG0.out HB.out) | (with_reducible refine Kd.C_alloc ?_ _) | (with_reducible refine Kd.C_drewN ?_ _) | (with_reducible refine Kd.C_drew ?_))); rintro e w13 ⟨rfl, hb⟩; refine ⟨_, rfl, ?_⟩; have n0_ := Aside0.mk (below_step (by repeat (first | (with_reducible first | exact HB.out | apply below_alloc | apply pw_below_drewN | apply below_drew1) | exact HB.out)) hb); clear HB; have HB := n0_; clear n0_; (try clear hb); (try clear hb2); (try clear hk); (try clear hi)) | ((with_reducible refine gate_dst (N := 52) rfl ?_); refine Kd.R_lit (Kd.int .i64) _ 2 ?hg (N := 52) ?hd (xs := ([wrap64 (1 + t132)] : List Int)) (inner := [.int .i64 (wrap64 (1 + t132))]) (ok := fun _ => True) (okp := fun _ => True) ?hr ?hp (fun _ hk => hk) trivial (Below.refl _ _) (Nat.le_refl _) (by simp) ?_; (case hd => rfl); (case hg => rfl); (case hr => first | (go_simp; done) | (go_simp; rfl)); (case hp => exact (Reps.one (show Kd.M (Kd.int .i64) _ _ _ (wrap64 (1 + t132)) [.int .i64 (wrap64 (1 + t132))] from rfl) (Reps.none _ _))); intro v143 w14 ho15 hb hg_ hnew_; clear hg_ hnew_; (first | rw [← Ny142.out] at ho15 | (simp only [Int.reduceToNat] at ho15; rw [← Ny142.out] at ho15)); have n0_ := Aside0.mk (Kd.R_lower ho15 (below_size (by repeat (first | (with_reducible first | exact HB.out | apply below_alloc | apply pw_below_drewN | apply below_drew1) | exact HB.out)))); have n1_ := Aside0.mk (below_step (by repeat (first | (with_reducible first | exact HB.out | apply below_alloc | apply pw_below_drewN | apply below_drew1) | exact HB.out)) hb); clear HB; have HO144 := n0_; have HB := n1_; clear n0_ n1_; clear hb ho15; obtain ⟨Ao16, co16, eo16⟩ := Kd.R_slice HO144.out; subst eo16) | ((with_reducible refine gate_callee (f := 24) rfl ?_); refine goesL_ (some 55) rfl rfl Tryd.func24 (by kernel_rfl) rfl #[.slice Ao16 y142.length co16, .int .i64 t133, .int .i64 t134] rfl (by (try simp only [List.map_toArray, List.map_cons, List.map_nil]); first | done | rfl | (simp only [List.length_drop, List.length_take]; rfl)) ?_; (with_reducible refine (impl_CommonBevel.calls k _ _ y142 t133 t134 t145 t146 _ ?side1 ?side2 ?side3 A9.out).mono ?_); (case side1 => repeat (first | exact (Kd.R_reads' HO144.out).2.2 | (with_reducible refine Kd.C_alloc ?_ _) | (with_reducible refine Kd.C_drewN ?_ _) | (with_reducible refine Kd.C_drew ?_))); (case side2 => exact (Kd.R_reads' HO144.out).2.1); (case side3 => repeat (first | exact (Kd.C_below HRG0.out HB.out) | (with_reducible refine Kd.C_alloc ?_ _) | (with_reducible refine Kd.C_drewN ?_ _) | (with_reducible refine Kd.C_drew ?_))); rintro e w17 ⟨rfl, hb⟩; refine ⟨_, rfl, ?_⟩; have n0_ := Aside0.mk (Kd.R_below (by (with_reducible repeat (first | apply Kd.R_alloc | apply Kd.R_drewN | apply Kd.R_drew)); exact HO144.out) hb); have n1_ := Aside0.mk (below_step (by repeat (first | (with_reducible first | exact HB.out | apply below_alloc | apply pw_below_drewN | apply below_drew1) | exact HB.out)) hb); clear HO144; clear HB; have HO144 := n0_; have HB := n1_; clear n0_ n1_; (try clear hb); (try clear hb2); (try clear hk); (try clear hi)))
    (try simp only [Act.put, List.setIfInBounds_toArray, List.set_cons_zero, List.set_cons_succ])
    go_cut [77] (fun v77 wc => ∃ (kq : Nat) (x77_9 : Bool), v77 = .bool x77_9 ∧ Aside0 (laws_FnBevel.j0 kq (wrap64 (1 + t132)) t133 t134 t137 t139 t140 t141 x77_9 = some r) ∧ Aside0 (kq ≤ k) ∧ Aside0 (Below w.heap.size w wc))
    case first =>
      have H := HC10.out
      clear HC10
      by_cases c18 : t136 = 0
      · rw [if_pos c18] at H
        have c18b0 : (t136 == 0) = true := beq_iff_eq.mpr c18
        have c18b1 : (t136 != 0) = false := bne_eq_false_iff_eq.mpr c18
        clear c18
        (first | rw [c18b0] | (simp only [i64_w, i32_w]; rw [c18b0]) | skip)
        by_cases c19 : t138 = 0
        · rw [if_pos c19] at H
          have c19b0 : (t138 == 0) = true := beq_iff_eq.mpr c19
          have c19b1 : (t138 != 0) = false := bne_eq_false_iff_eq.mpr c19
          clear c19
          by_cases c20 : t141 = t146
          · rw [if_pos c20] at H
            have c20b0 : (t141 == t146) = true := beq_iff_eq.mpr c20
            have c20b1 : (t141 != t146) = false := bne_eq_false_iff_eq.mpr c20
            clear c20
            by_cases c21 : t141 = 0
            · rw [if_pos c21] at H
              have c21b0 : (t141 == 0) = true := beq_iff_eq.mpr c21
              have c21b1 : (t141 != 0) = false := bne_eq_false_iff_eq.mpr c21
              clear c21
              have H' := Aside0.mk H
              clear H
              go_wp2
              go_meet
              case rel => exact ⟨_, ((t145 != t139)), (by first | rfl | (simp; done) | (simp [*]; done)), H', ⟨by first | omega | exact Nat.le_refl _⟩, ⟨by repeat (first | (with_reducible first | exact HB.out | apply below_alloc | apply pw_below_drewN | apply below_drew1) | exact HB.out)⟩⟩
            · rw [if_neg c21] at H
              have c21b0 : (t141 == 0) = false := beq_eq_false_iff_ne.mpr c21
              have c21b1 : (t141 != 0) = true := bne_iff_ne.mpr c21
              have H' := Aside0.mk H
              clear H
              go_wp2
              go_meet
              case rel => exact ⟨_, (false), (by first | rfl | (simp; done) | (simp [*]; done)), H', ⟨by first | omega | exact Nat.le_refl _⟩, ⟨by repeat (first | (with_reducible first | exact HB.out | apply below_alloc | apply pw_below_drewN | apply below_drew1) | exact HB.out)⟩⟩
          · rw [if_neg c20] at H
            have c20b0 : (t141 == t146) = false := beq_eq_false_iff_ne.mpr c20
            have c20b1 : (t141 != t146) = true := bne_iff_ne.mpr c20
            have H' := Aside0.mk H
            clear H
            go_wp2
            go_meet
            case rel => exact ⟨_, (true), (by first | rfl | (simp; done) | (simp [*]; done)), H', ⟨by first | omega | exact Nat.le_refl _⟩, ⟨by repeat (first | (with_reducible first | exact HB.out | apply below_alloc | apply pw_below_drewN | apply below_drew1) | exact HB.out)⟩⟩
        · rw [if_neg c19] at H
          have c19b0 : (t138 == 0) = false := beq_eq_false_iff_ne.mpr c19
          have c19b1 : (t138 != 0) = true := bne_iff_ne.mpr c19
          have H' := Aside0.mk H
          clear H
          go_wp2
          go_meet
          case rel => exact ⟨_, (true), (by first | rfl | (simp; done) | (simp [*]; done)), H', ⟨by first | omega | exact Nat.le_refl _⟩, ⟨by repeat (first | (with_reducible first | exact HB.out | apply below_alloc | apply pw_below_drewN | apply below_drew1) | exact HB.out)⟩⟩
      · rw [if_neg c18] at H
        have c18b0 : (t136 == 0) = false := beq_eq_false_iff_ne.mpr c18
        have c18b1 : (t136 != 0) = true := bne_iff_ne.mpr c18
        (first | rw [c18b0] | (simp only [i64_w, i32_w]; rw [c18b0]) | skip)
        have H' := Aside0.mk H
        clear H
        go_wp2
        go_meet
        case rel => exact ⟨_, (true), (by first | rfl | (simp; done) | (simp [*]; done)), H', ⟨by first | omega | exact Nat.le_refl _⟩, ⟨by repeat (first | (with_reducible first | exact HB.out | apply below_alloc | apply pw_below_drewN | apply below_drew1) | exact HB.out)⟩⟩
    case rest =>
      clear HC10
      try clear c1
      try clear c2
      try clear c2b0
      try clear c2b1
      try clear p2
      try clear p6
      try clear c9
      try clear c13
      try clear c18
      try clear c18b0
      try clear c18b1
      try clear c19
      try clear c19b0
      try clear c19b1
      try clear c20
      try clear c20b0
      try clear c20b1
      try clear c21
      try clear c21b0
      try clear c21b1
      obtain ⟨kq, x77_9, rfl, HA, HJ9, HB⟩ := hcut
      cases kq with
      | zero => exact absurd HA.out (by simp [laws_FnBevel.j0])
      | succ kj9 =>
        have H := HA.out
        clear HA
        simp only [laws_FnBevel.j0] at H
        by_cases c22 : x77_9 = true
        · subst c22
          have H1 : (some false) = some r := by rw [if_pos rfl] at H; exact H
          clear H
          have H := H1
          clear H1
          obtain rfl := Option.some.inj H
          go_wp2
          go_ret
          exact ⟨by first | rfl | (simp [errW_none, errW_some] <;> rfl) | (simp [*, errW_none, errW_some] <;> rfl), by repeat (first | (with_reducible first | exact HB.out | apply below_alloc | apply pw_below_drewN | apply below_drew1) | exact HB.out)⟩
        · replace c22 := Bool.eq_false_iff.mpr c22
          subst c22
          have H1 : (laws_FnBevel.l0 kj9 (wrap64 (1 + t132)) t133 t134 t137 t139 t140 t141 0) = some r := by rw [if_neg (show ¬ (false = true) by decide)] at H; exact H
          clear H
          have H := H1
          clear H1
          have H' := Aside0.mk H
          clear H
          go_wp2
          go_loopg [15] kj9 (fun kq v15 w' => ∃ (x15_2 : Int), v15 = .int .i64 x15_2 ∧ Aside0 (laws_FnBevel.l0 kq (wrap64 (1 + t132)) t133 t134 t137 t139 t140 t141 x15_2 = some r) ∧ Aside0 (kq ≤ kj9) ∧ Aside0 (Below w.heap.size w w'))
          case atStart => exact ⟨(0), (by first | rfl | (simp; done) | (simp [*]; done)), H', ⟨Nat.le_refl _⟩, ⟨by repeat (first | (with_reducible first | exact HB.out | apply below_alloc | apply pw_below_drewN | apply below_drew1) | exact HB.out)⟩⟩
          case round =>
            clear H'
            try clear c1
            try clear c2
            try clear c2b0
            try clear c2b1
            try clear p2
            try clear p6
            try clear c9
            try clear c13
            try clear c18
            try clear c18b0
            try clear c18b1
            try clear c19
            try clear c19b0
            try clear c19b1
            try clear c20
            try clear c20b0
            try clear c20b1
            try clear c21
            try clear c21b0
            try clear c21b1
            try clear c22
            try clear p2
            try clear p6
            obtain ⟨x15_2, rfl, HA, HK2, HB⟩ := hrel
            cases gk with
            | zero => exact absurd HA.out (by simp [laws_FnBevel.l0])
            | succ k2 =>
              have H := HA.out
              clear HA
              simp only [laws_FnBevel.l0] at H
              by_cases c23 : x15_2 ≤ 30
              · rw [if_pos c23] at H
                have c23b0 : decide (x15_2 ≤ 30) = true := decide_eq_true c23
                clear c23
                replace H := Option.bind_eq_some_iff.mp H
                obtain ⟨⟨t147, t148⟩, A240, H⟩ := H
                replace H : ((impl_ClosesGap.f (wrap64 (1 + t132)) t133 x15_2 t134).bind fun t149 => (if t148 = 0 then ((laws_r8Abs.f t147).bind fun t150 => ((laws_r8Abs.f t137).bind fun t151 => (if t150 < t151 then (some false) else (if (t149 != (decide (t150 ≤ t134))) = true then (some false) else (if t141 = 0 then (if x15_2 ≥ t139 then (if (t149 != (decide (x15_2 ≤ t140))) = true then (some false) else (laws_FnBevel.l0 k2 (wrap64 (1 + t132)) t133 t134 t137 t139 t140 t141 (wrap64 (x15_2 + 1)))) else (if (t149 != false) = true then (some false) else (laws_FnBevel.l0 k2 (wrap64 (1 + t132)) t133 t134 t137 t139 t140 t141 (wrap64 (x15_2 + 1))))) else (if (t149 != false) = true then (some false) else (laws_FnBevel.l0 k2 (wrap64 (1 + t132)) t133 t134 t137 t139 t140 t141 (wrap64 (x15_2 + 1))))))))) else (some false))) = some r := H
                have A24 := Aside0.mk A240
                clear A240
                replace H := Option.bind_eq_some_iff.mp H
                obtain ⟨t149, A250, H⟩ := H
                replace H : (if t148 = 0 then ((laws_r8Abs.f t147).bind fun t150 => ((laws_r8Abs.f t137).bind fun t151 => (if t150 < t151 then (some false) else (if (t149 != (decide (t150 ≤ t134))) = true then (some false) else (if t141 = 0 then (if x15_2 ≥ t139 then (if (t149 != (decide (x15_2 ≤ t140))) = true then (some false) else (laws_FnBevel.l0 k2 (wrap64 (1 + t132)) t133 t134 t137 t139 t140 t141 (wrap64 (x15_2 + 1)))) else (if (t149 != false) = true then (some false) else (laws_FnBevel.l0 k2 (wrap64 (1 + t132)) t133 t134 t137 t139 t140 t141 (wrap64 (x15_2 + 1))))) else (if (t149 != false) = true then (some false) else (laws_FnBevel.l0 k2 (wrap64 (1 + t132)) t133 t134 t137 t139 t140 t141 (wrap64 (x15_2 + 1))))))))) else (some false)) = some r := H
                have A25 := Aside0.mk A250
                clear A250
                by_cases c26 : t148 = 0
                · rw [if_pos c26] at H
                  have c26b0 : (t148 == 0) = true := beq_iff_eq.mpr c26
                  have c26b1 : (t148 != 0) = false := bne_eq_false_iff_eq.mpr c26
                  clear c26
                  replace H := Option.bind_eq_some_iff.mp H
                  obtain ⟨t150, A270, H⟩ := H
                  replace H : ((laws_r8Abs.f t137).bind fun t151 => (if t150 < t151 then (some false) else (if (t149 != (decide (t150 ≤ t134))) = true then (some false) else (if t141 = 0 then (if x15_2 ≥ t139 then (if (t149 != (decide (x15_2 ≤ t140))) = true then (some false) else (laws_FnBevel.l0 k2 (wrap64 (1 + t132)) t133 t134 t137 t139 t140 t141 (wrap64 (x15_2 + 1)))) else (if (t149 != false) = true then (some false) else (laws_FnBevel.l0 k2 (wrap64 (1 + t132)) t133 t134 t137 t139 t140 t141 (wrap64 (x15_2 + 1))))) else (if (t149 != false) = true then (some false) else (laws_FnBevel.l0 k2 (wrap64 (1 + t132)) t133 t134 t137 t139 t140 t141 (wrap64 (x15_2 + 1)))))))) = some r := H
                  have A27 := Aside0.mk A270
                  clear A270
                  replace H := Option.bind_eq_some_iff.mp H
                  obtain ⟨t151, A280, H⟩ := H
                  replace H : (if t150 < t151 then (some false) else (if (t149 != (decide (t150 ≤ t134))) = true then (some false) else (if t141 = 0 then (if x15_2 ≥ t139 then (if (t149 != (decide (x15_2 ≤ t140))) = true then (some false) else (laws_FnBevel.l0 k2 (wrap64 (1 + t132)) t133 t134 t137 t139 t140 t141 (wrap64 (x15_2 + 1)))) else (if (t149 != false) = true then (some false) else (laws_FnBevel.l0 k2 (wrap64 (1 + t132)) t133 t134 t137 t139 t140 t141 (wrap64 (x15_2 + 1))))) else (if (t149 != false) = true then (some false) else (laws_FnBevel.l0 k2 (wrap64 (1 + t132)) t133 t134 t137 t139 t140 t141 (wrap64 (x15_2 + 1))))))) = some r := H
                  have A28 := Aside0.mk A280
                  clear A280
                  by_cases c29 : t150 < t151
                  · rw [if_pos c29] at H
                    have c29b0 : decide (t150 < t151) = true := decide_eq_true c29
                    clear c29
                    obtain rfl := Option.some.inj H
                    go_wp2_with (first | ((with_reducible refine gate_callee (f := 13) rfl ?_); refine goesL_ (some 86) rfl rfl Tryd.func13 (by kernel_rfl) rfl #[.int .i64 (wrap64 (1 + t132)), .int .i64 t133, .int .i64 x15_2] rfl (by (try simp only [List.map_toArray, List.map_cons, List.map_nil]); first | done | rfl | (simp only [List.length_drop, List.length_take]; rfl)) ?_; (with_reducible refine (impl_BevelGap.calls (wrap64 (1 + t132)) t133 x15_2 t147 t148 _ ?side1 A24.out).mono ?_); (case side1 => repeat (first | exact (Kd.C_below HRG0.out HB.out) | (with_reducible refine Kd.C_alloc ?_ _) | (with_reducible refine Kd.C_drewN ?_ _) | (with_reducible refine Kd.C_drew ?_))); rintro e w30 ⟨rfl, hb⟩; refine ⟨_, rfl, ?_⟩; have n0_ := Aside0.mk (below_step (by repeat (first | (with_reducible first | exact HB.out | apply below_alloc | apply pw_below_drewN | apply below_drew1) | exact HB.out)) hb); clear HB; have HB := n0_; clear n0_; (try clear hb); (try clear hb2); (try clear hk); (try clear hi)) | ((with_reducible refine gate_callee (f := 17) rfl ?_); refine goesL_ (some 93) rfl rfl Tryd.func17 (by kernel_rfl) rfl #[.int .i64 (wrap64 (1 + t132)), .int .i64 t133, .int .i64 x15_2, .int .i64 t134] rfl (by (try simp only [List.map_toArray, List.map_cons, List.map_nil]); first | done | rfl | (simp only [List.length_drop, List.length_take]; rfl)) ?_; (with_reducible refine (impl_ClosesGap.calls (wrap64 (1 + t132)) t133 x15_2 t134 t149 _ ?side1 A25.out).mono ?_); (case side1 => repeat (first | exact (Kd.C_below HRG0.out HB.out) | (with_reducible refine Kd.C_alloc ?_ _) | (with_reducible refine Kd.C_drewN ?_ _) | (with_reducible refine Kd.C_drew ?_))); rintro e w31 ⟨rfl, hb⟩; refine ⟨_, rfl, ?_⟩; have n0_ := Aside0.mk (below_step (by repeat (first | (with_reducible first | exact HB.out | apply below_alloc | apply pw_below_drewN | apply below_drew1) | exact HB.out)) hb); clear HB; have HB := n0_; clear n0_; (try clear hb); (try clear hb2); (try clear hk); (try clear hi)) | (go_at_call 25; (with_reducible refine (laws_r8Abs.calls t147 t150 _ A27.out).mono ?_); rintro e w32 ⟨rfl, hb⟩; have n0_ := Aside0.mk (below_step (by repeat (first | (with_reducible first | exact HB.out | apply below_alloc | apply pw_below_drewN | apply below_drew1) | exact HB.out)) hb); clear HB; have HB := n0_; clear n0_; (try clear hb); (try clear hb2); (try clear hk); (try clear hi)) | (go_at_call 25; (with_reducible refine (laws_r8Abs.calls t137 t151 _ A28.out).mono ?_); rintro e w33 ⟨rfl, hb⟩; have n0_ := Aside0.mk (below_step (by repeat (first | (with_reducible first | exact HB.out | apply below_alloc | apply pw_below_drewN | apply below_drew1) | exact HB.out)) hb); clear HB; have HB := n0_; clear n0_; (try clear hb); (try clear hb2); (try clear hk); (try clear hi)))
                    go_ret
                    exact ⟨by first | rfl | (simp [errW_none, errW_some] <;> rfl) | (simp [*, errW_none, errW_some] <;> rfl), by repeat (first | (with_reducible first | exact HB.out | apply below_alloc | apply pw_below_drewN | apply below_drew1) | exact HB.out)⟩
                  · rw [if_neg c29] at H
                    have c29b0 : decide (t150 < t151) = false := decide_eq_false c29
                    clear c29
                    by_cases c34 : (t149 != (decide (t150 ≤ t134))) = true
                    · rw [if_pos c34] at H
                      have c34b0 : (t149 != (decide (t150 ≤ t134))) = true := c34
                      (try (have c34b1 : decide (t149 = (decide (t150 ≤ t134))) = false := by simpa using c34))
                      (try (have c34b2 : (t149 == (decide (t150 ≤ t134))) = false := by simpa using c34))
                      (try (have c34b3 : ¬ (t149 = (decide (t150 ≤ t134))) := by simpa using c34))
                      clear c34
                      obtain rfl := Option.some.inj H
                      go_wp2_with (first | ((with_reducible refine gate_callee (f := 13) rfl ?_); refine goesL_ (some 86) rfl rfl Tryd.func13 (by kernel_rfl) rfl #[.int .i64 (wrap64 (1 + t132)), .int .i64 t133, .int .i64 x15_2] rfl (by (try simp only [List.map_toArray, List.map_cons, List.map_nil]); first | done | rfl | (simp only [List.length_drop, List.length_take]; rfl)) ?_; (with_reducible refine (impl_BevelGap.calls (wrap64 (1 + t132)) t133 x15_2 t147 t148 _ ?side1 A24.out).mono ?_); (case side1 => repeat (first | exact (Kd.C_below HRG0.out HB.out) | (with_reducible refine Kd.C_alloc ?_ _) | (with_reducible refine Kd.C_drewN ?_ _) | (with_reducible refine Kd.C_drew ?_))); rintro e w35 ⟨rfl, hb⟩; refine ⟨_, rfl, ?_⟩; have n0_ := Aside0.mk (below_step (by repeat (first | (with_reducible first | exact HB.out | apply below_alloc | apply pw_below_drewN | apply below_drew1) | exact HB.out)) hb); clear HB; have HB := n0_; clear n0_; (try clear hb); (try clear hb2); (try clear hk); (try clear hi)) | ((with_reducible refine gate_callee (f := 17) rfl ?_); refine goesL_ (some 93) rfl rfl Tryd.func17 (by kernel_rfl) rfl #[.int .i64 (wrap64 (1 + t132)), .int .i64 t133, .int .i64 x15_2, .int .i64 t134] rfl (by (try simp only [List.map_toArray, List.map_cons, List.map_nil]); first | done | rfl | (simp only [List.length_drop, List.length_take]; rfl)) ?_; (with_reducible refine (impl_ClosesGap.calls (wrap64 (1 + t132)) t133 x15_2 t134 t149 _ ?side1 A25.out).mono ?_); (case side1 => repeat (first | exact (Kd.C_below HRG0.out HB.out) | (with_reducible refine Kd.C_alloc ?_ _) | (with_reducible refine Kd.C_drewN ?_ _) | (with_reducible refine Kd.C_drew ?_))); rintro e w36 ⟨rfl, hb⟩; refine ⟨_, rfl, ?_⟩; have n0_ := Aside0.mk (below_step (by repeat (first | (with_reducible first | exact HB.out | apply below_alloc | apply pw_below_drewN | apply below_drew1) | exact HB.out)) hb); clear HB; have HB := n0_; clear n0_; (try clear hb); (try clear hb2); (try clear hk); (try clear hi)) | (go_at_call 25; (with_reducible refine (laws_r8Abs.calls t147 t150 _ A27.out).mono ?_); rintro e w37 ⟨rfl, hb⟩; have n0_ := Aside0.mk (below_step (by repeat (first | (with_reducible first | exact HB.out | apply below_alloc | apply pw_below_drewN | apply below_drew1) | exact HB.out)) hb); clear HB; have HB := n0_; clear n0_; (try clear hb); (try clear hb2); (try clear hk); (try clear hi)) | (go_at_call 25; (with_reducible refine (laws_r8Abs.calls t137 t151 _ A28.out).mono ?_); rintro e w38 ⟨rfl, hb⟩; have n0_ := Aside0.mk (below_step (by repeat (first | (with_reducible first | exact HB.out | apply below_alloc | apply pw_below_drewN | apply below_drew1) | exact HB.out)) hb); clear HB; have HB := n0_; clear n0_; (try clear hb); (try clear hb2); (try clear hk); (try clear hi)))
                      go_ret
                      exact ⟨by first | rfl | (simp [errW_none, errW_some] <;> rfl) | (simp [*, errW_none, errW_some] <;> rfl), by repeat (first | (with_reducible first | exact HB.out | apply below_alloc | apply pw_below_drewN | apply below_drew1) | exact HB.out)⟩
                    · rw [if_neg c34] at H
                      have c34b0 : (t149 != (decide (t150 ≤ t134))) = false := by simpa using c34
                      (try (have c34b1 : decide (t149 = (decide (t150 ≤ t134))) = true := by simpa using c34))
                      (try (have c34b2 : (t149 == (decide (t150 ≤ t134))) = true := by simpa using c34))
                      clear c34
                      by_cases c39 : t141 = 0
                      · rw [if_pos c39] at H
                        have c39b0 : (t141 == 0) = true := beq_iff_eq.mpr c39
                        have c39b1 : (t141 != 0) = false := bne_eq_false_iff_eq.mpr c39
                        clear c39
                        by_cases c40 : x15_2 ≥ t139
                        · rw [if_pos c40] at H
                          have c40b0 : decide (t139 ≤ x15_2) = true := decide_eq_true c40
                          clear c40
                          by_cases c41 : (t149 != (decide (x15_2 ≤ t140))) = true
                          · rw [if_pos c41] at H
                            have c41b0 : (t149 != (decide (x15_2 ≤ t140))) = true := c41
                            (try (have c41b1 : decide (t149 = (decide (x15_2 ≤ t140))) = false := by simpa using c41))
                            (try (have c41b2 : (t149 == (decide (x15_2 ≤ t140))) = false := by simpa using c41))
                            (try (have c41b3 : ¬ (t149 = (decide (x15_2 ≤ t140))) := by simpa using c41))
                            clear c41
                            obtain rfl := Option.some.inj H
                            go_wp2_with (first | ((with_reducible refine gate_callee (f := 13) rfl ?_); refine goesL_ (some 86) rfl rfl Tryd.func13 (by kernel_rfl) rfl #[.int .i64 (wrap64 (1 + t132)), .int .i64 t133, .int .i64 x15_2] rfl (by (try simp only [List.map_toArray, List.map_cons, List.map_nil]); first | done | rfl | (simp only [List.length_drop, List.length_take]; rfl)) ?_; (with_reducible refine (impl_BevelGap.calls (wrap64 (1 + t132)) t133 x15_2 t147 t148 _ ?side1 A24.out).mono ?_); (case side1 => repeat (first | exact (Kd.C_below HRG0.out HB.out) | (with_reducible refine Kd.C_alloc ?_ _) | (with_reducible refine Kd.C_drewN ?_ _) | (with_reducible refine Kd.C_drew ?_))); rintro e w42 ⟨rfl, hb⟩; refine ⟨_, rfl, ?_⟩; have n0_ := Aside0.mk (below_step (by repeat (first | (with_reducible first | exact HB.out | apply below_alloc | apply pw_below_drewN | apply below_drew1) | exact HB.out)) hb); clear HB; have HB := n0_; clear n0_; (try clear hb); (try clear hb2); (try clear hk); (try clear hi)) | ((with_reducible refine gate_callee (f := 17) rfl ?_); refine goesL_ (some 93) rfl rfl Tryd.func17 (by kernel_rfl) rfl #[.int .i64 (wrap64 (1 + t132)), .int .i64 t133, .int .i64 x15_2, .int .i64 t134] rfl (by (try simp only [List.map_toArray, List.map_cons, List.map_nil]); first | done | rfl | (simp only [List.length_drop, List.length_take]; rfl)) ?_; (with_reducible refine (impl_ClosesGap.calls (wrap64 (1 + t132)) t133 x15_2 t134 t149 _ ?side1 A25.out).mono ?_); (case side1 => repeat (first | exact (Kd.C_below HRG0.out HB.out) | (with_reducible refine Kd.C_alloc ?_ _) | (with_reducible refine Kd.C_drewN ?_ _) | (with_reducible refine Kd.C_drew ?_))); rintro e w43 ⟨rfl, hb⟩; refine ⟨_, rfl, ?_⟩; have n0_ := Aside0.mk (below_step (by repeat (first | (with_reducible first | exact HB.out | apply below_alloc | apply pw_below_drewN | apply below_drew1) | exact HB.out)) hb); clear HB; have HB := n0_; clear n0_; (try clear hb); (try clear hb2); (try clear hk); (try clear hi)) | (go_at_call 25; (with_reducible refine (laws_r8Abs.calls t147 t150 _ A27.out).mono ?_); rintro e w44 ⟨rfl, hb⟩; have n0_ := Aside0.mk (below_step (by repeat (first | (with_reducible first | exact HB.out | apply below_alloc | apply pw_below_drewN | apply below_drew1) | exact HB.out)) hb); clear HB; have HB := n0_; clear n0_; (try clear hb); (try clear hb2); (try clear hk); (try clear hi)) | (go_at_call 25; (with_reducible refine (laws_r8Abs.calls t137 t151 _ A28.out).mono ?_); rintro e w45 ⟨rfl, hb⟩; have n0_ := Aside0.mk (below_step (by repeat (first | (with_reducible first | exact HB.out | apply below_alloc | apply pw_below_drewN | apply below_drew1) | exact HB.out)) hb); clear HB; have HB := n0_; clear n0_; (try clear hb); (try clear hb2); (try clear hk); (try clear hi)))
                            go_ret
                            exact ⟨by first | rfl | (simp [errW_none, errW_some] <;> rfl) | (simp [*, errW_none, errW_some] <;> rfl), by repeat (first | (with_reducible first | exact HB.out | apply below_alloc | apply pw_below_drewN | apply below_drew1) | exact HB.out)⟩
                          · rw [if_neg c41] at H
                            have c41b0 : (t149 != (decide (x15_2 ≤ t140))) = false := by simpa using c41
                            (try (have c41b1 : decide (t149 = (decide (x15_2 ≤ t140))) = true := by simpa using c41))
                            (try (have c41b2 : (t149 == (decide (x15_2 ≤ t140))) = true := by simpa using c41))
                            clear c41
                            have H' := Aside0.mk H
                            clear H
                            go_wp2_with (first | ((with_reducible refine gate_callee (f := 13) rfl ?_); refine goesL_ (some 86) rfl rfl Tryd.func13 (by kernel_rfl) rfl #[.int .i64 (wrap64 (1 + t132)), .int .i64 t133, .int .i64 x15_2] rfl (by (try simp only [List.map_toArray, List.map_cons, List.map_nil]); first | done | rfl | (simp only [List.length_drop, List.length_take]; rfl)) ?_; (with_reducible refine (impl_BevelGap.calls (wrap64 (1 + t132)) t133 x15_2 t147 t148 _ ?side1 A24.out).mono ?_); (case side1 => repeat (first | exact (Kd.C_below HRG0.out HB.out) | (with_reducible refine Kd.C_alloc ?_ _) | (with_reducible refine Kd.C_drewN ?_ _) | (with_reducible refine Kd.C_drew ?_))); rintro e w46 ⟨rfl, hb⟩; refine ⟨_, rfl, ?_⟩; have n0_ := Aside0.mk (below_step (by repeat (first | (with_reducible first | exact HB.out | apply below_alloc | apply pw_below_drewN | apply below_drew1) | exact HB.out)) hb); clear HB; have HB := n0_; clear n0_; (try clear hb); (try clear hb2); (try clear hk); (try clear hi)) | ((with_reducible refine gate_callee (f := 17) rfl ?_); refine goesL_ (some 93) rfl rfl Tryd.func17 (by kernel_rfl) rfl #[.int .i64 (wrap64 (1 + t132)), .int .i64 t133, .int .i64 x15_2, .int .i64 t134] rfl (by (try simp only [List.map_toArray, List.map_cons, List.map_nil]); first | done | rfl | (simp only [List.length_drop, List.length_take]; rfl)) ?_; (with_reducible refine (impl_ClosesGap.calls (wrap64 (1 + t132)) t133 x15_2 t134 t149 _ ?side1 A25.out).mono ?_); (case side1 => repeat (first | exact (Kd.C_below HRG0.out HB.out) | (with_reducible refine Kd.C_alloc ?_ _) | (with_reducible refine Kd.C_drewN ?_ _) | (with_reducible refine Kd.C_drew ?_))); rintro e w47 ⟨rfl, hb⟩; refine ⟨_, rfl, ?_⟩; have n0_ := Aside0.mk (below_step (by repeat (first | (with_reducible first | exact HB.out | apply below_alloc | apply pw_below_drewN | apply below_drew1) | exact HB.out)) hb); clear HB; have HB := n0_; clear n0_; (try clear hb); (try clear hb2); (try clear hk); (try clear hi)) | (go_at_call 25; (with_reducible refine (laws_r8Abs.calls t147 t150 _ A27.out).mono ?_); rintro e w48 ⟨rfl, hb⟩; have n0_ := Aside0.mk (below_step (by repeat (first | (with_reducible first | exact HB.out | apply below_alloc | apply pw_below_drewN | apply below_drew1) | exact HB.out)) hb); clear HB; have HB := n0_; clear n0_; (try clear hb); (try clear hb2); (try clear hk); (try clear hi)) | (go_at_call 25; (with_reducible refine (laws_r8Abs.calls t137 t151 _ A28.out).mono ?_); rintro e w49 ⟨rfl, hb⟩; have n0_ := Aside0.mk (below_step (by repeat (first | (with_reducible first | exact HB.out | apply below_alloc | apply pw_below_drewN | apply below_drew1) | exact HB.out)) hb); clear HB; have HB := n0_; clear n0_; (try clear hb); (try clear hb2); (try clear hk); (try clear hi)))
                            go_roundg k2
                            case measure => have := HJ9.out; have := HK2.out; omega
                            case rel => exact ⟨(wrap64 (x15_2 + 1)), (by first | rfl | (simp; done) | (simp [*]; done)), H', ⟨by have := HJ9.out; have := HK2.out; omega⟩, ⟨by repeat (first | (with_reducible first | exact HB.out | apply below_alloc | apply pw_below_drewN | apply below_drew1) | exact HB.out)⟩⟩
                        · rw [if_neg c40] at H
                          have c40b0 : decide (t139 ≤ x15_2) = false := decide_eq_false c40
                          clear c40
                          by_cases c50 : (t149 != false) = true
                          · rw [if_pos c50] at H
                            have c50b0 : (t149 != false) = true := c50
                            have c50e : decide (t150 ≤ t134) = true := by have h1 : t149 = true := (by simpa using c50b0); have h2 : t149 = decide (t150 ≤ t134) := (by simpa using c34b0); rw [← h2, h1]
                            (try (have c50b1 : decide (t149 = false) = false := by simpa using c50))
                            (try (have c50b2 : (t149 == false) = false := by simpa using c50))
                            (try (have c50b3 : ¬ (t149 = false) := by simpa using c50))
                            clear c50
                            obtain rfl := Option.some.inj H
                            go_wp2_with (first | ((with_reducible refine gate_callee (f := 13) rfl ?_); refine goesL_ (some 86) rfl rfl Tryd.func13 (by kernel_rfl) rfl #[.int .i64 (wrap64 (1 + t132)), .int .i64 t133, .int .i64 x15_2] rfl (by (try simp only [List.map_toArray, List.map_cons, List.map_nil]); first | done | rfl | (simp only [List.length_drop, List.length_take]; rfl)) ?_; (with_reducible refine (impl_BevelGap.calls (wrap64 (1 + t132)) t133 x15_2 t147 t148 _ ?side1 A24.out).mono ?_); (case side1 => repeat (first | exact (Kd.C_below HRG0.out HB.out) | (with_reducible refine Kd.C_alloc ?_ _) | (with_reducible refine Kd.C_drewN ?_ _) | (with_reducible refine Kd.C_drew ?_))); rintro e w51 ⟨rfl, hb⟩; refine ⟨_, rfl, ?_⟩; have n0_ := Aside0.mk (below_step (by repeat (first | (with_reducible first | exact HB.out | apply below_alloc | apply pw_below_drewN | apply below_drew1) | exact HB.out)) hb); clear HB; have HB := n0_; clear n0_; (try clear hb); (try clear hb2); (try clear hk); (try clear hi)) | ((with_reducible refine gate_callee (f := 17) rfl ?_); refine goesL_ (some 93) rfl rfl Tryd.func17 (by kernel_rfl) rfl #[.int .i64 (wrap64 (1 + t132)), .int .i64 t133, .int .i64 x15_2, .int .i64 t134] rfl (by (try simp only [List.map_toArray, List.map_cons, List.map_nil]); first | done | rfl | (simp only [List.length_drop, List.length_take]; rfl)) ?_; (with_reducible refine (impl_ClosesGap.calls (wrap64 (1 + t132)) t133 x15_2 t134 t149 _ ?side1 A25.out).mono ?_); (case side1 => repeat (first | exact (Kd.C_below HRG0.out HB.out) | (with_reducible refine Kd.C_alloc ?_ _) | (with_reducible refine Kd.C_drewN ?_ _) | (with_reducible refine Kd.C_drew ?_))); rintro e w52 ⟨rfl, hb⟩; refine ⟨_, rfl, ?_⟩; have n0_ := Aside0.mk (below_step (by repeat (first | (with_reducible first | exact HB.out | apply below_alloc | apply pw_below_drewN | apply below_drew1) | exact HB.out)) hb); clear HB; have HB := n0_; clear n0_; (try clear hb); (try clear hb2); (try clear hk); (try clear hi)) | (go_at_call 25; (with_reducible refine (laws_r8Abs.calls t147 t150 _ A27.out).mono ?_); rintro e w53 ⟨rfl, hb⟩; have n0_ := Aside0.mk (below_step (by repeat (first | (with_reducible first | exact HB.out | apply below_alloc | apply pw_below_drewN | apply below_drew1) | exact HB.out)) hb); clear HB; have HB := n0_; clear n0_; (try clear hb); (try clear hb2); (try clear hk); (try clear hi)) | (go_at_call 25; (with_reducible refine (laws_r8Abs.calls t137 t151 _ A28.out).mono ?_); rintro e w54 ⟨rfl, hb⟩; have n0_ := Aside0.mk (below_step (by repeat (first | (with_reducible first | exact HB.out | apply below_alloc | apply pw_below_drewN | apply below_drew1) | exact HB.out)) hb); clear HB; have HB := n0_; clear n0_; (try clear hb); (try clear hb2); (try clear hk); (try clear hi)))
                            go_ret
                            exact ⟨by first | rfl | (simp [errW_none, errW_some] <;> rfl) | (simp [*, errW_none, errW_some] <;> rfl), by repeat (first | (with_reducible first | exact HB.out | apply below_alloc | apply pw_below_drewN | apply below_drew1) | exact HB.out)⟩
                          · rw [if_neg c50] at H
                            have c50b0 : (t149 != false) = false := by simpa using c50
                            (try (have c50b1 : decide (t149 = false) = true := by simpa using c50))
                            (try (have c50b2 : (t149 == false) = true := by simpa using c50))
                            clear c50
                            have H' := Aside0.mk H
                            clear H
                            go_wp2_with (first | ((with_reducible refine gate_callee (f := 13) rfl ?_); refine goesL_ (some 86) rfl rfl Tryd.func13 (by kernel_rfl) rfl #[.int .i64 (wrap64 (1 + t132)), .int .i64 t133, .int .i64 x15_2] rfl (by (try simp only [List.map_toArray, List.map_cons, List.map_nil]); first | done | rfl | (simp only [List.length_drop, List.length_take]; rfl)) ?_; (with_reducible refine (impl_BevelGap.calls (wrap64 (1 + t132)) t133 x15_2 t147 t148 _ ?side1 A24.out).mono ?_); (case side1 => repeat (first | exact (Kd.C_below HRG0.out HB.out) | (with_reducible refine Kd.C_alloc ?_ _) | (with_reducible refine Kd.C_drewN ?_ _) | (with_reducible refine Kd.C_drew ?_))); rintro e w55 ⟨rfl, hb⟩; refine ⟨_, rfl, ?_⟩; have n0_ := Aside0.mk (below_step (by repeat (first | (with_reducible first | exact HB.out | apply below_alloc | apply pw_below_drewN | apply below_drew1) | exact HB.out)) hb); clear HB; have HB := n0_; clear n0_; (try clear hb); (try clear hb2); (try clear hk); (try clear hi)) | ((with_reducible refine gate_callee (f := 17) rfl ?_); refine goesL_ (some 93) rfl rfl Tryd.func17 (by kernel_rfl) rfl #[.int .i64 (wrap64 (1 + t132)), .int .i64 t133, .int .i64 x15_2, .int .i64 t134] rfl (by (try simp only [List.map_toArray, List.map_cons, List.map_nil]); first | done | rfl | (simp only [List.length_drop, List.length_take]; rfl)) ?_; (with_reducible refine (impl_ClosesGap.calls (wrap64 (1 + t132)) t133 x15_2 t134 t149 _ ?side1 A25.out).mono ?_); (case side1 => repeat (first | exact (Kd.C_below HRG0.out HB.out) | (with_reducible refine Kd.C_alloc ?_ _) | (with_reducible refine Kd.C_drewN ?_ _) | (with_reducible refine Kd.C_drew ?_))); rintro e w56 ⟨rfl, hb⟩; refine ⟨_, rfl, ?_⟩; have n0_ := Aside0.mk (below_step (by repeat (first | (with_reducible first | exact HB.out | apply below_alloc | apply pw_below_drewN | apply below_drew1) | exact HB.out)) hb); clear HB; have HB := n0_; clear n0_; (try clear hb); (try clear hb2); (try clear hk); (try clear hi)) | (go_at_call 25; (with_reducible refine (laws_r8Abs.calls t147 t150 _ A27.out).mono ?_); rintro e w57 ⟨rfl, hb⟩; have n0_ := Aside0.mk (below_step (by repeat (first | (with_reducible first | exact HB.out | apply below_alloc | apply pw_below_drewN | apply below_drew1) | exact HB.out)) hb); clear HB; have HB := n0_; clear n0_; (try clear hb); (try clear hb2); (try clear hk); (try clear hi)) | (go_at_call 25; (with_reducible refine (laws_r8Abs.calls t137 t151 _ A28.out).mono ?_); rintro e w58 ⟨rfl, hb⟩; have n0_ := Aside0.mk (below_step (by repeat (first | (with_reducible first | exact HB.out | apply below_alloc | apply pw_below_drewN | apply below_drew1) | exact HB.out)) hb); clear HB; have HB := n0_; clear n0_; (try clear hb); (try clear hb2); (try clear hk); (try clear hi)))
                            go_roundg k2
                            case measure => have := HJ9.out; have := HK2.out; omega
                            case rel => exact ⟨(wrap64 (x15_2 + 1)), (by first | rfl | (simp; done) | (simp [*]; done)), H', ⟨by have := HJ9.out; have := HK2.out; omega⟩, ⟨by repeat (first | (with_reducible first | exact HB.out | apply below_alloc | apply pw_below_drewN | apply below_drew1) | exact HB.out)⟩⟩
                      · rw [if_neg c39] at H
                        have c39b0 : (t141 == 0) = false := beq_eq_false_iff_ne.mpr c39
                        have c39b1 : (t141 != 0) = true := bne_iff_ne.mpr c39
                        by_cases c59 : (t149 != false) = true
                        · rw [if_pos c59] at H
                          have c59b0 : (t149 != false) = true := c59
                          have c59e : decide (t150 ≤ t134) = true := by have h1 : t149 = true := (by simpa using c59b0); have h2 : t149 = decide (t150 ≤ t134) := (by simpa using c34b0); rw [← h2, h1]
                          (try (have c59b1 : decide (t149 = false) = false := by simpa using c59))
                          (try (have c59b2 : (t149 == false) = false := by simpa using c59))
                          (try (have c59b3 : ¬ (t149 = false) := by simpa using c59))
                          clear c59
                          obtain rfl := Option.some.inj H
                          go_wp2_with (first | ((with_reducible refine gate_callee (f := 13) rfl ?_); refine goesL_ (some 86) rfl rfl Tryd.func13 (by kernel_rfl) rfl #[.int .i64 (wrap64 (1 + t132)), .int .i64 t133, .int .i64 x15_2] rfl (by (try simp only [List.map_toArray, List.map_cons, List.map_nil]); first | done | rfl | (simp only [List.length_drop, List.length_take]; rfl)) ?_; (with_reducible refine (impl_BevelGap.calls (wrap64 (1 + t132)) t133 x15_2 t147 t148 _ ?side1 A24.out).mono ?_); (case side1 => repeat (first | exact (Kd.C_below HRG0.out HB.out) | (with_reducible refine Kd.C_alloc ?_ _) | (with_reducible refine Kd.C_drewN ?_ _) | (with_reducible refine Kd.C_drew ?_))); rintro e w60 ⟨rfl, hb⟩; refine ⟨_, rfl, ?_⟩; have n0_ := Aside0.mk (below_step (by repeat (first | (with_reducible first | exact HB.out | apply below_alloc | apply pw_below_drewN | apply below_drew1) | exact HB.out)) hb); clear HB; have HB := n0_; clear n0_; (try clear hb); (try clear hb2); (try clear hk); (try clear hi)) | ((with_reducible refine gate_callee (f := 17) rfl ?_); refine goesL_ (some 93) rfl rfl Tryd.func17 (by kernel_rfl) rfl #[.int .i64 (wrap64 (1 + t132)), .int .i64 t133, .int .i64 x15_2, .int .i64 t134] rfl (by (try simp only [List.map_toArray, List.map_cons, List.map_nil]); first | done | rfl | (simp only [List.length_drop, List.length_take]; rfl)) ?_; (with_reducible refine (impl_ClosesGap.calls (wrap64 (1 + t132)) t133 x15_2 t134 t149 _ ?side1 A25.out).mono ?_); (case side1 => repeat (first | exact (Kd.C_below HRG0.out HB.out) | (with_reducible refine Kd.C_alloc ?_ _) | (with_reducible refine Kd.C_drewN ?_ _) | (with_reducible refine Kd.C_drew ?_))); rintro e w61 ⟨rfl, hb⟩; refine ⟨_, rfl, ?_⟩; have n0_ := Aside0.mk (below_step (by repeat (first | (with_reducible first | exact HB.out | apply below_alloc | apply pw_below_drewN | apply below_drew1) | exact HB.out)) hb); clear HB; have HB := n0_; clear n0_; (try clear hb); (try clear hb2); (try clear hk); (try clear hi)) | (go_at_call 25; (with_reducible refine (laws_r8Abs.calls t147 t150 _ A27.out).mono ?_); rintro e w62 ⟨rfl, hb⟩; have n0_ := Aside0.mk (below_step (by repeat (first | (with_reducible first | exact HB.out | apply below_alloc | apply pw_below_drewN | apply below_drew1) | exact HB.out)) hb); clear HB; have HB := n0_; clear n0_; (try clear hb); (try clear hb2); (try clear hk); (try clear hi)) | (go_at_call 25; (with_reducible refine (laws_r8Abs.calls t137 t151 _ A28.out).mono ?_); rintro e w63 ⟨rfl, hb⟩; have n0_ := Aside0.mk (below_step (by repeat (first | (with_reducible first | exact HB.out | apply below_alloc | apply pw_below_drewN | apply below_drew1) | exact HB.out)) hb); clear HB; have HB := n0_; clear n0_; (try clear hb); (try clear hb2); (try clear hk); (try clear hi)))
                          go_ret
                          exact ⟨by first | rfl | (simp [errW_none, errW_some] <;> rfl) | (simp [*, errW_none, errW_some] <;> rfl), by repeat (first | (with_reducible first | exact HB.out | apply below_alloc | apply pw_below_drewN | apply below_drew1) | exact HB.out)⟩
                        · rw [if_neg c59] at H
                          have c59b0 : (t149 != false) = false := by simpa using c59
                          (try (have c59b1 : decide (t149 = false) = true := by simpa using c59))
                          (try (have c59b2 : (t149 == false) = true := by simpa using c59))
                          clear c59
                          have H' := Aside0.mk H
                          clear H
                          go_wp2_with (first | ((with_reducible refine gate_callee (f := 13) rfl ?_); refine goesL_ (some 86) rfl rfl Tryd.func13 (by kernel_rfl) rfl #[.int .i64 (wrap64 (1 + t132)), .int .i64 t133, .int .i64 x15_2] rfl (by (try simp only [List.map_toArray, List.map_cons, List.map_nil]); first | done | rfl | (simp only [List.length_drop, List.length_take]; rfl)) ?_; (with_reducible refine (impl_BevelGap.calls (wrap64 (1 + t132)) t133 x15_2 t147 t148 _ ?side1 A24.out).mono ?_); (case side1 => repeat (first | exact (Kd.C_below HRG0.out HB.out) | (with_reducible refine Kd.C_alloc ?_ _) | (with_reducible refine Kd.C_drewN ?_ _) | (with_reducible refine Kd.C_drew ?_))); rintro e w64 ⟨rfl, hb⟩; refine ⟨_, rfl, ?_⟩; have n0_ := Aside0.mk (below_step (by repeat (first | (with_reducible first | exact HB.out | apply below_alloc | apply pw_below_drewN | apply below_drew1) | exact HB.out)) hb); clear HB; have HB := n0_; clear n0_; (try clear hb); (try clear hb2); (try clear hk); (try clear hi)) | ((with_reducible refine gate_callee (f := 17) rfl ?_); refine goesL_ (some 93) rfl rfl Tryd.func17 (by kernel_rfl) rfl #[.int .i64 (wrap64 (1 + t132)), .int .i64 t133, .int .i64 x15_2, .int .i64 t134] rfl (by (try simp only [List.map_toArray, List.map_cons, List.map_nil]); first | done | rfl | (simp only [List.length_drop, List.length_take]; rfl)) ?_; (with_reducible refine (impl_ClosesGap.calls (wrap64 (1 + t132)) t133 x15_2 t134 t149 _ ?side1 A25.out).mono ?_); (case side1 => repeat (first | exact (Kd.C_below HRG0.out HB.out) | (with_reducible refine Kd.C_alloc ?_ _) | (with_reducible refine Kd.C_drewN ?_ _) | (with_reducible refine Kd.C_drew ?_))); rintro e w65 ⟨rfl, hb⟩; refine ⟨_, rfl, ?_⟩; have n0_ := Aside0.mk (below_step (by repeat (first | (with_reducible first | exact HB.out | apply below_alloc | apply pw_below_drewN | apply below_drew1) | exact HB.out)) hb); clear HB; have HB := n0_; clear n0_; (try clear hb); (try clear hb2); (try clear hk); (try clear hi)) | (go_at_call 25; (with_reducible refine (laws_r8Abs.calls t147 t150 _ A27.out).mono ?_); rintro e w66 ⟨rfl, hb⟩; have n0_ := Aside0.mk (below_step (by repeat (first | (with_reducible first | exact HB.out | apply below_alloc | apply pw_below_drewN | apply below_drew1) | exact HB.out)) hb); clear HB; have HB := n0_; clear n0_; (try clear hb); (try clear hb2); (try clear hk); (try clear hi)) | (go_at_call 25; (with_reducible refine (laws_r8Abs.calls t137 t151 _ A28.out).mono ?_); rintro e w67 ⟨rfl, hb⟩; have n0_ := Aside0.mk (below_step (by repeat (first | (with_reducible first | exact HB.out | apply below_alloc | apply pw_below_drewN | apply below_drew1) | exact HB.out)) hb); clear HB; have HB := n0_; clear n0_; (try clear hb); (try clear hb2); (try clear hk); (try clear hi)))
                          go_roundg k2
                          case measure => have := HJ9.out; have := HK2.out; omega
                          case rel => exact ⟨(wrap64 (x15_2 + 1)), (by first | rfl | (simp; done) | (simp [*]; done)), H', ⟨by have := HJ9.out; have := HK2.out; omega⟩, ⟨by repeat (first | (with_reducible first | exact HB.out | apply below_alloc | apply pw_below_drewN | apply below_drew1) | exact HB.out)⟩⟩
                · rw [if_neg c26] at H
                  have c26b0 : (t148 == 0) = false := beq_eq_false_iff_ne.mpr c26
                  have c26b1 : (t148 != 0) = true := bne_iff_ne.mpr c26
                  obtain rfl := Option.some.inj H
                  go_wp2_with (first | ((with_reducible refine gate_callee (f := 13) rfl ?_); refine goesL_ (some 86) rfl rfl Tryd.func13 (by kernel_rfl) rfl #[.int .i64 (wrap64 (1 + t132)), .int .i64 t133, .int .i64 x15_2] rfl (by (try simp only [List.map_toArray, List.map_cons, List.map_nil]); first | done | rfl | (simp only [List.length_drop, List.length_take]; rfl)) ?_; (with_reducible refine (impl_BevelGap.calls (wrap64 (1 + t132)) t133 x15_2 t147 t148 _ ?side1 A24.out).mono ?_); (case side1 => repeat (first | exact (Kd.C_below HRG0.out HB.out) | (with_reducible refine Kd.C_alloc ?_ _) | (with_reducible refine Kd.C_drewN ?_ _) | (with_reducible refine Kd.C_drew ?_))); rintro e w68 ⟨rfl, hb⟩; refine ⟨_, rfl, ?_⟩; have n0_ := Aside0.mk (below_step (by repeat (first | (with_reducible first | exact HB.out | apply below_alloc | apply pw_below_drewN | apply below_drew1) | exact HB.out)) hb); clear HB; have HB := n0_; clear n0_; (try clear hb); (try clear hb2); (try clear hk); (try clear hi)) | ((with_reducible refine gate_callee (f := 17) rfl ?_); refine goesL_ (some 93) rfl rfl Tryd.func17 (by kernel_rfl) rfl #[.int .i64 (wrap64 (1 + t132)), .int .i64 t133, .int .i64 x15_2, .int .i64 t134] rfl (by (try simp only [List.map_toArray, List.map_cons, List.map_nil]); first | done | rfl | (simp only [List.length_drop, List.length_take]; rfl)) ?_; (with_reducible refine (impl_ClosesGap.calls (wrap64 (1 + t132)) t133 x15_2 t134 t149 _ ?side1 A25.out).mono ?_); (case side1 => repeat (first | exact (Kd.C_below HRG0.out HB.out) | (with_reducible refine Kd.C_alloc ?_ _) | (with_reducible refine Kd.C_drewN ?_ _) | (with_reducible refine Kd.C_drew ?_))); rintro e w69 ⟨rfl, hb⟩; refine ⟨_, rfl, ?_⟩; have n0_ := Aside0.mk (below_step (by repeat (first | (with_reducible first | exact HB.out | apply below_alloc | apply pw_below_drewN | apply below_drew1) | exact HB.out)) hb); clear HB; have HB := n0_; clear n0_; (try clear hb); (try clear hb2); (try clear hk); (try clear hi)))
                  go_ret
                  exact ⟨by first | rfl | (simp [errW_none, errW_some] <;> rfl) | (simp [*, errW_none, errW_some] <;> rfl), by repeat (first | (with_reducible first | exact HB.out | apply below_alloc | apply pw_below_drewN | apply below_drew1) | exact HB.out)⟩
              · rw [if_neg c23] at H
                have c23b0 : decide (x15_2 ≤ 30) = false := decide_eq_false c23
                clear c23
                by_cases c70 : t141 = 0
                · rw [if_pos c70] at H
                  have c70b0 : (t141 == 0) = true := beq_iff_eq.mpr c70
                  have c70b1 : (t141 != 0) = false := bne_eq_false_iff_eq.mpr c70
                  clear c70
                  obtain rfl := Option.some.inj H
                  go_wp2
                  go_ret
                  exact ⟨by first | rfl | (simp [errW_none, errW_some] <;> rfl) | (simp [*, errW_none, errW_some] <;> rfl), by repeat (first | (with_reducible first | exact HB.out | apply below_alloc | apply pw_below_drewN | apply below_drew1) | exact HB.out)⟩
                · rw [if_neg c70] at H
                  have c70b0 : (t141 == 0) = false := beq_eq_false_iff_ne.mpr c70
                  have c70b1 : (t141 != 0) = true := bne_iff_ne.mpr c70
                  obtain rfl := Option.some.inj H
                  go_wp2
                  go_ret
                  exact ⟨by first | rfl | (simp [errW_none, errW_some] <;> rfl) | (simp [*, errW_none, errW_some] <;> rfl), by repeat (first | (with_reducible first | exact HB.out | apply below_alloc | apply pw_below_drewN | apply below_drew1) | exact HB.out)⟩

/-- THE ONE PURE STATEMENT of laws_FnBevel: yours. -/
def laws_FnBevel.Pure : Prop := ∀ (l0 : List Int), (l0.length ≤ maxLen ∧ ∀ x_ ∈ l0, (Lit.int .u8 x_).wf = true) → ∃ k, laws_FnBevel.f k l0 = some true

end Go.Proofs.YtlplkcdlnplioaaDoor.PFnBevel

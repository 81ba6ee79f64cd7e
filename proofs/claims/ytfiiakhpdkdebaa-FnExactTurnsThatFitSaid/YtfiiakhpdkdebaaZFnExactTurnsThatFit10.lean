/- What each function that a law reaches comes to, and the proof that its walk comes to it; laid by a program of this session. No condition. -/
import Derived.Test.YtfiiakhpdkdebaaZFnExactTurnsThatFit0
import Derived.Test.YtfiiakhpdkdebaaZFnExactTurnsThatFit4
import Derived.Test.YtfiiakhpdkdebaaZFnExactTurnsThatFit8
import Derived.Test.YtfiiakhpdkdebaaZFnExactTurnsThatFit9
namespace Go.Proofs.Ytfiiakhpdkdebaa.PFnExactTurnsThatFit
open Go.RowKit Go.Proofs.YtfiiakhpdkdebaaW.PrintWords Go.Proofs.YtfiiakhpdkdebaaW.PrintLast Go.Proofs.YtfiiakhpdkdebaaW.PrintMore
attribute [local go_sem] max2_int min2_int max_two min_two max_three min_three max_four min_four
set_option linter.unusedVariables false
set_option linter.unusedSimpArgs false
mutual
def spec_l09One.j0 : Nat → List (S36) → Bool → Option (Bool)
 | 0, _, _ => none
 | k + 1, x0, x32 => if x32 = true then (some false) else (if 0 < (x0.length : Int) then ((spec_l00In.f ((rd_T36 x0 0).f4) 10 20000).bind fun t277 => (if t277 = true then ((spec_l00In.f ((rd_T36 x0 0).f5) 10 20000).bind fun t278 => (if t278 = true then (spec_l09One.j1 k x0 (decide ((((rd_T36 x0 0).f6).length : Int) > 6))) else (spec_l09One.j1 k x0 true))) else (spec_l09One.j1 k x0 true))) else (none))
def spec_l09One.j1 : Nat → List (S36) → Bool → Option (Bool)
 | 0, _, _ => none
 | k + 1, x0, x54 => if x54 = true then (some false) else (spec_l09One.l0 k x0 0)
def spec_l09One.l0 : Nat → List (S36) → Int → Option (Bool)
 | 0, _, _ => none
 | k + 1, x0, x3 => if 0 < (x0.length : Int) then (if x3 < (((rd_T36 x0 0).f6).length : Int) then (if 0 ≤ x3 then ((spec_l09Box.f [rd_T103 ((rd_T36 x0 0).f6) x3] ((rd_T36 x0 0).f4) ((rd_T36 x0 0).f5)).bind fun t282 => (if t282 = true then (spec_l09One.l0 k x0 (wrap64 (x3 + 1))) else (some false))) else (none)) else (some true)) else (none)
end
def spec_l09One.f (k : Nat) (l0 : List (S36)) : Option (Bool) := if 0 < (l0.length : Int) then ((spec_l01Name.f k ((rd_T36 l0 0).f0)).bind fun t272 => (if t272 = true then ((spec_l01Name.f k ((rd_T36 l0 0).f1)).bind fun t273 => (if t273 = true then ((spec_l00In.f ((rd_T36 l0 0).f2) 0 999).bind fun t274 => (if t274 = true then ((spec_l07Ok.f k [(rd_T36 l0 0).f3]).bind fun t275 => (spec_l09One.j0 k l0 (!t275))) else (spec_l09One.j0 k l0 true))) else (spec_l09One.j0 k l0 true))) else (spec_l09One.j0 k l0 true))) else (none)
theorem spec_l09One.mono_l : ∀ k, (∀ y0 y1, LeO (spec_l09One.j0 k y0 y1) (spec_l09One.j0 (k + 1) y0 y1)) ∧ (∀ y0 y1, LeO (spec_l09One.j1 k y0 y1) (spec_l09One.j1 (k + 1) y0 y1)) ∧ (∀ y0 y1, LeO (spec_l09One.l0 k y0 y1) (spec_l09One.l0 (k + 1) y0 y1))
 | 0 => ⟨fun _ _ r h => by simp [spec_l09One.j0] at h, fun _ _ r h => by simp [spec_l09One.j1] at h, fun _ _ r h => by simp [spec_l09One.l0] at h⟩
 | k + 1 => by
   obtain ⟨ih0, ih1, ih2⟩ := spec_l09One.mono_l k
   refine ⟨?_, ?_, ?_⟩
   · intro y0 y1
     unfold spec_l09One.j0
     repeat' first
     | (with_reducible exact ih0 _ _)
     | (with_reducible exact ih1 _ _)
     | (with_reducible exact ih2 _ _)
     | (with_reducible exact spec_l01Name.mono _ _)
     | (with_reducible exact spec_l07Ok.mono _ _)
     | (with_reducible exact LeO.refl _)
     | (with_reducible exact LeO.none _)
     | (with_reducible refine LeO.ite ?_ ?_)
     | (with_reducible refine LeO.bind ?_ (fun _ => ?_))
     | exact ih0 _ _
     | exact ih1 _ _
     | exact ih2 _ _
     | exact spec_l01Name.mono _ _
     | exact spec_l07Ok.mono _ _
     | exact LeO.none _
     | refine LeO.ite ?_ ?_
     | refine LeO.bind ?_ (fun _ => ?_)
   · intro y0 y1
     unfold spec_l09One.j1
     repeat' first
     | (with_reducible exact ih0 _ _)
     | (with_reducible exact ih1 _ _)
     | (with_reducible exact ih2 _ _)
     | (with_reducible exact spec_l01Name.mono _ _)
     | (with_reducible exact spec_l07Ok.mono _ _)
     | (with_reducible exact LeO.refl _)
     | (with_reducible exact LeO.none _)
     | (with_reducible refine LeO.ite ?_ ?_)
     | (with_reducible refine LeO.bind ?_ (fun _ => ?_))
     | exact ih0 _ _
     | exact ih1 _ _
     | exact ih2 _ _
     | exact spec_l01Name.mono _ _
     | exact spec_l07Ok.mono _ _
     | exact LeO.none _
     | refine LeO.ite ?_ ?_
     | refine LeO.bind ?_ (fun _ => ?_)
   · intro y0 y1
     unfold spec_l09One.l0
     repeat' first
     | (with_reducible exact ih0 _ _)
     | (with_reducible exact ih1 _ _)
     | (with_reducible exact ih2 _ _)
     | (with_reducible exact spec_l01Name.mono _ _)
     | (with_reducible exact spec_l07Ok.mono _ _)
     | (with_reducible exact LeO.refl _)
     | (with_reducible exact LeO.none _)
     | (with_reducible refine LeO.ite ?_ ?_)
     | (with_reducible refine LeO.bind ?_ (fun _ => ?_))
     | exact ih0 _ _
     | exact ih1 _ _
     | exact ih2 _ _
     | exact spec_l01Name.mono _ _
     | exact spec_l07Ok.mono _ _
     | exact LeO.none _
     | refine LeO.ite ?_ ?_
     | refine LeO.bind ?_ (fun _ => ?_)
theorem spec_l09One.mono : ∀ a0 k, LeO (spec_l09One.f k a0) (spec_l09One.f (k + 1) a0) := by
 intro a0 k
 obtain ⟨ih0, ih1, ih2⟩ := spec_l09One.mono_l k
 unfold spec_l09One.f
 repeat' first
  | (with_reducible exact ih0 _ _)
  | (with_reducible exact ih1 _ _)
  | (with_reducible exact ih2 _ _)
  | (with_reducible exact spec_l01Name.mono _ _)
  | (with_reducible exact spec_l07Ok.mono _ _)
  | (with_reducible exact LeO.refl _)
  | (with_reducible exact LeO.none _)
  | (with_reducible refine LeO.ite ?_ ?_)
  | (with_reducible refine LeO.bind ?_ (fun _ => ?_))
  | exact ih0 _ _
  | exact ih1 _ _
  | exact ih2 _ _
  | exact spec_l01Name.mono _ _
  | exact spec_l07Ok.mono _ _
  | exact LeO.none _
  | refine LeO.ite ?_ ?_
  | refine LeO.bind ?_ (fun _ => ?_)
def spec_l09One.T8 : Bool × List (List Nat × List Nat) := (true, [([], []), ([0], [0]), ([1], [1]), ([2], [2]), ([], []), ([3, 4], [3, 4]), ([], []), ([6], [6]), ([7], [7]), ([8], [8]), ([], []), ([10], [10]), ([11], [11]), ([12], [12]), ([5, 9, 13], [5, 9, 13]), ([14], [14])])
def spec_l09One.B8 : List Nat := [0, 1, 3, 7, 0, 31, 0, 64, 192, 448, 0, 1024, 3072, 7168, 16383, 32767]
theorem spec_l09One.tab8 : rtab .any (opsOf Try.f50 8) = spec_l09One.T8 := by kernel_rfl
theorem spec_l09One.bits8 : waitsOk spec_l09One.T8.2 spec_l09One.B8 = true := by kernel_rfl
set_option maxHeartbeats 8000000 in
set_option maxRecDepth 100000 in
theorem spec_l09One.calls (k : Nat) (A0 : Option Addr) (c0 : Nat) (l0 : List (S36)) (r : Bool) (w : World) (hr0 : Kd.C k36 w A0 l0.length l0) (hc0 : l0.length ≤ c0) (h : spec_l09One.f k l0 = some r) :
 Calls Try.prog 50 #[.pointer A0] w fun e w' => e = .returned (.bool r) ∧ Below w.heap.size w w' := by
 have HR0 := Aside0.mk hr0
 have HC0 := Aside0.mk hc0
 clear hr0 hc0
 have HB := Aside0.mk (Below.refl w.heap.size w)
 have H : (if 0 < (l0.length : Int) then ((spec_l01Name.f k ((rd_T36 l0 0).f0)).bind fun t272 => (if t272 = true then ((spec_l01Name.f k ((rd_T36 l0 0).f1)).bind fun t273 => (if t273 = true then ((spec_l00In.f ((rd_T36 l0 0).f2) 0 999).bind fun t274 => (if t274 = true then ((spec_l07Ok.f k [(rd_T36 l0 0).f3]).bind fun t275 => (spec_l09One.j0 k l0 (!t275))) else (spec_l09One.j0 k l0 true))) else (spec_l09One.j0 k l0 true))) else (spec_l09One.j0 k l0 true))) else (none)) = some r := h
 clear h
 have HC2 := Aside0.mk H
 clear H
 go_enter Try.func50, Try.ntmps50
 go_upto_region 1 with (fail)
 go_cut [32] (fun v32 wc => ∃ (kq : Nat) (x32_1 : Bool), v32 = .bool x32_1 ∧ Aside0 (spec_l09One.j0 kq l0 x32_1 = some r) ∧ Aside0 (kq ≤ k) ∧ Aside0 (Below w.heap.size w wc))
 case first =>
  have H := HC2.out
  clear HC2
  by_cases c3 : 0 < (l0.length : Int)
  rotate_left
  · rw [if_neg c3] at H
    exact absurd H (by simp)
  rw [if_pos c3] at H
  have c3b0 := decide_eq_true c3
  have c3b1 : decide (0 < l0.length) = true := decide_eq_true (by omega)
  clear c3
  (first | rw [c3b0] | (simp only [i64_w, i32_w]; rw [c3b0]) | skip)
  replace H := Option.bind_eq_some_iff.mp H
  obtain ⟨t272, A40, H⟩ := H
  have A4 := Aside0.mk A40
  clear A40
  by_cases c5 : t272 = true
  rotate_left
  · replace c5 := Bool.eq_false_iff.mpr c5
    subst c5
    have H1 : (spec_l09One.j0 k l0 true) = some r := by rw [if_neg (show ¬ (false = true) by decide)] at H; exact H
    clear H
    have H := H1
    clear H1
    have H' := Aside0.mk H
    clear H
    have p271 : 0 ≤ (0 : Int) := (by omega)
    have q271 : 0 < (l0.length : Int) := zD
    obtain ⟨ad271, A271_8, c271_8, e271, hx271_0, hx271_1, hx271_2, hx271_3, hx271_4, hx271_5, hx271_6, hx271_7, hx271_8, hl271_8, hi271_8⟩ := at_T36 HR0.out 0 p271 q271
    cases e271
    have qi271 : (0 < l0.length) = True := eq_true (by omega)
    (try rw [z0, Nat.zero_mul, Addr.add_zero'] at hx271_0)
    (try rw [z0, Nat.zero_mul, Addr.add_zero'] at hx271_1)
    (try rw [z0, Nat.zero_mul, Addr.add_zero'] at hx271_2)
    (try rw [z0, Nat.zero_mul, Addr.add_zero'] at hx271_3)
    (try rw [z0, Nat.zero_mul, Addr.add_zero'] at hx271_4)
    (try rw [z0, Nat.zero_mul, Addr.add_zero'] at hx271_5)
    (try rw [z0, Nat.zero_mul, Addr.add_zero'] at hx271_6)
    (try rw [z0, Nat.zero_mul, Addr.add_zero'] at hx271_7)
    (try rw [z0, Nat.zero_mul, Addr.add_zero'] at hx271_8)
    try replace hx271_0 := zH HB hx271_0
    try replace hx271_1 := zH HB hx271_1
    try replace hx271_2 := zH HB hx271_2
    try replace hx271_3 := zH HB hx271_3
    try replace hx271_4 := zH HB hx271_4
    try replace hx271_5 := zH HB hx271_5
    try replace hx271_6 := zH HB hx271_6
    try replace hx271_7 := zH HB hx271_7
    try replace hx271_8 := zH HB hx271_8
    have HR271_8 := Aside0.mk hi271_8
    have HC271_8 := Aside0.mk hl271_8
    clear hi271_8 hl271_8
    replace p271 := eq_true p271
    replace q271 := eq_true q271
    go_wp2_with (first | ((with_reducible refine gate_callee (f := 91) rfl ?_); refine goesL_ (some 8) rfl rfl Try.func91 (by kernel_rfl) rfl #[.string ((rd_T36 l0 0).f0)] rfl pA ?_; (with_reducible refine (spec_l01Name.calls k ((rd_T36 l0 0).f0) false _ A4.out).mono ?_); rintro e w' ⟨rfl, ⟨nd, rfl⟩⟩; refine ⟨_, rfl, ?_⟩))
    go_meet
    case rel => exact ⟨_, (true), zR, H', ⟨by first | omega | exact Nat.le_refl _⟩, ⟨pB0 HB.out⟩⟩
  subst c5
  have H1 : ((spec_l01Name.f k ((rd_T36 l0 0).f1)).bind fun t273 => (if t273 = true then ((spec_l00In.f ((rd_T36 l0 0).f2) 0 999).bind fun t274 => (if t274 = true then ((spec_l07Ok.f k [(rd_T36 l0 0).f3]).bind fun t275 => (spec_l09One.j0 k l0 (!t275))) else (spec_l09One.j0 k l0 true))) else (spec_l09One.j0 k l0 true))) = some r := by rw [if_pos rfl] at H; exact H
  clear H
  have H := H1
  clear H1
  replace H := Option.bind_eq_some_iff.mp H
  obtain ⟨t273, A60, H⟩ := H
  have A6 := Aside0.mk A60
  clear A60
  by_cases c7 : t273 = true
  rotate_left
  · replace c7 := Bool.eq_false_iff.mpr c7
    subst c7
    have H1 : (spec_l09One.j0 k l0 true) = some r := by rw [if_neg (show ¬ (false = true) by decide)] at H; exact H
    clear H
    have H := H1
    clear H1
    have H' := Aside0.mk H
    clear H
    have p271 : 0 ≤ (0 : Int) := (by omega)
    have q271 : 0 < (l0.length : Int) := zD
    obtain ⟨ad271, A271_8, c271_8, e271, hx271_0, hx271_1, hx271_2, hx271_3, hx271_4, hx271_5, hx271_6, hx271_7, hx271_8, hl271_8, hi271_8⟩ := at_T36 HR0.out 0 p271 q271
    cases e271
    have qi271 : (0 < l0.length) = True := eq_true (by omega)
    (try rw [z0, Nat.zero_mul, Addr.add_zero'] at hx271_0)
    (try rw [z0, Nat.zero_mul, Addr.add_zero'] at hx271_1)
    (try rw [z0, Nat.zero_mul, Addr.add_zero'] at hx271_2)
    (try rw [z0, Nat.zero_mul, Addr.add_zero'] at hx271_3)
    (try rw [z0, Nat.zero_mul, Addr.add_zero'] at hx271_4)
    (try rw [z0, Nat.zero_mul, Addr.add_zero'] at hx271_5)
    (try rw [z0, Nat.zero_mul, Addr.add_zero'] at hx271_6)
    (try rw [z0, Nat.zero_mul, Addr.add_zero'] at hx271_7)
    (try rw [z0, Nat.zero_mul, Addr.add_zero'] at hx271_8)
    try replace hx271_0 := zH HB hx271_0
    try replace hx271_1 := zH HB hx271_1
    try replace hx271_2 := zH HB hx271_2
    try replace hx271_3 := zH HB hx271_3
    try replace hx271_4 := zH HB hx271_4
    try replace hx271_5 := zH HB hx271_5
    try replace hx271_6 := zH HB hx271_6
    try replace hx271_7 := zH HB hx271_7
    try replace hx271_8 := zH HB hx271_8
    have HR271_8 := Aside0.mk hi271_8
    have HC271_8 := Aside0.mk hl271_8
    clear hi271_8 hl271_8
    replace p271 := eq_true p271
    replace q271 := eq_true q271
    go_wp2_with (first | ((with_reducible refine gate_callee (f := 91) rfl ?_); refine goesL_ (some 8) rfl rfl Try.func91 (by kernel_rfl) rfl #[.string ((rd_T36 l0 0).f0)] rfl pA ?_; (with_reducible refine (spec_l01Name.calls k ((rd_T36 l0 0).f0) true _ A4.out).mono ?_); rintro e w' ⟨rfl, ⟨nd, rfl⟩⟩; refine ⟨_, rfl, ?_⟩) | (go_at_call 91; (with_reducible refine (spec_l01Name.calls k ((rd_T36 l0 0).f1) false _ A6.out).mono ?_); rintro e w' ⟨rfl, ⟨nd, rfl⟩⟩))
    go_meet
    case rel => exact ⟨_, (true), zR, H', ⟨by first | omega | exact Nat.le_refl _⟩, ⟨pB0 HB.out⟩⟩
  subst c7
  have H1 : ((spec_l00In.f ((rd_T36 l0 0).f2) 0 999).bind fun t274 => (if t274 = true then ((spec_l07Ok.f k [(rd_T36 l0 0).f3]).bind fun t275 => (spec_l09One.j0 k l0 (!t275))) else (spec_l09One.j0 k l0 true))) = some r := by rw [if_pos rfl] at H; exact H
  clear H
  have H := H1
  clear H1
  replace H := Option.bind_eq_some_iff.mp H
  obtain ⟨t274, A80, H⟩ := H
  have A8 := Aside0.mk A80
  clear A80
  by_cases c9 : t274 = true
  rotate_left
  · replace c9 := Bool.eq_false_iff.mpr c9
    subst c9
    have H1 : (spec_l09One.j0 k l0 true) = some r := by rw [if_neg (show ¬ (false = true) by decide)] at H; exact H
    clear H
    have H := H1
    clear H1
    have H' := Aside0.mk H
    clear H
    have p271 : 0 ≤ (0 : Int) := (by omega)
    have q271 : 0 < (l0.length : Int) := zD
    obtain ⟨ad271, A271_8, c271_8, e271, hx271_0, hx271_1, hx271_2, hx271_3, hx271_4, hx271_5, hx271_6, hx271_7, hx271_8, hl271_8, hi271_8⟩ := at_T36 HR0.out 0 p271 q271
    cases e271
    have qi271 : (0 < l0.length) = True := eq_true (by omega)
    (try rw [z0, Nat.zero_mul, Addr.add_zero'] at hx271_0)
    (try rw [z0, Nat.zero_mul, Addr.add_zero'] at hx271_1)
    (try rw [z0, Nat.zero_mul, Addr.add_zero'] at hx271_2)
    (try rw [z0, Nat.zero_mul, Addr.add_zero'] at hx271_3)
    (try rw [z0, Nat.zero_mul, Addr.add_zero'] at hx271_4)
    (try rw [z0, Nat.zero_mul, Addr.add_zero'] at hx271_5)
    (try rw [z0, Nat.zero_mul, Addr.add_zero'] at hx271_6)
    (try rw [z0, Nat.zero_mul, Addr.add_zero'] at hx271_7)
    (try rw [z0, Nat.zero_mul, Addr.add_zero'] at hx271_8)
    try replace hx271_0 := zH HB hx271_0
    try replace hx271_1 := zH HB hx271_1
    try replace hx271_2 := zH HB hx271_2
    try replace hx271_3 := zH HB hx271_3
    try replace hx271_4 := zH HB hx271_4
    try replace hx271_5 := zH HB hx271_5
    try replace hx271_6 := zH HB hx271_6
    try replace hx271_7 := zH HB hx271_7
    try replace hx271_8 := zH HB hx271_8
    have HR271_8 := Aside0.mk hi271_8
    have HC271_8 := Aside0.mk hl271_8
    clear hi271_8 hl271_8
    replace p271 := eq_true p271
    replace q271 := eq_true q271
    go_wp2_with (first | ((with_reducible refine gate_callee (f := 91) rfl ?_); refine goesL_ (some 8) rfl rfl Try.func91 (by kernel_rfl) rfl #[.string ((rd_T36 l0 0).f0)] rfl pA ?_; (with_reducible refine (spec_l01Name.calls k ((rd_T36 l0 0).f0) true _ A4.out).mono ?_); rintro e w' ⟨rfl, ⟨nd, rfl⟩⟩; refine ⟨_, rfl, ?_⟩) | (go_at_call 91; (with_reducible refine (spec_l01Name.calls k ((rd_T36 l0 0).f1) true _ A6.out).mono ?_); rintro e w' ⟨rfl, ⟨nd, rfl⟩⟩) | (go_at_call 81; (with_reducible refine (spec_l00In.calls ((rd_T36 l0 0).f2) 0 999 false _ A8.out).mono ?_); rintro e w' ⟨rfl, ⟨nd, rfl⟩⟩))
    go_meet
    case rel => exact ⟨_, (true), zR, H', ⟨by first | omega | exact Nat.le_refl _⟩, ⟨pB0 HB.out⟩⟩
  subst c9
  have H1 : ((spec_l07Ok.f k [(rd_T36 l0 0).f3]).bind fun t275 => (spec_l09One.j0 k l0 (!t275))) = some r := by rw [if_pos rfl] at H; exact H
  clear H
  have H := H1
  clear H1
  replace H := Option.bind_eq_some_iff.mp H
  obtain ⟨t275, A100, H⟩ := H
  have A10 := Aside0.mk A100
  clear A100
  have H' := Aside0.mk H
  clear H
  have p271 : 0 ≤ (0 : Int) := (by omega)
  have q271 : 0 < (l0.length : Int) := zD
  obtain ⟨ad271, A271_8, c271_8, e271, hx271_0, hx271_1, hx271_2, hx271_3, hx271_4, hx271_5, hx271_6, hx271_7, hx271_8, hl271_8, hi271_8⟩ := at_T36 HR0.out 0 p271 q271
  cases e271
  have qi271 : (0 < l0.length) = True := eq_true (by omega)
  (try rw [z0, Nat.zero_mul, Addr.add_zero'] at hx271_0)
  (try rw [z0, Nat.zero_mul, Addr.add_zero'] at hx271_1)
  (try rw [z0, Nat.zero_mul, Addr.add_zero'] at hx271_2)
  (try rw [z0, Nat.zero_mul, Addr.add_zero'] at hx271_3)
  (try rw [z0, Nat.zero_mul, Addr.add_zero'] at hx271_4)
  (try rw [z0, Nat.zero_mul, Addr.add_zero'] at hx271_5)
  (try rw [z0, Nat.zero_mul, Addr.add_zero'] at hx271_6)
  (try rw [z0, Nat.zero_mul, Addr.add_zero'] at hx271_7)
  (try rw [z0, Nat.zero_mul, Addr.add_zero'] at hx271_8)
  try replace hx271_0 := zH HB hx271_0
  try replace hx271_1 := zH HB hx271_1
  try replace hx271_2 := zH HB hx271_2
  try replace hx271_3 := zH HB hx271_3
  try replace hx271_4 := zH HB hx271_4
  try replace hx271_5 := zH HB hx271_5
  try replace hx271_6 := zH HB hx271_6
  try replace hx271_7 := zH HB hx271_7
  try replace hx271_8 := zH HB hx271_8
  have HR271_8 := Aside0.mk hi271_8
  have HC271_8 := Aside0.mk hl271_8
  clear hi271_8 hl271_8
  replace p271 := eq_true p271
  replace q271 := eq_true q271
  go_wp2_with (first | ((with_reducible refine gate_callee (f := 91) rfl ?_); refine goesL_ (some 8) rfl rfl Try.func91 (by kernel_rfl) rfl #[.string ((rd_T36 l0 0).f0)] rfl pA ?_; (with_reducible refine (spec_l01Name.calls k ((rd_T36 l0 0).f0) true _ A4.out).mono ?_); rintro e w' ⟨rfl, ⟨nd, rfl⟩⟩; refine ⟨_, rfl, ?_⟩) | (go_at_call 91; (with_reducible refine (spec_l01Name.calls k ((rd_T36 l0 0).f1) true _ A6.out).mono ?_); rintro e w' ⟨rfl, ⟨nd, rfl⟩⟩) | (go_at_call 81; (with_reducible refine (spec_l00In.calls ((rd_T36 l0 0).f2) 0 999 true _ A8.out).mono ?_); rintro e w' ⟨rfl, ⟨nd, rfl⟩⟩) | (go_at_call 92; (with_reducible refine (spec_l07Ok.calls k _ 1 [(rd_T36 l0 0).f3] t275 _ ?side1 ?side2 A10.out).mono ?_); (case side1 => exact C_three (k33_mk _ _) (by first | assumption | exact hx271_3) hx271_4 hx271_5); (case side2 => exact Nat.le_refl _); rintro e w11 ⟨rfl, hb⟩; replace HB := zW (pB0 HB.out) hb; (try clear hb); (try clear hb2); (try clear hk); (try clear hi)))
  go_meet
  case rel => exact ⟨_, (!t275), zR, H', ⟨by first | omega | exact Nat.le_refl _⟩, ⟨pB0 HB.out⟩⟩
 case rest =>
  clear HC2
  try clear c2
  try clear p2
  try clear q2
  try clear hx2
  try clear qi2
  try clear c3
  try clear c3b0
  try clear c3b1
  try clear c5
  try clear c7
  try clear c9
  try clear hx271_0
  try clear hx271_1
  try clear hx271_2
  try clear hx271_3
  try clear hx271_4
  try clear hx271_5
  try clear hx271_6
  try clear hx271_7
  try clear hx271_8
  try clear p271
  try clear q271
  obtain ⟨kq, x32_1, rfl, HA, HJ1, HB⟩ := hcut
  cases kq with
  | zero => exact absurd HA.out (by simp [spec_l09One.j0])
  | succ kj1 =>
    have H := HA.out
    clear HA
    simp only [spec_l09One.j0] at H
    by_cases c12 : x32_1 = true
    · subst c12
      have H1 : (some false) = some r := by rw [if_pos rfl] at H; exact H
      clear H
      have H := H1
      clear H1
      obtain rfl := Option.some.inj H
      go_wp2
      go_ret
      exact ⟨zE, pB0 HB.out⟩
    replace c12 := Bool.eq_false_iff.mpr c12
    subst c12
    have H1 : (if 0 < (l0.length : Int) then ((spec_l00In.f ((rd_T36 l0 0).f4) 10 20000).bind fun t277 => (if t277 = true then ((spec_l00In.f ((rd_T36 l0 0).f5) 10 20000).bind fun t278 => (if t278 = true then (spec_l09One.j1 kj1 l0 (decide ((((rd_T36 l0 0).f6).length : Int) > 6))) else (spec_l09One.j1 kj1 l0 true))) else (spec_l09One.j1 kj1 l0 true))) else (none)) = some r := by rw [if_neg (show ¬ (false = true) by decide)] at H; exact H
    clear H
    have H := H1
    clear H1
    have HC13 := Aside0.mk H
    clear H
    go_upto_region 3 with (fail)
    go_cut [54] (fun v54 wc => ∃ (kq : Nat) (x54_12 : Bool), v54 = .bool x54_12 ∧ Aside0 (spec_l09One.j1 kq l0 x54_12 = some r) ∧ Aside0 (kq ≤ kj1) ∧ Aside0 (Below w.heap.size w wc))
    case first =>
     have H := HC13.out
     clear HC13
     by_cases c14 : 0 < (l0.length : Int)
     rotate_left
     · rw [if_neg c14] at H
       exact absurd H (by simp)
     rw [if_pos c14] at H
     have c14b0 := decide_eq_true c14
     have c14b1 : decide (0 < l0.length) = true := decide_eq_true (by omega)
     clear c14
     (first | rw [c14b0] | (simp only [i64_w, i32_w]; rw [c14b0]) | skip)
     replace H := Option.bind_eq_some_iff.mp H
     obtain ⟨t277, A150, H⟩ := H
     have A15 := Aside0.mk A150
     clear A150
     by_cases c16 : t277 = true
     rotate_left
     · replace c16 := Bool.eq_false_iff.mpr c16
       subst c16
       have H1 : (spec_l09One.j1 kj1 l0 true) = some r := by rw [if_neg (show ¬ (false = true) by decide)] at H; exact H
       clear H
       have H := H1
       clear H1
       have H' := Aside0.mk H
       clear H
       have p276 : 0 ≤ (0 : Int) := (by omega)
       have q276 : 0 < (l0.length : Int) := zD
       obtain ⟨ad276, A276_8, c276_8, e276, hx276_0, hx276_1, hx276_2, hx276_3, hx276_4, hx276_5, hx276_6, hx276_7, hx276_8, hl276_8, hi276_8⟩ := at_T36 HR0.out 0 p276 q276
       cases e276
       have qi276 : (0 < l0.length) = True := eq_true (by omega)
       (try rw [z0, Nat.zero_mul, Addr.add_zero'] at hx276_0)
       (try rw [z0, Nat.zero_mul, Addr.add_zero'] at hx276_1)
       (try rw [z0, Nat.zero_mul, Addr.add_zero'] at hx276_2)
       (try rw [z0, Nat.zero_mul, Addr.add_zero'] at hx276_3)
       (try rw [z0, Nat.zero_mul, Addr.add_zero'] at hx276_4)
       (try rw [z0, Nat.zero_mul, Addr.add_zero'] at hx276_5)
       (try rw [z0, Nat.zero_mul, Addr.add_zero'] at hx276_6)
       (try rw [z0, Nat.zero_mul, Addr.add_zero'] at hx276_7)
       (try rw [z0, Nat.zero_mul, Addr.add_zero'] at hx276_8)
       try replace hx276_0 := zH HB hx276_0
       try replace hx276_1 := zH HB hx276_1
       try replace hx276_2 := zH HB hx276_2
       try replace hx276_3 := zH HB hx276_3
       try replace hx276_4 := zH HB hx276_4
       try replace hx276_5 := zH HB hx276_5
       try replace hx276_6 := zH HB hx276_6
       try replace hx276_7 := zH HB hx276_7
       try replace hx276_8 := zH HB hx276_8
       have HR276_8 := Aside0.mk hi276_8
       have HC276_8 := Aside0.mk hl276_8
       clear hi276_8 hl276_8
       replace p276 := eq_true p276
       replace q276 := eq_true q276
       go_wp2_with (first | ((with_reducible refine gate_callee (f := 81) rfl ?_); refine goesL_ (some 37) rfl rfl Try.func81 (by kernel_rfl) rfl #[.int .i64 ((rd_T36 l0 0).f4), .int .i64 10, .int .i64 20000] rfl pA ?_; (with_reducible refine (spec_l00In.calls ((rd_T36 l0 0).f4) 10 20000 false _ A15.out).mono ?_); rintro e w' ⟨rfl, ⟨nd, rfl⟩⟩; refine ⟨_, rfl, ?_⟩))
       go_meet
       case rel => exact ⟨_, (true), zR, H', ⟨by have := HJ1.out; first | omega | exact Nat.le_refl _⟩, ⟨pB0 HB.out⟩⟩
     subst c16
     have H1 : ((spec_l00In.f ((rd_T36 l0 0).f5) 10 20000).bind fun t278 => (if t278 = true then (spec_l09One.j1 kj1 l0 (decide ((((rd_T36 l0 0).f6).length : Int) > 6))) else (spec_l09One.j1 kj1 l0 true))) = some r := by rw [if_pos rfl] at H; exact H
     clear H
     have H := H1
     clear H1
     replace H := Option.bind_eq_some_iff.mp H
     obtain ⟨t278, A170, H⟩ := H
     have A17 := Aside0.mk A170
     clear A170
     by_cases c18 : t278 = true
     · subst c18
       have H1 : (spec_l09One.j1 kj1 l0 (decide ((((rd_T36 l0 0).f6).length : Int) > 6))) = some r := by rw [if_pos rfl] at H; exact H
       clear H
       have H := H1
       clear H1
       have H' := Aside0.mk H
       clear H
       have p276 : 0 ≤ (0 : Int) := (by omega)
       have q276 : 0 < (l0.length : Int) := zD
       obtain ⟨ad276, A276_8, c276_8, e276, hx276_0, hx276_1, hx276_2, hx276_3, hx276_4, hx276_5, hx276_6, hx276_7, hx276_8, hl276_8, hi276_8⟩ := at_T36 HR0.out 0 p276 q276
       cases e276
       have qi276 : (0 < l0.length) = True := eq_true (by omega)
       (try rw [z0, Nat.zero_mul, Addr.add_zero'] at hx276_0)
       (try rw [z0, Nat.zero_mul, Addr.add_zero'] at hx276_1)
       (try rw [z0, Nat.zero_mul, Addr.add_zero'] at hx276_2)
       (try rw [z0, Nat.zero_mul, Addr.add_zero'] at hx276_3)
       (try rw [z0, Nat.zero_mul, Addr.add_zero'] at hx276_4)
       (try rw [z0, Nat.zero_mul, Addr.add_zero'] at hx276_5)
       (try rw [z0, Nat.zero_mul, Addr.add_zero'] at hx276_6)
       (try rw [z0, Nat.zero_mul, Addr.add_zero'] at hx276_7)
       (try rw [z0, Nat.zero_mul, Addr.add_zero'] at hx276_8)
       try replace hx276_0 := zH HB hx276_0
       try replace hx276_1 := zH HB hx276_1
       try replace hx276_2 := zH HB hx276_2
       try replace hx276_3 := zH HB hx276_3
       try replace hx276_4 := zH HB hx276_4
       try replace hx276_5 := zH HB hx276_5
       try replace hx276_6 := zH HB hx276_6
       try replace hx276_7 := zH HB hx276_7
       try replace hx276_8 := zH HB hx276_8
       have HR276_8 := Aside0.mk hi276_8
       have HC276_8 := Aside0.mk hl276_8
       clear hi276_8 hl276_8
       replace p276 := eq_true p276
       replace q276 := eq_true q276
       go_wp2_with (first | ((with_reducible refine gate_callee (f := 81) rfl ?_); refine goesL_ (some 37) rfl rfl Try.func81 (by kernel_rfl) rfl #[.int .i64 ((rd_T36 l0 0).f4), .int .i64 10, .int .i64 20000] rfl pA ?_; (with_reducible refine (spec_l00In.calls ((rd_T36 l0 0).f4) 10 20000 true _ A15.out).mono ?_); rintro e w' ⟨rfl, ⟨nd, rfl⟩⟩; refine ⟨_, rfl, ?_⟩) | (go_at_call 81; (with_reducible refine (spec_l00In.calls ((rd_T36 l0 0).f5) 10 20000 true _ A17.out).mono ?_); rintro e w' ⟨rfl, ⟨nd, rfl⟩⟩))
       go_meet
       case rel => exact ⟨_, (decide ((((rd_T36 l0 0).f6).length : Int) > 6)), zR, H', ⟨by have := HJ1.out; first | omega | exact Nat.le_refl _⟩, ⟨pB0 HB.out⟩⟩
     replace c18 := Bool.eq_false_iff.mpr c18
     subst c18
     have H1 : (spec_l09One.j1 kj1 l0 true) = some r := by rw [if_neg (show ¬ (false = true) by decide)] at H; exact H
     clear H
     have H := H1
     clear H1
     have H' := Aside0.mk H
     clear H
     have p276 : 0 ≤ (0 : Int) := (by omega)
     have q276 : 0 < (l0.length : Int) := zD
     obtain ⟨ad276, A276_8, c276_8, e276, hx276_0, hx276_1, hx276_2, hx276_3, hx276_4, hx276_5, hx276_6, hx276_7, hx276_8, hl276_8, hi276_8⟩ := at_T36 HR0.out 0 p276 q276
     cases e276
     have qi276 : (0 < l0.length) = True := eq_true (by omega)
     (try rw [z0, Nat.zero_mul, Addr.add_zero'] at hx276_0)
     (try rw [z0, Nat.zero_mul, Addr.add_zero'] at hx276_1)
     (try rw [z0, Nat.zero_mul, Addr.add_zero'] at hx276_2)
     (try rw [z0, Nat.zero_mul, Addr.add_zero'] at hx276_3)
     (try rw [z0, Nat.zero_mul, Addr.add_zero'] at hx276_4)
     (try rw [z0, Nat.zero_mul, Addr.add_zero'] at hx276_5)
     (try rw [z0, Nat.zero_mul, Addr.add_zero'] at hx276_6)
     (try rw [z0, Nat.zero_mul, Addr.add_zero'] at hx276_7)
     (try rw [z0, Nat.zero_mul, Addr.add_zero'] at hx276_8)
     try replace hx276_0 := zH HB hx276_0
     try replace hx276_1 := zH HB hx276_1
     try replace hx276_2 := zH HB hx276_2
     try replace hx276_3 := zH HB hx276_3
     try replace hx276_4 := zH HB hx276_4
     try replace hx276_5 := zH HB hx276_5
     try replace hx276_6 := zH HB hx276_6
     try replace hx276_7 := zH HB hx276_7
     try replace hx276_8 := zH HB hx276_8
     have HR276_8 := Aside0.mk hi276_8
     have HC276_8 := Aside0.mk hl276_8
     clear hi276_8 hl276_8
     replace p276 := eq_true p276
     replace q276 := eq_true q276
     go_wp2_with (first | ((with_reducible refine gate_callee (f := 81) rfl ?_); refine goesL_ (some 37) rfl rfl Try.func81 (by kernel_rfl) rfl #[.int .i64 ((rd_T36 l0 0).f4), .int .i64 10, .int .i64 20000] rfl pA ?_; (with_reducible refine (spec_l00In.calls ((rd_T36 l0 0).f4) 10 20000 true _ A15.out).mono ?_); rintro e w' ⟨rfl, ⟨nd, rfl⟩⟩; refine ⟨_, rfl, ?_⟩) | (go_at_call 81; (with_reducible refine (spec_l00In.calls ((rd_T36 l0 0).f5) 10 20000 false _ A17.out).mono ?_); rintro e w' ⟨rfl, ⟨nd, rfl⟩⟩))
     go_meet
     case rel => exact ⟨_, (true), zR, H', ⟨by have := HJ1.out; first | omega | exact Nat.le_refl _⟩, ⟨pB0 HB.out⟩⟩
    case rest =>
     clear HC13
     try clear c1
     try clear c2
     try clear p2
     try clear q2
     try clear hx2
     try clear qi2
     try clear c3
     try clear c3b0
     try clear c3b1
     try clear c5
     try clear c7
     try clear c8
     try clear c9
     try clear c12
     try clear c14
     try clear c14b0
     try clear c14b1
     try clear c16
     try clear c18
     try clear hx271_0
     try clear hx271_1
     try clear hx271_2
     try clear hx271_3
     try clear hx271_4
     try clear hx271_5
     try clear hx271_6
     try clear hx271_7
     try clear hx271_8
     try clear hx276_0
     try clear hx276_1
     try clear hx276_2
     try clear hx276_3
     try clear hx276_4
     try clear hx276_5
     try clear hx276_6
     try clear hx276_7
     try clear hx276_8
     try clear p2
     try clear p271
     try clear p276
     try clear q2
     try clear q271
     try clear q276
     obtain ⟨kq, x54_12, rfl, HA, HJ12, HB⟩ := hcut
     cases kq with
     | zero => exact absurd HA.out (by simp [spec_l09One.j1])
     | succ kj12 =>
       have H := HA.out
       clear HA
       simp only [spec_l09One.j1] at H
       by_cases c19 : x54_12 = true
       · subst c19
         have H1 : (some false) = some r := by rw [if_pos rfl] at H; exact H
         clear H
         have H := H1
         clear H1
         obtain rfl := Option.some.inj H
         go_wp2
         go_ret
         exact ⟨zE, pB0 HB.out⟩
       replace c19 := Bool.eq_false_iff.mpr c19
       subst c19
       have H1 : (spec_l09One.l0 kj12 l0 0) = some r := by rw [if_neg (show ¬ (false = true) by decide)] at H; exact H
       clear H
       have H := H1
       clear H1
       have H' := Aside0.mk H
       clear H
       go_wp2
       go_loopg [3] kj12 (fun kq v3 w' => ∃ (x3_3 : Int), v3 = .int .i64 x3_3 ∧ Aside0 (spec_l09One.l0 kq l0 x3_3 = some r) ∧ Aside0 (kq ≤ kj12) ∧ Aside0 (Below w.heap.size w w'))
       case atStart => exact ⟨(0), zR, H', ⟨Nat.le_refl _⟩, ⟨pB0 HB.out⟩⟩
       case round =>
        clear H'
        try clear c1
        try clear c2
        try clear p2
        try clear q2
        try clear hx2
        try clear qi2
        try clear c3
        try clear c3b0
        try clear c3b1
        try clear c5
        try clear c7
        try clear c8
        try clear c9
        try clear c12
        try clear c14
        try clear c14b0
        try clear c14b1
        try clear c16
        try clear c18
        try clear c19
        try clear hx271_0
        try clear hx271_1
        try clear hx271_2
        try clear hx271_3
        try clear hx271_4
        try clear hx271_5
        try clear hx271_6
        try clear hx271_7
        try clear hx271_8
        try clear hx276_0
        try clear hx276_1
        try clear hx276_2
        try clear hx276_3
        try clear hx276_4
        try clear hx276_5
        try clear hx276_6
        try clear hx276_7
        try clear hx276_8
        try clear p2
        try clear p271
        try clear p276
        try clear q2
        try clear q271
        try clear q276
        obtain ⟨x3_3, rfl, HA, HK3, HB⟩ := hrel
        cases gk with
        | zero => exact absurd HA.out (by simp [spec_l09One.l0])
        | succ k3 =>
          have H := HA.out
          clear HA
          simp only [spec_l09One.l0] at H
          by_cases c20 : 0 < (l0.length : Int)
          rotate_left
          · rw [if_neg c20] at H
            exact absurd H (by simp)
          rw [if_pos c20] at H
          have c20b0 := decide_eq_true c20
          have c20b1 : decide (0 < l0.length) = true := decide_eq_true (by omega)
          clear c20
          by_cases c21 : x3_3 < (((rd_T36 l0 0).f6).length : Int)
          rotate_left
          · rw [if_neg c21] at H
            have c21b0 : decide (x3_3 < (((rd_T36 l0 0).f6).length : Int)) = false := decide_eq_false c21
            clear c21
            obtain rfl := Option.some.inj H
            have p279 : 0 ≤ (0 : Int) := (by omega)
            have q279 : 0 < (l0.length : Int) := zD
            obtain ⟨ad279, A279_8, c279_8, e279, hx279_0, hx279_1, hx279_2, hx279_3, hx279_4, hx279_5, hx279_6, hx279_7, hx279_8, hl279_8, hi279_8⟩ := at_T36 HR0.out 0 p279 q279
            cases e279
            have qi279 : (0 < l0.length) = True := eq_true (by omega)
            (try rw [z0, Nat.zero_mul, Addr.add_zero'] at hx279_0)
            (try rw [z0, Nat.zero_mul, Addr.add_zero'] at hx279_1)
            (try rw [z0, Nat.zero_mul, Addr.add_zero'] at hx279_2)
            (try rw [z0, Nat.zero_mul, Addr.add_zero'] at hx279_3)
            (try rw [z0, Nat.zero_mul, Addr.add_zero'] at hx279_4)
            (try rw [z0, Nat.zero_mul, Addr.add_zero'] at hx279_5)
            (try rw [z0, Nat.zero_mul, Addr.add_zero'] at hx279_6)
            (try rw [z0, Nat.zero_mul, Addr.add_zero'] at hx279_7)
            (try rw [z0, Nat.zero_mul, Addr.add_zero'] at hx279_8)
            try replace hx279_0 := zH HB hx279_0
            try replace hx279_1 := zH HB hx279_1
            try replace hx279_2 := zH HB hx279_2
            try replace hx279_3 := zH HB hx279_3
            try replace hx279_4 := zH HB hx279_4
            try replace hx279_5 := zH HB hx279_5
            try replace hx279_6 := zH HB hx279_6
            try replace hx279_7 := zH HB hx279_7
            try replace hx279_8 := zH HB hx279_8
            have HR279_8 := Aside0.mk hi279_8
            have HC279_8 := Aside0.mk hl279_8
            clear hi279_8 hl279_8
            replace p279 := eq_true p279
            replace q279 := eq_true q279
            go_wp2
            go_ret
            exact ⟨zE, pB0 HB.out⟩
          rw [if_pos c21] at H
          have c21b0 := decide_eq_true c21
          clear c21
          by_cases c22 : 0 ≤ x3_3
          rotate_left
          · rw [if_neg c22] at H
            exact absurd H (by simp)
          rw [if_pos c22] at H
          have c22b0 := decide_eq_true c22
          clear c22
          replace H := Option.bind_eq_some_iff.mp H
          obtain ⟨t282, A230, H⟩ := H
          have A23 := Aside0.mk A230
          clear A230
          by_cases c24 : t282 = true
          rotate_left
          · replace c24 := Bool.eq_false_iff.mpr c24
            subst c24
            have H1 : (some false) = some r := by rw [if_neg (show ¬ (false = true) by decide)] at H; exact H
            clear H
            have H := H1
            clear H1
            obtain rfl := Option.some.inj H
            have p279 : 0 ≤ (0 : Int) := (by omega)
            have q279 : 0 < (l0.length : Int) := zD
            obtain ⟨ad279, A279_8, c279_8, e279, hx279_0, hx279_1, hx279_2, hx279_3, hx279_4, hx279_5, hx279_6, hx279_7, hx279_8, hl279_8, hi279_8⟩ := at_T36 HR0.out 0 p279 q279
            cases e279
            have qi279 : (0 < l0.length) = True := eq_true (by omega)
            (try rw [z0, Nat.zero_mul, Addr.add_zero'] at hx279_0)
            (try rw [z0, Nat.zero_mul, Addr.add_zero'] at hx279_1)
            (try rw [z0, Nat.zero_mul, Addr.add_zero'] at hx279_2)
            (try rw [z0, Nat.zero_mul, Addr.add_zero'] at hx279_3)
            (try rw [z0, Nat.zero_mul, Addr.add_zero'] at hx279_4)
            (try rw [z0, Nat.zero_mul, Addr.add_zero'] at hx279_5)
            (try rw [z0, Nat.zero_mul, Addr.add_zero'] at hx279_6)
            (try rw [z0, Nat.zero_mul, Addr.add_zero'] at hx279_7)
            (try rw [z0, Nat.zero_mul, Addr.add_zero'] at hx279_8)
            try replace hx279_0 := zH HB hx279_0
            try replace hx279_1 := zH HB hx279_1
            try replace hx279_2 := zH HB hx279_2
            try replace hx279_3 := zH HB hx279_3
            try replace hx279_4 := zH HB hx279_4
            try replace hx279_5 := zH HB hx279_5
            try replace hx279_6 := zH HB hx279_6
            try replace hx279_7 := zH HB hx279_7
            try replace hx279_8 := zH HB hx279_8
            have HR279_8 := Aside0.mk hi279_8
            have HC279_8 := Aside0.mk hl279_8
            clear hi279_8 hl279_8
            replace p279 := eq_true p279
            replace q279 := eq_true q279
            try go_wp2
            replace HB := Aside0.mk (below_drew1 HB.out)
            have p280 : 0 ≤ (0 : Int) := (by omega)
            have q280 : 0 < (l0.length : Int) := zD
            obtain ⟨ad280, A280_8, c280_8, e280, hx280_0, hx280_1, hx280_2, hx280_3, hx280_4, hx280_5, hx280_6, hx280_7, hx280_8, hl280_8, hi280_8⟩ := at_T36 HR0.out 0 p280 q280
            have hw280_8 := hx280_8
            (try rw [z0, Nat.zero_mul, Addr.add_zero'] at hw280_8)
            have hw280_7 := hx280_7
            (try rw [z0, Nat.zero_mul, Addr.add_zero'] at hw280_7)
            have hw280_6 := hx280_6
            (try rw [z0, Nat.zero_mul, Addr.add_zero'] at hw280_6)
            have hw280_5 := hx280_5
            (try rw [z0, Nat.zero_mul, Addr.add_zero'] at hw280_5)
            have hw280_4 := hx280_4
            (try rw [z0, Nat.zero_mul, Addr.add_zero'] at hw280_4)
            have hw280_3 := hx280_3
            (try rw [z0, Nat.zero_mul, Addr.add_zero'] at hw280_3)
            have hw280_2 := hx280_2
            (try rw [z0, Nat.zero_mul, Addr.add_zero'] at hw280_2)
            have hw280_1 := hx280_1
            (try rw [z0, Nat.zero_mul, Addr.add_zero'] at hw280_1)
            have hw280_0 := hx280_0
            (try rw [z0, Nat.zero_mul, Addr.add_zero'] at hw280_0)
            obtain rfl : ad279 = ad280 := (by injection e280)
            have qi280 : (0 < l0.length) = True := eq_true (by omega)
            (try rw [z0, Nat.zero_mul, Addr.add_zero'] at hx280_0)
            (try rw [z0, Nat.zero_mul, Addr.add_zero'] at hx280_1)
            (try rw [z0, Nat.zero_mul, Addr.add_zero'] at hx280_2)
            (try rw [z0, Nat.zero_mul, Addr.add_zero'] at hx280_3)
            (try rw [z0, Nat.zero_mul, Addr.add_zero'] at hx280_4)
            (try rw [z0, Nat.zero_mul, Addr.add_zero'] at hx280_5)
            (try rw [z0, Nat.zero_mul, Addr.add_zero'] at hx280_6)
            (try rw [z0, Nat.zero_mul, Addr.add_zero'] at hx280_7)
            (try rw [z0, Nat.zero_mul, Addr.add_zero'] at hx280_8)
            try replace hx280_0 := zH HB hx280_0
            try replace hx280_1 := zH HB hx280_1
            try replace hx280_2 := zH HB hx280_2
            try replace hx280_3 := zH HB hx280_3
            try replace hx280_4 := zH HB hx280_4
            try replace hx280_5 := zH HB hx280_5
            try replace hx280_6 := zH HB hx280_6
            try replace hx280_7 := zH HB hx280_7
            try replace hx280_8 := zH HB hx280_8
            have HR280_8 := Aside0.mk hi280_8
            have HC280_8 := Aside0.mk hl280_8
            clear hi280_8 hl280_8
            replace p280 := eq_true p280
            replace q280 := eq_true q280
            have p281 : 0 ≤ (x3_3 : Int) := zD
            have q281 : x3_3 < (((rd_T36 l0 0).f6).length : Int) := zD
            obtain ⟨ad281, e281, hx281_0, hx281_1, hx281_2, hx281_3⟩ := at_T103 HR280_8.out x3_3 p281 q281
            have hw281_3 := hx281_3
            have hw281_2 := hx281_2
            have hw281_1 := hx281_1
            have hw281_0 := hx281_0
            cases e281
            try replace hx281_0 := zH HB hx281_0
            try replace hx281_1 := zH HB hx281_1
            try replace hx281_2 := zH HB hx281_2
            try replace hx281_3 := zH HB hx281_3
            replace p281 := eq_true p281
            replace q281 := eq_true q281
            refine start_ (n := 16) (S := fun w' => w'.cell? ad279 = some (.string ((rd_T36 l0 0).f0)) ∧ w'.cell? ⟨ad279.block, ad279.off + 1, none⟩ = some (.string ((rd_T36 l0 0).f1)) ∧ w'.cell? ⟨ad279.block, ad279.off + 2, none⟩ = some (.int .i64 ((rd_T36 l0 0).f2)) ∧ w'.cell? ⟨ad279.block, ad279.off + 3, none⟩ = some (.string ((rd_T36 l0 0).f3.f0)) ∧ w'.cell? ⟨ad279.block, ad279.off + 4, none⟩ = some (.int .i64 ((rd_T36 l0 0).f3.f1)) ∧ w'.cell? ⟨ad279.block, ad279.off + 5, none⟩ = some (.int .i64 ((rd_T36 l0 0).f3.f2)) ∧ w'.cell? ⟨ad279.block, ad279.off + 6, none⟩ = some (.int .i64 ((rd_T36 l0 0).f4)) ∧ w'.cell? ⟨ad279.block, ad279.off + 7, none⟩ = some (.int .i64 ((rd_T36 l0 0).f5)) ∧ w'.cell? ⟨ad279.block, ad279.off + 8, none⟩ = some (.slice (some ad281) ((rd_T36 l0 0).f6).length c280_8) ∧ w'.cell? (ad281.add ((x3_3).toNat * 4)) = some (.int .i64 ((rd_T103 ((rd_T36 l0 0).f6) x3_3).f0)) ∧ w'.cell? ⟨(ad281.add ((x3_3).toNat * 4)).block, (ad281.add ((x3_3).toNat * 4)).off + 1, none⟩ = some (.int .i64 ((rd_T103 ((rd_T36 l0 0).f6) x3_3).f1)) ∧ w'.cell? ⟨(ad281.add ((x3_3).toNat * 4)).block, (ad281.add ((x3_3).toNat * 4)).off + 2, none⟩ = some (.int .i64 ((rd_T103 ((rd_T36 l0 0).f6) x3_3).f2)) ∧ w'.cell? ⟨(ad281.add ((x3_3).toNat * 4)).block, (ad281.add ((x3_3).toNat * 4)).off + 3, none⟩ = some (.int .i64 ((rd_T103 ((rd_T36 l0 0).f6) x3_3).f3))) (ds := []) (Array.replicate 16 false) (by kernel_rfl) rfl rfl ⟨(zH HB hw280_0), (zH HB hw280_1), (zH HB hw280_2), (zH HB hw280_3), (zH HB hw280_4), (zH HB hw280_5), (zH HB hw280_6), (zH HB hw280_7), (zH HB hw280_8), (zH HB hw281_0), (zH HB hw281_1), (zH HB hw281_2), (zH HB hw281_3)⟩ (fun hHeld => ?_); refine with_tabW spec_l09One.tab8 spec_l09One.bits8 (fun HT_ HW_ => ?_)
            generalize wr.drew = w27 at HB HR280_8 hx280_0 hx280_1 hx280_2 hx280_3 hx280_4 hx280_5 hx280_6 hx280_7 hx280_8 hx281_0 hx281_1 hx281_2 hx281_3 hHeld ⊢
            refine zP 0 (some 64) (zb 16 1) HT_ ?_
            refine zP 1 (some 65) (zb 16 3) HT_ ?_
            refine zP 2 (some 66) (zb 16 7) HT_ ?_
            refine zP 4 (some 68) (zb 16 23) HT_ ?_
            refine zP 6 (some 70) (zb 16 87) HT_ ?_
            refine zP 7 (some 71) (zb 16 215) HT_ ?_
            refine zP 8 (some 72) (zb 16 471) HT_ ?_
            refine zP 10 (some 74) (zb 16 1495) HT_ ?_
            refine zP 11 (some 75) (zb 16 3543) HT_ ?_
            refine zP 12 (some 76) (zb 16 7639) HT_ ?_
            refine zT13 3 (some 67) (zb 16 7647) HT_ HW_ hHeld ?_
            refine zP 5 (some 69) (zb 16 7679) HT_ ?_
            refine zT13 9 (some 73) (zb 16 8191) HT_ HW_ hHeld ?_
            refine zT13 13 (some 77) (zb 16 16383) HT_ HW_ hHeld ?_
            refine one_ (i := 14) (N := some 78) (zb 16 32767) rfl rfl (one_of HT_.out (by kernel_rfl)) (by decide) (fun K hK => ?_)
            refine goes_ Try.func93 (by kernel_rfl) rfl #[.pointer (some (ad281.add ((x3_3).toNat * 4))), .int .i64 ((rd_T36 l0 0).f4), .int .i64 ((rd_T36 l0 0).f5)] (by rfl) rfl rfl pA ?_
            with_reducible refine (spec_l09Box.calls _ 1 [rd_T103 ((rd_T36 l0 0).f6) x3_3] ((rd_T36 l0 0).f4) ((rd_T36 l0 0).f5) false _ ?side1 ?side2 A23.out).mono ?_
            (case side1 => (first | exact C_el z103 (by exact pC (Kd.C_below HR280_8.out HB.out)) (x3_3) (by first | exact of_eq_true p281 | omega) (by first | exact of_eq_true q281 | omega) | (have hel_ := C_el z103 (show Kd.C k103 _ _ _ ((rd_T36 l0 0).f6) from by exact pC (Kd.C_below HR280_8.out HB.out)) (x3_3) (by first | exact of_eq_true p281 | omega) (by first | exact of_eq_true q281 | omega); first | exact hel_ | (simp [Go.Addr.add] at hel_ ⊢; exact hel_) | simpa using hel_)))
            (case side2 => exact Nat.le_refl _)
            rintro e w28 ⟨rfl, hb⟩
            refine ⟨_, rfl, ?_⟩
            replace HB := zW (pB0 HB.out) hb
            (try clear hb)
            (try clear hb2)
            (try clear hk)
            (try clear hi)
            refine hK.out _ _ ⟨(zH HB hw280_0), (zH HB hw280_1), (zH HB hw280_2), (zH HB hw280_3), (zH HB hw280_4), (zH HB hw280_5), (zH HB hw280_6), (zH HB hw280_7), (zH HB hw280_8), (zH HB hw281_0), (zH HB hw281_1), (zH HB hw281_2), (zH HB hw281_3)⟩ (fun hHeld => ?_)
            clear hK K
            refine zN ?_
            refine zP 15 (some 79) (zb 16 65535) HT_ ?_
            refine done_ (done_of HT_.out (by kernel_rfl)) ?_
            try go_wp2
            go_ret
            exact ⟨zE, pB0 HB.out⟩
          subst c24
          have H1 : (spec_l09One.l0 k3 l0 (wrap64 (x3_3 + 1))) = some r := by rw [if_pos rfl] at H; exact H
          clear H
          have H := H1
          clear H1
          have H' := Aside0.mk H
          clear H
          have p279 : 0 ≤ (0 : Int) := (by omega)
          have q279 : 0 < (l0.length : Int) := zD
          obtain ⟨ad279, A279_8, c279_8, e279, hx279_0, hx279_1, hx279_2, hx279_3, hx279_4, hx279_5, hx279_6, hx279_7, hx279_8, hl279_8, hi279_8⟩ := at_T36 HR0.out 0 p279 q279
          cases e279
          have qi279 : (0 < l0.length) = True := eq_true (by omega)
          (try rw [z0, Nat.zero_mul, Addr.add_zero'] at hx279_0)
          (try rw [z0, Nat.zero_mul, Addr.add_zero'] at hx279_1)
          (try rw [z0, Nat.zero_mul, Addr.add_zero'] at hx279_2)
          (try rw [z0, Nat.zero_mul, Addr.add_zero'] at hx279_3)
          (try rw [z0, Nat.zero_mul, Addr.add_zero'] at hx279_4)
          (try rw [z0, Nat.zero_mul, Addr.add_zero'] at hx279_5)
          (try rw [z0, Nat.zero_mul, Addr.add_zero'] at hx279_6)
          (try rw [z0, Nat.zero_mul, Addr.add_zero'] at hx279_7)
          (try rw [z0, Nat.zero_mul, Addr.add_zero'] at hx279_8)
          try replace hx279_0 := zH HB hx279_0
          try replace hx279_1 := zH HB hx279_1
          try replace hx279_2 := zH HB hx279_2
          try replace hx279_3 := zH HB hx279_3
          try replace hx279_4 := zH HB hx279_4
          try replace hx279_5 := zH HB hx279_5
          try replace hx279_6 := zH HB hx279_6
          try replace hx279_7 := zH HB hx279_7
          try replace hx279_8 := zH HB hx279_8
          have HR279_8 := Aside0.mk hi279_8
          have HC279_8 := Aside0.mk hl279_8
          clear hi279_8 hl279_8
          replace p279 := eq_true p279
          replace q279 := eq_true q279
          try go_wp2
          replace HB := Aside0.mk (below_drew1 HB.out)
          have p280 : 0 ≤ (0 : Int) := (by omega)
          have q280 : 0 < (l0.length : Int) := zD
          obtain ⟨ad280, A280_8, c280_8, e280, hx280_0, hx280_1, hx280_2, hx280_3, hx280_4, hx280_5, hx280_6, hx280_7, hx280_8, hl280_8, hi280_8⟩ := at_T36 HR0.out 0 p280 q280
          have hw280_8 := hx280_8
          (try rw [z0, Nat.zero_mul, Addr.add_zero'] at hw280_8)
          have hw280_7 := hx280_7
          (try rw [z0, Nat.zero_mul, Addr.add_zero'] at hw280_7)
          have hw280_6 := hx280_6
          (try rw [z0, Nat.zero_mul, Addr.add_zero'] at hw280_6)
          have hw280_5 := hx280_5
          (try rw [z0, Nat.zero_mul, Addr.add_zero'] at hw280_5)
          have hw280_4 := hx280_4
          (try rw [z0, Nat.zero_mul, Addr.add_zero'] at hw280_4)
          have hw280_3 := hx280_3
          (try rw [z0, Nat.zero_mul, Addr.add_zero'] at hw280_3)
          have hw280_2 := hx280_2
          (try rw [z0, Nat.zero_mul, Addr.add_zero'] at hw280_2)
          have hw280_1 := hx280_1
          (try rw [z0, Nat.zero_mul, Addr.add_zero'] at hw280_1)
          have hw280_0 := hx280_0
          (try rw [z0, Nat.zero_mul, Addr.add_zero'] at hw280_0)
          obtain rfl : ad279 = ad280 := (by injection e280)
          have qi280 : (0 < l0.length) = True := eq_true (by omega)
          (try rw [z0, Nat.zero_mul, Addr.add_zero'] at hx280_0)
          (try rw [z0, Nat.zero_mul, Addr.add_zero'] at hx280_1)
          (try rw [z0, Nat.zero_mul, Addr.add_zero'] at hx280_2)
          (try rw [z0, Nat.zero_mul, Addr.add_zero'] at hx280_3)
          (try rw [z0, Nat.zero_mul, Addr.add_zero'] at hx280_4)
          (try rw [z0, Nat.zero_mul, Addr.add_zero'] at hx280_5)
          (try rw [z0, Nat.zero_mul, Addr.add_zero'] at hx280_6)
          (try rw [z0, Nat.zero_mul, Addr.add_zero'] at hx280_7)
          (try rw [z0, Nat.zero_mul, Addr.add_zero'] at hx280_8)
          try replace hx280_0 := zH HB hx280_0
          try replace hx280_1 := zH HB hx280_1
          try replace hx280_2 := zH HB hx280_2
          try replace hx280_3 := zH HB hx280_3
          try replace hx280_4 := zH HB hx280_4
          try replace hx280_5 := zH HB hx280_5
          try replace hx280_6 := zH HB hx280_6
          try replace hx280_7 := zH HB hx280_7
          try replace hx280_8 := zH HB hx280_8
          have HR280_8 := Aside0.mk hi280_8
          have HC280_8 := Aside0.mk hl280_8
          clear hi280_8 hl280_8
          replace p280 := eq_true p280
          replace q280 := eq_true q280
          have p281 : 0 ≤ (x3_3 : Int) := zD
          have q281 : x3_3 < (((rd_T36 l0 0).f6).length : Int) := zD
          obtain ⟨ad281, e281, hx281_0, hx281_1, hx281_2, hx281_3⟩ := at_T103 HR280_8.out x3_3 p281 q281
          have hw281_3 := hx281_3
          have hw281_2 := hx281_2
          have hw281_1 := hx281_1
          have hw281_0 := hx281_0
          cases e281
          try replace hx281_0 := zH HB hx281_0
          try replace hx281_1 := zH HB hx281_1
          try replace hx281_2 := zH HB hx281_2
          try replace hx281_3 := zH HB hx281_3
          replace p281 := eq_true p281
          replace q281 := eq_true q281
          refine start_ (n := 16) (S := fun w' => w'.cell? ad279 = some (.string ((rd_T36 l0 0).f0)) ∧ w'.cell? ⟨ad279.block, ad279.off + 1, none⟩ = some (.string ((rd_T36 l0 0).f1)) ∧ w'.cell? ⟨ad279.block, ad279.off + 2, none⟩ = some (.int .i64 ((rd_T36 l0 0).f2)) ∧ w'.cell? ⟨ad279.block, ad279.off + 3, none⟩ = some (.string ((rd_T36 l0 0).f3.f0)) ∧ w'.cell? ⟨ad279.block, ad279.off + 4, none⟩ = some (.int .i64 ((rd_T36 l0 0).f3.f1)) ∧ w'.cell? ⟨ad279.block, ad279.off + 5, none⟩ = some (.int .i64 ((rd_T36 l0 0).f3.f2)) ∧ w'.cell? ⟨ad279.block, ad279.off + 6, none⟩ = some (.int .i64 ((rd_T36 l0 0).f4)) ∧ w'.cell? ⟨ad279.block, ad279.off + 7, none⟩ = some (.int .i64 ((rd_T36 l0 0).f5)) ∧ w'.cell? ⟨ad279.block, ad279.off + 8, none⟩ = some (.slice (some ad281) ((rd_T36 l0 0).f6).length c280_8) ∧ w'.cell? (ad281.add ((x3_3).toNat * 4)) = some (.int .i64 ((rd_T103 ((rd_T36 l0 0).f6) x3_3).f0)) ∧ w'.cell? ⟨(ad281.add ((x3_3).toNat * 4)).block, (ad281.add ((x3_3).toNat * 4)).off + 1, none⟩ = some (.int .i64 ((rd_T103 ((rd_T36 l0 0).f6) x3_3).f1)) ∧ w'.cell? ⟨(ad281.add ((x3_3).toNat * 4)).block, (ad281.add ((x3_3).toNat * 4)).off + 2, none⟩ = some (.int .i64 ((rd_T103 ((rd_T36 l0 0).f6) x3_3).f2)) ∧ w'.cell? ⟨(ad281.add ((x3_3).toNat * 4)).block, (ad281.add ((x3_3).toNat * 4)).off + 3, none⟩ = some (.int .i64 ((rd_T103 ((rd_T36 l0 0).f6) x3_3).f3))) (ds := []) (Array.replicate 16 false) (by kernel_rfl) rfl rfl ⟨(zH HB hw280_0), (zH HB hw280_1), (zH HB hw280_2), (zH HB hw280_3), (zH HB hw280_4), (zH HB hw280_5), (zH HB hw280_6), (zH HB hw280_7), (zH HB hw280_8), (zH HB hw281_0), (zH HB hw281_1), (zH HB hw281_2), (zH HB hw281_3)⟩ (fun hHeld => ?_); refine with_tabW spec_l09One.tab8 spec_l09One.bits8 (fun HT_ HW_ => ?_)
          generalize wr.drew = w25 at HB HR280_8 hx280_0 hx280_1 hx280_2 hx280_3 hx280_4 hx280_5 hx280_6 hx280_7 hx280_8 hx281_0 hx281_1 hx281_2 hx281_3 hHeld ⊢
          refine zP 0 (some 64) (zb 16 1) HT_ ?_
          refine zP 1 (some 65) (zb 16 3) HT_ ?_
          refine zP 2 (some 66) (zb 16 7) HT_ ?_
          refine zP 4 (some 68) (zb 16 23) HT_ ?_
          refine zP 6 (some 70) (zb 16 87) HT_ ?_
          refine zP 7 (some 71) (zb 16 215) HT_ ?_
          refine zP 8 (some 72) (zb 16 471) HT_ ?_
          refine zP 10 (some 74) (zb 16 1495) HT_ ?_
          refine zP 11 (some 75) (zb 16 3543) HT_ ?_
          refine zP 12 (some 76) (zb 16 7639) HT_ ?_
          refine zT13 3 (some 67) (zb 16 7647) HT_ HW_ hHeld ?_
          refine zP 5 (some 69) (zb 16 7679) HT_ ?_
          refine zT13 9 (some 73) (zb 16 8191) HT_ HW_ hHeld ?_
          refine zT13 13 (some 77) (zb 16 16383) HT_ HW_ hHeld ?_
          refine one_ (i := 14) (N := some 78) (zb 16 32767) rfl rfl (one_of HT_.out (by kernel_rfl)) (by decide) (fun K hK => ?_)
          refine goes_ Try.func93 (by kernel_rfl) rfl #[.pointer (some (ad281.add ((x3_3).toNat * 4))), .int .i64 ((rd_T36 l0 0).f4), .int .i64 ((rd_T36 l0 0).f5)] (by rfl) rfl rfl pA ?_
          with_reducible refine (spec_l09Box.calls _ 1 [rd_T103 ((rd_T36 l0 0).f6) x3_3] ((rd_T36 l0 0).f4) ((rd_T36 l0 0).f5) true _ ?side1 ?side2 A23.out).mono ?_
          (case side1 => (first | exact C_el z103 (by exact pC (Kd.C_below HR280_8.out HB.out)) (x3_3) (by first | exact of_eq_true p281 | omega) (by first | exact of_eq_true q281 | omega) | (have hel_ := C_el z103 (show Kd.C k103 _ _ _ ((rd_T36 l0 0).f6) from by exact pC (Kd.C_below HR280_8.out HB.out)) (x3_3) (by first | exact of_eq_true p281 | omega) (by first | exact of_eq_true q281 | omega); first | exact hel_ | (simp [Go.Addr.add] at hel_ ⊢; exact hel_) | simpa using hel_)))
          (case side2 => exact Nat.le_refl _)
          rintro e w26 ⟨rfl, hb⟩
          refine ⟨_, rfl, ?_⟩
          replace HB := zW (pB0 HB.out) hb
          (try clear hb)
          (try clear hb2)
          (try clear hk)
          (try clear hi)
          refine hK.out _ _ ⟨(zH HB hw280_0), (zH HB hw280_1), (zH HB hw280_2), (zH HB hw280_3), (zH HB hw280_4), (zH HB hw280_5), (zH HB hw280_6), (zH HB hw280_7), (zH HB hw280_8), (zH HB hw281_0), (zH HB hw281_1), (zH HB hw281_2), (zH HB hw281_3)⟩ (fun hHeld => ?_)
          clear hK K
          refine zN ?_
          refine zP 15 (some 79) (zb 16 65535) HT_ ?_
          refine done_ (done_of HT_.out (by kernel_rfl)) ?_
          try go_wp2
          go_roundg k3
          case measure => have := HJ1.out; have := HJ12.out; have := HK3.out; omega
          case rel => exact ⟨(wrap64 (x3_3 + 1)), zR, H', ⟨by have := HJ1.out; have := HJ12.out; have := HK3.out; omega⟩, ⟨pB0 HB.out⟩⟩
end Go.Proofs.Ytfiiakhpdkdebaa.PFnExactTurnsThatFit

/- What each function that a law reaches comes to, and the proof that its walk comes to it; laid by a program of this session. No condition. -/
import Derived.Test.YtfiiakhpdkdebaaZFnExactOffcutsOf0
import Derived.Test.YtfiiakhpdkdebaaZFnExactOffcutsOf4
import Derived.Test.YtfiiakhpdkdebaaZFnExactOffcutsOf8
import Derived.Test.YtfiiakhpdkdebaaZFnExactOffcutsOf9
namespace Go.Proofs.Ytfiiakhpdkdebaa.PFnExactOffcutsOf
open Go.RowKit Go.Proofs.YtfiiakhpdkdebaaW.PrintWords Go.Proofs.YtfiiakhpdkdebaaW.PrintLast Go.Proofs.YtfiiakhpdkdebaaW.PrintMore
attribute [local go_sem] max2_int min2_int max_two min_two max_three min_three max_four min_four
set_option linter.unusedVariables false
set_option linter.unusedSimpArgs false
mutual
def spec_l09One.j0 : Nat → List (S36) → Bool → Option (Bool)
 | 0, _, _ => none
 | k + 1, x0, x32 => if x32 = true then (some false) else (if 0 < (x0.length : Int) then ((spec_l00In.f ((rd_T36 x0 0).f4) 10 20000).bind fun t286 => (if t286 = true then ((spec_l00In.f ((rd_T36 x0 0).f5) 10 20000).bind fun t287 => (if t287 = true then (spec_l09One.j1 k x0 (decide ((((rd_T36 x0 0).f6).length : Int) > 6))) else (spec_l09One.j1 k x0 true))) else (spec_l09One.j1 k x0 true))) else (none))
def spec_l09One.j1 : Nat → List (S36) → Bool → Option (Bool)
 | 0, _, _ => none
 | k + 1, x0, x54 => if x54 = true then (some false) else (spec_l09One.l0 k x0 0)
def spec_l09One.l0 : Nat → List (S36) → Int → Option (Bool)
 | 0, _, _ => none
 | k + 1, x0, x3 => if 0 < (x0.length : Int) then (if x3 < (((rd_T36 x0 0).f6).length : Int) then (if 0 ≤ x3 then ((spec_l09Box.f [rd_T103 ((rd_T36 x0 0).f6) x3] ((rd_T36 x0 0).f4) ((rd_T36 x0 0).f5)).bind fun t291 => (if t291 = true then (spec_l09One.l0 k x0 (wrap64 (x3 + 1))) else (some false))) else (none)) else (some true)) else (none)
end
def spec_l09One.f (k : Nat) (l0 : List (S36)) : Option (Bool) := if 0 < (l0.length : Int) then ((spec_l01Name.f k ((rd_T36 l0 0).f0)).bind fun t281 => (if t281 = true then ((spec_l01Name.f k ((rd_T36 l0 0).f1)).bind fun t282 => (if t282 = true then ((spec_l00In.f ((rd_T36 l0 0).f2) 0 999).bind fun t283 => (if t283 = true then ((spec_l07Ok.f k [(rd_T36 l0 0).f3]).bind fun t284 => (spec_l09One.j0 k l0 (!t284))) else (spec_l09One.j0 k l0 true))) else (spec_l09One.j0 k l0 true))) else (spec_l09One.j0 k l0 true))) else (none)
theorem spec_l09One.mono_l : ∀ k, (∀ y0 y1, LeO (spec_l09One.j0 k y0 y1) (spec_l09One.j0 (k + 1) y0 y1)) ∧ (∀ y0 y1, LeO (spec_l09One.j1 k y0 y1) (spec_l09One.j1 (k + 1) y0 y1)) ∧ (∀ y0 y1, LeO (spec_l09One.l0 k y0 y1) (spec_l09One.l0 (k + 1) y0 y1))
 | 0 => ⟨fun _ _ r h => by simp [spec_l09One.j0] at h, fun _ _ r h => by simp [spec_l09One.j1] at h, fun _ _ r h => by simp [spec_l09One.l0] at h⟩
 | k + 1 => by
   obtain ⟨ih0, ih1, ih2⟩ := spec_l09One.mono_l k; refine ⟨?_, ?_, ?_⟩
   · intro y0 y1
     unfold spec_l09One.j0
     repeat' first
     | (with_reducible exact ih0 _ _)
     | (with_reducible exact ih1 _ _)
     | (with_reducible exact ih2 _ _)
     | (with_reducible exact spec_l01Name.mono _ _)
     | (with_reducible exact spec_l07Ok.mono _ _)
     | (with_reducible exact LeO.refl _)
     | (with_reducible exact LeO.none _)
     | (with_reducible refine LeO.ite ?_ ?_)
     | (with_reducible refine LeO.bind ?_ (fun _ => ?_))
     | exact ih0 _ _
     | exact ih1 _ _
     | exact ih2 _ _
     | exact spec_l01Name.mono _ _
     | exact spec_l07Ok.mono _ _
     | exact LeO.none _
     | refine LeO.ite ?_ ?_
     | refine LeO.bind ?_ (fun _ => ?_)
   · intro y0 y1
     unfold spec_l09One.j1
     repeat' first
     | (with_reducible exact ih0 _ _)
     | (with_reducible exact ih1 _ _)
     | (with_reducible exact ih2 _ _)
     | (with_reducible exact spec_l01Name.mono _ _)
     | (with_reducible exact spec_l07Ok.mono _ _)
     | (with_reducible exact LeO.refl _)
     | (with_reducible exact LeO.none _)
     | (with_reducible refine LeO.ite ?_ ?_)
     | (with_reducible refine LeO.bind ?_ (fun _ => ?_))
     | exact ih0 _ _
     | exact ih1 _ _
     | exact ih2 _ _
     | exact spec_l01Name.mono _ _
     | exact spec_l07Ok.mono _ _
     | exact LeO.none _
     | refine LeO.ite ?_ ?_
     | refine LeO.bind ?_ (fun _ => ?_)
   · intro y0 y1
     unfold spec_l09One.l0
     repeat' first
     | (with_reducible exact ih0 _ _)
     | (with_reducible exact ih1 _ _)
     | (with_reducible exact ih2 _ _)
     | (with_reducible exact spec_l01Name.mono _ _)
     | (with_reducible exact spec_l07Ok.mono _ _)
     | (with_reducible exact LeO.refl _)
     | (with_reducible exact LeO.none _)
     | (with_reducible refine LeO.ite ?_ ?_)
     | (with_reducible refine LeO.bind ?_ (fun _ => ?_))
     | exact ih0 _ _
     | exact ih1 _ _
     | exact ih2 _ _
     | exact spec_l01Name.mono _ _
     | exact spec_l07Ok.mono _ _
     | exact LeO.none _
     | refine LeO.ite ?_ ?_
     | refine LeO.bind ?_ (fun _ => ?_)
theorem spec_l09One.mono : ∀ a0 k, LeO (spec_l09One.f k a0) (spec_l09One.f (k + 1) a0) := by
 intro a0 k; obtain ⟨ih0, ih1, ih2⟩ := spec_l09One.mono_l k; unfold spec_l09One.f
 repeat' first
  | (with_reducible exact ih0 _ _)
  | (with_reducible exact ih1 _ _)
  | (with_reducible exact ih2 _ _)
  | (with_reducible exact spec_l01Name.mono _ _)
  | (with_reducible exact spec_l07Ok.mono _ _)
  | (with_reducible exact LeO.refl _)
  | (with_reducible exact LeO.none _)
  | (with_reducible refine LeO.ite ?_ ?_)
  | (with_reducible refine LeO.bind ?_ (fun _ => ?_))
  | exact ih0 _ _
  | exact ih1 _ _
  | exact ih2 _ _
  | exact spec_l01Name.mono _ _
  | exact spec_l07Ok.mono _ _
  | exact LeO.none _
  | refine LeO.ite ?_ ?_
  | refine LeO.bind ?_ (fun _ => ?_)
def spec_l09One.T8 : Bool × List (List Nat × List Nat) := (true, [([], []), ([0], [0]), ([1], [1]), ([2], [2]), ([], []), ([3, 4], [3, 4]), ([], []), ([6], [6]), ([7], [7]), ([8], [8]), ([], []), ([10], [10]), ([11], [11]), ([12], [12]), ([5, 9, 13], [5, 9, 13]), ([14], [14])])
def spec_l09One.B8 : List Nat := [0, 1, 3, 7, 0, 31, 0, 64, 192, 448, 0, 1024, 3072, 7168, 16383, 32767]
theorem spec_l09One.tab8 : rtab .any (opsOf Try.f50 8) = spec_l09One.T8 := by kernel_rfl
theorem spec_l09One.bits8 : waitsOk spec_l09One.T8.2 spec_l09One.B8 = true := by kernel_rfl
set_option maxHeartbeats 8000000 in
set_option maxRecDepth 100000 in
theorem spec_l09One.calls (k : Nat) (A0 : Option Addr) (c0 : Nat) (l0 : List (S36)) (r : Bool) (w : World) (hr0 : Kd.C k36 w A0 l0.length l0) (hc0 : l0.length ≤ c0) (h : spec_l09One.f k l0 = some r) :
 Calls Try.prog 50 #[.pointer A0] w fun e w' => e = .returned (.bool r) ∧ Below w.heap.size w w' := by
 have HR0 := Aside0.mk hr0; have HC0 := Aside0.mk hc0; clear hr0 hc0; have HB := Aside0.mk (Below.refl w.heap.size w)
 have H : (if 0 < (l0.length : Int) then ((spec_l01Name.f k ((rd_T36 l0 0).f0)).bind fun t281 => (if t281 = true then ((spec_l01Name.f k ((rd_T36 l0 0).f1)).bind fun t282 => (if t282 = true then ((spec_l00In.f ((rd_T36 l0 0).f2) 0 999).bind fun t283 => (if t283 = true then ((spec_l07Ok.f k [(rd_T36 l0 0).f3]).bind fun t284 => (spec_l09One.j0 k l0 (!t284))) else (spec_l09One.j0 k l0 true))) else (spec_l09One.j0 k l0 true))) else (spec_l09One.j0 k l0 true))) else (none)) = some r := h
 clear h; have HC2 := Aside0.mk H; clear H
 go_enter Try.func50, Try.ntmps50
 go_upto_region 1 with (fail)
 go_cut [32] (fun v32 wc => ∃ (kq : Nat) (x32_1 : Bool), v32 = .bool x32_1 ∧ Aside0 (spec_l09One.j0 kq l0 x32_1 = some r) ∧ Aside0 (kq ≤ k) ∧ Aside0 (Below w.heap.size w wc))
 case first =>
  have H := HC2.out; clear HC2
  by_cases c3 : 0 < (l0.length : Int)
  rotate_left
  · rw [if_neg c3] at H
    exact absurd H (by simp)
  rw [if_pos c3] at H; have c3b0 := decide_eq_true c3
  have c3b1 : decide (0 < l0.length) = true := decide_eq_true (by omega)
  clear c3; (first | rw [c3b0] | (simp only [i64_w, i32_w]; rw [c3b0]) | skip); replace H := Option.bind_eq_some_iff.mp H; obtain ⟨t281, A40, H⟩ := H; have A4 := Aside0.mk A40; clear A40
  by_cases c5 : t281 = true
  rotate_left
  · replace c5 := Bool.eq_false_iff.mpr c5
    subst c5
    rw [if_neg (show ¬ (false = true) by decide)] at H
    have H' := Aside0.mk H; clear H
    have p280 : 0 ≤ (0 : Int) := (by omega)
    have q280 : 0 < (l0.length : Int) := zD; obtain ⟨ad280, A280_8, c280_8, e280, hx280_0, hx280_1, hx280_2, hx280_3, hx280_4, hx280_5, hx280_6, hx280_7, hx280_8, hl280_8, hi280_8⟩ := at_T36 HR0.out 0 p280 q280; cases e280
    have qi280 : (0 < l0.length) = True := eq_true (by omega)
    (try rw [z0, Nat.zero_mul, Addr.add_zero'] at hx280_0); (try rw [z0, Nat.zero_mul, Addr.add_zero'] at hx280_1); (try rw [z0, Nat.zero_mul, Addr.add_zero'] at hx280_2); (try rw [z0, Nat.zero_mul, Addr.add_zero'] at hx280_3); (try rw [z0, Nat.zero_mul, Addr.add_zero'] at hx280_4); (try rw [z0, Nat.zero_mul, Addr.add_zero'] at hx280_5); (try rw [z0, Nat.zero_mul, Addr.add_zero'] at hx280_6); (try rw [z0, Nat.zero_mul, Addr.add_zero'] at hx280_7); (try rw [z0, Nat.zero_mul, Addr.add_zero'] at hx280_8)
    try replace hx280_0 := zH HB hx280_0
    try replace hx280_1 := zH HB hx280_1
    try replace hx280_2 := zH HB hx280_2
    try replace hx280_3 := zH HB hx280_3
    try replace hx280_4 := zH HB hx280_4
    try replace hx280_5 := zH HB hx280_5
    try replace hx280_6 := zH HB hx280_6
    try replace hx280_7 := zH HB hx280_7
    try replace hx280_8 := zH HB hx280_8
    have HR280_8 := Aside0.mk hi280_8; have HC280_8 := Aside0.mk hl280_8; clear hi280_8 hl280_8; replace p280 := eq_true p280; replace q280 := eq_true q280
    go_wp2_with (first | ((with_reducible refine gate_callee (f := 91) rfl ?_); refine zJ (some 8) Try.func91 #[.string ((rd_T36 l0 0).f0)] ?_; (with_reducible refine (spec_l01Name.calls k ((rd_T36 l0 0).f0) false _ A4.out).mono ?_); rintro e w' ⟨rfl, ⟨nd, rfl⟩⟩; refine ⟨_, rfl, ?_⟩))
    go_meet
    case rel => exact ⟨_, (true), zR, H', ⟨by first | omega | exact Nat.le_refl _⟩, ⟨pB0 HB.out⟩⟩
  subst c5; rw [if_pos rfl] at H; replace H := Option.bind_eq_some_iff.mp H; obtain ⟨t282, A60, H⟩ := H; have A6 := Aside0.mk A60; clear A60
  by_cases c7 : t282 = true
  rotate_left
  · replace c7 := Bool.eq_false_iff.mpr c7
    subst c7
    rw [if_neg (show ¬ (false = true) by decide)] at H
    have H' := Aside0.mk H; clear H
    have p280 : 0 ≤ (0 : Int) := (by omega)
    have q280 : 0 < (l0.length : Int) := zD; obtain ⟨ad280, A280_8, c280_8, e280, hx280_0, hx280_1, hx280_2, hx280_3, hx280_4, hx280_5, hx280_6, hx280_7, hx280_8, hl280_8, hi280_8⟩ := at_T36 HR0.out 0 p280 q280; cases e280
    have qi280 : (0 < l0.length) = True := eq_true (by omega)
    (try rw [z0, Nat.zero_mul, Addr.add_zero'] at hx280_0); (try rw [z0, Nat.zero_mul, Addr.add_zero'] at hx280_1); (try rw [z0, Nat.zero_mul, Addr.add_zero'] at hx280_2); (try rw [z0, Nat.zero_mul, Addr.add_zero'] at hx280_3); (try rw [z0, Nat.zero_mul, Addr.add_zero'] at hx280_4); (try rw [z0, Nat.zero_mul, Addr.add_zero'] at hx280_5); (try rw [z0, Nat.zero_mul, Addr.add_zero'] at hx280_6); (try rw [z0, Nat.zero_mul, Addr.add_zero'] at hx280_7); (try rw [z0, Nat.zero_mul, Addr.add_zero'] at hx280_8)
    try replace hx280_0 := zH HB hx280_0
    try replace hx280_1 := zH HB hx280_1
    try replace hx280_2 := zH HB hx280_2
    try replace hx280_3 := zH HB hx280_3
    try replace hx280_4 := zH HB hx280_4
    try replace hx280_5 := zH HB hx280_5
    try replace hx280_6 := zH HB hx280_6
    try replace hx280_7 := zH HB hx280_7
    try replace hx280_8 := zH HB hx280_8
    have HR280_8 := Aside0.mk hi280_8; have HC280_8 := Aside0.mk hl280_8; clear hi280_8 hl280_8; replace p280 := eq_true p280; replace q280 := eq_true q280
    go_wp2_with (first | ((with_reducible refine gate_callee (f := 91) rfl ?_); refine zJ (some 8) Try.func91 #[.string ((rd_T36 l0 0).f0)] ?_; (with_reducible refine (spec_l01Name.calls k ((rd_T36 l0 0).f0) true _ A4.out).mono ?_); rintro e w' ⟨rfl, ⟨nd, rfl⟩⟩; refine ⟨_, rfl, ?_⟩) | (go_at_call 91; (with_reducible refine (spec_l01Name.calls k ((rd_T36 l0 0).f1) false _ A6.out).mono ?_); rintro e w' ⟨rfl, ⟨nd, rfl⟩⟩))
    go_meet
    case rel => exact ⟨_, (true), zR, H', ⟨by first | omega | exact Nat.le_refl _⟩, ⟨pB0 HB.out⟩⟩
  subst c7; rw [if_pos rfl] at H; replace H := Option.bind_eq_some_iff.mp H; obtain ⟨t283, A80, H⟩ := H; have A8 := Aside0.mk A80; clear A80
  by_cases c9 : t283 = true
  rotate_left
  · replace c9 := Bool.eq_false_iff.mpr c9
    subst c9
    rw [if_neg (show ¬ (false = true) by decide)] at H
    have H' := Aside0.mk H; clear H
    have p280 : 0 ≤ (0 : Int) := (by omega)
    have q280 : 0 < (l0.length : Int) := zD; obtain ⟨ad280, A280_8, c280_8, e280, hx280_0, hx280_1, hx280_2, hx280_3, hx280_4, hx280_5, hx280_6, hx280_7, hx280_8, hl280_8, hi280_8⟩ := at_T36 HR0.out 0 p280 q280; cases e280
    have qi280 : (0 < l0.length) = True := eq_true (by omega)
    (try rw [z0, Nat.zero_mul, Addr.add_zero'] at hx280_0); (try rw [z0, Nat.zero_mul, Addr.add_zero'] at hx280_1); (try rw [z0, Nat.zero_mul, Addr.add_zero'] at hx280_2); (try rw [z0, Nat.zero_mul, Addr.add_zero'] at hx280_3); (try rw [z0, Nat.zero_mul, Addr.add_zero'] at hx280_4); (try rw [z0, Nat.zero_mul, Addr.add_zero'] at hx280_5); (try rw [z0, Nat.zero_mul, Addr.add_zero'] at hx280_6); (try rw [z0, Nat.zero_mul, Addr.add_zero'] at hx280_7); (try rw [z0, Nat.zero_mul, Addr.add_zero'] at hx280_8)
    try replace hx280_0 := zH HB hx280_0
    try replace hx280_1 := zH HB hx280_1
    try replace hx280_2 := zH HB hx280_2
    try replace hx280_3 := zH HB hx280_3
    try replace hx280_4 := zH HB hx280_4
    try replace hx280_5 := zH HB hx280_5
    try replace hx280_6 := zH HB hx280_6
    try replace hx280_7 := zH HB hx280_7
    try replace hx280_8 := zH HB hx280_8
    have HR280_8 := Aside0.mk hi280_8; have HC280_8 := Aside0.mk hl280_8; clear hi280_8 hl280_8; replace p280 := eq_true p280; replace q280 := eq_true q280
    go_wp2_with (first | ((with_reducible refine gate_callee (f := 91) rfl ?_); refine zJ (some 8) Try.func91 #[.string ((rd_T36 l0 0).f0)] ?_; (with_reducible refine (spec_l01Name.calls k ((rd_T36 l0 0).f0) true _ A4.out).mono ?_); rintro e w' ⟨rfl, ⟨nd, rfl⟩⟩; refine ⟨_, rfl, ?_⟩) | (go_at_call 91; (with_reducible refine (spec_l01Name.calls k ((rd_T36 l0 0).f1) true _ A6.out).mono ?_); rintro e w' ⟨rfl, ⟨nd, rfl⟩⟩) | (go_at_call 81; (with_reducible refine (spec_l00In.calls ((rd_T36 l0 0).f2) 0 999 false _ A8.out).mono ?_); rintro e w' ⟨rfl, ⟨nd, rfl⟩⟩))
    go_meet
    case rel => exact ⟨_, (true), zR, H', ⟨by first | omega | exact Nat.le_refl _⟩, ⟨pB0 HB.out⟩⟩
  subst c9; rw [if_pos rfl] at H; replace H := Option.bind_eq_some_iff.mp H; obtain ⟨t284, A100, H⟩ := H; have A10 := Aside0.mk A100; clear A100; have H' := Aside0.mk H; clear H
  have p280 : 0 ≤ (0 : Int) := (by omega)
  have q280 : 0 < (l0.length : Int) := zD; obtain ⟨ad280, A280_8, c280_8, e280, hx280_0, hx280_1, hx280_2, hx280_3, hx280_4, hx280_5, hx280_6, hx280_7, hx280_8, hl280_8, hi280_8⟩ := at_T36 HR0.out 0 p280 q280; cases e280
  have qi280 : (0 < l0.length) = True := eq_true (by omega)
  (try rw [z0, Nat.zero_mul, Addr.add_zero'] at hx280_0); (try rw [z0, Nat.zero_mul, Addr.add_zero'] at hx280_1); (try rw [z0, Nat.zero_mul, Addr.add_zero'] at hx280_2); (try rw [z0, Nat.zero_mul, Addr.add_zero'] at hx280_3); (try rw [z0, Nat.zero_mul, Addr.add_zero'] at hx280_4); (try rw [z0, Nat.zero_mul, Addr.add_zero'] at hx280_5); (try rw [z0, Nat.zero_mul, Addr.add_zero'] at hx280_6); (try rw [z0, Nat.zero_mul, Addr.add_zero'] at hx280_7); (try rw [z0, Nat.zero_mul, Addr.add_zero'] at hx280_8)
  try replace hx280_0 := zH HB hx280_0
  try replace hx280_1 := zH HB hx280_1
  try replace hx280_2 := zH HB hx280_2
  try replace hx280_3 := zH HB hx280_3
  try replace hx280_4 := zH HB hx280_4
  try replace hx280_5 := zH HB hx280_5
  try replace hx280_6 := zH HB hx280_6
  try replace hx280_7 := zH HB hx280_7
  try replace hx280_8 := zH HB hx280_8
  have HR280_8 := Aside0.mk hi280_8; have HC280_8 := Aside0.mk hl280_8; clear hi280_8 hl280_8; replace p280 := eq_true p280; replace q280 := eq_true q280
  go_wp2_with (first | ((with_reducible refine gate_callee (f := 91) rfl ?_); refine zJ (some 8) Try.func91 #[.string ((rd_T36 l0 0).f0)] ?_; (with_reducible refine (spec_l01Name.calls k ((rd_T36 l0 0).f0) true _ A4.out).mono ?_); rintro e w' ⟨rfl, ⟨nd, rfl⟩⟩; refine ⟨_, rfl, ?_⟩) | (go_at_call 91; (with_reducible refine (spec_l01Name.calls k ((rd_T36 l0 0).f1) true _ A6.out).mono ?_); rintro e w' ⟨rfl, ⟨nd, rfl⟩⟩) | (go_at_call 81; (with_reducible refine (spec_l00In.calls ((rd_T36 l0 0).f2) 0 999 true _ A8.out).mono ?_); rintro e w' ⟨rfl, ⟨nd, rfl⟩⟩) | (go_at_call 92; (with_reducible refine (spec_l07Ok.calls k _ 1 [(rd_T36 l0 0).f3] t284 _ ?side1 ?side2 A10.out).mono ?_); (case side1 => exact C_three (k33_mk _ _) (by first | assumption | exact hx280_3) hx280_4 hx280_5); (case side2 => exact Nat.le_refl _); rintro e w11 ⟨rfl, hb⟩; replace HB := zW (pB0 HB.out) hb; (try clear hb); (try clear hb2); (try clear hk); (try clear hi)))
  go_meet
  case rel => exact ⟨_, (!t284), zR, H', ⟨by first | omega | exact Nat.le_refl _⟩, ⟨pB0 HB.out⟩⟩
 case rest =>
  clear HC2; (try clear c2); (try clear p2); (try clear q2); (try clear hx2); (try clear qi2); (try clear c3); (try clear c3b0); (try clear c3b1); (try clear c5); (try clear c7); (try clear c9); (try clear hx280_0); (try clear hx280_1); (try clear hx280_2); (try clear hx280_3); (try clear hx280_4); (try clear hx280_5); (try clear hx280_6); (try clear hx280_7); (try clear hx280_8); (try clear p280); (try clear q280); obtain ⟨kq, x32_1, rfl, HA, HJ1, HB⟩ := hcut
  cases kq with
  | zero => exact absurd HA.out (by simp [spec_l09One.j0])
  | succ kj1 =>
    have H := HA.out; clear HA; simp only [spec_l09One.j0] at H
    by_cases c12 : x32_1 = true
    · subst c12
      rw [if_pos rfl] at H; obtain rfl := Option.some.inj H
      go_wp2
      go_ret
      exact ⟨zE, pB0 HB.out⟩
    replace c12 := Bool.eq_false_iff.mpr c12; subst c12
    rw [if_neg (show ¬ (false = true) by decide)] at H
    have HC13 := Aside0.mk H; clear H
    go_upto_region 3 with (fail)
    go_cut [54] (fun v54 wc => ∃ (kq : Nat) (x54_12 : Bool), v54 = .bool x54_12 ∧ Aside0 (spec_l09One.j1 kq l0 x54_12 = some r) ∧ Aside0 (kq ≤ kj1) ∧ Aside0 (Below w.heap.size w wc))
    case first =>
     have H := HC13.out; clear HC13
     by_cases c14 : 0 < (l0.length : Int)
     rotate_left
     · rw [if_neg c14] at H
       exact absurd H (by simp)
     rw [if_pos c14] at H; have c14b0 := decide_eq_true c14
     have c14b1 : decide (0 < l0.length) = true := decide_eq_true (by omega)
     clear c14; (first | rw [c14b0] | (simp only [i64_w, i32_w]; rw [c14b0]) | skip); replace H := Option.bind_eq_some_iff.mp H; obtain ⟨t286, A150, H⟩ := H; have A15 := Aside0.mk A150; clear A150
     by_cases c16 : t286 = true
     rotate_left
     · replace c16 := Bool.eq_false_iff.mpr c16
       subst c16
       rw [if_neg (show ¬ (false = true) by decide)] at H
       have H' := Aside0.mk H; clear H
       have p285 : 0 ≤ (0 : Int) := (by omega)
       have q285 : 0 < (l0.length : Int) := zD; obtain ⟨ad285, A285_8, c285_8, e285, hx285_0, hx285_1, hx285_2, hx285_3, hx285_4, hx285_5, hx285_6, hx285_7, hx285_8, hl285_8, hi285_8⟩ := at_T36 HR0.out 0 p285 q285; cases e285
       have qi285 : (0 < l0.length) = True := eq_true (by omega)
       (try rw [z0, Nat.zero_mul, Addr.add_zero'] at hx285_0); (try rw [z0, Nat.zero_mul, Addr.add_zero'] at hx285_1); (try rw [z0, Nat.zero_mul, Addr.add_zero'] at hx285_2); (try rw [z0, Nat.zero_mul, Addr.add_zero'] at hx285_3); (try rw [z0, Nat.zero_mul, Addr.add_zero'] at hx285_4); (try rw [z0, Nat.zero_mul, Addr.add_zero'] at hx285_5); (try rw [z0, Nat.zero_mul, Addr.add_zero'] at hx285_6); (try rw [z0, Nat.zero_mul, Addr.add_zero'] at hx285_7); (try rw [z0, Nat.zero_mul, Addr.add_zero'] at hx285_8)
       try replace hx285_0 := zH HB hx285_0
       try replace hx285_1 := zH HB hx285_1
       try replace hx285_2 := zH HB hx285_2
       try replace hx285_3 := zH HB hx285_3
       try replace hx285_4 := zH HB hx285_4
       try replace hx285_5 := zH HB hx285_5
       try replace hx285_6 := zH HB hx285_6
       try replace hx285_7 := zH HB hx285_7
       try replace hx285_8 := zH HB hx285_8
       have HR285_8 := Aside0.mk hi285_8; have HC285_8 := Aside0.mk hl285_8; clear hi285_8 hl285_8; replace p285 := eq_true p285; replace q285 := eq_true q285
       go_wp2_with (first | ((with_reducible refine gate_callee (f := 81) rfl ?_); refine zJ (some 37) Try.func81 #[.int .i64 ((rd_T36 l0 0).f4), .int .i64 10, .int .i64 20000] ?_; (with_reducible refine (spec_l00In.calls ((rd_T36 l0 0).f4) 10 20000 false _ A15.out).mono ?_); rintro e w' ⟨rfl, ⟨nd, rfl⟩⟩; refine ⟨_, rfl, ?_⟩))
       go_meet
       case rel => exact ⟨_, (true), zR, H', ⟨by have := HJ1.out; first | omega | exact Nat.le_refl _⟩, ⟨pB0 HB.out⟩⟩
     subst c16; rw [if_pos rfl] at H; replace H := Option.bind_eq_some_iff.mp H; obtain ⟨t287, A170, H⟩ := H; have A17 := Aside0.mk A170; clear A170
     by_cases c18 : t287 = true
     · subst c18
       rw [if_pos rfl] at H; have H' := Aside0.mk H; clear H
       have p285 : 0 ≤ (0 : Int) := (by omega)
       have q285 : 0 < (l0.length : Int) := zD; obtain ⟨ad285, A285_8, c285_8, e285, hx285_0, hx285_1, hx285_2, hx285_3, hx285_4, hx285_5, hx285_6, hx285_7, hx285_8, hl285_8, hi285_8⟩ := at_T36 HR0.out 0 p285 q285; cases e285
       have qi285 : (0 < l0.length) = True := eq_true (by omega)
       (try rw [z0, Nat.zero_mul, Addr.add_zero'] at hx285_0); (try rw [z0, Nat.zero_mul, Addr.add_zero'] at hx285_1); (try rw [z0, Nat.zero_mul, Addr.add_zero'] at hx285_2); (try rw [z0, Nat.zero_mul, Addr.add_zero'] at hx285_3); (try rw [z0, Nat.zero_mul, Addr.add_zero'] at hx285_4); (try rw [z0, Nat.zero_mul, Addr.add_zero'] at hx285_5); (try rw [z0, Nat.zero_mul, Addr.add_zero'] at hx285_6); (try rw [z0, Nat.zero_mul, Addr.add_zero'] at hx285_7); (try rw [z0, Nat.zero_mul, Addr.add_zero'] at hx285_8)
       try replace hx285_0 := zH HB hx285_0
       try replace hx285_1 := zH HB hx285_1
       try replace hx285_2 := zH HB hx285_2
       try replace hx285_3 := zH HB hx285_3
       try replace hx285_4 := zH HB hx285_4
       try replace hx285_5 := zH HB hx285_5
       try replace hx285_6 := zH HB hx285_6
       try replace hx285_7 := zH HB hx285_7
       try replace hx285_8 := zH HB hx285_8
       have HR285_8 := Aside0.mk hi285_8; have HC285_8 := Aside0.mk hl285_8; clear hi285_8 hl285_8; replace p285 := eq_true p285; replace q285 := eq_true q285
       go_wp2_with (first | ((with_reducible refine gate_callee (f := 81) rfl ?_); refine zJ (some 37) Try.func81 #[.int .i64 ((rd_T36 l0 0).f4), .int .i64 10, .int .i64 20000] ?_; (with_reducible refine (spec_l00In.calls ((rd_T36 l0 0).f4) 10 20000 true _ A15.out).mono ?_); rintro e w' ⟨rfl, ⟨nd, rfl⟩⟩; refine ⟨_, rfl, ?_⟩) | (go_at_call 81; (with_reducible refine (spec_l00In.calls ((rd_T36 l0 0).f5) 10 20000 true _ A17.out).mono ?_); rintro e w' ⟨rfl, ⟨nd, rfl⟩⟩))
       go_meet
       case rel => exact ⟨_, (decide ((((rd_T36 l0 0).f6).length : Int) > 6)), zR, H', ⟨by have := HJ1.out; first | omega | exact Nat.le_refl _⟩, ⟨pB0 HB.out⟩⟩
     replace c18 := Bool.eq_false_iff.mpr c18; subst c18
     rw [if_neg (show ¬ (false = true) by decide)] at H
     have H' := Aside0.mk H; clear H
     have p285 : 0 ≤ (0 : Int) := (by omega)
     have q285 : 0 < (l0.length : Int) := zD; obtain ⟨ad285, A285_8, c285_8, e285, hx285_0, hx285_1, hx285_2, hx285_3, hx285_4, hx285_5, hx285_6, hx285_7, hx285_8, hl285_8, hi285_8⟩ := at_T36 HR0.out 0 p285 q285; cases e285
     have qi285 : (0 < l0.length) = True := eq_true (by omega)
     (try rw [z0, Nat.zero_mul, Addr.add_zero'] at hx285_0); (try rw [z0, Nat.zero_mul, Addr.add_zero'] at hx285_1); (try rw [z0, Nat.zero_mul, Addr.add_zero'] at hx285_2); (try rw [z0, Nat.zero_mul, Addr.add_zero'] at hx285_3); (try rw [z0, Nat.zero_mul, Addr.add_zero'] at hx285_4); (try rw [z0, Nat.zero_mul, Addr.add_zero'] at hx285_5); (try rw [z0, Nat.zero_mul, Addr.add_zero'] at hx285_6); (try rw [z0, Nat.zero_mul, Addr.add_zero'] at hx285_7); (try rw [z0, Nat.zero_mul, Addr.add_zero'] at hx285_8)
     try replace hx285_0 := zH HB hx285_0
     try replace hx285_1 := zH HB hx285_1
     try replace hx285_2 := zH HB hx285_2
     try replace hx285_3 := zH HB hx285_3
     try replace hx285_4 := zH HB hx285_4
     try replace hx285_5 := zH HB hx285_5
     try replace hx285_6 := zH HB hx285_6
     try replace hx285_7 := zH HB hx285_7
     try replace hx285_8 := zH HB hx285_8
     have HR285_8 := Aside0.mk hi285_8; have HC285_8 := Aside0.mk hl285_8; clear hi285_8 hl285_8; replace p285 := eq_true p285; replace q285 := eq_true q285
     go_wp2_with (first | ((with_reducible refine gate_callee (f := 81) rfl ?_); refine zJ (some 37) Try.func81 #[.int .i64 ((rd_T36 l0 0).f4), .int .i64 10, .int .i64 20000] ?_; (with_reducible refine (spec_l00In.calls ((rd_T36 l0 0).f4) 10 20000 true _ A15.out).mono ?_); rintro e w' ⟨rfl, ⟨nd, rfl⟩⟩; refine ⟨_, rfl, ?_⟩) | (go_at_call 81; (with_reducible refine (spec_l00In.calls ((rd_T36 l0 0).f5) 10 20000 false _ A17.out).mono ?_); rintro e w' ⟨rfl, ⟨nd, rfl⟩⟩))
     go_meet
     case rel => exact ⟨_, (true), zR, H', ⟨by have := HJ1.out; first | omega | exact Nat.le_refl _⟩, ⟨pB0 HB.out⟩⟩
    case rest =>
     clear HC13; (try clear c1); (try clear c2); (try clear p2); (try clear q2); (try clear hx2); (try clear qi2); (try clear c3); (try clear c3b0); (try clear c3b1); (try clear c5); (try clear c7); (try clear c8); (try clear c9); (try clear c12); (try clear c14); (try clear c14b0); (try clear c14b1); (try clear c16); (try clear c18); (try clear hx280_0); (try clear hx280_1); (try clear hx280_2); (try clear hx280_3); (try clear hx280_4); (try clear hx280_5); (try clear hx280_6); (try clear hx280_7); (try clear hx280_8); (try clear hx285_0); (try clear hx285_1); (try clear hx285_2); (try clear hx285_3); (try clear hx285_4); (try clear hx285_5); (try clear hx285_6); (try clear hx285_7); (try clear hx285_8); (try clear p2); (try clear p280); (try clear p285); (try clear q2); (try clear q280); (try clear q285); obtain ⟨kq, x54_12, rfl, HA, HJ12, HB⟩ := hcut
     cases kq with
     | zero => exact absurd HA.out (by simp [spec_l09One.j1])
     | succ kj12 =>
       have H := HA.out; clear HA; simp only [spec_l09One.j1] at H
       by_cases c19 : x54_12 = true
       · subst c19
         rw [if_pos rfl] at H; obtain rfl := Option.some.inj H
         go_wp2
         go_ret
         exact ⟨zE, pB0 HB.out⟩
       replace c19 := Bool.eq_false_iff.mpr c19; subst c19
       rw [if_neg (show ¬ (false = true) by decide)] at H
       have H' := Aside0.mk H; clear H
       go_wp2
       go_loopg [3] kj12 (fun kq v3 w' => ∃ (x3_3 : Int), v3 = .int .i64 x3_3 ∧ Aside0 (spec_l09One.l0 kq l0 x3_3 = some r) ∧ Aside0 (kq ≤ kj12) ∧ Aside0 (Below w.heap.size w w'))
       case atStart => exact ⟨(0), zR, H', ⟨Nat.le_refl _⟩, ⟨pB0 HB.out⟩⟩
       case round =>
        clear H'; (try clear c1); (try clear c2); (try clear p2); (try clear q2); (try clear hx2); (try clear qi2); (try clear c3); (try clear c3b0); (try clear c3b1); (try clear c5); (try clear c7); (try clear c8); (try clear c9); (try clear c12); (try clear c14); (try clear c14b0); (try clear c14b1); (try clear c16); (try clear c18); (try clear c19); (try clear hx280_0); (try clear hx280_1); (try clear hx280_2); (try clear hx280_3); (try clear hx280_4); (try clear hx280_5); (try clear hx280_6); (try clear hx280_7); (try clear hx280_8); (try clear hx285_0); (try clear hx285_1); (try clear hx285_2); (try clear hx285_3); (try clear hx285_4); (try clear hx285_5); (try clear hx285_6); (try clear hx285_7); (try clear hx285_8); (try clear p2); (try clear p280); (try clear p285); (try clear q2); (try clear q280); (try clear q285); obtain ⟨x3_3, rfl, HA, HK3, HB⟩ := hrel
        cases gk with
        | zero => exact absurd HA.out (by simp [spec_l09One.l0])
        | succ k3 =>
          have H := HA.out; clear HA; simp only [spec_l09One.l0] at H
          by_cases c20 : 0 < (l0.length : Int)
          rotate_left
          · rw [if_neg c20] at H
            exact absurd H (by simp)
          rw [if_pos c20] at H; have c20b0 := decide_eq_true c20
          have c20b1 : decide (0 < l0.length) = true := decide_eq_true (by omega)
          clear c20
          by_cases c21 : x3_3 < (((rd_T36 l0 0).f6).length : Int)
          rotate_left
          · rw [if_neg c21] at H
            have c21b0 := decide_eq_false c21; clear c21; obtain rfl := Option.some.inj H
            have p288 : 0 ≤ (0 : Int) := (by omega)
            have q288 : 0 < (l0.length : Int) := zD; obtain ⟨ad288, A288_8, c288_8, e288, hx288_0, hx288_1, hx288_2, hx288_3, hx288_4, hx288_5, hx288_6, hx288_7, hx288_8, hl288_8, hi288_8⟩ := at_T36 HR0.out 0 p288 q288; cases e288
            have qi288 : (0 < l0.length) = True := eq_true (by omega)
            (try rw [z0, Nat.zero_mul, Addr.add_zero'] at hx288_0); (try rw [z0, Nat.zero_mul, Addr.add_zero'] at hx288_1); (try rw [z0, Nat.zero_mul, Addr.add_zero'] at hx288_2); (try rw [z0, Nat.zero_mul, Addr.add_zero'] at hx288_3); (try rw [z0, Nat.zero_mul, Addr.add_zero'] at hx288_4); (try rw [z0, Nat.zero_mul, Addr.add_zero'] at hx288_5); (try rw [z0, Nat.zero_mul, Addr.add_zero'] at hx288_6); (try rw [z0, Nat.zero_mul, Addr.add_zero'] at hx288_7); (try rw [z0, Nat.zero_mul, Addr.add_zero'] at hx288_8)
            try replace hx288_0 := zH HB hx288_0
            try replace hx288_1 := zH HB hx288_1
            try replace hx288_2 := zH HB hx288_2
            try replace hx288_3 := zH HB hx288_3
            try replace hx288_4 := zH HB hx288_4
            try replace hx288_5 := zH HB hx288_5
            try replace hx288_6 := zH HB hx288_6
            try replace hx288_7 := zH HB hx288_7
            try replace hx288_8 := zH HB hx288_8
            have HR288_8 := Aside0.mk hi288_8; have HC288_8 := Aside0.mk hl288_8; clear hi288_8 hl288_8; replace p288 := eq_true p288; replace q288 := eq_true q288
            go_wp2
            go_ret
            exact ⟨zE, pB0 HB.out⟩
          rw [if_pos c21] at H; have c21b0 := decide_eq_true c21; clear c21
          by_cases c22 : 0 ≤ x3_3
          rotate_left
          · rw [if_neg c22] at H
            exact absurd H (by simp)
          rw [if_pos c22] at H; have c22b0 := decide_eq_true c22; clear c22; replace H := Option.bind_eq_some_iff.mp H; obtain ⟨t291, A230, H⟩ := H; have A23 := Aside0.mk A230; clear A230
          by_cases c24 : t291 = true
          rotate_left
          · replace c24 := Bool.eq_false_iff.mpr c24
            subst c24
            rw [if_neg (show ¬ (false = true) by decide)] at H
            obtain rfl := Option.some.inj H
            have p288 : 0 ≤ (0 : Int) := (by omega)
            have q288 : 0 < (l0.length : Int) := zD; obtain ⟨ad288, A288_8, c288_8, e288, hx288_0, hx288_1, hx288_2, hx288_3, hx288_4, hx288_5, hx288_6, hx288_7, hx288_8, hl288_8, hi288_8⟩ := at_T36 HR0.out 0 p288 q288; cases e288
            have qi288 : (0 < l0.length) = True := eq_true (by omega)
            (try rw [z0, Nat.zero_mul, Addr.add_zero'] at hx288_0); (try rw [z0, Nat.zero_mul, Addr.add_zero'] at hx288_1); (try rw [z0, Nat.zero_mul, Addr.add_zero'] at hx288_2); (try rw [z0, Nat.zero_mul, Addr.add_zero'] at hx288_3); (try rw [z0, Nat.zero_mul, Addr.add_zero'] at hx288_4); (try rw [z0, Nat.zero_mul, Addr.add_zero'] at hx288_5); (try rw [z0, Nat.zero_mul, Addr.add_zero'] at hx288_6); (try rw [z0, Nat.zero_mul, Addr.add_zero'] at hx288_7); (try rw [z0, Nat.zero_mul, Addr.add_zero'] at hx288_8)
            try replace hx288_0 := zH HB hx288_0
            try replace hx288_1 := zH HB hx288_1
            try replace hx288_2 := zH HB hx288_2
            try replace hx288_3 := zH HB hx288_3
            try replace hx288_4 := zH HB hx288_4
            try replace hx288_5 := zH HB hx288_5
            try replace hx288_6 := zH HB hx288_6
            try replace hx288_7 := zH HB hx288_7
            try replace hx288_8 := zH HB hx288_8
            have HR288_8 := Aside0.mk hi288_8; have HC288_8 := Aside0.mk hl288_8; clear hi288_8 hl288_8; replace p288 := eq_true p288; replace q288 := eq_true q288
            try go_wp2
            replace HB := Aside0.mk (below_drew1 HB.out)
            have p289 : 0 ≤ (0 : Int) := (by omega)
            have q289 : 0 < (l0.length : Int) := zD; obtain ⟨ad289, A289_8, c289_8, e289, hx289_0, hx289_1, hx289_2, hx289_3, hx289_4, hx289_5, hx289_6, hx289_7, hx289_8, hl289_8, hi289_8⟩ := at_T36 HR0.out 0 p289 q289; have hw289_8 := hx289_8; (try rw [z0, Nat.zero_mul, Addr.add_zero'] at hw289_8); have hw289_7 := hx289_7; (try rw [z0, Nat.zero_mul, Addr.add_zero'] at hw289_7); have hw289_6 := hx289_6; (try rw [z0, Nat.zero_mul, Addr.add_zero'] at hw289_6); have hw289_5 := hx289_5; (try rw [z0, Nat.zero_mul, Addr.add_zero'] at hw289_5); have hw289_4 := hx289_4; (try rw [z0, Nat.zero_mul, Addr.add_zero'] at hw289_4); have hw289_3 := hx289_3; (try rw [z0, Nat.zero_mul, Addr.add_zero'] at hw289_3); have hw289_2 := hx289_2; (try rw [z0, Nat.zero_mul, Addr.add_zero'] at hw289_2); have hw289_1 := hx289_1; (try rw [z0, Nat.zero_mul, Addr.add_zero'] at hw289_1); have hw289_0 := hx289_0; (try rw [z0, Nat.zero_mul, Addr.add_zero'] at hw289_0)
            obtain rfl : ad288 = ad289 := (by injection e289)
            have qi289 : (0 < l0.length) = True := eq_true (by omega)
            (try rw [z0, Nat.zero_mul, Addr.add_zero'] at hx289_0); (try rw [z0, Nat.zero_mul, Addr.add_zero'] at hx289_1); (try rw [z0, Nat.zero_mul, Addr.add_zero'] at hx289_2); (try rw [z0, Nat.zero_mul, Addr.add_zero'] at hx289_3); (try rw [z0, Nat.zero_mul, Addr.add_zero'] at hx289_4); (try rw [z0, Nat.zero_mul, Addr.add_zero'] at hx289_5); (try rw [z0, Nat.zero_mul, Addr.add_zero'] at hx289_6); (try rw [z0, Nat.zero_mul, Addr.add_zero'] at hx289_7); (try rw [z0, Nat.zero_mul, Addr.add_zero'] at hx289_8)
            try replace hx289_0 := zH HB hx289_0
            try replace hx289_1 := zH HB hx289_1
            try replace hx289_2 := zH HB hx289_2
            try replace hx289_3 := zH HB hx289_3
            try replace hx289_4 := zH HB hx289_4
            try replace hx289_5 := zH HB hx289_5
            try replace hx289_6 := zH HB hx289_6
            try replace hx289_7 := zH HB hx289_7
            try replace hx289_8 := zH HB hx289_8
            have HR289_8 := Aside0.mk hi289_8; have HC289_8 := Aside0.mk hl289_8; clear hi289_8 hl289_8; replace p289 := eq_true p289; replace q289 := eq_true q289; have p290 : 0 ≤ (x3_3 : Int) := zD; have q290 : x3_3 < (((rd_T36 l0 0).f6).length : Int) := zD; obtain ⟨ad290, e290, hx290_0, hx290_1, hx290_2, hx290_3⟩ := at_T103 HR289_8.out x3_3 p290 q290; have hw290_3 := hx290_3; have hw290_2 := hx290_2; have hw290_1 := hx290_1; have hw290_0 := hx290_0; cases e290
            try replace hx290_0 := zH HB hx290_0
            try replace hx290_1 := zH HB hx290_1
            try replace hx290_2 := zH HB hx290_2
            try replace hx290_3 := zH HB hx290_3
            replace p290 := eq_true p290; replace q290 := eq_true q290
            refine start_ (n := 16) (S := fun w' => w'.cell? ad288 = some (.string ((rd_T36 l0 0).f0)) ∧ w'.cell? ⟨ad288.block, ad288.off + 1, none⟩ = some (.string ((rd_T36 l0 0).f1)) ∧ w'.cell? ⟨ad288.block, ad288.off + 2, none⟩ = some (.int .i64 ((rd_T36 l0 0).f2)) ∧ w'.cell? ⟨ad288.block, ad288.off + 3, none⟩ = some (.string ((rd_T36 l0 0).f3.f0)) ∧ w'.cell? ⟨ad288.block, ad288.off + 4, none⟩ = some (.int .i64 ((rd_T36 l0 0).f3.f1)) ∧ w'.cell? ⟨ad288.block, ad288.off + 5, none⟩ = some (.int .i64 ((rd_T36 l0 0).f3.f2)) ∧ w'.cell? ⟨ad288.block, ad288.off + 6, none⟩ = some (.int .i64 ((rd_T36 l0 0).f4)) ∧ w'.cell? ⟨ad288.block, ad288.off + 7, none⟩ = some (.int .i64 ((rd_T36 l0 0).f5)) ∧ w'.cell? ⟨ad288.block, ad288.off + 8, none⟩ = some (.slice (some ad290) ((rd_T36 l0 0).f6).length c289_8) ∧ w'.cell? (ad290.add ((x3_3).toNat * 4)) = some (.int .i64 ((rd_T103 ((rd_T36 l0 0).f6) x3_3).f0)) ∧ w'.cell? ⟨(ad290.add ((x3_3).toNat * 4)).block, (ad290.add ((x3_3).toNat * 4)).off + 1, none⟩ = some (.int .i64 ((rd_T103 ((rd_T36 l0 0).f6) x3_3).f1)) ∧ w'.cell? ⟨(ad290.add ((x3_3).toNat * 4)).block, (ad290.add ((x3_3).toNat * 4)).off + 2, none⟩ = some (.int .i64 ((rd_T103 ((rd_T36 l0 0).f6) x3_3).f2)) ∧ w'.cell? ⟨(ad290.add ((x3_3).toNat * 4)).block, (ad290.add ((x3_3).toNat * 4)).off + 3, none⟩ = some (.int .i64 ((rd_T103 ((rd_T36 l0 0).f6) x3_3).f3))) (ds := []) (Array.replicate 16 false) (by kernel_rfl) rfl rfl ⟨(zH HB hw289_0), (zH HB hw289_1), (zH HB hw289_2), (zH HB hw289_3), (zH HB hw289_4), (zH HB hw289_5), (zH HB hw289_6), (zH HB hw289_7), (zH HB hw289_8), (zH HB hw290_0), (zH HB hw290_1), (zH HB hw290_2), (zH HB hw290_3)⟩ (fun hHeld => ?_); refine with_tabW spec_l09One.tab8 spec_l09One.bits8 (fun HT_ HW_ => ?_)
            generalize wr.drew = w27 at HB HR289_8 hx289_0 hx289_1 hx289_2 hx289_3 hx289_4 hx289_5 hx289_6 hx289_7 hx289_8 hx290_0 hx290_1 hx290_2 hx290_3 hHeld ⊢
            refine zP 0 (some 64) (zb 16 1) HT_ ?_; refine zP 1 (some 65) (zb 16 3) HT_ ?_; refine zP 2 (some 66) (zb 16 7) HT_ ?_; refine zP 4 (some 68) (zb 16 23) HT_ ?_; refine zP 6 (some 70) (zb 16 87) HT_ ?_; refine zP 7 (some 71) (zb 16 215) HT_ ?_; refine zP 8 (some 72) (zb 16 471) HT_ ?_; refine zP 10 (some 74) (zb 16 1495) HT_ ?_; refine zP 11 (some 75) (zb 16 3543) HT_ ?_; refine zP 12 (some 76) (zb 16 7639) HT_ ?_; refine zT13 3 (some 67) (zb 16 7647) HT_ HW_ hHeld ?_; refine zP 5 (some 69) (zb 16 7679) HT_ ?_; refine zT13 9 (some 73) (zb 16 8191) HT_ HW_ hHeld ?_; refine zT13 13 (some 77) (zb 16 16383) HT_ HW_ hHeld ?_
            refine one_ (i := 14) (N := some 78) (zb 16 32767) rfl rfl (one_of HT_.out (by kernel_rfl)) (by decide) (fun K hK => ?_)
            refine goes_ Try.func93 (by kernel_rfl) rfl #[.pointer (some (ad290.add ((x3_3).toNat * 4))), .int .i64 ((rd_T36 l0 0).f4), .int .i64 ((rd_T36 l0 0).f5)] (by rfl) rfl rfl pA ?_
            with_reducible refine (spec_l09Box.calls _ 1 [rd_T103 ((rd_T36 l0 0).f6) x3_3] ((rd_T36 l0 0).f4) ((rd_T36 l0 0).f5) false _ ?side1 ?side2 A23.out).mono ?_
            (case side1 => (first | exact C_el z103 (by exact pC (Kd.C_below HR289_8.out HB.out)) (x3_3) (by first | exact of_eq_true p290 | omega) (by first | exact of_eq_true q290 | omega) | (have hel_ := C_el z103 (show Kd.C k103 _ _ _ ((rd_T36 l0 0).f6) from by exact pC (Kd.C_below HR289_8.out HB.out)) (x3_3) (by first | exact of_eq_true p290 | omega) (by first | exact of_eq_true q290 | omega); first | exact hel_ | (simp [Go.Addr.add] at hel_ ⊢; exact hel_) | simpa using hel_)))
            (case side2 => exact Nat.le_refl _)
            rintro e w28 ⟨rfl, hb⟩; refine ⟨_, rfl, ?_⟩; replace HB := zW (pB0 HB.out) hb; (try clear hb); (try clear hb2); (try clear hk); (try clear hi)
            refine hK.out _ _ ⟨(zH HB hw289_0), (zH HB hw289_1), (zH HB hw289_2), (zH HB hw289_3), (zH HB hw289_4), (zH HB hw289_5), (zH HB hw289_6), (zH HB hw289_7), (zH HB hw289_8), (zH HB hw290_0), (zH HB hw290_1), (zH HB hw290_2), (zH HB hw290_3)⟩ (fun hHeld => ?_)
            clear hK K; refine zN ?_; refine zP 15 (some 79) (zb 16 65535) HT_ ?_
            refine done_ (done_of HT_.out (by kernel_rfl)) ?_
            try go_wp2
            go_ret
            exact ⟨zE, pB0 HB.out⟩
          subst c24; rw [if_pos rfl] at H; have H' := Aside0.mk H; clear H
          have p288 : 0 ≤ (0 : Int) := (by omega)
          have q288 : 0 < (l0.length : Int) := zD; obtain ⟨ad288, A288_8, c288_8, e288, hx288_0, hx288_1, hx288_2, hx288_3, hx288_4, hx288_5, hx288_6, hx288_7, hx288_8, hl288_8, hi288_8⟩ := at_T36 HR0.out 0 p288 q288; cases e288
          have qi288 : (0 < l0.length) = True := eq_true (by omega)
          (try rw [z0, Nat.zero_mul, Addr.add_zero'] at hx288_0); (try rw [z0, Nat.zero_mul, Addr.add_zero'] at hx288_1); (try rw [z0, Nat.zero_mul, Addr.add_zero'] at hx288_2); (try rw [z0, Nat.zero_mul, Addr.add_zero'] at hx288_3); (try rw [z0, Nat.zero_mul, Addr.add_zero'] at hx288_4); (try rw [z0, Nat.zero_mul, Addr.add_zero'] at hx288_5); (try rw [z0, Nat.zero_mul, Addr.add_zero'] at hx288_6); (try rw [z0, Nat.zero_mul, Addr.add_zero'] at hx288_7); (try rw [z0, Nat.zero_mul, Addr.add_zero'] at hx288_8)
          try replace hx288_0 := zH HB hx288_0
          try replace hx288_1 := zH HB hx288_1
          try replace hx288_2 := zH HB hx288_2
          try replace hx288_3 := zH HB hx288_3
          try replace hx288_4 := zH HB hx288_4
          try replace hx288_5 := zH HB hx288_5
          try replace hx288_6 := zH HB hx288_6
          try replace hx288_7 := zH HB hx288_7
          try replace hx288_8 := zH HB hx288_8
          have HR288_8 := Aside0.mk hi288_8; have HC288_8 := Aside0.mk hl288_8; clear hi288_8 hl288_8; replace p288 := eq_true p288; replace q288 := eq_true q288
          try go_wp2
          replace HB := Aside0.mk (below_drew1 HB.out)
          have p289 : 0 ≤ (0 : Int) := (by omega)
          have q289 : 0 < (l0.length : Int) := zD; obtain ⟨ad289, A289_8, c289_8, e289, hx289_0, hx289_1, hx289_2, hx289_3, hx289_4, hx289_5, hx289_6, hx289_7, hx289_8, hl289_8, hi289_8⟩ := at_T36 HR0.out 0 p289 q289; have hw289_8 := hx289_8; (try rw [z0, Nat.zero_mul, Addr.add_zero'] at hw289_8); have hw289_7 := hx289_7; (try rw [z0, Nat.zero_mul, Addr.add_zero'] at hw289_7); have hw289_6 := hx289_6; (try rw [z0, Nat.zero_mul, Addr.add_zero'] at hw289_6); have hw289_5 := hx289_5; (try rw [z0, Nat.zero_mul, Addr.add_zero'] at hw289_5); have hw289_4 := hx289_4; (try rw [z0, Nat.zero_mul, Addr.add_zero'] at hw289_4); have hw289_3 := hx289_3; (try rw [z0, Nat.zero_mul, Addr.add_zero'] at hw289_3); have hw289_2 := hx289_2; (try rw [z0, Nat.zero_mul, Addr.add_zero'] at hw289_2); have hw289_1 := hx289_1; (try rw [z0, Nat.zero_mul, Addr.add_zero'] at hw289_1); have hw289_0 := hx289_0; (try rw [z0, Nat.zero_mul, Addr.add_zero'] at hw289_0)
          obtain rfl : ad288 = ad289 := (by injection e289)
          have qi289 : (0 < l0.length) = True := eq_true (by omega)
          (try rw [z0, Nat.zero_mul, Addr.add_zero'] at hx289_0); (try rw [z0, Nat.zero_mul, Addr.add_zero'] at hx289_1); (try rw [z0, Nat.zero_mul, Addr.add_zero'] at hx289_2); (try rw [z0, Nat.zero_mul, Addr.add_zero'] at hx289_3); (try rw [z0, Nat.zero_mul, Addr.add_zero'] at hx289_4); (try rw [z0, Nat.zero_mul, Addr.add_zero'] at hx289_5); (try rw [z0, Nat.zero_mul, Addr.add_zero'] at hx289_6); (try rw [z0, Nat.zero_mul, Addr.add_zero'] at hx289_7); (try rw [z0, Nat.zero_mul, Addr.add_zero'] at hx289_8)
          try replace hx289_0 := zH HB hx289_0
          try replace hx289_1 := zH HB hx289_1
          try replace hx289_2 := zH HB hx289_2
          try replace hx289_3 := zH HB hx289_3
          try replace hx289_4 := zH HB hx289_4
          try replace hx289_5 := zH HB hx289_5
          try replace hx289_6 := zH HB hx289_6
          try replace hx289_7 := zH HB hx289_7
          try replace hx289_8 := zH HB hx289_8
          have HR289_8 := Aside0.mk hi289_8; have HC289_8 := Aside0.mk hl289_8; clear hi289_8 hl289_8; replace p289 := eq_true p289; replace q289 := eq_true q289; have p290 : 0 ≤ (x3_3 : Int) := zD; have q290 : x3_3 < (((rd_T36 l0 0).f6).length : Int) := zD; obtain ⟨ad290, e290, hx290_0, hx290_1, hx290_2, hx290_3⟩ := at_T103 HR289_8.out x3_3 p290 q290; have hw290_3 := hx290_3; have hw290_2 := hx290_2; have hw290_1 := hx290_1; have hw290_0 := hx290_0; cases e290
          try replace hx290_0 := zH HB hx290_0
          try replace hx290_1 := zH HB hx290_1
          try replace hx290_2 := zH HB hx290_2
          try replace hx290_3 := zH HB hx290_3
          replace p290 := eq_true p290; replace q290 := eq_true q290
          refine start_ (n := 16) (S := fun w' => w'.cell? ad288 = some (.string ((rd_T36 l0 0).f0)) ∧ w'.cell? ⟨ad288.block, ad288.off + 1, none⟩ = some (.string ((rd_T36 l0 0).f1)) ∧ w'.cell? ⟨ad288.block, ad288.off + 2, none⟩ = some (.int .i64 ((rd_T36 l0 0).f2)) ∧ w'.cell? ⟨ad288.block, ad288.off + 3, none⟩ = some (.string ((rd_T36 l0 0).f3.f0)) ∧ w'.cell? ⟨ad288.block, ad288.off + 4, none⟩ = some (.int .i64 ((rd_T36 l0 0).f3.f1)) ∧ w'.cell? ⟨ad288.block, ad288.off + 5, none⟩ = some (.int .i64 ((rd_T36 l0 0).f3.f2)) ∧ w'.cell? ⟨ad288.block, ad288.off + 6, none⟩ = some (.int .i64 ((rd_T36 l0 0).f4)) ∧ w'.cell? ⟨ad288.block, ad288.off + 7, none⟩ = some (.int .i64 ((rd_T36 l0 0).f5)) ∧ w'.cell? ⟨ad288.block, ad288.off + 8, none⟩ = some (.slice (some ad290) ((rd_T36 l0 0).f6).length c289_8) ∧ w'.cell? (ad290.add ((x3_3).toNat * 4)) = some (.int .i64 ((rd_T103 ((rd_T36 l0 0).f6) x3_3).f0)) ∧ w'.cell? ⟨(ad290.add ((x3_3).toNat * 4)).block, (ad290.add ((x3_3).toNat * 4)).off + 1, none⟩ = some (.int .i64 ((rd_T103 ((rd_T36 l0 0).f6) x3_3).f1)) ∧ w'.cell? ⟨(ad290.add ((x3_3).toNat * 4)).block, (ad290.add ((x3_3).toNat * 4)).off + 2, none⟩ = some (.int .i64 ((rd_T103 ((rd_T36 l0 0).f6) x3_3).f2)) ∧ w'.cell? ⟨(ad290.add ((x3_3).toNat * 4)).block, (ad290.add ((x3_3).toNat * 4)).off + 3, none⟩ = some (.int .i64 ((rd_T103 ((rd_T36 l0 0).f6) x3_3).f3))) (ds := []) (Array.replicate 16 false) (by kernel_rfl) rfl rfl ⟨(zH HB hw289_0), (zH HB hw289_1), (zH HB hw289_2), (zH HB hw289_3), (zH HB hw289_4), (zH HB hw289_5), (zH HB hw289_6), (zH HB hw289_7), (zH HB hw289_8), (zH HB hw290_0), (zH HB hw290_1), (zH HB hw290_2), (zH HB hw290_3)⟩ (fun hHeld => ?_); refine with_tabW spec_l09One.tab8 spec_l09One.bits8 (fun HT_ HW_ => ?_)
          generalize wr.drew = w25 at HB HR289_8 hx289_0 hx289_1 hx289_2 hx289_3 hx289_4 hx289_5 hx289_6 hx289_7 hx289_8 hx290_0 hx290_1 hx290_2 hx290_3 hHeld ⊢
          refine zP 0 (some 64) (zb 16 1) HT_ ?_; refine zP 1 (some 65) (zb 16 3) HT_ ?_; refine zP 2 (some 66) (zb 16 7) HT_ ?_; refine zP 4 (some 68) (zb 16 23) HT_ ?_; refine zP 6 (some 70) (zb 16 87) HT_ ?_; refine zP 7 (some 71) (zb 16 215) HT_ ?_; refine zP 8 (some 72) (zb 16 471) HT_ ?_; refine zP 10 (some 74) (zb 16 1495) HT_ ?_; refine zP 11 (some 75) (zb 16 3543) HT_ ?_; refine zP 12 (some 76) (zb 16 7639) HT_ ?_; refine zT13 3 (some 67) (zb 16 7647) HT_ HW_ hHeld ?_; refine zP 5 (some 69) (zb 16 7679) HT_ ?_; refine zT13 9 (some 73) (zb 16 8191) HT_ HW_ hHeld ?_; refine zT13 13 (some 77) (zb 16 16383) HT_ HW_ hHeld ?_
          refine one_ (i := 14) (N := some 78) (zb 16 32767) rfl rfl (one_of HT_.out (by kernel_rfl)) (by decide) (fun K hK => ?_)
          refine goes_ Try.func93 (by kernel_rfl) rfl #[.pointer (some (ad290.add ((x3_3).toNat * 4))), .int .i64 ((rd_T36 l0 0).f4), .int .i64 ((rd_T36 l0 0).f5)] (by rfl) rfl rfl pA ?_
          with_reducible refine (spec_l09Box.calls _ 1 [rd_T103 ((rd_T36 l0 0).f6) x3_3] ((rd_T36 l0 0).f4) ((rd_T36 l0 0).f5) true _ ?side1 ?side2 A23.out).mono ?_
          (case side1 => (first | exact C_el z103 (by exact pC (Kd.C_below HR289_8.out HB.out)) (x3_3) (by first | exact of_eq_true p290 | omega) (by first | exact of_eq_true q290 | omega) | (have hel_ := C_el z103 (show Kd.C k103 _ _ _ ((rd_T36 l0 0).f6) from by exact pC (Kd.C_below HR289_8.out HB.out)) (x3_3) (by first | exact of_eq_true p290 | omega) (by first | exact of_eq_true q290 | omega); first | exact hel_ | (simp [Go.Addr.add] at hel_ ⊢; exact hel_) | simpa using hel_)))
          (case side2 => exact Nat.le_refl _)
          rintro e w26 ⟨rfl, hb⟩; refine ⟨_, rfl, ?_⟩; replace HB := zW (pB0 HB.out) hb; (try clear hb); (try clear hb2); (try clear hk); (try clear hi)
          refine hK.out _ _ ⟨(zH HB hw289_0), (zH HB hw289_1), (zH HB hw289_2), (zH HB hw289_3), (zH HB hw289_4), (zH HB hw289_5), (zH HB hw289_6), (zH HB hw289_7), (zH HB hw289_8), (zH HB hw290_0), (zH HB hw290_1), (zH HB hw290_2), (zH HB hw290_3)⟩ (fun hHeld => ?_)
          clear hK K; refine zN ?_; refine zP 15 (some 79) (zb 16 65535) HT_ ?_
          refine done_ (done_of HT_.out (by kernel_rfl)) ?_
          try go_wp2
          go_roundg k3
          case measure => have := HJ1.out; have := HJ12.out; have := HK3.out; omega
          case rel => exact ⟨(wrap64 (x3_3 + 1)), zR, H', ⟨by have := HJ1.out; have := HJ12.out; have := HK3.out; omega⟩, ⟨pB0 HB.out⟩⟩
end Go.Proofs.Ytfiiakhpdkdebaa.PFnExactOffcutsOf

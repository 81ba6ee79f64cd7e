/- What each function that a law reaches comes to, and the proof that its walk comes to it; laid by a program of this session. No condition. -/
import Derived.Test.YtfiiakhpdkdebaaZFnExactOffcutsOf0
import Derived.Test.YtfiiakhpdkdebaaZFnExactOffcutsOf1
import Derived.Test.YtfiiakhpdkdebaaZFnExactOffcutsOf13
import Derived.Test.YtfiiakhpdkdebaaZFnExactOffcutsOf14
namespace Go.Proofs.Ytfiiakhpdkdebaa.PFnExactOffcutsOf
open Go.RowKit Go.Proofs.YtfiiakhpdkdebaaW.PrintWords Go.Proofs.YtfiiakhpdkdebaaW.PrintLast Go.Proofs.YtfiiakhpdkdebaaW.PrintMore
attribute [local go_sem] max2_int min2_int max_two min_two max_three min_three max_four min_four
set_option linter.unusedVariables false
set_option linter.unusedSimpArgs false
attribute [local go_sem high] eqA91
mutual
def impl_ValidPolygon.j0 : Nat → List (S91) → Int → Bool → Option (Bool)
 | 0, _, _, _ => none
 | k + 1, x0, x3, x21 => if x21 = true then (some false) else (impl_ValidPolygon.l0 k x0 x3 (x0.length : Int) 0)
def impl_ValidPolygon.l0 : Nat → List (S91) → Int → Int → Int → Option (Bool)
 | 0, _, _, _, _ => none
 | k + 1, x0, x3, x23, x24 => if x24 < x23 then (if 0 ≤ x24 then (if x24 < (x0.length : Int) then (if x3 = 0 then (none) else (if 0 ≤ (Int.tmod (wrap64 (x24 + 1)) x3) then (if (Int.tmod (wrap64 (x24 + 1)) x3) < (x0.length : Int) then (if 0 ≤ (Int.tmod (wrap64 (x24 + 2)) x3) then (if (Int.tmod (wrap64 (x24 + 2)) x3) < (x0.length : Int) then (if (((rd_T91 x0 x24).f0) == ((rd_T91 x0 (Int.tmod (wrap64 (x24 + 1)) x3)).f0) && (((rd_T91 x0 x24).f1) == ((rd_T91 x0 (Int.tmod (wrap64 (x24 + 1)) x3)).f1))) = true then (impl_ValidPolygon.j2 k x0 x3 x24 x23 x24 true ((rd_T91 x0 x24).f0) ((rd_T91 x0 x24).f1) ((rd_T91 x0 (Int.tmod (wrap64 (x24 + 1)) x3)).f0) ((rd_T91 x0 (Int.tmod (wrap64 (x24 + 1)) x3)).f1)) else ((impl_on.f ((rd_T91 x0 x24).f0) ((rd_T91 x0 x24).f1) ((rd_T91 x0 (Int.tmod (wrap64 (x24 + 1)) x3)).f0) ((rd_T91 x0 (Int.tmod (wrap64 (x24 + 1)) x3)).f1) ((rd_T91 x0 (Int.tmod (wrap64 (x24 + 2)) x3)).f0) ((rd_T91 x0 (Int.tmod (wrap64 (x24 + 2)) x3)).f1)).bind fun t392 => (if t392 = true then (impl_ValidPolygon.j2 k x0 x3 x24 x23 x24 true ((rd_T91 x0 x24).f0) ((rd_T91 x0 x24).f1) ((rd_T91 x0 (Int.tmod (wrap64 (x24 + 1)) x3)).f0) ((rd_T91 x0 (Int.tmod (wrap64 (x24 + 1)) x3)).f1)) else ((impl_on.f ((rd_T91 x0 (Int.tmod (wrap64 (x24 + 1)) x3)).f0) ((rd_T91 x0 (Int.tmod (wrap64 (x24 + 1)) x3)).f1) ((rd_T91 x0 (Int.tmod (wrap64 (x24 + 2)) x3)).f0) ((rd_T91 x0 (Int.tmod (wrap64 (x24 + 2)) x3)).f1) ((rd_T91 x0 x24).f0) ((rd_T91 x0 x24).f1)).bind fun t393 => (impl_ValidPolygon.j2 k x0 x3 x24 x23 x24 t393 ((rd_T91 x0 x24).f0) ((rd_T91 x0 x24).f1) ((rd_T91 x0 (Int.tmod (wrap64 (x24 + 1)) x3)).f0) ((rd_T91 x0 (Int.tmod (wrap64 (x24 + 1)) x3)).f1)))))) else (none)) else (none)) else (none)) else (none))) else (none)) else (none)) else ((impl_doubled.f k x0).bind fun t385 => (some (decide (t385 > 0))))
def impl_ValidPolygon.j2 : Nat → List (S91) → Int → Int → Int → Int → Bool → Int → Int → Int → Int → Option (Bool)
 | 0, _, _, _, _, _, _, _, _, _, _ => none
 | k + 1, x0, x3, x4, x23, x24, x59, x390000, x390001, x391000, x391001 => if x59 = true then (some false) else (impl_ValidPolygon.l1 k x0 x3 x4 (wrap64 (x4 + 2)) x23 x24 x390000 x390001 x391000 x391001)
def impl_ValidPolygon.l1 : Nat → List (S91) → Int → Int → Int → Int → Int → Int → Int → Int → Int → Option (Bool)
 | 0, _, _, _, _, _, _, _, _, _, _ => none
 | k + 1, x0, x3, x4, x8, x23, x24, x390000, x390001, x391000, x391001 => if x8 < x3 then (if x3 = 0 then (none) else (if (Int.tmod (wrap64 (x8 + 1)) x3) = x4 then (impl_ValidPolygon.l1 k x0 x3 x4 (wrap64 (x8 + 1)) x23 x24 x390000 x390001 x391000 x391001) else (if 0 ≤ x8 then (if x8 < (x0.length : Int) then (if 0 ≤ (Int.tmod (wrap64 (x8 + 1)) x3) then (if (Int.tmod (wrap64 (x8 + 1)) x3) < (x0.length : Int) then ((impl_touching.f x390000 x390001 x391000 x391001 ((rd_T91 x0 x8).f0) ((rd_T91 x0 x8).f1) ((rd_T91 x0 (Int.tmod (wrap64 (x8 + 1)) x3)).f0) ((rd_T91 x0 (Int.tmod (wrap64 (x8 + 1)) x3)).f1)).bind fun t396 => (if t396 = true then (some false) else (impl_ValidPolygon.l1 k x0 x3 x4 (wrap64 (x8 + 1)) x23 x24 x390000 x390001 x391000 x391001))) else (none)) else (none)) else (none)) else (none)))) else (impl_ValidPolygon.l0 k x0 x3 x23 (wrap64 (x24 + 1)))
end
def impl_ValidPolygon.f (k : Nat) (l0 : List (S91)) : Option (Bool) := if (l0.length : Int) < 3 then (impl_ValidPolygon.j0 k l0 (l0.length : Int) true) else (if (l0.length : Int) > 24 then (impl_ValidPolygon.j0 k l0 (l0.length : Int) true) else ((impl_validPoints.f k l0).bind fun t384 => (impl_ValidPolygon.j0 k l0 (l0.length : Int) (!t384))))
theorem impl_ValidPolygon.mono_l : ∀ k, (∀ y0 y1 y2, LeO (impl_ValidPolygon.j0 k y0 y1 y2) (impl_ValidPolygon.j0 (k + 1) y0 y1 y2)) ∧ (∀ y0 y1 y2 y3, LeO (impl_ValidPolygon.l0 k y0 y1 y2 y3) (impl_ValidPolygon.l0 (k + 1) y0 y1 y2 y3)) ∧ (∀ y0 y1 y2 y3 y4 y5 y6 y7 y8 y9, LeO (impl_ValidPolygon.j2 k y0 y1 y2 y3 y4 y5 y6 y7 y8 y9) (impl_ValidPolygon.j2 (k + 1) y0 y1 y2 y3 y4 y5 y6 y7 y8 y9)) ∧ (∀ y0 y1 y2 y3 y4 y5 y6 y7 y8 y9, LeO (impl_ValidPolygon.l1 k y0 y1 y2 y3 y4 y5 y6 y7 y8 y9) (impl_ValidPolygon.l1 (k + 1) y0 y1 y2 y3 y4 y5 y6 y7 y8 y9))
 | 0 => ⟨fun _ _ _ r h => by simp [impl_ValidPolygon.j0] at h, fun _ _ _ _ r h => by simp [impl_ValidPolygon.l0] at h, fun _ _ _ _ _ _ _ _ _ _ r h => by simp [impl_ValidPolygon.j2] at h, fun _ _ _ _ _ _ _ _ _ _ r h => by simp [impl_ValidPolygon.l1] at h⟩
 | k + 1 => by
   obtain ⟨ih0, ih1, ih2, ih3⟩ := impl_ValidPolygon.mono_l k; refine ⟨?_, ?_, ?_, ?_⟩
   · intro y0 y1 y2
     unfold impl_ValidPolygon.j0
     repeat' first
     | (with_reducible exact ih0 _ _ _)
     | (with_reducible exact ih1 _ _ _ _)
     | (with_reducible exact ih2 _ _ _ _ _ _ _ _ _ _)
     | (with_reducible exact ih3 _ _ _ _ _ _ _ _ _ _)
     | (with_reducible exact impl_doubled.mono _ _)
     | (with_reducible exact impl_validPoints.mono _ _)
     | (with_reducible exact LeO.refl _)
     | (with_reducible exact LeO.none _)
     | (with_reducible refine LeO.ite ?_ ?_)
     | (with_reducible refine LeO.bind ?_ (fun _ => ?_))
     | exact ih0 _ _ _
     | exact ih1 _ _ _ _
     | exact ih2 _ _ _ _ _ _ _ _ _ _
     | exact ih3 _ _ _ _ _ _ _ _ _ _
     | exact impl_doubled.mono _ _
     | exact impl_validPoints.mono _ _
     | exact LeO.none _
     | refine LeO.ite ?_ ?_
     | refine LeO.bind ?_ (fun _ => ?_)
   · intro y0 y1 y2 y3
     unfold impl_ValidPolygon.l0
     repeat' first
     | (with_reducible exact ih0 _ _ _)
     | (with_reducible exact ih1 _ _ _ _)
     | (with_reducible exact ih2 _ _ _ _ _ _ _ _ _ _)
     | (with_reducible exact ih3 _ _ _ _ _ _ _ _ _ _)
     | (with_reducible exact impl_doubled.mono _ _)
     | (with_reducible exact impl_validPoints.mono _ _)
     | (with_reducible exact LeO.refl _)
     | (with_reducible exact LeO.none _)
     | (with_reducible refine LeO.ite ?_ ?_)
     | (with_reducible refine LeO.bind ?_ (fun _ => ?_))
     | exact ih0 _ _ _
     | exact ih1 _ _ _ _
     | exact ih2 _ _ _ _ _ _ _ _ _ _
     | exact ih3 _ _ _ _ _ _ _ _ _ _
     | exact impl_doubled.mono _ _
     | exact impl_validPoints.mono _ _
     | exact LeO.none _
     | refine LeO.ite ?_ ?_
     | refine LeO.bind ?_ (fun _ => ?_)
   · intro y0 y1 y2 y3 y4 y5 y6 y7 y8 y9
     unfold impl_ValidPolygon.j2
     repeat' first
     | (with_reducible exact ih0 _ _ _)
     | (with_reducible exact ih1 _ _ _ _)
     | (with_reducible exact ih2 _ _ _ _ _ _ _ _ _ _)
     | (with_reducible exact ih3 _ _ _ _ _ _ _ _ _ _)
     | (with_reducible exact impl_doubled.mono _ _)
     | (with_reducible exact impl_validPoints.mono _ _)
     | (with_reducible exact LeO.refl _)
     | (with_reducible exact LeO.none _)
     | (with_reducible refine LeO.ite ?_ ?_)
     | (with_reducible refine LeO.bind ?_ (fun _ => ?_))
     | exact ih0 _ _ _
     | exact ih1 _ _ _ _
     | exact ih2 _ _ _ _ _ _ _ _ _ _
     | exact ih3 _ _ _ _ _ _ _ _ _ _
     | exact impl_doubled.mono _ _
     | exact impl_validPoints.mono _ _
     | exact LeO.none _
     | refine LeO.ite ?_ ?_
     | refine LeO.bind ?_ (fun _ => ?_)
   · intro y0 y1 y2 y3 y4 y5 y6 y7 y8 y9
     unfold impl_ValidPolygon.l1
     repeat' first
     | (with_reducible exact ih0 _ _ _)
     | (with_reducible exact ih1 _ _ _ _)
     | (with_reducible exact ih2 _ _ _ _ _ _ _ _ _ _)
     | (with_reducible exact ih3 _ _ _ _ _ _ _ _ _ _)
     | (with_reducible exact impl_doubled.mono _ _)
     | (with_reducible exact impl_validPoints.mono _ _)
     | (with_reducible exact LeO.refl _)
     | (with_reducible exact LeO.none _)
     | (with_reducible refine LeO.ite ?_ ?_)
     | (with_reducible refine LeO.bind ?_ (fun _ => ?_))
     | exact ih0 _ _ _
     | exact ih1 _ _ _ _
     | exact ih2 _ _ _ _ _ _ _ _ _ _
     | exact ih3 _ _ _ _ _ _ _ _ _ _
     | exact impl_doubled.mono _ _
     | exact impl_validPoints.mono _ _
     | exact LeO.none _
     | refine LeO.ite ?_ ?_
     | refine LeO.bind ?_ (fun _ => ?_)
theorem impl_ValidPolygon.mono : ∀ a0 k, LeO (impl_ValidPolygon.f k a0) (impl_ValidPolygon.f (k + 1) a0) := by
 intro a0 k; obtain ⟨ih0, ih1, ih2, ih3⟩ := impl_ValidPolygon.mono_l k; unfold impl_ValidPolygon.f
 repeat' first
  | (with_reducible exact ih0 _ _ _)
  | (with_reducible exact ih1 _ _ _ _)
  | (with_reducible exact ih2 _ _ _ _ _ _ _ _ _ _)
  | (with_reducible exact ih3 _ _ _ _ _ _ _ _ _ _)
  | (with_reducible exact impl_doubled.mono _ _)
  | (with_reducible exact impl_validPoints.mono _ _)
  | (with_reducible exact LeO.refl _)
  | (with_reducible exact LeO.none _)
  | (with_reducible refine LeO.ite ?_ ?_)
  | (with_reducible refine LeO.bind ?_ (fun _ => ?_))
  | exact ih0 _ _ _
  | exact ih1 _ _ _ _
  | exact ih2 _ _ _ _ _ _ _ _ _ _
  | exact ih3 _ _ _ _ _ _ _ _ _ _
  | exact impl_doubled.mono _ _
  | exact impl_validPoints.mono _ _
  | exact LeO.none _
  | refine LeO.ite ?_ ?_
  | refine LeO.bind ?_ (fun _ => ?_)
def impl_ValidPolygon.T7 : Bool × List (List Nat × List Nat) := (true, [([], []), ([], []), ([0, 1], [0, 1]), ([2], [2]), ([], []), ([], []), ([5], [5]), ([], []), ([6, 7], [6, 7]), ([4, 8], [4, 8]), ([9], [9]), ([], []), ([], []), ([12], [12]), ([], []), ([13, 14], [13, 14]), ([11, 15], [11, 15]), ([16], [16]), ([], []), ([], []), ([], []), ([18, 3, 0, 1, 2, 3, 18, 19, 20], [3, 18]), ([19, 10, 21, 0, 1, 2, 3, 4, 5, 6, 7, 8, 9, 10, 18, 19, 20, 21], [10, 19]), ([20, 17, 22, 0, 1, 2, 3, 4, 5, 6, 7, 8, 9, 10, 11, 12, 13, 14, 15, 16, 17, 18, 19, 20, 21, 22], [17, 20])])
def impl_ValidPolygon.B7 : List Nat := [0, 0, 3, 7, 0, 0, 32, 0, 224, 496, 1008, 0, 0, 4096, 0, 28672, 63488, 129024, 0, 0, 0, 1835023, 3934207, 8388607]
theorem impl_ValidPolygon.tab7 : rtab .any (opsOf Try.f55 7) = impl_ValidPolygon.T7 := by kernel_rfl
theorem impl_ValidPolygon.bits7 : waitsOk impl_ValidPolygon.T7.2 impl_ValidPolygon.B7 = true := by kernel_rfl
def impl_ValidPolygon.T13 : Bool × List (List Nat × List Nat) := (true, [([], []), ([0], [0]), ([], []), ([1, 2], [1, 2]), ([], []), ([3, 4], [3, 4]), ([5], [5]), ([6], [6]), ([6], [6]), ([6], [6]), ([6], [6]), ([9, 10, 6], [6, 9, 10]), ([11, 6], [6, 11]), ([6], [6]), ([6], [6]), ([14, 6], [6, 14]), ([6], [6]), ([15, 16, 6], [6, 15, 16]), ([13, 17, 6], [6, 13, 17]), ([18, 6], [6, 18]), ([7, 8, 12, 19, 6, 6], [6, 7, 8, 12, 19]), ([6, 20], [6, 20])])
def impl_ValidPolygon.B13 : List Nat := [0, 1, 0, 7, 0, 31, 63, 127, 127, 127, 127, 1663, 3711, 127, 127, 16511, 127, 114815, 254079, 516223, 1048575, 2097151]
theorem impl_ValidPolygon.tab13 : rtab .any (opsOf Try.f55 13) = impl_ValidPolygon.T13 := by kernel_rfl
theorem impl_ValidPolygon.bits13 : waitsOk impl_ValidPolygon.T13.2 impl_ValidPolygon.B13 = true := by kernel_rfl
set_option maxHeartbeats 8000000 in
set_option maxRecDepth 100000 in
theorem impl_ValidPolygon.calls (k : Nat) (A0 : Option Addr) (c0 : Nat) (l0 : List (S91)) (r : Bool) (w : World) (hr0 : Kd.C k91 w A0 l0.length l0) (hc0 : l0.length ≤ c0) (h : impl_ValidPolygon.f k l0 = some r) :
 Calls Try.prog 55 #[.slice A0 l0.length c0] w fun e w' => e = .returned (.bool r) ∧ Below w.heap.size w w' := by
 have hu91 := Try.underlying91; have HR0 := Aside0.mk hr0; have HC0 := Aside0.mk hc0; clear hr0 hc0; have HB := Aside0.mk (Below.refl w.heap.size w)
 have H : (if (l0.length : Int) < 3 then (impl_ValidPolygon.j0 k l0 (l0.length : Int) true) else (if (l0.length : Int) > 24 then (impl_ValidPolygon.j0 k l0 (l0.length : Int) true) else ((impl_validPoints.f k l0).bind fun t384 => (impl_ValidPolygon.j0 k l0 (l0.length : Int) (!t384))))) = some r := h
 clear h; have HC2 := Aside0.mk H; clear H
 go_enter Try.func55, Try.ntmps55
 go_upto_region 2 with (fail)
 go_cut [21] (fun v21 wc => ∃ (kq : Nat) (x21_1 : Bool), v21 = .bool x21_1 ∧ Aside0 (impl_ValidPolygon.j0 kq l0 (l0.length : Int) x21_1 = some r) ∧ Aside0 (kq ≤ k) ∧ Aside0 (Below w.heap.size w wc))
 case first =>
  have H := HC2.out; clear HC2
  by_cases c3 : (l0.length : Int) < 3
  · rw [if_pos c3] at H
    have c3b0 := decide_eq_true c3
    have c3b1 : decide (l0.length < 3) = true := decide_eq_true (by omega)
    clear c3; (first | rw [c3b0] | (simp only [i64_w, i32_w]; rw [c3b0]) | skip); have H' := Aside0.mk H; clear H
    go_wp2
    go_meet
    case rel => exact ⟨_, (true), zR, H', ⟨by first | omega | exact Nat.le_refl _⟩, ⟨pB0 HB.out⟩⟩
  rw [if_neg c3] at H; have c3b0 := decide_eq_false c3
  have c3b1 : decide (l0.length < 3) = false := decide_eq_false (by omega)
  clear c3; (first | rw [c3b0] | (simp only [i64_w, i32_w]; rw [c3b0]) | skip)
  by_cases c4 : (l0.length : Int) > 24
  · rw [if_pos c4] at H
    have c4b0 := decide_eq_true c4
    have c4b1 : decide (24 < l0.length) = true := decide_eq_true (by omega)
    clear c4; have H' := Aside0.mk H; clear H
    go_wp2
    go_meet
    case rel => exact ⟨_, (true), zR, H', ⟨by first | omega | exact Nat.le_refl _⟩, ⟨pB0 HB.out⟩⟩
  rw [if_neg c4] at H; have c4b0 := decide_eq_false c4
  have c4b1 : decide (24 < l0.length) = false := decide_eq_false (by omega)
  clear c4; replace H := Option.bind_eq_some_iff.mp H; obtain ⟨t384, A50, H⟩ := H; have A5 := Aside0.mk A50; clear A50; have H' := Aside0.mk H; clear H
  go_wp2_with (first | (go_at_call 95; (with_reducible refine (impl_validPoints.calls k _ _ l0 t384 _ ?side1 ?side2 A5.out).mono ?_); (case side1 => exact pC (Kd.C_below HR0.out HB.out)); (case side2 => exact HC0.out); rintro e w6 ⟨rfl, hb⟩; replace HB := zW (pB0 HB.out) hb; (try clear hb); (try clear hb2); (try clear hk); (try clear hi)))
  go_meet
  case rel => exact ⟨_, (!t384), zR, H', ⟨by first | omega | exact Nat.le_refl _⟩, ⟨pB0 HB.out⟩⟩
 case rest =>
  clear HC2; (try clear p2); (try clear c3); (try clear c3b0); (try clear c3b1); (try clear c4); (try clear c4b0); (try clear c4b1); (try clear c5); obtain ⟨kq, x21_1, rfl, HA, HJ1, HB⟩ := hcut
  cases kq with
  | zero => exact absurd HA.out (by simp [impl_ValidPolygon.j0])
  | succ kj1 =>
    have H := HA.out; clear HA; simp only [impl_ValidPolygon.j0] at H
    by_cases c7 : x21_1 = true
    · subst c7
      rw [if_pos rfl] at H; obtain rfl := Option.some.inj H
      go_wp2
      go_ret
      exact ⟨zE, pB0 HB.out⟩
    replace c7 := Bool.eq_false_iff.mpr c7; subst c7
    rw [if_neg (show ¬ (false = true) by decide)] at H
    have H' := Aside0.mk H; clear H
    go_wp2
    go_loopg [24] kj1 (fun kq v24 w' => ∃ (x24_2 : Int), v24 = .int .i64 x24_2 ∧ Aside0 (impl_ValidPolygon.l0 kq l0 (l0.length : Int) (l0.length : Int) x24_2 = some r) ∧ Aside0 (kq ≤ kj1) ∧ Aside0 (Below w.heap.size w w'))
    case atStart => exact ⟨(0), zR, H', ⟨Nat.le_refl _⟩, ⟨pB0 HB.out⟩⟩
    case round =>
     clear H'; (try clear p2); (try clear c3); (try clear c3b0); (try clear c3b1); (try clear c4); (try clear c4b0); (try clear c4b1); (try clear c5); (try clear c7); (try clear p2); obtain ⟨x24_2, rfl, HA, HK2, HB⟩ := hrel
     cases gk with
     | zero => exact absurd HA.out (by simp [impl_ValidPolygon.l0])
     | succ k2 =>
       have H := HA.out; clear HA; simp only [impl_ValidPolygon.l0] at H
       by_cases c8 : x24_2 < (l0.length : Int)
       rotate_left
       · rw [if_neg c8] at H
         have c8b0 := decide_eq_false c8; clear c8; replace H := Option.bind_eq_some_iff.mp H; obtain ⟨t385, A730, H⟩ := H; have A73 := Aside0.mk A730; clear A730; obtain rfl := Option.some.inj H
         go_wp2_with (first | ((with_reducible refine gate_callee (f := 98) rfl ?_); refine zJ (some 91) Try.func98 #[.slice A0 l0.length c0] ?_; (with_reducible refine (impl_doubled.calls k2 _ _ l0 t385 _ ?side1 ?side2 A73.out).mono ?_); (case side1 => exact pC (Kd.C_below HR0.out HB.out)); (case side2 => exact HC0.out); rintro e w74 ⟨rfl, hb⟩; refine ⟨_, rfl, ?_⟩; replace HB := zW (pB0 HB.out) hb; (try clear hb); (try clear hb2); (try clear hk); (try clear hi)))
         go_ret
         exact ⟨zE, pB0 HB.out⟩
       rw [if_pos c8] at H; have c8b0 := decide_eq_true c8; clear c8
       by_cases c9 : 0 ≤ x24_2
       rotate_left
       · rw [if_neg c9] at H
         exact absurd H (by simp)
       rw [if_pos c9] at H; have c9b0 := decide_eq_true c9; clear c9
       by_cases c10 : x24_2 < (l0.length : Int)
       rotate_left
       · rw [if_neg c10] at H
         exact absurd H (by simp)
       rw [if_pos c10] at H; have c10b0 := decide_eq_true c10; clear c10
       by_cases c11 : (l0.length : Int) = 0
       · rw [if_pos c11] at H
         exact absurd H (by simp)
       rw [if_neg c11] at H; have c11b0 : ((l0.length : Int) == 0) = false := beq_eq_false_iff_ne.mpr c11; have c11b1 : ((l0.length : Int) != 0) = true := bne_iff_ne.mpr c11
       have c11b2 : ¬ (l0 = []) := fun h_ => c11 (by rw [h_]; rfl)
       obtain ⟨ji12, hji12⟩ : ∃ j_ : Int, (Int.tmod (wrap64 (x24_2 + 1)) (l0.length : Int)) = j_ := ⟨_, rfl⟩
       replace H : (if 0 ≤ (ji12) then (if (ji12) < (l0.length : Int) then (if 0 ≤ (Int.tmod (wrap64 (x24_2 + 2)) (l0.length : Int)) then (if (Int.tmod (wrap64 (x24_2 + 2)) (l0.length : Int)) < (l0.length : Int) then (if (((rd_T91 l0 x24_2).f0) == ((rd_T91 l0 (ji12)).f0) && (((rd_T91 l0 x24_2).f1) == ((rd_T91 l0 (ji12)).f1))) = true then (impl_ValidPolygon.j2 k2 l0 (l0.length : Int) x24_2 (l0.length : Int) x24_2 true ((rd_T91 l0 x24_2).f0) ((rd_T91 l0 x24_2).f1) ((rd_T91 l0 (ji12)).f0) ((rd_T91 l0 (ji12)).f1)) else ((impl_on.f ((rd_T91 l0 x24_2).f0) ((rd_T91 l0 x24_2).f1) ((rd_T91 l0 (ji12)).f0) ((rd_T91 l0 (ji12)).f1) ((rd_T91 l0 (Int.tmod (wrap64 (x24_2 + 2)) (l0.length : Int))).f0) ((rd_T91 l0 (Int.tmod (wrap64 (x24_2 + 2)) (l0.length : Int))).f1)).bind fun t392 => (if t392 = true then (impl_ValidPolygon.j2 k2 l0 (l0.length : Int) x24_2 (l0.length : Int) x24_2 true ((rd_T91 l0 x24_2).f0) ((rd_T91 l0 x24_2).f1) ((rd_T91 l0 (ji12)).f0) ((rd_T91 l0 (ji12)).f1)) else ((impl_on.f ((rd_T91 l0 (ji12)).f0) ((rd_T91 l0 (ji12)).f1) ((rd_T91 l0 (Int.tmod (wrap64 (x24_2 + 2)) (l0.length : Int))).f0) ((rd_T91 l0 (Int.tmod (wrap64 (x24_2 + 2)) (l0.length : Int))).f1) ((rd_T91 l0 x24_2).f0) ((rd_T91 l0 x24_2).f1)).bind fun t393 => (impl_ValidPolygon.j2 k2 l0 (l0.length : Int) x24_2 (l0.length : Int) x24_2 t393 ((rd_T91 l0 x24_2).f0) ((rd_T91 l0 x24_2).f1) ((rd_T91 l0 (ji12)).f0) ((rd_T91 l0 (ji12)).f1)))))) else (none)) else (none)) else (none)) else (none)) = some r := by first | (rw [hji12] at H; exact H) | (simp only [hji12] at H ⊢; exact H)
       by_cases c13 : 0 ≤ (ji12)
       rotate_left
       · rw [if_neg c13] at H
         exact absurd H (by simp)
       rw [if_pos c13] at H; have c13b0 := decide_eq_true c13; clear c13
       by_cases c14 : (ji12) < (l0.length : Int)
       rotate_left
       · rw [if_neg c14] at H
         exact absurd H (by simp)
       rw [if_pos c14] at H; have c14b0 := decide_eq_true c14; clear c14; obtain ⟨ji15, hji15⟩ : ∃ j_ : Int, (Int.tmod (wrap64 (x24_2 + 2)) (l0.length : Int)) = j_ := ⟨_, rfl⟩
       replace H : (if 0 ≤ (ji15) then (if (ji15) < (l0.length : Int) then (if (((rd_T91 l0 x24_2).f0) == ((rd_T91 l0 (ji12)).f0) && (((rd_T91 l0 x24_2).f1) == ((rd_T91 l0 (ji12)).f1))) = true then (impl_ValidPolygon.j2 k2 l0 (l0.length : Int) x24_2 (l0.length : Int) x24_2 true ((rd_T91 l0 x24_2).f0) ((rd_T91 l0 x24_2).f1) ((rd_T91 l0 (ji12)).f0) ((rd_T91 l0 (ji12)).f1)) else ((impl_on.f ((rd_T91 l0 x24_2).f0) ((rd_T91 l0 x24_2).f1) ((rd_T91 l0 (ji12)).f0) ((rd_T91 l0 (ji12)).f1) ((rd_T91 l0 (ji15)).f0) ((rd_T91 l0 (ji15)).f1)).bind fun t392 => (if t392 = true then (impl_ValidPolygon.j2 k2 l0 (l0.length : Int) x24_2 (l0.length : Int) x24_2 true ((rd_T91 l0 x24_2).f0) ((rd_T91 l0 x24_2).f1) ((rd_T91 l0 (ji12)).f0) ((rd_T91 l0 (ji12)).f1)) else ((impl_on.f ((rd_T91 l0 (ji12)).f0) ((rd_T91 l0 (ji12)).f1) ((rd_T91 l0 (ji15)).f0) ((rd_T91 l0 (ji15)).f1) ((rd_T91 l0 x24_2).f0) ((rd_T91 l0 x24_2).f1)).bind fun t393 => (impl_ValidPolygon.j2 k2 l0 (l0.length : Int) x24_2 (l0.length : Int) x24_2 t393 ((rd_T91 l0 x24_2).f0) ((rd_T91 l0 x24_2).f1) ((rd_T91 l0 (ji12)).f0) ((rd_T91 l0 (ji12)).f1)))))) else (none)) else (none)) = some r := by first | (rw [hji15] at H; exact H) | (simp only [hji15] at H ⊢; exact H)
       by_cases c16 : 0 ≤ (ji15)
       rotate_left
       · rw [if_neg c16] at H
         exact absurd H (by simp)
       rw [if_pos c16] at H; have c16b0 := decide_eq_true c16; clear c16
       by_cases c17 : (ji15) < (l0.length : Int)
       rotate_left
       · rw [if_neg c17] at H
         exact absurd H (by simp)
       rw [if_pos c17] at H; have c17b0 := decide_eq_true c17; clear c17; have HC18 := Aside0.mk H; clear H
       try go_wp2
       replace HB := Aside0.mk (below_drew1 HB.out); have p386 : 0 ≤ (x24_2 : Int) := zD; have q386 : x24_2 < (l0.length : Int) := zD; obtain ⟨ad386, e386, hx386_0, hx386_1⟩ := at_T91 HR0.out x24_2 p386 q386; have hw386_1 := hx386_1; have hw386_0 := hx386_0; cases e386
       try replace hx386_0 := zH HB hx386_0
       try replace hx386_1 := zH HB hx386_1
       replace p386 := eq_true p386; replace q386 := eq_true q386; have p387 : 0 ≤ ((ji12) : Int) := zD; have q387 : (ji12) < (l0.length : Int) := zD; obtain ⟨ad387, e387, hx387_0, hx387_1⟩ := at_T91 HR0.out (ji12) p387 q387; have hw387_1 := hx387_1; have hw387_0 := hx387_0
       obtain rfl : ad386 = ad387 := (by injection e387)
       try replace hx387_0 := zH HB hx387_0
       try replace hx387_1 := zH HB hx387_1
       replace p387 := eq_true p387; replace q387 := eq_true q387; have p388 : 0 ≤ ((ji15) : Int) := zD; have q388 : (ji15) < (l0.length : Int) := zD; obtain ⟨ad388, e388, hx388_0, hx388_1⟩ := at_T91 HR0.out (ji15) p388 q388; have hw388_1 := hx388_1; have hw388_0 := hx388_0
       obtain rfl : ad386 = ad388 := (by injection e388)
       try replace hx388_0 := zH HB hx388_0
       try replace hx388_1 := zH HB hx388_1
       replace p388 := eq_true p388; replace q388 := eq_true q388
       refine start_ (n := 24) (S := fun w' => w'.cell? (ad386.add ((x24_2).toNat * 2)) = some (.int .i64 ((rd_T91 l0 x24_2).f0)) ∧ w'.cell? ⟨(ad386.add ((x24_2).toNat * 2)).block, (ad386.add ((x24_2).toNat * 2)).off + 1, none⟩ = some (.int .i64 ((rd_T91 l0 x24_2).f1)) ∧ w'.cell? (ad386.add (((ji12)).toNat * 2)) = some (.int .i64 ((rd_T91 l0 (ji12)).f0)) ∧ w'.cell? ⟨(ad386.add (((ji12)).toNat * 2)).block, (ad386.add (((ji12)).toNat * 2)).off + 1, none⟩ = some (.int .i64 ((rd_T91 l0 (ji12)).f1)) ∧ w'.cell? (ad386.add (((ji15)).toNat * 2)) = some (.int .i64 ((rd_T91 l0 (ji15)).f0)) ∧ w'.cell? ⟨(ad386.add (((ji15)).toNat * 2)).block, (ad386.add (((ji15)).toNat * 2)).off + 1, none⟩ = some (.int .i64 ((rd_T91 l0 (ji15)).f1))) (ds := []) (Array.replicate 24 false) (by kernel_rfl) rfl rfl ⟨(zH HB hw386_0), (zH HB hw386_1), (zH HB hw387_0), (zH HB hw387_1), (zH HB hw388_0), (zH HB hw388_1)⟩ (fun hHeld => ?_); refine with_tabW impl_ValidPolygon.tab7 impl_ValidPolygon.bits7 (fun HT_ HW_ => ?_)
       generalize wr.drew = w19 at HB hx386_0 hx386_1 hx387_0 hx387_1 hx388_0 hx388_1 hHeld ⊢
       refine zP 0 (some 27) (zb 24 1) HT_ ?_; refine zP 1 (some 28) (zb 24 3) HT_ ?_; refine zP 2 (some 29) (zb 24 7) HT_ ?_; refine zP 4 (some 31) (zb 24 23) HT_ ?_; refine zP 5 (some 32) (zb 24 55) HT_ ?_; refine zP 6 (some 33) (zb 24 119) HT_ ?_; refine zP 7 (some 34) (zb 24 247) HT_ ?_; refine zP 8 (some 35) (zb 24 503) HT_ ?_; refine zP 9 (some 36) (zb 24 1015) HT_ ?_; refine zP 11 (some 38) (zb 24 3063) HT_ ?_; refine zP 12 (some 39) (zb 24 7159) HT_ ?_; refine zP 13 (some 40) (zb 24 15351) HT_ ?_; refine zP 14 (some 41) (zb 24 31735) HT_ ?_; refine zP 15 (some 42) (zb 24 64503) HT_ ?_; refine zP 16 (some 43) (zb 24 130039) HT_ ?_; refine zT6 3 (some 30) (zb 24 130047) HT_ HW_ hHeld ?_; refine zT6 10 (some 37) (zb 24 131071) HT_ HW_ hHeld ?_; refine zT6 17 (some 44) (zb 24 262143) HT_ HW_ hHeld ?_
       refine join_ (σ := Nat × Nat × Nat) 3 #[true, true, true, true, true, true, true, true, true, true, true, true, true, true, true, true, true, true, true, true, true, false, false, false] (fun s_ => [(5, .pointer (some ⟨s_.1, 0, none⟩)), (6, .pointer (some ⟨s_.2.1, 0, none⟩)), (7, .pointer (some ⟨s_.2.2, 0, none⟩))]) (fun s_ w' => (w'.cell? (ad386.add ((x24_2).toNat * 2)) = some (.int .i64 ((rd_T91 l0 x24_2).f0)) ∧ w'.cell? ⟨(ad386.add ((x24_2).toNat * 2)).block, (ad386.add ((x24_2).toNat * 2)).off + 1, none⟩ = some (.int .i64 ((rd_T91 l0 x24_2).f1)) ∧ w'.cell? (ad386.add (((ji12)).toNat * 2)) = some (.int .i64 ((rd_T91 l0 (ji12)).f0)) ∧ w'.cell? ⟨(ad386.add (((ji12)).toNat * 2)).block, (ad386.add (((ji12)).toNat * 2)).off + 1, none⟩ = some (.int .i64 ((rd_T91 l0 (ji12)).f1)) ∧ w'.cell? (ad386.add (((ji15)).toNat * 2)) = some (.int .i64 ((rd_T91 l0 (ji15)).f0)) ∧ w'.cell? ⟨(ad386.add (((ji15)).toNat * 2)).block, (ad386.add (((ji15)).toNat * 2)).off + 1, none⟩ = some (.int .i64 ((rd_T91 l0 (ji15)).f1))) ∧ (w'.heap[s_.1]? = some (.cells #[.int .i64 0, .int .i64 0] 91 (0, 0))) ∧ (w'.heap[s_.2.1]? = some (.cells #[.int .i64 0, .int .i64 0] 91 (0, 0))) ∧ (w'.heap[s_.2.2]? = some (.cells #[.int .i64 0, .int .i64 0] 91 (0, 0))) ∧ (w.heap.size ≤ s_.1) ∧ (w.heap.size ≤ s_.1) ∧ (s_.2.1 ≠ s_.1) ∧ (s_.1 ≠ s_.2.1) ∧ (s_.2.2 ≠ s_.1) ∧ (s_.1 ≠ s_.2.2) ∧ (w.heap.size ≤ s_.2.1) ∧ (w.heap.size ≤ s_.2.1) ∧ (s_.2.2 ≠ s_.2.1) ∧ (s_.2.1 ≠ s_.2.2) ∧ (w.heap.size ≤ s_.2.2) ∧ (w.heap.size ≤ s_.2.2) ∧ (Below w.heap.size w w')) ?_ ?_
       rotate_left
       · intro hJ18_19_20
         refine join_ (σ := Nat × Nat) 4 #[true, true, true, true, true, true, true, true, true, true, true, true, true, true, true, true, true, true, true, true, false, false, false, false] (fun s_ => [(5, .pointer (some ⟨s_.1, 0, none⟩)), (6, .pointer (some ⟨s_.2, 0, none⟩))]) (fun s_ w' => (w'.cell? (ad386.add ((x24_2).toNat * 2)) = some (.int .i64 ((rd_T91 l0 x24_2).f0)) ∧ w'.cell? ⟨(ad386.add ((x24_2).toNat * 2)).block, (ad386.add ((x24_2).toNat * 2)).off + 1, none⟩ = some (.int .i64 ((rd_T91 l0 x24_2).f1)) ∧ w'.cell? (ad386.add (((ji12)).toNat * 2)) = some (.int .i64 ((rd_T91 l0 (ji12)).f0)) ∧ w'.cell? ⟨(ad386.add (((ji12)).toNat * 2)).block, (ad386.add (((ji12)).toNat * 2)).off + 1, none⟩ = some (.int .i64 ((rd_T91 l0 (ji12)).f1)) ∧ w'.cell? (ad386.add (((ji15)).toNat * 2)) = some (.int .i64 ((rd_T91 l0 (ji15)).f0)) ∧ w'.cell? ⟨(ad386.add (((ji15)).toNat * 2)).block, (ad386.add (((ji15)).toNat * 2)).off + 1, none⟩ = some (.int .i64 ((rd_T91 l0 (ji15)).f1))) ∧ (w'.heap[s_.1]? = some (.cells #[.int .i64 0, .int .i64 0] 91 (0, 0))) ∧ (w'.heap[s_.2]? = some (.cells #[.int .i64 0, .int .i64 0] 91 (0, 0))) ∧ (w.heap.size ≤ s_.1) ∧ (w.heap.size ≤ s_.1) ∧ (s_.2 ≠ s_.1) ∧ (s_.1 ≠ s_.2) ∧ (w.heap.size ≤ s_.2) ∧ (w.heap.size ≤ s_.2) ∧ (Below w.heap.size w w')) ?_ ?_
         rotate_left
         · intro hJ18_19
           refine join_ (σ := Nat × Nat) 4 #[true, true, true, true, true, true, true, true, true, true, true, true, true, true, true, true, true, true, true, false, true, false, false, false] (fun s_ => [(5, .pointer (some ⟨s_.1, 0, none⟩)), (7, .pointer (some ⟨s_.2, 0, none⟩))]) (fun s_ w' => (w'.cell? (ad386.add ((x24_2).toNat * 2)) = some (.int .i64 ((rd_T91 l0 x24_2).f0)) ∧ w'.cell? ⟨(ad386.add ((x24_2).toNat * 2)).block, (ad386.add ((x24_2).toNat * 2)).off + 1, none⟩ = some (.int .i64 ((rd_T91 l0 x24_2).f1)) ∧ w'.cell? (ad386.add (((ji12)).toNat * 2)) = some (.int .i64 ((rd_T91 l0 (ji12)).f0)) ∧ w'.cell? ⟨(ad386.add (((ji12)).toNat * 2)).block, (ad386.add (((ji12)).toNat * 2)).off + 1, none⟩ = some (.int .i64 ((rd_T91 l0 (ji12)).f1)) ∧ w'.cell? (ad386.add (((ji15)).toNat * 2)) = some (.int .i64 ((rd_T91 l0 (ji15)).f0)) ∧ w'.cell? ⟨(ad386.add (((ji15)).toNat * 2)).block, (ad386.add (((ji15)).toNat * 2)).off + 1, none⟩ = some (.int .i64 ((rd_T91 l0 (ji15)).f1))) ∧ (w'.heap[s_.1]? = some (.cells #[.int .i64 0, .int .i64 0] 91 (0, 0))) ∧ (w'.heap[s_.2]? = some (.cells #[.int .i64 0, .int .i64 0] 91 (0, 0))) ∧ (w.heap.size ≤ s_.1) ∧ (w.heap.size ≤ s_.1) ∧ (s_.2 ≠ s_.1) ∧ (s_.1 ≠ s_.2) ∧ (w.heap.size ≤ s_.2) ∧ (w.heap.size ≤ s_.2) ∧ (Below w.heap.size w w')) ?_ ?_
           rotate_left
           · intro hJ18_20
             refine join_ (σ := Nat × Nat) 4 #[true, true, true, true, true, true, true, true, true, true, true, true, true, true, true, true, true, true, false, true, true, false, false, false] (fun s_ => [(6, .pointer (some ⟨s_.1, 0, none⟩)), (7, .pointer (some ⟨s_.2, 0, none⟩))]) (fun s_ w' => (w'.cell? (ad386.add ((x24_2).toNat * 2)) = some (.int .i64 ((rd_T91 l0 x24_2).f0)) ∧ w'.cell? ⟨(ad386.add ((x24_2).toNat * 2)).block, (ad386.add ((x24_2).toNat * 2)).off + 1, none⟩ = some (.int .i64 ((rd_T91 l0 x24_2).f1)) ∧ w'.cell? (ad386.add (((ji12)).toNat * 2)) = some (.int .i64 ((rd_T91 l0 (ji12)).f0)) ∧ w'.cell? ⟨(ad386.add (((ji12)).toNat * 2)).block, (ad386.add (((ji12)).toNat * 2)).off + 1, none⟩ = some (.int .i64 ((rd_T91 l0 (ji12)).f1)) ∧ w'.cell? (ad386.add (((ji15)).toNat * 2)) = some (.int .i64 ((rd_T91 l0 (ji15)).f0)) ∧ w'.cell? ⟨(ad386.add (((ji15)).toNat * 2)).block, (ad386.add (((ji15)).toNat * 2)).off + 1, none⟩ = some (.int .i64 ((rd_T91 l0 (ji15)).f1))) ∧ (w'.heap[s_.1]? = some (.cells #[.int .i64 0, .int .i64 0] 91 (0, 0))) ∧ (w'.heap[s_.2]? = some (.cells #[.int .i64 0, .int .i64 0] 91 (0, 0))) ∧ (w.heap.size ≤ s_.1) ∧ (w.heap.size ≤ s_.1) ∧ (s_.2 ≠ s_.1) ∧ (s_.1 ≠ s_.2) ∧ (w.heap.size ≤ s_.2) ∧ (w.heap.size ≤ s_.2) ∧ (Below w.heap.size w w')) ?_ ?_
             rotate_left
             · intro hJ19_20
               refine join_ (σ := Nat) 5 #[true, true, true, true, true, true, true, true, true, true, true, true, true, true, true, true, true, true, true, false, false, false, false, false] (fun s_ => [(5, .pointer (some ⟨s_, 0, none⟩))]) (fun s_ w' => (w'.cell? (ad386.add ((x24_2).toNat * 2)) = some (.int .i64 ((rd_T91 l0 x24_2).f0)) ∧ w'.cell? ⟨(ad386.add ((x24_2).toNat * 2)).block, (ad386.add ((x24_2).toNat * 2)).off + 1, none⟩ = some (.int .i64 ((rd_T91 l0 x24_2).f1)) ∧ w'.cell? (ad386.add (((ji12)).toNat * 2)) = some (.int .i64 ((rd_T91 l0 (ji12)).f0)) ∧ w'.cell? ⟨(ad386.add (((ji12)).toNat * 2)).block, (ad386.add (((ji12)).toNat * 2)).off + 1, none⟩ = some (.int .i64 ((rd_T91 l0 (ji12)).f1)) ∧ w'.cell? (ad386.add (((ji15)).toNat * 2)) = some (.int .i64 ((rd_T91 l0 (ji15)).f0)) ∧ w'.cell? ⟨(ad386.add (((ji15)).toNat * 2)).block, (ad386.add (((ji15)).toNat * 2)).off + 1, none⟩ = some (.int .i64 ((rd_T91 l0 (ji15)).f1))) ∧ (w'.heap[s_]? = some (.cells #[.int .i64 0, .int .i64 0] 91 (0, 0))) ∧ (w.heap.size ≤ s_) ∧ (w.heap.size ≤ s_) ∧ (Below w.heap.size w w')) ?_ ?_
               rotate_left
               · intro hJ18
                 refine join_ (σ := Nat) 5 #[true, true, true, true, true, true, true, true, true, true, true, true, true, true, true, true, true, true, false, true, false, false, false, false] (fun s_ => [(6, .pointer (some ⟨s_, 0, none⟩))]) (fun s_ w' => (w'.cell? (ad386.add ((x24_2).toNat * 2)) = some (.int .i64 ((rd_T91 l0 x24_2).f0)) ∧ w'.cell? ⟨(ad386.add ((x24_2).toNat * 2)).block, (ad386.add ((x24_2).toNat * 2)).off + 1, none⟩ = some (.int .i64 ((rd_T91 l0 x24_2).f1)) ∧ w'.cell? (ad386.add (((ji12)).toNat * 2)) = some (.int .i64 ((rd_T91 l0 (ji12)).f0)) ∧ w'.cell? ⟨(ad386.add (((ji12)).toNat * 2)).block, (ad386.add (((ji12)).toNat * 2)).off + 1, none⟩ = some (.int .i64 ((rd_T91 l0 (ji12)).f1)) ∧ w'.cell? (ad386.add (((ji15)).toNat * 2)) = some (.int .i64 ((rd_T91 l0 (ji15)).f0)) ∧ w'.cell? ⟨(ad386.add (((ji15)).toNat * 2)).block, (ad386.add (((ji15)).toNat * 2)).off + 1, none⟩ = some (.int .i64 ((rd_T91 l0 (ji15)).f1))) ∧ (w'.heap[s_]? = some (.cells #[.int .i64 0, .int .i64 0] 91 (0, 0))) ∧ (w.heap.size ≤ s_) ∧ (w.heap.size ≤ s_) ∧ (Below w.heap.size w w')) ?_ ?_
                 rotate_left
                 · intro hJ19
                   refine join_ (σ := Nat) 5 #[true, true, true, true, true, true, true, true, true, true, true, true, true, true, true, true, true, true, false, false, true, false, false, false] (fun s_ => [(7, .pointer (some ⟨s_, 0, none⟩))]) (fun s_ w' => (w'.cell? (ad386.add ((x24_2).toNat * 2)) = some (.int .i64 ((rd_T91 l0 x24_2).f0)) ∧ w'.cell? ⟨(ad386.add ((x24_2).toNat * 2)).block, (ad386.add ((x24_2).toNat * 2)).off + 1, none⟩ = some (.int .i64 ((rd_T91 l0 x24_2).f1)) ∧ w'.cell? (ad386.add (((ji12)).toNat * 2)) = some (.int .i64 ((rd_T91 l0 (ji12)).f0)) ∧ w'.cell? ⟨(ad386.add (((ji12)).toNat * 2)).block, (ad386.add (((ji12)).toNat * 2)).off + 1, none⟩ = some (.int .i64 ((rd_T91 l0 (ji12)).f1)) ∧ w'.cell? (ad386.add (((ji15)).toNat * 2)) = some (.int .i64 ((rd_T91 l0 (ji15)).f0)) ∧ w'.cell? ⟨(ad386.add (((ji15)).toNat * 2)).block, (ad386.add (((ji15)).toNat * 2)).off + 1, none⟩ = some (.int .i64 ((rd_T91 l0 (ji15)).f1))) ∧ (w'.heap[s_]? = some (.cells #[.int .i64 0, .int .i64 0] 91 (0, 0))) ∧ (w.heap.size ≤ s_) ∧ (w.heap.size ≤ s_) ∧ (Below w.heap.size w w')) ?_ ?_
                   rotate_left
                   · intro hJ20
                     refine three_ (i := 18) (j := 19) (k := 20) (Ni := some 5) (Nj := some 6) (Nk := some 7) #[true, true, true, true, true, true, true, true, true, true, true, true, true, true, true, true, true, true, true, false, false, false, false, false] #[true, true, true, true, true, true, true, true, true, true, true, true, true, true, true, true, true, true, false, true, false, false, false, false] #[true, true, true, true, true, true, true, true, true, true, true, true, true, true, true, true, true, true, false, false, true, false, false, false] rfl rfl rfl rfl rfl rfl (three_of HT_.out (by kernel_rfl)) (by decide) (by decide) (by decide) (fun K hK => ?_) (fun K hK => ?_) (fun K hK => ?_)
                     · skip
                       refine box_step ?hg (N := 5) ?hd (cs := #[.int .i64 0, .int .i64 0]) (t := 91) ?hr ?_; (case hd => rfl); (case hg => rfl); (case hr => first | (go_simp; done) | (go_simp; rfl))
                       intro gb389 hg w20 hbox hb; have BK389 := Aside0.mk (hbox); have GW389 := zS (pB0 HB.out) hg; have GE389 := GW389; replace HB := zW (pB0 HB.out) hb; clear hb hbox hg
                       refine hK.out _ _ ⟨(zH HB hw386_0), (zH HB hw386_1), (zH HB hw387_0), (zH HB hw387_1), (zH HB hw388_0), (zH HB hw388_1)⟩ (fun hHeld => ?_)
                       clear hK K; refine zN ?_
                       exact norm_ (by first | (simp only [putAll, Act.put, List.setIfInBounds_toArray, List.set_cons_zero, List.set_cons_succ]; done) | (simp only [putAll, Act.put, List.setIfInBounds_toArray, List.set_cons_zero, List.set_cons_succ]; rfl)) (hJ18 (gb389) _ ⟨hHeld, (pK BK389.out), GW389.out, GE389.out, (pB1 HB.out GE389.out)⟩)
                     · skip
                       refine box_step ?hg (N := 6) ?hd (cs := #[.int .i64 0, .int .i64 0]) (t := 91) ?hr ?_; (case hd => rfl); (case hg => rfl); (case hr => first | (go_simp; done) | (go_simp; rfl))
                       intro gb390 hg w20 hbox hb; have BK390 := Aside0.mk (hbox); have GW390 := zS (pB0 HB.out) hg; have GE390 := GW390; replace HB := zW (pB0 HB.out) hb; clear hb hbox hg
                       refine hK.out _ _ ⟨(zH HB hw386_0), (zH HB hw386_1), (zH HB hw387_0), (zH HB hw387_1), (zH HB hw388_0), (zH HB hw388_1)⟩ (fun hHeld => ?_)
                       clear hK K; refine zN ?_
                       exact norm_ (by first | (simp only [putAll, Act.put, List.setIfInBounds_toArray, List.set_cons_zero, List.set_cons_succ]; done) | (simp only [putAll, Act.put, List.setIfInBounds_toArray, List.set_cons_zero, List.set_cons_succ]; rfl)) (hJ19 (gb390) _ ⟨hHeld, (pK BK390.out), GW390.out, GE390.out, (pB1 HB.out GE390.out)⟩)
                     · skip
                       refine box_step ?hg (N := 7) ?hd (cs := #[.int .i64 0, .int .i64 0]) (t := 91) ?hr ?_; (case hd => rfl); (case hg => rfl); (case hr => first | (go_simp; done) | (go_simp; rfl))
                       intro gb391 hg w20 hbox hb; have BK391 := Aside0.mk (hbox); have GW391 := zS (pB0 HB.out) hg; have GE391 := GW391; replace HB := zW (pB0 HB.out) hb; clear hb hbox hg
                       refine hK.out _ _ ⟨(zH HB hw386_0), (zH HB hw386_1), (zH HB hw387_0), (zH HB hw387_1), (zH HB hw388_0), (zH HB hw388_1)⟩ (fun hHeld => ?_)
                       clear hK K; refine zN ?_
                       exact norm_ (by first | (simp only [putAll, Act.put, List.setIfInBounds_toArray, List.set_cons_zero, List.set_cons_succ]; done) | (simp only [putAll, Act.put, List.setIfInBounds_toArray, List.set_cons_zero, List.set_cons_succ]; rfl)) (hJ20 (gb391) _ ⟨hHeld, (pK BK391.out), GW391.out, GE391.out, (pB1 HB.out GE391.out)⟩)
                   · skip
                     rintro gb391 w21 ⟨hS_, h0_, h1_, h2_, h3_⟩; have n0_ : Aside0 (w21.heap[gb391]? = some (.cells #[.int .i64 0, .int .i64 0] 91 (0, 0))) := ⟨h0_⟩; have n1_ : Aside0 (w.heap.size ≤ gb391) := ⟨h1_⟩; have n2_ : Aside0 (w.heap.size ≤ gb391) := ⟨h2_⟩; have n3_ : Aside0 (Below w.heap.size w w21) := ⟨h3_⟩; clear HB; clear h0_ h1_ h2_ h3_; have BK391 := n0_; have GW391 := n1_; have GE391 := n2_; have HB := n3_; clear n0_ n1_ n2_ n3_
                     have hHeld : w21.cell? (ad386.add ((x24_2).toNat * 2)) = some (.int .i64 ((rd_T91 l0 x24_2).f0)) ∧ w21.cell? ⟨(ad386.add ((x24_2).toNat * 2)).block, (ad386.add ((x24_2).toNat * 2)).off + 1, none⟩ = some (.int .i64 ((rd_T91 l0 x24_2).f1)) ∧ w21.cell? (ad386.add (((ji12)).toNat * 2)) = some (.int .i64 ((rd_T91 l0 (ji12)).f0)) ∧ w21.cell? ⟨(ad386.add (((ji12)).toNat * 2)).block, (ad386.add (((ji12)).toNat * 2)).off + 1, none⟩ = some (.int .i64 ((rd_T91 l0 (ji12)).f1)) ∧ w21.cell? (ad386.add (((ji15)).toNat * 2)) = some (.int .i64 ((rd_T91 l0 (ji15)).f0)) ∧ w21.cell? ⟨(ad386.add (((ji15)).toNat * 2)).block, (ad386.add (((ji15)).toNat * 2)).off + 1, none⟩ = some (.int .i64 ((rd_T91 l0 (ji15)).f1)) := hS_
                     refine norm_ (a' := ?_) ?_ ?_; rotate_left
                     · simp only [putAll, Act.put, List.setIfInBounds_toArray, List.set_cons_zero, List.set_cons_succ]
                       rfl
                     refine two_ (i := 18) (j := 19) (Ni := some 5) (Nj := some 6) #[true, true, true, true, true, true, true, true, true, true, true, true, true, true, true, true, true, true, true, false, true, false, false, false] #[true, true, true, true, true, true, true, true, true, true, true, true, true, true, true, true, true, true, false, true, true, false, false, false] rfl rfl rfl rfl (two_of HT_.out (by kernel_rfl)) (by decide) (by decide) (fun K hK => ?_) (fun K hK => ?_)
                     · skip
                       refine box_step ?hg (N := 5) ?hd (cs := #[.int .i64 0, .int .i64 0]) (t := 91) ?hr ?_; (case hd => rfl); (case hg => rfl); (case hr => first | (go_simp; done) | (go_simp; rfl))
                       intro gb389 hg w22 hbox hb; have BK389 := Aside0.mk (hbox); have GW389 := zS (pB1 HB.out GE391.out) hg; have GE389 := GW389; have NB391_389 := zL BK391 hg; have NB389_391 := zM BK391 hg; replace BK391 := zK BK391 hb; replace HB := zW (pB1 HB.out GE391.out) hb; clear hb hbox hg
                       refine hK.out _ _ ⟨(zH HB hw386_0), (zH HB hw386_1), (zH HB hw387_0), (zH HB hw387_1), (zH HB hw388_0), (zH HB hw388_1)⟩ (fun hHeld => ?_)
                       clear hK K; refine zN ?_
                       exact norm_ (by first | (simp only [putAll, Act.put, List.setIfInBounds_toArray, List.set_cons_zero, List.set_cons_succ]; done) | (simp only [putAll, Act.put, List.setIfInBounds_toArray, List.set_cons_zero, List.set_cons_succ]; rfl)) (hJ18_20 (gb389, gb391) _ ⟨hHeld, (pK BK389.out), (pK BK391.out), GW389.out, GE389.out, NB391_389.out, NB389_391.out, GW391.out, GE391.out, (pB2 HB.out GE391.out GE389.out)⟩)
                     · skip
                       refine box_step ?hg (N := 6) ?hd (cs := #[.int .i64 0, .int .i64 0]) (t := 91) ?hr ?_; (case hd => rfl); (case hg => rfl); (case hr => first | (go_simp; done) | (go_simp; rfl))
                       intro gb390 hg w22 hbox hb; have BK390 := Aside0.mk (hbox); have GW390 := zS (pB1 HB.out GE391.out) hg; have GE390 := GW390; have NB391_390 := zL BK391 hg; have NB390_391 := zM BK391 hg; replace BK391 := zK BK391 hb; replace HB := zW (pB1 HB.out GE391.out) hb; clear hb hbox hg
                       refine hK.out _ _ ⟨(zH HB hw386_0), (zH HB hw386_1), (zH HB hw387_0), (zH HB hw387_1), (zH HB hw388_0), (zH HB hw388_1)⟩ (fun hHeld => ?_)
                       clear hK K; refine zN ?_
                       exact norm_ (by first | (simp only [putAll, Act.put, List.setIfInBounds_toArray, List.set_cons_zero, List.set_cons_succ]; done) | (simp only [putAll, Act.put, List.setIfInBounds_toArray, List.set_cons_zero, List.set_cons_succ]; rfl)) (hJ19_20 (gb390, gb391) _ ⟨hHeld, (pK BK390.out), (pK BK391.out), GW390.out, GE390.out, NB391_390.out, NB390_391.out, GW391.out, GE391.out, (pB2 HB.out GE391.out GE390.out)⟩)
                 · skip
                   rintro gb390 w21 ⟨hS_, h0_, h1_, h2_, h3_⟩; have n0_ : Aside0 (w21.heap[gb390]? = some (.cells #[.int .i64 0, .int .i64 0] 91 (0, 0))) := ⟨h0_⟩; have n1_ : Aside0 (w.heap.size ≤ gb390) := ⟨h1_⟩; have n2_ : Aside0 (w.heap.size ≤ gb390) := ⟨h2_⟩; have n3_ : Aside0 (Below w.heap.size w w21) := ⟨h3_⟩; clear HB; clear h0_ h1_ h2_ h3_; have BK390 := n0_; have GW390 := n1_; have GE390 := n2_; have HB := n3_; clear n0_ n1_ n2_ n3_
                   have hHeld : w21.cell? (ad386.add ((x24_2).toNat * 2)) = some (.int .i64 ((rd_T91 l0 x24_2).f0)) ∧ w21.cell? ⟨(ad386.add ((x24_2).toNat * 2)).block, (ad386.add ((x24_2).toNat * 2)).off + 1, none⟩ = some (.int .i64 ((rd_T91 l0 x24_2).f1)) ∧ w21.cell? (ad386.add (((ji12)).toNat * 2)) = some (.int .i64 ((rd_T91 l0 (ji12)).f0)) ∧ w21.cell? ⟨(ad386.add (((ji12)).toNat * 2)).block, (ad386.add (((ji12)).toNat * 2)).off + 1, none⟩ = some (.int .i64 ((rd_T91 l0 (ji12)).f1)) ∧ w21.cell? (ad386.add (((ji15)).toNat * 2)) = some (.int .i64 ((rd_T91 l0 (ji15)).f0)) ∧ w21.cell? ⟨(ad386.add (((ji15)).toNat * 2)).block, (ad386.add (((ji15)).toNat * 2)).off + 1, none⟩ = some (.int .i64 ((rd_T91 l0 (ji15)).f1)) := hS_
                   refine norm_ (a' := ?_) ?_ ?_; rotate_left
                   · simp only [putAll, Act.put, List.setIfInBounds_toArray, List.set_cons_zero, List.set_cons_succ]
                     rfl
                   refine two_ (i := 18) (j := 20) (Ni := some 5) (Nj := some 7) #[true, true, true, true, true, true, true, true, true, true, true, true, true, true, true, true, true, true, true, true, false, false, false, false] #[true, true, true, true, true, true, true, true, true, true, true, true, true, true, true, true, true, true, false, true, true, false, false, false] rfl rfl rfl rfl (two_of HT_.out (by kernel_rfl)) (by decide) (by decide) (fun K hK => ?_) (fun K hK => ?_)
                   · skip
                     refine box_step ?hg (N := 5) ?hd (cs := #[.int .i64 0, .int .i64 0]) (t := 91) ?hr ?_; (case hd => rfl); (case hg => rfl); (case hr => first | (go_simp; done) | (go_simp; rfl))
                     intro gb389 hg w22 hbox hb; have BK389 := Aside0.mk (hbox); have GW389 := zS (pB1 HB.out GE390.out) hg; have GE389 := GW389; have NB390_389 := zL BK390 hg; have NB389_390 := zM BK390 hg; replace BK390 := zK BK390 hb; replace HB := zW (pB1 HB.out GE390.out) hb; clear hb hbox hg
                     refine hK.out _ _ ⟨(zH HB hw386_0), (zH HB hw386_1), (zH HB hw387_0), (zH HB hw387_1), (zH HB hw388_0), (zH HB hw388_1)⟩ (fun hHeld => ?_)
                     clear hK K; refine zN ?_
                     exact norm_ (by first | (simp only [putAll, Act.put, List.setIfInBounds_toArray, List.set_cons_zero, List.set_cons_succ]; done) | (simp only [putAll, Act.put, List.setIfInBounds_toArray, List.set_cons_zero, List.set_cons_succ]; rfl)) (hJ18_19 (gb389, gb390) _ ⟨hHeld, (pK BK389.out), (pK BK390.out), GW389.out, GE389.out, NB390_389.out, NB389_390.out, GW390.out, GE390.out, (pB2 HB.out GE390.out GE389.out)⟩)
                   · skip
                     refine box_step ?hg (N := 7) ?hd (cs := #[.int .i64 0, .int .i64 0]) (t := 91) ?hr ?_; (case hd => rfl); (case hg => rfl); (case hr => first | (go_simp; done) | (go_simp; rfl))
                     intro gb391 hg w22 hbox hb; have BK391 := Aside0.mk (hbox); have GW391 := zS (pB1 HB.out GE390.out) hg; have GE391 := GW391; have NB390_391 := zL BK390 hg; have NB391_390 := zM BK390 hg; replace BK390 := zK BK390 hb; replace HB := zW (pB1 HB.out GE390.out) hb; clear hb hbox hg
                     refine hK.out _ _ ⟨(zH HB hw386_0), (zH HB hw386_1), (zH HB hw387_0), (zH HB hw387_1), (zH HB hw388_0), (zH HB hw388_1)⟩ (fun hHeld => ?_)
                     clear hK K; refine zN ?_
                     exact norm_ (by first | (simp only [putAll, Act.put, List.setIfInBounds_toArray, List.set_cons_zero, List.set_cons_succ]; done) | (simp only [putAll, Act.put, List.setIfInBounds_toArray, List.set_cons_zero, List.set_cons_succ]; rfl)) (hJ19_20 (gb390, gb391) _ ⟨hHeld, (pK BK390.out), (pK BK391.out), GW390.out, GE390.out, NB391_390.out, NB390_391.out, GW391.out, GE391.out, (pB2 HB.out GE390.out GE391.out)⟩)
               · skip
                 rintro gb389 w21 ⟨hS_, h0_, h1_, h2_, h3_⟩; have n0_ : Aside0 (w21.heap[gb389]? = some (.cells #[.int .i64 0, .int .i64 0] 91 (0, 0))) := ⟨h0_⟩; have n1_ : Aside0 (w.heap.size ≤ gb389) := ⟨h1_⟩; have n2_ : Aside0 (w.heap.size ≤ gb389) := ⟨h2_⟩; have n3_ : Aside0 (Below w.heap.size w w21) := ⟨h3_⟩; clear HB; clear h0_ h1_ h2_ h3_; have BK389 := n0_; have GW389 := n1_; have GE389 := n2_; have HB := n3_; clear n0_ n1_ n2_ n3_
                 have hHeld : w21.cell? (ad386.add ((x24_2).toNat * 2)) = some (.int .i64 ((rd_T91 l0 x24_2).f0)) ∧ w21.cell? ⟨(ad386.add ((x24_2).toNat * 2)).block, (ad386.add ((x24_2).toNat * 2)).off + 1, none⟩ = some (.int .i64 ((rd_T91 l0 x24_2).f1)) ∧ w21.cell? (ad386.add (((ji12)).toNat * 2)) = some (.int .i64 ((rd_T91 l0 (ji12)).f0)) ∧ w21.cell? ⟨(ad386.add (((ji12)).toNat * 2)).block, (ad386.add (((ji12)).toNat * 2)).off + 1, none⟩ = some (.int .i64 ((rd_T91 l0 (ji12)).f1)) ∧ w21.cell? (ad386.add (((ji15)).toNat * 2)) = some (.int .i64 ((rd_T91 l0 (ji15)).f0)) ∧ w21.cell? ⟨(ad386.add (((ji15)).toNat * 2)).block, (ad386.add (((ji15)).toNat * 2)).off + 1, none⟩ = some (.int .i64 ((rd_T91 l0 (ji15)).f1)) := hS_
                 refine norm_ (a' := ?_) ?_ ?_; rotate_left
                 · simp only [putAll, Act.put, List.setIfInBounds_toArray, List.set_cons_zero, List.set_cons_succ]
                   rfl
                 refine two_ (i := 19) (j := 20) (Ni := some 6) (Nj := some 7) #[true, true, true, true, true, true, true, true, true, true, true, true, true, true, true, true, true, true, true, true, false, false, false, false] #[true, true, true, true, true, true, true, true, true, true, true, true, true, true, true, true, true, true, true, false, true, false, false, false] rfl rfl rfl rfl (two_of HT_.out (by kernel_rfl)) (by decide) (by decide) (fun K hK => ?_) (fun K hK => ?_)
                 · skip
                   refine box_step ?hg (N := 6) ?hd (cs := #[.int .i64 0, .int .i64 0]) (t := 91) ?hr ?_; (case hd => rfl); (case hg => rfl); (case hr => first | (go_simp; done) | (go_simp; rfl))
                   intro gb390 hg w22 hbox hb; have BK390 := Aside0.mk (hbox); have GW390 := zS (pB1 HB.out GE389.out) hg; have GE390 := GW390; have NB389_390 := zL BK389 hg; have NB390_389 := zM BK389 hg; replace BK389 := zK BK389 hb; replace HB := zW (pB1 HB.out GE389.out) hb; clear hb hbox hg
                   refine hK.out _ _ ⟨(zH HB hw386_0), (zH HB hw386_1), (zH HB hw387_0), (zH HB hw387_1), (zH HB hw388_0), (zH HB hw388_1)⟩ (fun hHeld => ?_)
                   clear hK K; refine zN ?_
                   exact norm_ (by first | (simp only [putAll, Act.put, List.setIfInBounds_toArray, List.set_cons_zero, List.set_cons_succ]; done) | (simp only [putAll, Act.put, List.setIfInBounds_toArray, List.set_cons_zero, List.set_cons_succ]; rfl)) (hJ18_19 (gb389, gb390) _ ⟨hHeld, (pK BK389.out), (pK BK390.out), GW389.out, GE389.out, NB390_389.out, NB389_390.out, GW390.out, GE390.out, (pB2 HB.out GE389.out GE390.out)⟩)
                 · skip
                   refine box_step ?hg (N := 7) ?hd (cs := #[.int .i64 0, .int .i64 0]) (t := 91) ?hr ?_; (case hd => rfl); (case hg => rfl); (case hr => first | (go_simp; done) | (go_simp; rfl))
                   intro gb391 hg w22 hbox hb; have BK391 := Aside0.mk (hbox); have GW391 := zS (pB1 HB.out GE389.out) hg; have GE391 := GW391; have NB389_391 := zL BK389 hg; have NB391_389 := zM BK389 hg; replace BK389 := zK BK389 hb; replace HB := zW (pB1 HB.out GE389.out) hb; clear hb hbox hg
                   refine hK.out _ _ ⟨(zH HB hw386_0), (zH HB hw386_1), (zH HB hw387_0), (zH HB hw387_1), (zH HB hw388_0), (zH HB hw388_1)⟩ (fun hHeld => ?_)
                   clear hK K; refine zN ?_
                   exact norm_ (by first | (simp only [putAll, Act.put, List.setIfInBounds_toArray, List.set_cons_zero, List.set_cons_succ]; done) | (simp only [putAll, Act.put, List.setIfInBounds_toArray, List.set_cons_zero, List.set_cons_succ]; rfl)) (hJ18_20 (gb389, gb391) _ ⟨hHeld, (pK BK389.out), (pK BK391.out), GW389.out, GE389.out, NB391_389.out, NB389_391.out, GW391.out, GE391.out, (pB2 HB.out GE389.out GE391.out)⟩)
             · skip
               rintro ⟨gb390, gb391⟩ w22 ⟨hS_, h0_, h1_, h2_, h3_, h4_, h5_, h6_, h7_, h8_⟩; have n0_ : Aside0 (w22.heap[gb390]? = some (.cells #[.int .i64 0, .int .i64 0] 91 (0, 0))) := ⟨h0_⟩; have n1_ : Aside0 (w22.heap[gb391]? = some (.cells #[.int .i64 0, .int .i64 0] 91 (0, 0))) := ⟨h1_⟩; have n2_ : Aside0 (w.heap.size ≤ gb390) := ⟨h2_⟩; have n3_ : Aside0 (w.heap.size ≤ gb390) := ⟨h3_⟩; have n4_ : Aside0 (gb391 ≠ gb390) := ⟨h4_⟩; have n5_ : Aside0 (gb390 ≠ gb391) := ⟨h5_⟩; have n6_ : Aside0 (w.heap.size ≤ gb391) := ⟨h6_⟩; have n7_ : Aside0 (w.heap.size ≤ gb391) := ⟨h7_⟩; have n8_ : Aside0 (Below w.heap.size w w22) := ⟨h8_⟩; clear HB; clear h0_ h1_ h2_ h3_ h4_ h5_ h6_ h7_ h8_; have BK390 := n0_; have BK391 := n1_; have GW390 := n2_; have GE390 := n3_; have NB391_390 := n4_; have NB390_391 := n5_; have GW391 := n6_; have GE391 := n7_; have HB := n8_; clear n0_ n1_ n2_ n3_ n4_ n5_ n6_ n7_ n8_
               have hHeld : w22.cell? (ad386.add ((x24_2).toNat * 2)) = some (.int .i64 ((rd_T91 l0 x24_2).f0)) ∧ w22.cell? ⟨(ad386.add ((x24_2).toNat * 2)).block, (ad386.add ((x24_2).toNat * 2)).off + 1, none⟩ = some (.int .i64 ((rd_T91 l0 x24_2).f1)) ∧ w22.cell? (ad386.add (((ji12)).toNat * 2)) = some (.int .i64 ((rd_T91 l0 (ji12)).f0)) ∧ w22.cell? ⟨(ad386.add (((ji12)).toNat * 2)).block, (ad386.add (((ji12)).toNat * 2)).off + 1, none⟩ = some (.int .i64 ((rd_T91 l0 (ji12)).f1)) ∧ w22.cell? (ad386.add (((ji15)).toNat * 2)) = some (.int .i64 ((rd_T91 l0 (ji15)).f0)) ∧ w22.cell? ⟨(ad386.add (((ji15)).toNat * 2)).block, (ad386.add (((ji15)).toNat * 2)).off + 1, none⟩ = some (.int .i64 ((rd_T91 l0 (ji15)).f1)) := hS_
               refine norm_ (a' := ?_) ?_ ?_; rotate_left
               · simp only [putAll, Act.put, List.setIfInBounds_toArray, List.set_cons_zero, List.set_cons_succ]
                 rfl
               refine one_ (i := 18) (N := some 5) (zb 24 2097151) rfl rfl (one_of HT_.out (by kernel_rfl)) (by decide) (fun K hK => ?_)
               refine box_step ?hg (N := 5) ?hd (cs := #[.int .i64 0, .int .i64 0]) (t := 91) ?hr ?_; (case hd => rfl); (case hg => rfl); (case hr => first | (go_simp; done) | (go_simp; rfl))
               intro gb389 hg w23 hbox hb; have BK389 := Aside0.mk (hbox); have GW389 := zS (pB2 HB.out GE390.out GE391.out) hg; have GE389 := GW389; have NB390_389 := zL BK390 hg; have NB389_390 := zM BK390 hg; have NB391_389 := zL BK391 hg; have NB389_391 := zM BK391 hg; replace BK390 := zK BK390 hb; replace BK391 := zK BK391 hb; replace HB := zW (pB2 HB.out GE390.out GE391.out) hb; clear hb hbox hg
               refine hK.out _ _ ⟨(zH HB hw386_0), (zH HB hw386_1), (zH HB hw387_0), (zH HB hw387_1), (zH HB hw388_0), (zH HB hw388_1)⟩ (fun hHeld => ?_)
               clear hK K; refine zN ?_
               exact norm_ (by first | (simp only [putAll, Act.put, List.setIfInBounds_toArray, List.set_cons_zero, List.set_cons_succ]; done) | (simp only [putAll, Act.put, List.setIfInBounds_toArray, List.set_cons_zero, List.set_cons_succ]; rfl)) (hJ18_19_20 (gb389, gb390, gb391) _ ⟨hHeld, (pK BK389.out), (pK BK390.out), (pK BK391.out), GW389.out, GE389.out, NB390_389.out, NB389_390.out, NB391_389.out, NB389_391.out, GW390.out, GE390.out, NB391_390.out, NB390_391.out, GW391.out, GE391.out, (pB3 HB.out GE390.out GE391.out GE389.out)⟩)
           · skip
             rintro ⟨gb389, gb391⟩ w22 ⟨hS_, h0_, h1_, h2_, h3_, h4_, h5_, h6_, h7_, h8_⟩; have n0_ : Aside0 (w22.heap[gb389]? = some (.cells #[.int .i64 0, .int .i64 0] 91 (0, 0))) := ⟨h0_⟩; have n1_ : Aside0 (w22.heap[gb391]? = some (.cells #[.int .i64 0, .int .i64 0] 91 (0, 0))) := ⟨h1_⟩; have n2_ : Aside0 (w.heap.size ≤ gb389) := ⟨h2_⟩; have n3_ : Aside0 (w.heap.size ≤ gb389) := ⟨h3_⟩; have n4_ : Aside0 (gb391 ≠ gb389) := ⟨h4_⟩; have n5_ : Aside0 (gb389 ≠ gb391) := ⟨h5_⟩; have n6_ : Aside0 (w.heap.size ≤ gb391) := ⟨h6_⟩; have n7_ : Aside0 (w.heap.size ≤ gb391) := ⟨h7_⟩; have n8_ : Aside0 (Below w.heap.size w w22) := ⟨h8_⟩; clear HB; clear h0_ h1_ h2_ h3_ h4_ h5_ h6_ h7_ h8_; have BK389 := n0_; have BK391 := n1_; have GW389 := n2_; have GE389 := n3_; have NB391_389 := n4_; have NB389_391 := n5_; have GW391 := n6_; have GE391 := n7_; have HB := n8_; clear n0_ n1_ n2_ n3_ n4_ n5_ n6_ n7_ n8_
             have hHeld : w22.cell? (ad386.add ((x24_2).toNat * 2)) = some (.int .i64 ((rd_T91 l0 x24_2).f0)) ∧ w22.cell? ⟨(ad386.add ((x24_2).toNat * 2)).block, (ad386.add ((x24_2).toNat * 2)).off + 1, none⟩ = some (.int .i64 ((rd_T91 l0 x24_2).f1)) ∧ w22.cell? (ad386.add (((ji12)).toNat * 2)) = some (.int .i64 ((rd_T91 l0 (ji12)).f0)) ∧ w22.cell? ⟨(ad386.add (((ji12)).toNat * 2)).block, (ad386.add (((ji12)).toNat * 2)).off + 1, none⟩ = some (.int .i64 ((rd_T91 l0 (ji12)).f1)) ∧ w22.cell? (ad386.add (((ji15)).toNat * 2)) = some (.int .i64 ((rd_T91 l0 (ji15)).f0)) ∧ w22.cell? ⟨(ad386.add (((ji15)).toNat * 2)).block, (ad386.add (((ji15)).toNat * 2)).off + 1, none⟩ = some (.int .i64 ((rd_T91 l0 (ji15)).f1)) := hS_
             refine norm_ (a' := ?_) ?_ ?_; rotate_left
             · simp only [putAll, Act.put, List.setIfInBounds_toArray, List.set_cons_zero, List.set_cons_succ]
               rfl
             refine one_ (i := 19) (N := some 6) (zb 24 2097151) rfl rfl (one_of HT_.out (by kernel_rfl)) (by decide) (fun K hK => ?_)
             refine box_step ?hg (N := 6) ?hd (cs := #[.int .i64 0, .int .i64 0]) (t := 91) ?hr ?_; (case hd => rfl); (case hg => rfl); (case hr => first | (go_simp; done) | (go_simp; rfl))
             intro gb390 hg w23 hbox hb; have BK390 := Aside0.mk (hbox); have GW390 := zS (pB2 HB.out GE389.out GE391.out) hg; have GE390 := GW390; have NB389_390 := zL BK389 hg; have NB390_389 := zM BK389 hg; have NB391_390 := zL BK391 hg; have NB390_391 := zM BK391 hg; replace BK389 := zK BK389 hb; replace BK391 := zK BK391 hb; replace HB := zW (pB2 HB.out GE389.out GE391.out) hb; clear hb hbox hg
             refine hK.out _ _ ⟨(zH HB hw386_0), (zH HB hw386_1), (zH HB hw387_0), (zH HB hw387_1), (zH HB hw388_0), (zH HB hw388_1)⟩ (fun hHeld => ?_)
             clear hK K; refine zN ?_
             exact norm_ (by first | (simp only [putAll, Act.put, List.setIfInBounds_toArray, List.set_cons_zero, List.set_cons_succ]; done) | (simp only [putAll, Act.put, List.setIfInBounds_toArray, List.set_cons_zero, List.set_cons_succ]; rfl)) (hJ18_19_20 (gb389, gb390, gb391) _ ⟨hHeld, (pK BK389.out), (pK BK390.out), (pK BK391.out), GW389.out, GE389.out, NB390_389.out, NB389_390.out, NB391_389.out, NB389_391.out, GW390.out, GE390.out, NB391_390.out, NB390_391.out, GW391.out, GE391.out, (pB3 HB.out GE389.out GE391.out GE390.out)⟩)
         · skip
           rintro ⟨gb389, gb390⟩ w22 ⟨hS_, h0_, h1_, h2_, h3_, h4_, h5_, h6_, h7_, h8_⟩; have n0_ : Aside0 (w22.heap[gb389]? = some (.cells #[.int .i64 0, .int .i64 0] 91 (0, 0))) := ⟨h0_⟩; have n1_ : Aside0 (w22.heap[gb390]? = some (.cells #[.int .i64 0, .int .i64 0] 91 (0, 0))) := ⟨h1_⟩; have n2_ : Aside0 (w.heap.size ≤ gb389) := ⟨h2_⟩; have n3_ : Aside0 (w.heap.size ≤ gb389) := ⟨h3_⟩; have n4_ : Aside0 (gb390 ≠ gb389) := ⟨h4_⟩; have n5_ : Aside0 (gb389 ≠ gb390) := ⟨h5_⟩; have n6_ : Aside0 (w.heap.size ≤ gb390) := ⟨h6_⟩; have n7_ : Aside0 (w.heap.size ≤ gb390) := ⟨h7_⟩; have n8_ : Aside0 (Below w.heap.size w w22) := ⟨h8_⟩; clear HB; clear h0_ h1_ h2_ h3_ h4_ h5_ h6_ h7_ h8_; have BK389 := n0_; have BK390 := n1_; have GW389 := n2_; have GE389 := n3_; have NB390_389 := n4_; have NB389_390 := n5_; have GW390 := n6_; have GE390 := n7_; have HB := n8_; clear n0_ n1_ n2_ n3_ n4_ n5_ n6_ n7_ n8_
           have hHeld : w22.cell? (ad386.add ((x24_2).toNat * 2)) = some (.int .i64 ((rd_T91 l0 x24_2).f0)) ∧ w22.cell? ⟨(ad386.add ((x24_2).toNat * 2)).block, (ad386.add ((x24_2).toNat * 2)).off + 1, none⟩ = some (.int .i64 ((rd_T91 l0 x24_2).f1)) ∧ w22.cell? (ad386.add (((ji12)).toNat * 2)) = some (.int .i64 ((rd_T91 l0 (ji12)).f0)) ∧ w22.cell? ⟨(ad386.add (((ji12)).toNat * 2)).block, (ad386.add (((ji12)).toNat * 2)).off + 1, none⟩ = some (.int .i64 ((rd_T91 l0 (ji12)).f1)) ∧ w22.cell? (ad386.add (((ji15)).toNat * 2)) = some (.int .i64 ((rd_T91 l0 (ji15)).f0)) ∧ w22.cell? ⟨(ad386.add (((ji15)).toNat * 2)).block, (ad386.add (((ji15)).toNat * 2)).off + 1, none⟩ = some (.int .i64 ((rd_T91 l0 (ji15)).f1)) := hS_
           refine norm_ (a' := ?_) ?_ ?_; rotate_left
           · simp only [putAll, Act.put, List.setIfInBounds_toArray, List.set_cons_zero, List.set_cons_succ]
             rfl
           refine one_ (i := 20) (N := some 7) (zb 24 2097151) rfl rfl (one_of HT_.out (by kernel_rfl)) (by decide) (fun K hK => ?_)
           refine box_step ?hg (N := 7) ?hd (cs := #[.int .i64 0, .int .i64 0]) (t := 91) ?hr ?_; (case hd => rfl); (case hg => rfl); (case hr => first | (go_simp; done) | (go_simp; rfl))
           intro gb391 hg w23 hbox hb; have BK391 := Aside0.mk (hbox); have GW391 := zS (pB2 HB.out GE389.out GE390.out) hg; have GE391 := GW391; have NB389_391 := zL BK389 hg; have NB391_389 := zM BK389 hg; have NB390_391 := zL BK390 hg; have NB391_390 := zM BK390 hg; replace BK389 := zK BK389 hb; replace BK390 := zK BK390 hb; replace HB := zW (pB2 HB.out GE389.out GE390.out) hb; clear hb hbox hg
           refine hK.out _ _ ⟨(zH HB hw386_0), (zH HB hw386_1), (zH HB hw387_0), (zH HB hw387_1), (zH HB hw388_0), (zH HB hw388_1)⟩ (fun hHeld => ?_)
           clear hK K; refine zN ?_
           exact norm_ (by first | (simp only [putAll, Act.put, List.setIfInBounds_toArray, List.set_cons_zero, List.set_cons_succ]; done) | (simp only [putAll, Act.put, List.setIfInBounds_toArray, List.set_cons_zero, List.set_cons_succ]; rfl)) (hJ18_19_20 (gb389, gb390, gb391) _ ⟨hHeld, (pK BK389.out), (pK BK390.out), (pK BK391.out), GW389.out, GE389.out, NB390_389.out, NB389_390.out, NB391_389.out, NB389_391.out, GW390.out, GE390.out, NB391_390.out, NB390_391.out, GW391.out, GE391.out, (pB3 HB.out GE389.out GE390.out GE391.out)⟩)
       rintro ⟨gb389, gb390, gb391⟩ w23 ⟨hS_, h0_, h1_, h2_, h3_, h4_, h5_, h6_, h7_, h8_, h9_, h10_, h11_, h12_, h13_, h14_, h15_⟩; have n0_ : Aside0 (w23.heap[gb389]? = some (.cells #[.int .i64 0, .int .i64 0] 91 (0, 0))) := ⟨h0_⟩; have n1_ : Aside0 (w23.heap[gb390]? = some (.cells #[.int .i64 0, .int .i64 0] 91 (0, 0))) := ⟨h1_⟩; have n2_ : Aside0 (w23.heap[gb391]? = some (.cells #[.int .i64 0, .int .i64 0] 91 (0, 0))) := ⟨h2_⟩; have n3_ : Aside0 (w.heap.size ≤ gb389) := ⟨h3_⟩; have n4_ : Aside0 (w.heap.size ≤ gb389) := ⟨h4_⟩; have n5_ : Aside0 (gb390 ≠ gb389) := ⟨h5_⟩; have n6_ : Aside0 (gb389 ≠ gb390) := ⟨h6_⟩; have n7_ : Aside0 (gb391 ≠ gb389) := ⟨h7_⟩; have n8_ : Aside0 (gb389 ≠ gb391) := ⟨h8_⟩; have n9_ : Aside0 (w.heap.size ≤ gb390) := ⟨h9_⟩; have n10_ : Aside0 (w.heap.size ≤ gb390) := ⟨h10_⟩; have n11_ : Aside0 (gb391 ≠ gb390) := ⟨h11_⟩; have n12_ : Aside0 (gb390 ≠ gb391) := ⟨h12_⟩; have n13_ : Aside0 (w.heap.size ≤ gb391) := ⟨h13_⟩; have n14_ : Aside0 (w.heap.size ≤ gb391) := ⟨h14_⟩; have n15_ : Aside0 (Below w.heap.size w w23) := ⟨h15_⟩; clear HB; clear h0_ h1_ h2_ h3_ h4_ h5_ h6_ h7_ h8_ h9_ h10_ h11_ h12_ h13_ h14_ h15_; have BK389 := n0_; have BK390 := n1_; have BK391 := n2_; have GW389 := n3_; have GE389 := n4_; have NB390_389 := n5_; have NB389_390 := n6_; have NB391_389 := n7_; have NB389_391 := n8_; have GW390 := n9_; have GE390 := n10_; have NB391_390 := n11_; have NB390_391 := n12_; have GW391 := n13_; have GE391 := n14_; have HB := n15_; clear n0_ n1_ n2_ n3_ n4_ n5_ n6_ n7_ n8_ n9_ n10_ n11_ n12_ n13_ n14_ n15_
       have hHeld : w23.cell? (ad386.add ((x24_2).toNat * 2)) = some (.int .i64 ((rd_T91 l0 x24_2).f0)) ∧ w23.cell? ⟨(ad386.add ((x24_2).toNat * 2)).block, (ad386.add ((x24_2).toNat * 2)).off + 1, none⟩ = some (.int .i64 ((rd_T91 l0 x24_2).f1)) ∧ w23.cell? (ad386.add (((ji12)).toNat * 2)) = some (.int .i64 ((rd_T91 l0 (ji12)).f0)) ∧ w23.cell? ⟨(ad386.add (((ji12)).toNat * 2)).block, (ad386.add (((ji12)).toNat * 2)).off + 1, none⟩ = some (.int .i64 ((rd_T91 l0 (ji12)).f1)) ∧ w23.cell? (ad386.add (((ji15)).toNat * 2)) = some (.int .i64 ((rd_T91 l0 (ji15)).f0)) ∧ w23.cell? ⟨(ad386.add (((ji15)).toNat * 2)).block, (ad386.add (((ji15)).toNat * 2)).off + 1, none⟩ = some (.int .i64 ((rd_T91 l0 (ji15)).f1)) := hS_
       refine norm_ (a' := ?_) ?_ ?_; rotate_left
       · simp only [putAll, Act.put, List.setIfInBounds_toArray, List.set_cons_zero, List.set_cons_succ]
         rfl
       refine one_ (i := 21) (N := none) (zb 24 4194303) rfl rfl (one_of HT_.out (by kernel_rfl)) (by decide) (fun K hK => ?_)
       have hs24 : w23.cell? ⟨gb389, 0, none⟩ = some (.int .i64 0) := zQ BK389 0; have hfs24 := blk_frozen BK389.out 0; have hns24_1 := NB390_389.out; have hns24_2 := NB391_389.out; have hms24_1 := NB389_390.out; have hms24_2 := NB389_391.out; have hs25 : w23.cell? ⟨gb389, 1, none⟩ = some (.int .i64 0) := zQ BK389 1; have hfs25 := blk_frozen BK389.out 1; have hns25_1 := NB390_389.out; have hns25_2 := NB391_389.out; have hms25_1 := NB389_390.out; have hms25_2 := NB389_391.out
       refine skip_ (w1 := ?_) (by rfl) rfl ?_ ?_
       rotate_left
       · go_simp
         rfl
       refine hK.out _ _ ⟨((cell_far (p := ⟨gb389, _, none⟩) (zF hw386_0 GW389) _).trans (((cell_far (p := ⟨gb389, _, none⟩) (zF hw386_0 GW389) _).trans (hHeld.1)))), ((cell_far (p := ⟨gb389, _, none⟩) (zF hw386_1 GW389) _).trans (((cell_far (p := ⟨gb389, _, none⟩) (zF hw386_1 GW389) _).trans (hHeld.2.1)))), ((cell_far (p := ⟨gb389, _, none⟩) (zF hw387_0 GW389) _).trans (((cell_far (p := ⟨gb389, _, none⟩) (zF hw387_0 GW389) _).trans (hHeld.2.2.1)))), ((cell_far (p := ⟨gb389, _, none⟩) (zF hw387_1 GW389) _).trans (((cell_far (p := ⟨gb389, _, none⟩) (zF hw387_1 GW389) _).trans (hHeld.2.2.2.1)))), ((cell_far (p := ⟨gb389, _, none⟩) (zF hw388_0 GW389) _).trans (((cell_far (p := ⟨gb389, _, none⟩) (zF hw388_0 GW389) _).trans (hHeld.2.2.2.2.1)))), ((cell_far (p := ⟨gb389, _, none⟩) (zF hw388_1 GW389) _).trans (((cell_far (p := ⟨gb389, _, none⟩) (zF hw388_1 GW389) _).trans (hHeld.2.2.2.2.2))))⟩ (fun hHeld => ?_)
       clear hK K
       refine one_ (i := 22) (N := none) (zb 24 8388607) rfl rfl (one_of HT_.out (by kernel_rfl)) (by decide) (fun K hK => ?_)
       have hs26 : w23.cell? ⟨gb390, 0, none⟩ = some (.int .i64 0) := zQ BK390 0; have hfs26 := blk_frozen BK390.out 0; have hns26_0 := NB389_390.out; have hns26_2 := NB391_390.out; have hms26_0 := NB390_389.out; have hms26_2 := NB390_391.out; have hs27 : w23.cell? ⟨gb390, 1, none⟩ = some (.int .i64 0) := zQ BK390 1; have hfs27 := blk_frozen BK390.out 1; have hns27_0 := NB389_390.out; have hns27_2 := NB391_390.out; have hms27_0 := NB390_389.out; have hms27_2 := NB390_391.out
       refine skip_ (w1 := ?_) (by rfl) rfl ?_ ?_
       rotate_left
       · go_simp
         rfl
       refine hK.out _ _ ⟨((cell_far (p := ⟨gb390, _, none⟩) (zF hw386_0 GW390) _).trans (((cell_far (p := ⟨gb390, _, none⟩) (zF hw386_0 GW390) _).trans (hHeld.1)))), ((cell_far (p := ⟨gb390, _, none⟩) (zF hw386_1 GW390) _).trans (((cell_far (p := ⟨gb390, _, none⟩) (zF hw386_1 GW390) _).trans (hHeld.2.1)))), ((cell_far (p := ⟨gb390, _, none⟩) (zF hw387_0 GW390) _).trans (((cell_far (p := ⟨gb390, _, none⟩) (zF hw387_0 GW390) _).trans (hHeld.2.2.1)))), ((cell_far (p := ⟨gb390, _, none⟩) (zF hw387_1 GW390) _).trans (((cell_far (p := ⟨gb390, _, none⟩) (zF hw387_1 GW390) _).trans (hHeld.2.2.2.1)))), ((cell_far (p := ⟨gb390, _, none⟩) (zF hw388_0 GW390) _).trans (((cell_far (p := ⟨gb390, _, none⟩) (zF hw388_0 GW390) _).trans (hHeld.2.2.2.2.1)))), ((cell_far (p := ⟨gb390, _, none⟩) (zF hw388_1 GW390) _).trans (((cell_far (p := ⟨gb390, _, none⟩) (zF hw388_1 GW390) _).trans (hHeld.2.2.2.2.2))))⟩ (fun hHeld => ?_)
       clear hK K
       refine one_ (i := 23) (N := none) (zb 24 16777215) rfl rfl (one_of HT_.out (by kernel_rfl)) (by decide) (fun K hK => ?_)
       have hs28 : w23.cell? ⟨gb391, 0, none⟩ = some (.int .i64 0) := zQ BK391 0; have hfs28 := blk_frozen BK391.out 0; have hns28_0 := NB389_391.out; have hns28_1 := NB390_391.out; have hms28_0 := NB391_389.out; have hms28_1 := NB391_390.out; have hs29 : w23.cell? ⟨gb391, 1, none⟩ = some (.int .i64 0) := zQ BK391 1; have hfs29 := blk_frozen BK391.out 1; have hns29_0 := NB389_391.out; have hns29_1 := NB390_391.out; have hms29_0 := NB391_389.out; have hms29_1 := NB391_390.out
       refine skip_ (w1 := ?_) (by rfl) rfl ?_ ?_
       rotate_left
       · go_simp
         rfl
       refine hK.out _ _ ⟨((cell_far (p := ⟨gb391, _, none⟩) (zF hw386_0 GW391) _).trans (((cell_far (p := ⟨gb391, _, none⟩) (zF hw386_0 GW391) _).trans (hHeld.1)))), ((cell_far (p := ⟨gb391, _, none⟩) (zF hw386_1 GW391) _).trans (((cell_far (p := ⟨gb391, _, none⟩) (zF hw386_1 GW391) _).trans (hHeld.2.1)))), ((cell_far (p := ⟨gb391, _, none⟩) (zF hw387_0 GW391) _).trans (((cell_far (p := ⟨gb391, _, none⟩) (zF hw387_0 GW391) _).trans (hHeld.2.2.1)))), ((cell_far (p := ⟨gb391, _, none⟩) (zF hw387_1 GW391) _).trans (((cell_far (p := ⟨gb391, _, none⟩) (zF hw387_1 GW391) _).trans (hHeld.2.2.2.1)))), ((cell_far (p := ⟨gb391, _, none⟩) (zF hw388_0 GW391) _).trans (((cell_far (p := ⟨gb391, _, none⟩) (zF hw388_0 GW391) _).trans (hHeld.2.2.2.2.1)))), ((cell_far (p := ⟨gb391, _, none⟩) (zF hw388_1 GW391) _).trans (((cell_far (p := ⟨gb391, _, none⟩) (zF hw388_1 GW391) _).trans (hHeld.2.2.2.2.2))))⟩ (fun hHeld => ?_)
       clear hK K
       refine done_ (done_of HT_.out (by kernel_rfl)) ?_
       go_upto_region 8 with (fail)
       go_cut [59] (fun v59 wc => ∃ (kq : Nat) (x59_17 : Bool), v59 = .bool x59_17 ∧ Aside0 (impl_ValidPolygon.j2 kq l0 (l0.length : Int) x24_2 (l0.length : Int) x24_2 x59_17 ((rd_T91 l0 x24_2).f0) ((rd_T91 l0 x24_2).f1) ((rd_T91 l0 (ji12)).f0) ((rd_T91 l0 (ji12)).f1) = some r) ∧ Aside0 (kq ≤ k2) ∧ Aside0 (wc.heap[gb389]? = some (.cells #[.int .i64 ((rd_T91 l0 x24_2).f0), .int .i64 ((rd_T91 l0 x24_2).f1)] 91 (0, 0))) ∧ Aside0 (wc.heap[gb390]? = some (.cells #[.int .i64 ((rd_T91 l0 (ji12)).f0), .int .i64 ((rd_T91 l0 (ji12)).f1)] 91 (0, 0))) ∧ Aside0 (wc.heap[gb391]? = some (.cells #[.int .i64 ((rd_T91 l0 (ji15)).f0), .int .i64 ((rd_T91 l0 (ji15)).f1)] 91 (0, 0))) ∧ Aside0 (Below w.heap.size w wc))
       case first =>
        have H := HC18.out; clear HC18
        by_cases c30 : (((rd_T91 l0 x24_2).f0) == ((rd_T91 l0 (ji12)).f0) && (((rd_T91 l0 x24_2).f1) == ((rd_T91 l0 (ji12)).f1))) = true
        · rw [if_pos c30] at H
          have c30b0 : (((rd_T91 l0 x24_2).f0) == ((rd_T91 l0 (ji12)).f0) && (((rd_T91 l0 x24_2).f1) == ((rd_T91 l0 (ji12)).f1))) = true := c30
          (try (have c30b1 : decide (((rd_T91 l0 x24_2).f0) = ((rd_T91 l0 (ji12)).f0) && (((rd_T91 l0 x24_2).f1) == ((rd_T91 l0 (ji12)).f1))) = true := by simpa using c30))
          (try (have c30b2 : (((rd_T91 l0 x24_2).f0) == ((rd_T91 l0 (ji12)).f0) && (((rd_T91 l0 x24_2).f1) == ((rd_T91 l0 (ji12)).f1))) = true := by simpa using c30))
          clear c30; (first | rw [c30b0] | (simp only [i64_w, i32_w]; rw [c30b0]) | skip); have H' := Aside0.mk H; clear H; have hnb31 := NB389_390.out; have hnc31 := NB390_389.out; have hnb32 := NB389_391.out; have hnc32 := NB391_389.out; have Y33_0 := zC (.int .i64 0) BK389 0; have Y33_1 := zC (.int .i64 0) BK389 1; have X33_0 := blk_frozen BK389.out 0; have X33_1 := blk_frozen BK389.out 1; have hnb34 := NB390_391.out; have hnc34 := NB391_390.out; have Y35_0 := zC (.int .i64 0) BK390 0; have Y35_1 := zC (.int .i64 0) BK390 1; have X35_0 := blk_frozen BK390.out 0; have X35_1 := blk_frozen BK390.out 1
          go_wp2
          go_meet
          case rel => exact ⟨_, (true), zR, H', ⟨by have := HJ1.out; have := HK2.out; first | omega | exact Nat.le_refl _⟩, ⟨by refine zf ?_ NB389_391; refine zf ?_ NB389_391; refine zf ?_ NB389_390; refine zf ?_ NB389_390; refine zg #[.int .i64 ((rd_T91 l0 x24_2).f0), .int .i64 0] 1 ?_; refine zg #[.int .i64 0, .int .i64 0] 0 ?_; exact pK BK389.out⟩, ⟨by refine zf ?_ NB390_391; refine zf ?_ NB390_391; refine zg #[.int .i64 ((rd_T91 l0 (ji12)).f0), .int .i64 0] 1 ?_; refine zg #[.int .i64 0, .int .i64 0] 0 ?_; refine zf ?_ NB390_389; refine zf ?_ NB390_389; exact pK BK390.out⟩, ⟨by refine zg #[.int .i64 ((rd_T91 l0 (ji15)).f0), .int .i64 0] 1 ?_; refine zg #[.int .i64 0, .int .i64 0] 0 ?_; refine zf ?_ NB391_390; refine zf ?_ NB391_390; refine zf ?_ NB391_389; refine zf ?_ NB391_389; exact pK BK391.out⟩, ⟨pB3 HB.out GE389.out GE390.out GE391.out⟩⟩
        rw [if_neg c30] at H
        have c30b0 : (((rd_T91 l0 x24_2).f0) == ((rd_T91 l0 (ji12)).f0) && (((rd_T91 l0 x24_2).f1) == ((rd_T91 l0 (ji12)).f1))) = false := by simpa using c30
        (try (have c30b1 : decide (((rd_T91 l0 x24_2).f0) = ((rd_T91 l0 (ji12)).f0) && (((rd_T91 l0 x24_2).f1) == ((rd_T91 l0 (ji12)).f1))) = false := by simpa using c30))
        (try (have c30b2 : (((rd_T91 l0 x24_2).f0) == ((rd_T91 l0 (ji12)).f0) && (((rd_T91 l0 x24_2).f1) == ((rd_T91 l0 (ji12)).f1))) = false := by simpa using c30))
        (try (have c30b3 : ¬ (((rd_T91 l0 x24_2).f0) = ((rd_T91 l0 (ji12)).f0) && (((rd_T91 l0 x24_2).f1) == ((rd_T91 l0 (ji12)).f1))) := by simpa using c30))
        clear c30; (first | rw [c30b0] | (simp only [i64_w, i32_w]; rw [c30b0]) | skip); replace H := Option.bind_eq_some_iff.mp H; obtain ⟨t392, A360, H⟩ := H; have A36 := Aside0.mk A360; clear A360
        by_cases c37 : t392 = true
        · subst c37
          rw [if_pos rfl] at H; have H' := Aside0.mk H; clear H; have hnb38 := NB389_390.out; have hnc38 := NB390_389.out; have hnb39 := NB389_391.out; have hnc39 := NB391_389.out; have Y40_0 := zC (.int .i64 0) BK389 0; have Y40_1 := zC (.int .i64 0) BK389 1; have X40_0 := blk_frozen BK389.out 0; have X40_1 := blk_frozen BK389.out 1; have hnb41 := NB390_391.out; have hnc41 := NB391_390.out; have Y42_0 := zC (.int .i64 0) BK390 0; have Y42_1 := zC (.int .i64 0) BK390 1; have X42_0 := blk_frozen BK390.out 0; have X42_1 := blk_frozen BK390.out 1; have Y43_0 := zC (.int .i64 0) BK391 0; have Y43_1 := zC (.int .i64 0) BK391 1; have X43_0 := blk_frozen BK391.out 0; have X43_1 := blk_frozen BK391.out 1
          go_wp2_with (first | (go_at_call 96; (with_reducible refine (impl_on.calls ((rd_T91 l0 x24_2).f0) ((rd_T91 l0 x24_2).f1) ((rd_T91 l0 (ji12)).f0) ((rd_T91 l0 (ji12)).f1) ((rd_T91 l0 (ji15)).f0) ((rd_T91 l0 (ji15)).f1) true _ A36.out).mono ?_); rintro e w44 ⟨rfl, hb⟩; replace BK389 := Aside0.mk (blk_below (g := gb389) (o := .cells #[.int .i64 ((rd_T91 l0 x24_2).f0), .int .i64 ((rd_T91 l0 x24_2).f1)] 91 (0, 0)) (by refine zf ?_ NB389_391; refine zf ?_ NB389_391; refine zf ?_ NB389_390; refine zf ?_ NB389_390; refine zg #[.int .i64 ((rd_T91 l0 x24_2).f0), .int .i64 0] 1 ?_; refine zg #[.int .i64 0, .int .i64 0] 0 ?_; exact pK BK389.out) hb); replace BK390 := Aside0.mk (blk_below (g := gb390) (o := .cells #[.int .i64 ((rd_T91 l0 (ji12)).f0), .int .i64 ((rd_T91 l0 (ji12)).f1)] 91 (0, 0)) (by refine zf ?_ NB390_391; refine zf ?_ NB390_391; refine zg #[.int .i64 ((rd_T91 l0 (ji12)).f0), .int .i64 0] 1 ?_; refine zg #[.int .i64 0, .int .i64 0] 0 ?_; refine zf ?_ NB390_389; refine zf ?_ NB390_389; exact pK BK390.out) hb); replace BK391 := Aside0.mk (blk_below (g := gb391) (o := .cells #[.int .i64 ((rd_T91 l0 (ji15)).f0), .int .i64 ((rd_T91 l0 (ji15)).f1)] 91 (0, 0)) (by refine zg #[.int .i64 ((rd_T91 l0 (ji15)).f0), .int .i64 0] 1 ?_; refine zg #[.int .i64 0, .int .i64 0] 0 ?_; refine zf ?_ NB391_390; refine zf ?_ NB391_390; refine zf ?_ NB391_389; refine zf ?_ NB391_389; exact pK BK391.out) hb); replace HB := zW (pB3 HB.out GE389.out GE390.out GE391.out) hb; (try clear hb); (try clear hb2); (try clear hk); (try clear hi)))
          go_meet
          case rel => exact ⟨_, (true), zR, H', ⟨by have := HJ1.out; have := HK2.out; first | omega | exact Nat.le_refl _⟩, ⟨pK BK389.out⟩, ⟨pK BK390.out⟩, ⟨pK BK391.out⟩, ⟨pB3 HB.out GE389.out GE390.out GE391.out⟩⟩
        replace c37 := Bool.eq_false_iff.mpr c37; subst c37
        rw [if_neg (show ¬ (false = true) by decide)] at H
        replace H := Option.bind_eq_some_iff.mp H; obtain ⟨t393, A450, H⟩ := H; have A45 := Aside0.mk A450; clear A450; have H' := Aside0.mk H; clear H; have hnb46 := NB389_390.out; have hnc46 := NB390_389.out; have hnb47 := NB389_391.out; have hnc47 := NB391_389.out; have Y48_0 := zC (.int .i64 0) BK389 0; have Y48_1 := zC (.int .i64 0) BK389 1; have X48_0 := blk_frozen BK389.out 0; have X48_1 := blk_frozen BK389.out 1; have hnb49 := NB390_391.out; have hnc49 := NB391_390.out; have Y50_0 := zC (.int .i64 0) BK390 0; have Y50_1 := zC (.int .i64 0) BK390 1; have X50_0 := blk_frozen BK390.out 0; have X50_1 := blk_frozen BK390.out 1; have Y51_0 := zC (.int .i64 0) BK391 0; have Y51_1 := zC (.int .i64 0) BK391 1; have X51_0 := blk_frozen BK391.out 0; have X51_1 := blk_frozen BK391.out 1
        go_wp2_with (first | (go_at_call 96; (with_reducible refine (impl_on.calls ((rd_T91 l0 x24_2).f0) ((rd_T91 l0 x24_2).f1) ((rd_T91 l0 (ji12)).f0) ((rd_T91 l0 (ji12)).f1) ((rd_T91 l0 (ji15)).f0) ((rd_T91 l0 (ji15)).f1) false _ A36.out).mono ?_); rintro e w52 ⟨rfl, hb⟩; replace BK389 := Aside0.mk (blk_below (g := gb389) (o := .cells #[.int .i64 ((rd_T91 l0 x24_2).f0), .int .i64 ((rd_T91 l0 x24_2).f1)] 91 (0, 0)) (by refine zf ?_ NB389_391; refine zf ?_ NB389_391; refine zf ?_ NB389_390; refine zf ?_ NB389_390; refine zg #[.int .i64 ((rd_T91 l0 x24_2).f0), .int .i64 0] 1 ?_; refine zg #[.int .i64 0, .int .i64 0] 0 ?_; exact pK BK389.out) hb); replace BK390 := Aside0.mk (blk_below (g := gb390) (o := .cells #[.int .i64 ((rd_T91 l0 (ji12)).f0), .int .i64 ((rd_T91 l0 (ji12)).f1)] 91 (0, 0)) (by refine zf ?_ NB390_391; refine zf ?_ NB390_391; refine zg #[.int .i64 ((rd_T91 l0 (ji12)).f0), .int .i64 0] 1 ?_; refine zg #[.int .i64 0, .int .i64 0] 0 ?_; refine zf ?_ NB390_389; refine zf ?_ NB390_389; exact pK BK390.out) hb); replace BK391 := Aside0.mk (blk_below (g := gb391) (o := .cells #[.int .i64 ((rd_T91 l0 (ji15)).f0), .int .i64 ((rd_T91 l0 (ji15)).f1)] 91 (0, 0)) (by refine zg #[.int .i64 ((rd_T91 l0 (ji15)).f0), .int .i64 0] 1 ?_; refine zg #[.int .i64 0, .int .i64 0] 0 ?_; refine zf ?_ NB391_390; refine zf ?_ NB391_390; refine zf ?_ NB391_389; refine zf ?_ NB391_389; exact pK BK391.out) hb); replace HB := zW (pB3 HB.out GE389.out GE390.out GE391.out) hb; (try clear hb); (try clear hb2); (try clear hk); (try clear hi); have Y53_0 := zC (.int .i64 ((rd_T91 l0 (ji12)).f0)) BK390 0; have Y53_1 := zC (.int .i64 ((rd_T91 l0 (ji12)).f1)) BK390 1; obtain ⟨X53_0, X53_1⟩ := zf2 BK390; have Y54_0 := zC (.int .i64 ((rd_T91 l0 (ji15)).f0)) BK391 0; have Y54_1 := zC (.int .i64 ((rd_T91 l0 (ji15)).f1)) BK391 1; obtain ⟨X54_0, X54_1⟩ := zf2 BK391; obtain ⟨Y55_0, X55_0, Y55_1, X55_1⟩ := zw2 BK389) | (go_at_call 96; (with_reducible refine (impl_on.calls ((rd_T91 l0 (ji12)).f0) ((rd_T91 l0 (ji12)).f1) ((rd_T91 l0 (ji15)).f0) ((rd_T91 l0 (ji15)).f1) ((rd_T91 l0 x24_2).f0) ((rd_T91 l0 x24_2).f1) t393 _ A45.out).mono ?_); rintro e w56 ⟨rfl, hb⟩; replace BK389 := zK BK389 hb; replace BK390 := zK BK390 hb; replace BK391 := zK BK391 hb; replace HB := zW (pB3 HB.out GE389.out GE390.out GE391.out) hb; (try clear hb); (try clear hb2); (try clear hk); (try clear hi)))
        go_meet
        case rel => exact ⟨_, (t393), zR, H', ⟨by have := HJ1.out; have := HK2.out; first | omega | exact Nat.le_refl _⟩, ⟨pK BK389.out⟩, ⟨pK BK390.out⟩, ⟨pK BK391.out⟩, ⟨pB3 HB.out GE389.out GE390.out GE391.out⟩⟩
       case rest =>
        clear HC18; (try clear p2); (try clear c3); (try clear c4); (try clear c30); (try clear c30b0); (try clear c30b1); (try clear c30b2); (try clear c31); (try clear c32); (try clear c34); (try clear c37); (try clear c38); (try clear c39); (try clear c41); (try clear c46); (try clear c47); (try clear c49); (try clear Y33_0 Y33_1); (try clear Y35_0 Y35_1); (try clear Y40_0 Y40_1); (try clear Y42_0 Y42_1); (try clear Y43_0 Y43_1); (try clear Y48_0 Y48_1); (try clear Y50_0 Y50_1); (try clear Y51_0 Y51_1); (try clear Y53_0 Y53_1); (try clear Y54_0 Y54_1); (try clear Y55_0 Y55_1); (try clear X33_0 X33_1); (try clear X35_0 X35_1); (try clear X40_0 X40_1); (try clear X42_0 X42_1); (try clear X43_0 X43_1); (try clear X48_0 X48_1); (try clear X50_0 X50_1); (try clear X51_0 X51_1); (try clear X53_0 X53_1); (try clear X54_0 X54_1); (try clear X55_0 X55_1); obtain ⟨kq, x59_17, rfl, HA, HJ17, BK389, BK390, BK391, HB⟩ := hcut
        cases kq with
        | zero => exact absurd HA.out (by simp [impl_ValidPolygon.j2])
        | succ kj17 =>
          have H := HA.out; clear HA; simp only [impl_ValidPolygon.j2] at H
          by_cases c57 : x59_17 = true
          · subst c57
            rw [if_pos rfl] at H; obtain rfl := Option.some.inj H
            go_wp2
            go_ret
            exact ⟨by first | rfl | (simp [errW_none, errW_some] <;> rfl) | (simp only [← hji12, ← hji15]; first | rfl | (simp [errW_none, errW_some] <;> rfl)) | (simp [*, errW_none, errW_some] <;> rfl), pB3 HB.out GE389.out GE390.out GE391.out⟩
          replace c57 := Bool.eq_false_iff.mpr c57; subst c57
          rw [if_neg (show ¬ (false = true) by decide)] at H
          have H' := Aside0.mk H; clear H
          go_wp2
          go_loopg [8] kj17 (fun kq v8 w' => ∃ (x8_4 : Int), v8 = .int .i64 x8_4 ∧ Aside0 (impl_ValidPolygon.l1 kq l0 (l0.length : Int) x24_2 x8_4 (l0.length : Int) x24_2 ((rd_T91 l0 x24_2).f0) ((rd_T91 l0 x24_2).f1) ((rd_T91 l0 (ji12)).f0) ((rd_T91 l0 (ji12)).f1) = some r) ∧ Aside0 (kq ≤ kj17) ∧ Aside0 (w'.heap[gb389]? = some (.cells #[.int .i64 ((rd_T91 l0 x24_2).f0), .int .i64 ((rd_T91 l0 x24_2).f1)] 91 (0, 0))) ∧ Aside0 (w'.heap[gb390]? = some (.cells #[.int .i64 ((rd_T91 l0 (ji12)).f0), .int .i64 ((rd_T91 l0 (ji12)).f1)] 91 (0, 0))) ∧ Aside0 (w'.heap[gb391]? = some (.cells #[.int .i64 ((rd_T91 l0 (ji15)).f0), .int .i64 ((rd_T91 l0 (ji15)).f1)] 91 (0, 0))) ∧ Aside0 (Below w.heap.size w w'))
          case atStart => exact ⟨(wrap64 (x24_2 + 2)), zR, H', ⟨Nat.le_refl _⟩, ⟨pK BK389.out⟩, ⟨pK BK390.out⟩, ⟨pK BK391.out⟩, ⟨pB3 HB.out GE389.out GE390.out GE391.out⟩⟩
          case round =>
           clear H'; (try clear p2); (try clear c3); (try clear c4); (try clear c5); (try clear p6); (try clear c30); (try clear c30b0); (try clear c30b1); (try clear c30b2); (try clear c31); (try clear c32); (try clear c34); (try clear c37); (try clear c38); (try clear c39); (try clear c41); (try clear c46); (try clear c47); (try clear c49); (try clear c57); (try clear Y33_0 Y33_1); (try clear Y35_0 Y35_1); (try clear Y40_0 Y40_1); (try clear Y42_0 Y42_1); (try clear Y43_0 Y43_1); (try clear Y48_0 Y48_1); (try clear Y50_0 Y50_1); (try clear Y51_0 Y51_1); (try clear Y53_0 Y53_1); (try clear Y54_0 Y54_1); (try clear Y55_0 Y55_1); (try clear X33_0 X33_1); (try clear X35_0 X35_1); (try clear X40_0 X40_1); (try clear X42_0 X42_1); (try clear X43_0 X43_1); (try clear X48_0 X48_1); (try clear X50_0 X50_1); (try clear X51_0 X51_1); (try clear X53_0 X53_1); (try clear X54_0 X54_1); (try clear X55_0 X55_1); (try clear p2); obtain ⟨x8_4, rfl, HA, HK4, BK389, BK390, BK391, HB⟩ := hrel
           cases gk with
           | zero => exact absurd HA.out (by simp [impl_ValidPolygon.l1])
           | succ k4 =>
             have H := HA.out; clear HA; simp only [impl_ValidPolygon.l1] at H
             by_cases c58 : x8_4 < (l0.length : Int)
             rotate_left
             · rw [if_neg c58] at H
               have c58b0 := decide_eq_false c58; clear c58; have H' := Aside0.mk H; clear H
               go_wp2
               go_roundg k4
               case measure => have := HJ1.out; have := HK2.out; have := HJ17.out; have := HK4.out; omega
               case rel => exact ⟨(wrap64 (x24_2 + 1)), zR, H', ⟨by have := HJ1.out; have := HK2.out; have := HJ17.out; have := HK4.out; omega⟩, ⟨pB3 HB.out GE389.out GE390.out GE391.out⟩⟩
             rw [if_pos c58] at H; have c58b0 := decide_eq_true c58; clear c58
             by_cases c59 : (l0.length : Int) = 0
             · rw [if_pos c59] at H
               exact absurd H (by simp)
             rw [if_neg c59] at H; have c59b0 : ((l0.length : Int) == 0) = false := beq_eq_false_iff_ne.mpr c59; have c59b1 : ((l0.length : Int) != 0) = true := bne_iff_ne.mpr c59
             have c59b2 : ¬ (l0 = []) := fun h_ => c59 (by rw [h_]; rfl)
             by_cases c60 : (Int.tmod (wrap64 (x8_4 + 1)) (l0.length : Int)) = x24_2
             · rw [if_pos c60] at H
               have c60b0 : ((Int.tmod (wrap64 (x8_4 + 1)) (l0.length : Int)) == x24_2) = true := beq_iff_eq.mpr c60; have c60b1 : ((Int.tmod (wrap64 (x8_4 + 1)) (l0.length : Int)) != x24_2) = false := bne_eq_false_iff_eq.mpr c60; clear c60; have H' := Aside0.mk H; clear H
               try go_wp2
               replace BK389 := Aside0.mk (blk_drew BK389.out); replace BK390 := Aside0.mk (blk_drew BK390.out); replace BK391 := Aside0.mk (blk_drew BK391.out); replace HB := Aside0.mk (below_drew1 HB.out)
               refine start_ (n := 22) (S := fun w' => True) (ds := []) (Array.replicate 22 false) (by kernel_rfl) rfl rfl trivial (fun hHeld => ?_); refine with_tabW impl_ValidPolygon.tab13 impl_ValidPolygon.bits13 (fun HT_ HW_ => ?_)
               generalize wr.drew = w61 at BK389 BK390 BK391 HB hHeld ⊢
               refine zP 0 (some 67) (zb 22 1) HT_ ?_; refine zP 1 (some 68) (zb 22 3) HT_ ?_; refine zP 2 (some 69) (zb 22 7) HT_ ?_; refine zP 3 (some 70) (zb 22 15) HT_ ?_; refine zP 4 (some 71) (zb 22 31) HT_ ?_; refine zP 5 (some 72) (zb 22 63) HT_ ?_; refine zP 6 (some 73) (zb 22 127) HT_ ?_; refine zU 7 (some 74) (zb 22 255) HT_ ?_; refine zU 8 (some 75) (zb 22 511) HT_ ?_; refine zU 9 (some 76) (zb 22 1023) HT_ ?_; refine zU 10 (some 77) (zb 22 2047) HT_ ?_; refine zU 11 (some 78) (zb 22 4095) HT_ ?_; refine zU 12 (some 79) (zb 22 8191) HT_ ?_; refine zU 13 (some 80) (zb 22 16383) HT_ ?_; refine zU 14 (some 81) (zb 22 32767) HT_ ?_; refine zU 15 (some 82) (zb 22 65535) HT_ ?_; refine zU 16 (some 83) (zb 22 131071) HT_ ?_; refine zU 17 (some 84) (zb 22 262143) HT_ ?_; refine zU 18 (some 85) (zb 22 524287) HT_ ?_; refine zU 19 (some 86) (zb 22 1048575) HT_ ?_; refine zU 20 (some 87) (zb 22 2097151) HT_ ?_; refine zP 21 (some 88) (zb 22 4194303) HT_ ?_
               refine done_ (done_of HT_.out (by kernel_rfl)) ?_
               try go_wp2
               go_roundg k4
               case measure => have := HJ1.out; have := HK2.out; have := HJ17.out; have := HK4.out; omega
               case rel => exact ⟨(wrap64 (x8_4 + 1)), zR, H', ⟨by have := HJ1.out; have := HK2.out; have := HJ17.out; have := HK4.out; omega⟩, ⟨pK BK389.out⟩, ⟨pK BK390.out⟩, ⟨pK BK391.out⟩, ⟨pB3 HB.out GE389.out GE390.out GE391.out⟩⟩
             rw [if_neg c60] at H; have c60b0 : ((Int.tmod (wrap64 (x8_4 + 1)) (l0.length : Int)) == x24_2) = false := beq_eq_false_iff_ne.mpr c60; have c60b1 : ((Int.tmod (wrap64 (x8_4 + 1)) (l0.length : Int)) != x24_2) = true := bne_iff_ne.mpr c60
             by_cases c62 : 0 ≤ x8_4
             rotate_left
             · rw [if_neg c62] at H
               exact absurd H (by simp)
             rw [if_pos c62] at H; have c62b0 := decide_eq_true c62; clear c62
             by_cases c63 : x8_4 < (l0.length : Int)
             rotate_left
             · rw [if_neg c63] at H
               exact absurd H (by simp)
             rw [if_pos c63] at H; have c63b0 := decide_eq_true c63; clear c63; obtain ⟨ji64, hji64⟩ : ∃ j_ : Int, (Int.tmod (wrap64 (x8_4 + 1)) (l0.length : Int)) = j_ := ⟨_, rfl⟩
             replace H : (if 0 ≤ (ji64) then (if (ji64) < (l0.length : Int) then ((impl_touching.f ((rd_T91 l0 x24_2).f0) ((rd_T91 l0 x24_2).f1) ((rd_T91 l0 (ji12)).f0) ((rd_T91 l0 (ji12)).f1) ((rd_T91 l0 x8_4).f0) ((rd_T91 l0 x8_4).f1) ((rd_T91 l0 (ji64)).f0) ((rd_T91 l0 (ji64)).f1)).bind fun t396 => (if t396 = true then (some false) else (impl_ValidPolygon.l1 k4 l0 (l0.length : Int) x24_2 (wrap64 (x8_4 + 1)) (l0.length : Int) x24_2 ((rd_T91 l0 x24_2).f0) ((rd_T91 l0 x24_2).f1) ((rd_T91 l0 (ji12)).f0) ((rd_T91 l0 (ji12)).f1)))) else (none)) else (none)) = some r := by first | (rw [hji64] at H; exact H) | (simp only [hji64] at H ⊢; exact H)
             (try rw [hji64] at c60b0); (try rw [hji64] at c60b1)
             by_cases c65 : 0 ≤ (ji64)
             rotate_left
             · rw [if_neg c65] at H
               exact absurd H (by simp)
             rw [if_pos c65] at H; have c65b0 := decide_eq_true c65; clear c65
             by_cases c66 : (ji64) < (l0.length : Int)
             rotate_left
             · rw [if_neg c66] at H
               exact absurd H (by simp)
             rw [if_pos c66] at H; have c66b0 := decide_eq_true c66; clear c66; replace H := Option.bind_eq_some_iff.mp H; obtain ⟨t396, A670, H⟩ := H; have A67 := Aside0.mk A670; clear A670
             by_cases c68 : t396 = true
             · subst c68
               rw [if_pos rfl] at H; obtain rfl := Option.some.inj H
               try go_wp2
               replace BK389 := Aside0.mk (blk_drew BK389.out); replace BK390 := Aside0.mk (blk_drew BK390.out); replace BK391 := Aside0.mk (blk_drew BK391.out); replace HB := Aside0.mk (below_drew1 HB.out); have p394 : 0 ≤ (x8_4 : Int) := zD; have q394 : x8_4 < (l0.length : Int) := zD; obtain ⟨ad394, e394, hx394_0, hx394_1⟩ := at_T91 HR0.out x8_4 p394 q394; have hw394_1 := hx394_1; have hw394_0 := hx394_0
               obtain rfl : ad386 = ad394 := (by injection e394)
               try replace hx394_0 := zH HB hx394_0
               try replace hx394_1 := zH HB hx394_1
               replace p394 := eq_true p394; replace q394 := eq_true q394; have p395 : 0 ≤ ((ji64) : Int) := zD; have q395 : (ji64) < (l0.length : Int) := zD; obtain ⟨ad395, e395, hx395_0, hx395_1⟩ := at_T91 HR0.out (ji64) p395 q395; have hw395_1 := hx395_1; have hw395_0 := hx395_0
               obtain rfl : ad386 = ad395 := (by injection e395)
               try replace hx395_0 := zH HB hx395_0
               try replace hx395_1 := zH HB hx395_1
               replace p395 := eq_true p395; replace q395 := eq_true q395
               refine start_ (n := 22) (S := fun w' => w'.cell? ⟨gb389, 0, none⟩ = some (.int .i64 ((rd_T91 l0 x24_2).f0)) ∧ w'.cell? ⟨gb389, 1, none⟩ = some (.int .i64 ((rd_T91 l0 x24_2).f1)) ∧ w'.cell? ⟨gb390, 0, none⟩ = some (.int .i64 ((rd_T91 l0 (ji12)).f0)) ∧ w'.cell? ⟨gb390, 1, none⟩ = some (.int .i64 ((rd_T91 l0 (ji12)).f1)) ∧ w'.cell? (ad386.add ((x8_4).toNat * 2)) = some (.int .i64 ((rd_T91 l0 x8_4).f0)) ∧ w'.cell? ⟨(ad386.add ((x8_4).toNat * 2)).block, (ad386.add ((x8_4).toNat * 2)).off + 1, none⟩ = some (.int .i64 ((rd_T91 l0 x8_4).f1)) ∧ w'.cell? (ad386.add (((ji64)).toNat * 2)) = some (.int .i64 ((rd_T91 l0 (ji64)).f0)) ∧ w'.cell? ⟨(ad386.add (((ji64)).toNat * 2)).block, (ad386.add (((ji64)).toNat * 2)).off + 1, none⟩ = some (.int .i64 ((rd_T91 l0 (ji64)).f1))) (ds := []) (Array.replicate 22 false) (by kernel_rfl) rfl rfl ⟨zQ BK389 0, zQ BK389 1, zQ BK390 0, zQ BK390 1, (zH HB hw394_0), (zH HB hw394_1), (zH HB hw395_0), (zH HB hw395_1)⟩ (fun hHeld => ?_); refine with_tabW impl_ValidPolygon.tab13 impl_ValidPolygon.bits13 (fun HT_ HW_ => ?_)
               generalize wr.drew = w69 at BK389 BK390 BK391 HB hx394_0 hx394_1 hx395_0 hx395_1 hHeld ⊢
               refine zP 0 (some 67) (zb 22 1) HT_ ?_; refine zP 1 (some 68) (zb 22 3) HT_ ?_; refine zP 2 (some 69) (zb 22 7) HT_ ?_; refine zP 3 (some 70) (zb 22 15) HT_ ?_; refine zP 4 (some 71) (zb 22 31) HT_ ?_; refine zP 5 (some 72) (zb 22 63) HT_ ?_; refine zP 6 (some 73) (zb 22 127) HT_ ?_; refine zP 9 (some 76) (zb 22 639) HT_ ?_; refine zP 10 (some 77) (zb 22 1663) HT_ ?_; refine zP 11 (some 78) (zb 22 3711) HT_ ?_; refine zP 13 (some 80) (zb 22 11903) HT_ ?_; refine zP 14 (some 81) (zb 22 28287) HT_ ?_; refine zP 15 (some 82) (zb 22 61055) HT_ ?_; refine zP 16 (some 83) (zb 22 126591) HT_ ?_; refine zP 17 (some 84) (zb 22 257663) HT_ ?_; refine zP 18 (some 85) (zb 22 519807) HT_ ?_; refine zT8 7 (some 74) (zb 22 519935) HT_ HW_ hHeld ?_; refine zT8 8 (some 75) (zb 22 520191) HT_ HW_ hHeld ?_; refine zT8 12 (some 79) (zb 22 524287) HT_ HW_ hHeld ?_; refine zT8 19 (some 86) (zb 22 1048575) HT_ HW_ hHeld ?_
               refine one_ (i := 20) (N := some 87) (zb 22 2097151) rfl rfl (one_of HT_.out (by kernel_rfl)) (by decide) (fun K hK => ?_)
               refine goes_ Try.func97 (by kernel_rfl) rfl #[.agg #[.int .i64 ((rd_T91 l0 x24_2).f0), .int .i64 ((rd_T91 l0 x24_2).f1)], .agg #[.int .i64 ((rd_T91 l0 (ji12)).f0), .int .i64 ((rd_T91 l0 (ji12)).f1)], .agg #[.int .i64 ((rd_T91 l0 x8_4).f0), .int .i64 ((rd_T91 l0 x8_4).f1)], .agg #[.int .i64 ((rd_T91 l0 (ji64)).f0), .int .i64 ((rd_T91 l0 (ji64)).f1)]] (by rfl) rfl rfl (by (try simp only [List.map_toArray, List.map_cons, List.map_nil]); first | done | (simp only [hji12, hji64]; rfl) | rfl | (simp only [List.length_drop, List.length_take]; rfl)) ?_
               with_reducible refine (impl_touching.calls ((rd_T91 l0 x24_2).f0) ((rd_T91 l0 x24_2).f1) ((rd_T91 l0 (ji12)).f0) ((rd_T91 l0 (ji12)).f1) ((rd_T91 l0 x8_4).f0) ((rd_T91 l0 x8_4).f1) ((rd_T91 l0 (ji64)).f0) ((rd_T91 l0 (ji64)).f1) true _ A67.out).mono ?_; rintro e w70 ⟨rfl, hb⟩; refine ⟨_, rfl, ?_⟩; replace BK389 := zK BK389 hb; replace BK390 := zK BK390 hb; replace BK391 := zK BK391 hb; replace HB := zW (pB3 HB.out GE389.out GE390.out GE391.out) hb; (try clear hb); (try clear hb2); (try clear hk); (try clear hi)
               refine hK.out _ _ ⟨zQ BK389 0, zQ BK389 1, zQ BK390 0, zQ BK390 1, (zH HB hw394_0), (zH HB hw394_1), (zH HB hw395_0), (zH HB hw395_1)⟩ (fun hHeld => ?_)
               clear hK K; refine zN ?_; refine zP 21 (some 88) (zb 22 4194303) HT_ ?_
               refine done_ (done_of HT_.out (by kernel_rfl)) ?_
               try go_wp2
               go_ret
               exact ⟨by first | rfl | (simp [errW_none, errW_some] <;> rfl) | (simp only [← hji12, ← hji15, ← hji64]; first | rfl | (simp [errW_none, errW_some] <;> rfl)) | (simp [*, errW_none, errW_some] <;> rfl), pB3 HB.out GE389.out GE390.out GE391.out⟩
             replace c68 := Bool.eq_false_iff.mpr c68; subst c68
             rw [if_neg (show ¬ (false = true) by decide)] at H
             have H' := Aside0.mk H; clear H
             try go_wp2
             replace BK389 := Aside0.mk (blk_drew BK389.out); replace BK390 := Aside0.mk (blk_drew BK390.out); replace BK391 := Aside0.mk (blk_drew BK391.out); replace HB := Aside0.mk (below_drew1 HB.out); have p394 : 0 ≤ (x8_4 : Int) := zD; have q394 : x8_4 < (l0.length : Int) := zD; obtain ⟨ad394, e394, hx394_0, hx394_1⟩ := at_T91 HR0.out x8_4 p394 q394; have hw394_1 := hx394_1; have hw394_0 := hx394_0
             obtain rfl : ad386 = ad394 := (by injection e394)
             try replace hx394_0 := zH HB hx394_0
             try replace hx394_1 := zH HB hx394_1
             replace p394 := eq_true p394; replace q394 := eq_true q394; have p395 : 0 ≤ ((ji64) : Int) := zD; have q395 : (ji64) < (l0.length : Int) := zD; obtain ⟨ad395, e395, hx395_0, hx395_1⟩ := at_T91 HR0.out (ji64) p395 q395; have hw395_1 := hx395_1; have hw395_0 := hx395_0
             obtain rfl : ad386 = ad395 := (by injection e395)
             try replace hx395_0 := zH HB hx395_0
             try replace hx395_1 := zH HB hx395_1
             replace p395 := eq_true p395; replace q395 := eq_true q395
             refine start_ (n := 22) (S := fun w' => w'.cell? ⟨gb389, 0, none⟩ = some (.int .i64 ((rd_T91 l0 x24_2).f0)) ∧ w'.cell? ⟨gb389, 1, none⟩ = some (.int .i64 ((rd_T91 l0 x24_2).f1)) ∧ w'.cell? ⟨gb390, 0, none⟩ = some (.int .i64 ((rd_T91 l0 (ji12)).f0)) ∧ w'.cell? ⟨gb390, 1, none⟩ = some (.int .i64 ((rd_T91 l0 (ji12)).f1)) ∧ w'.cell? (ad386.add ((x8_4).toNat * 2)) = some (.int .i64 ((rd_T91 l0 x8_4).f0)) ∧ w'.cell? ⟨(ad386.add ((x8_4).toNat * 2)).block, (ad386.add ((x8_4).toNat * 2)).off + 1, none⟩ = some (.int .i64 ((rd_T91 l0 x8_4).f1)) ∧ w'.cell? (ad386.add (((ji64)).toNat * 2)) = some (.int .i64 ((rd_T91 l0 (ji64)).f0)) ∧ w'.cell? ⟨(ad386.add (((ji64)).toNat * 2)).block, (ad386.add (((ji64)).toNat * 2)).off + 1, none⟩ = some (.int .i64 ((rd_T91 l0 (ji64)).f1))) (ds := []) (Array.replicate 22 false) (by kernel_rfl) rfl rfl ⟨zQ BK389 0, zQ BK389 1, zQ BK390 0, zQ BK390 1, (zH HB hw394_0), (zH HB hw394_1), (zH HB hw395_0), (zH HB hw395_1)⟩ (fun hHeld => ?_); refine with_tabW impl_ValidPolygon.tab13 impl_ValidPolygon.bits13 (fun HT_ HW_ => ?_)
             generalize wr.drew = w71 at BK389 BK390 BK391 HB hx394_0 hx394_1 hx395_0 hx395_1 hHeld ⊢
             refine zP 0 (some 67) (zb 22 1) HT_ ?_; refine zP 1 (some 68) (zb 22 3) HT_ ?_; refine zP 2 (some 69) (zb 22 7) HT_ ?_; refine zP 3 (some 70) (zb 22 15) HT_ ?_; refine zP 4 (some 71) (zb 22 31) HT_ ?_; refine zP 5 (some 72) (zb 22 63) HT_ ?_; refine zP 6 (some 73) (zb 22 127) HT_ ?_; refine zP 9 (some 76) (zb 22 639) HT_ ?_; refine zP 10 (some 77) (zb 22 1663) HT_ ?_; refine zP 11 (some 78) (zb 22 3711) HT_ ?_; refine zP 13 (some 80) (zb 22 11903) HT_ ?_; refine zP 14 (some 81) (zb 22 28287) HT_ ?_; refine zP 15 (some 82) (zb 22 61055) HT_ ?_; refine zP 16 (some 83) (zb 22 126591) HT_ ?_; refine zP 17 (some 84) (zb 22 257663) HT_ ?_; refine zP 18 (some 85) (zb 22 519807) HT_ ?_; refine zT8 7 (some 74) (zb 22 519935) HT_ HW_ hHeld ?_; refine zT8 8 (some 75) (zb 22 520191) HT_ HW_ hHeld ?_; refine zT8 12 (some 79) (zb 22 524287) HT_ HW_ hHeld ?_; refine zT8 19 (some 86) (zb 22 1048575) HT_ HW_ hHeld ?_
             refine one_ (i := 20) (N := some 87) (zb 22 2097151) rfl rfl (one_of HT_.out (by kernel_rfl)) (by decide) (fun K hK => ?_)
             refine goes_ Try.func97 (by kernel_rfl) rfl #[.agg #[.int .i64 ((rd_T91 l0 x24_2).f0), .int .i64 ((rd_T91 l0 x24_2).f1)], .agg #[.int .i64 ((rd_T91 l0 (ji12)).f0), .int .i64 ((rd_T91 l0 (ji12)).f1)], .agg #[.int .i64 ((rd_T91 l0 x8_4).f0), .int .i64 ((rd_T91 l0 x8_4).f1)], .agg #[.int .i64 ((rd_T91 l0 (ji64)).f0), .int .i64 ((rd_T91 l0 (ji64)).f1)]] (by rfl) rfl rfl (by (try simp only [List.map_toArray, List.map_cons, List.map_nil]); first | done | (simp only [hji12, hji64]; rfl) | rfl | (simp only [List.length_drop, List.length_take]; rfl)) ?_
             with_reducible refine (impl_touching.calls ((rd_T91 l0 x24_2).f0) ((rd_T91 l0 x24_2).f1) ((rd_T91 l0 (ji12)).f0) ((rd_T91 l0 (ji12)).f1) ((rd_T91 l0 x8_4).f0) ((rd_T91 l0 x8_4).f1) ((rd_T91 l0 (ji64)).f0) ((rd_T91 l0 (ji64)).f1) false _ A67.out).mono ?_; rintro e w72 ⟨rfl, hb⟩; refine ⟨_, rfl, ?_⟩; replace BK389 := zK BK389 hb; replace BK390 := zK BK390 hb; replace BK391 := zK BK391 hb; replace HB := zW (pB3 HB.out GE389.out GE390.out GE391.out) hb; (try clear hb); (try clear hb2); (try clear hk); (try clear hi)
             refine hK.out _ _ ⟨zQ BK389 0, zQ BK389 1, zQ BK390 0, zQ BK390 1, (zH HB hw394_0), (zH HB hw394_1), (zH HB hw395_0), (zH HB hw395_1)⟩ (fun hHeld => ?_)
             clear hK K; refine zN ?_; refine zP 21 (some 88) (zb 22 4194303) HT_ ?_
             refine done_ (done_of HT_.out (by kernel_rfl)) ?_
             try go_wp2
             go_roundg k4
             case measure => have := HJ1.out; have := HK2.out; have := HJ17.out; have := HK4.out; omega
             case rel => exact ⟨(wrap64 (x8_4 + 1)), zR, H', ⟨by have := HJ1.out; have := HK2.out; have := HJ17.out; have := HK4.out; omega⟩, ⟨pK BK389.out⟩, ⟨pK BK390.out⟩, ⟨pK BK391.out⟩, ⟨pB3 HB.out GE389.out GE390.out GE391.out⟩⟩
end Go.Proofs.Ytfiiakhpdkdebaa.PFnExactOffcutsOf

/- What each function that a law reaches comes to, and the proof that its walk comes to it; laid by a program of this session. No condition. -/
import Derived.Test.YtfiiakhpdkdebaaZFnExactOffcutsOf0
import Derived.Test.YtfiiakhpdkdebaaZFnExactOffcutsOf1
import Derived.Test.YtfiiakhpdkdebaaZFnExactOffcutsOf4
import Derived.Test.YtfiiakhpdkdebaaZFnExactOffcutsOf5
import Derived.Test.YtfiiakhpdkdebaaZFnExactOffcutsOf6
namespace Go.Proofs.Ytfiiakhpdkdebaa.PFnExactOffcutsOf
open Go.RowKit Go.Proofs.YtfiiakhpdkdebaaW.PrintWords Go.Proofs.YtfiiakhpdkdebaaW.PrintLast Go.Proofs.YtfiiakhpdkdebaaW.PrintMore
attribute [local go_sem] max2_int min2_int max_two min_two max_three min_three max_four min_four
set_option linter.unusedVariables false
set_option linter.unusedSimpArgs false
attribute [local go_sem high] eqA91
mutual
def spec_l03Ok.j0 : Nat → List (S91) → Int → Bool → Option (Bool)
 | 0, _, _, _ => none
 | k + 1, x0, x3, x17 => if x17 = true then (some false) else (spec_l03Ok.l0 k x0 x3 0)
def spec_l03Ok.l0 : Nat → List (S91) → Int → Int → Option (Bool)
 | 0, _, _, _ => none
 | k + 1, x0, x3, x4 => if x4 < x3 then (if 0 ≤ x4 then (if x4 < (x0.length : Int) then ((spec_l02Ok.f ((rd_T91 x0 x4).f0) ((rd_T91 x0 x4).f1)).bind fun t206 => (if t206 = true then (spec_l03Ok.l0 k x0 x3 (wrap64 (x4 + 1))) else (some false))) else (none)) else (none)) else (spec_l03Ok.l1 k x0 x3 0)
def spec_l03Ok.l1 : Nat → List (S91) → Int → Int → Option (Bool)
 | 0, _, _, _ => none
 | k + 1, x0, x3, x5 => if x5 < x3 then (if 0 ≤ x5 then (if x5 < (x0.length : Int) then (if x3 = 0 then (none) else (if 0 ≤ (Int.tmod (wrap64 (x5 + 1)) x3) then (if (Int.tmod (wrap64 (x5 + 1)) x3) < (x0.length : Int) then (if 0 ≤ (Int.tmod (wrap64 (x5 + 2)) x3) then (if (Int.tmod (wrap64 (x5 + 2)) x3) < (x0.length : Int) then (if (((rd_T91 x0 x5).f0) == ((rd_T91 x0 (Int.tmod (wrap64 (x5 + 1)) x3)).f0) && (((rd_T91 x0 x5).f1) == ((rd_T91 x0 (Int.tmod (wrap64 (x5 + 1)) x3)).f1))) = true then (spec_l03Ok.j3 k x0 x3 x5 true ((rd_T91 x0 x5).f0) ((rd_T91 x0 x5).f1) ((rd_T91 x0 (Int.tmod (wrap64 (x5 + 1)) x3)).f0) ((rd_T91 x0 (Int.tmod (wrap64 (x5 + 1)) x3)).f1)) else ((spec_l02On.f ((rd_T91 x0 x5).f0) ((rd_T91 x0 x5).f1) ((rd_T91 x0 (Int.tmod (wrap64 (x5 + 1)) x3)).f0) ((rd_T91 x0 (Int.tmod (wrap64 (x5 + 1)) x3)).f1) ((rd_T91 x0 (Int.tmod (wrap64 (x5 + 2)) x3)).f0) ((rd_T91 x0 (Int.tmod (wrap64 (x5 + 2)) x3)).f1)).bind fun t214 => (if t214 = true then (spec_l03Ok.j3 k x0 x3 x5 true ((rd_T91 x0 x5).f0) ((rd_T91 x0 x5).f1) ((rd_T91 x0 (Int.tmod (wrap64 (x5 + 1)) x3)).f0) ((rd_T91 x0 (Int.tmod (wrap64 (x5 + 1)) x3)).f1)) else ((spec_l02On.f ((rd_T91 x0 (Int.tmod (wrap64 (x5 + 1)) x3)).f0) ((rd_T91 x0 (Int.tmod (wrap64 (x5 + 1)) x3)).f1) ((rd_T91 x0 (Int.tmod (wrap64 (x5 + 2)) x3)).f0) ((rd_T91 x0 (Int.tmod (wrap64 (x5 + 2)) x3)).f1) ((rd_T91 x0 x5).f0) ((rd_T91 x0 x5).f1)).bind fun t215 => (spec_l03Ok.j3 k x0 x3 x5 t215 ((rd_T91 x0 x5).f0) ((rd_T91 x0 x5).f1) ((rd_T91 x0 (Int.tmod (wrap64 (x5 + 1)) x3)).f0) ((rd_T91 x0 (Int.tmod (wrap64 (x5 + 1)) x3)).f1)))))) else (none)) else (none)) else (none)) else (none))) else (none)) else (none)) else ((spec_l03Area.f k x0).bind fun t207 => (some (decide (t207 > 0))))
def spec_l03Ok.j3 : Nat → List (S91) → Int → Int → Bool → Int → Int → Int → Int → Option (Bool)
 | 0, _, _, _, _, _, _, _, _ => none
 | k + 1, x0, x3, x5, x66, x210000, x210001, x212000, x212001 => if x66 = true then (some false) else (spec_l03Ok.l2 k x0 x3 x5 (wrap64 (x5 + 2)) x210000 x210001 x212000 x212001)
def spec_l03Ok.l2 : Nat → List (S91) → Int → Int → Int → Int → Int → Int → Int → Option (Bool)
 | 0, _, _, _, _, _, _, _, _ => none
 | k + 1, x0, x3, x5, x9, x210000, x210001, x212000, x212001 => if x9 < x3 then (if x3 = 0 then (none) else (if (Int.tmod (wrap64 (x9 + 1)) x3) = x5 then (spec_l03Ok.l2 k x0 x3 x5 (wrap64 (x9 + 1)) x210000 x210001 x212000 x212001) else (if 0 ≤ x9 then (if x9 < (x0.length : Int) then (if 0 ≤ (Int.tmod (wrap64 (x9 + 1)) x3) then (if (Int.tmod (wrap64 (x9 + 1)) x3) < (x0.length : Int) then ((spec_l03Meet.f x210000 x210001 x212000 x212001 ((rd_T91 x0 x9).f0) ((rd_T91 x0 x9).f1) ((rd_T91 x0 (Int.tmod (wrap64 (x9 + 1)) x3)).f0) ((rd_T91 x0 (Int.tmod (wrap64 (x9 + 1)) x3)).f1)).bind fun t218 => (if t218 = true then (some false) else (spec_l03Ok.l2 k x0 x3 x5 (wrap64 (x9 + 1)) x210000 x210001 x212000 x212001))) else (none)) else (none)) else (none)) else (none)))) else (spec_l03Ok.l1 k x0 x3 (wrap64 (x5 + 1)))
end
def spec_l03Ok.f (k : Nat) (l0 : List (S91)) : Option (Bool) := if (l0.length : Int) < 3 then (spec_l03Ok.j0 k l0 (l0.length : Int) true) else (spec_l03Ok.j0 k l0 (l0.length : Int) (decide ((l0.length : Int) > 24)))
theorem spec_l03Ok.mono_l : ∀ k, (∀ y0 y1 y2, LeO (spec_l03Ok.j0 k y0 y1 y2) (spec_l03Ok.j0 (k + 1) y0 y1 y2)) ∧ (∀ y0 y1 y2, LeO (spec_l03Ok.l0 k y0 y1 y2) (spec_l03Ok.l0 (k + 1) y0 y1 y2)) ∧ (∀ y0 y1 y2, LeO (spec_l03Ok.l1 k y0 y1 y2) (spec_l03Ok.l1 (k + 1) y0 y1 y2)) ∧ (∀ y0 y1 y2 y3 y4 y5 y6 y7, LeO (spec_l03Ok.j3 k y0 y1 y2 y3 y4 y5 y6 y7) (spec_l03Ok.j3 (k + 1) y0 y1 y2 y3 y4 y5 y6 y7)) ∧ (∀ y0 y1 y2 y3 y4 y5 y6 y7, LeO (spec_l03Ok.l2 k y0 y1 y2 y3 y4 y5 y6 y7) (spec_l03Ok.l2 (k + 1) y0 y1 y2 y3 y4 y5 y6 y7))
 | 0 => ⟨fun _ _ _ r h => by simp [spec_l03Ok.j0] at h, fun _ _ _ r h => by simp [spec_l03Ok.l0] at h, fun _ _ _ r h => by simp [spec_l03Ok.l1] at h, fun _ _ _ _ _ _ _ _ r h => by simp [spec_l03Ok.j3] at h, fun _ _ _ _ _ _ _ _ r h => by simp [spec_l03Ok.l2] at h⟩
 | k + 1 => by
   obtain ⟨ih0, ih1, ih2, ih3, ih4⟩ := spec_l03Ok.mono_l k; refine ⟨?_, ?_, ?_, ?_, ?_⟩
   · intro y0 y1 y2
     unfold spec_l03Ok.j0
     repeat' first
     | (with_reducible exact ih0 _ _ _)
     | (with_reducible exact ih1 _ _ _)
     | (with_reducible exact ih2 _ _ _)
     | (with_reducible exact ih3 _ _ _ _ _ _ _ _)
     | (with_reducible exact ih4 _ _ _ _ _ _ _ _)
     | (with_reducible exact spec_l03Area.mono _ _)
     | (with_reducible exact LeO.refl _)
     | (with_reducible exact LeO.none _)
     | (with_reducible refine LeO.ite ?_ ?_)
     | (with_reducible refine LeO.bind ?_ (fun _ => ?_))
     | exact ih0 _ _ _
     | exact ih1 _ _ _
     | exact ih2 _ _ _
     | exact ih3 _ _ _ _ _ _ _ _
     | exact ih4 _ _ _ _ _ _ _ _
     | exact spec_l03Area.mono _ _
     | exact LeO.none _
     | refine LeO.ite ?_ ?_
     | refine LeO.bind ?_ (fun _ => ?_)
   · intro y0 y1 y2
     unfold spec_l03Ok.l0
     repeat' first
     | (with_reducible exact ih0 _ _ _)
     | (with_reducible exact ih1 _ _ _)
     | (with_reducible exact ih2 _ _ _)
     | (with_reducible exact ih3 _ _ _ _ _ _ _ _)
     | (with_reducible exact ih4 _ _ _ _ _ _ _ _)
     | (with_reducible exact spec_l03Area.mono _ _)
     | (with_reducible exact LeO.refl _)
     | (with_reducible exact LeO.none _)
     | (with_reducible refine LeO.ite ?_ ?_)
     | (with_reducible refine LeO.bind ?_ (fun _ => ?_))
     | exact ih0 _ _ _
     | exact ih1 _ _ _
     | exact ih2 _ _ _
     | exact ih3 _ _ _ _ _ _ _ _
     | exact ih4 _ _ _ _ _ _ _ _
     | exact spec_l03Area.mono _ _
     | exact LeO.none _
     | refine LeO.ite ?_ ?_
     | refine LeO.bind ?_ (fun _ => ?_)
   · intro y0 y1 y2
     unfold spec_l03Ok.l1
     repeat' first
     | (with_reducible exact ih0 _ _ _)
     | (with_reducible exact ih1 _ _ _)
     | (with_reducible exact ih2 _ _ _)
     | (with_reducible exact ih3 _ _ _ _ _ _ _ _)
     | (with_reducible exact ih4 _ _ _ _ _ _ _ _)
     | (with_reducible exact spec_l03Area.mono _ _)
     | (with_reducible exact LeO.refl _)
     | (with_reducible exact LeO.none _)
     | (with_reducible refine LeO.ite ?_ ?_)
     | (with_reducible refine LeO.bind ?_ (fun _ => ?_))
     | exact ih0 _ _ _
     | exact ih1 _ _ _
     | exact ih2 _ _ _
     | exact ih3 _ _ _ _ _ _ _ _
     | exact ih4 _ _ _ _ _ _ _ _
     | exact spec_l03Area.mono _ _
     | exact LeO.none _
     | refine LeO.ite ?_ ?_
     | refine LeO.bind ?_ (fun _ => ?_)
   · intro y0 y1 y2 y3 y4 y5 y6 y7
     unfold spec_l03Ok.j3
     repeat' first
     | (with_reducible exact ih0 _ _ _)
     | (with_reducible exact ih1 _ _ _)
     | (with_reducible exact ih2 _ _ _)
     | (with_reducible exact ih3 _ _ _ _ _ _ _ _)
     | (with_reducible exact ih4 _ _ _ _ _ _ _ _)
     | (with_reducible exact spec_l03Area.mono _ _)
     | (with_reducible exact LeO.refl _)
     | (with_reducible exact LeO.none _)
     | (with_reducible refine LeO.ite ?_ ?_)
     | (with_reducible refine LeO.bind ?_ (fun _ => ?_))
     | exact ih0 _ _ _
     | exact ih1 _ _ _
     | exact ih2 _ _ _
     | exact ih3 _ _ _ _ _ _ _ _
     | exact ih4 _ _ _ _ _ _ _ _
     | exact spec_l03Area.mono _ _
     | exact LeO.none _
     | refine LeO.ite ?_ ?_
     | refine LeO.bind ?_ (fun _ => ?_)
   · intro y0 y1 y2 y3 y4 y5 y6 y7
     unfold spec_l03Ok.l2
     repeat' first
     | (with_reducible exact ih0 _ _ _)
     | (with_reducible exact ih1 _ _ _)
     | (with_reducible exact ih2 _ _ _)
     | (with_reducible exact ih3 _ _ _ _ _ _ _ _)
     | (with_reducible exact ih4 _ _ _ _ _ _ _ _)
     | (with_reducible exact spec_l03Area.mono _ _)
     | (with_reducible exact LeO.refl _)
     | (with_reducible exact LeO.none _)
     | (with_reducible refine LeO.ite ?_ ?_)
     | (with_reducible refine LeO.bind ?_ (fun _ => ?_))
     | exact ih0 _ _ _
     | exact ih1 _ _ _
     | exact ih2 _ _ _
     | exact ih3 _ _ _ _ _ _ _ _
     | exact ih4 _ _ _ _ _ _ _ _
     | exact spec_l03Area.mono _ _
     | exact LeO.none _
     | refine LeO.ite ?_ ?_
     | refine LeO.bind ?_ (fun _ => ?_)
theorem spec_l03Ok.mono : ∀ a0 k, LeO (spec_l03Ok.f k a0) (spec_l03Ok.f (k + 1) a0) := by
 intro a0 k; obtain ⟨ih0, ih1, ih2, ih3, ih4⟩ := spec_l03Ok.mono_l k; unfold spec_l03Ok.f
 repeat' first
  | (with_reducible exact ih0 _ _ _)
  | (with_reducible exact ih1 _ _ _)
  | (with_reducible exact ih2 _ _ _)
  | (with_reducible exact ih3 _ _ _ _ _ _ _ _)
  | (with_reducible exact ih4 _ _ _ _ _ _ _ _)
  | (with_reducible exact spec_l03Area.mono _ _)
  | (with_reducible exact LeO.refl _)
  | (with_reducible exact LeO.none _)
  | (with_reducible refine LeO.ite ?_ ?_)
  | (with_reducible refine LeO.bind ?_ (fun _ => ?_))
  | exact ih0 _ _ _
  | exact ih1 _ _ _
  | exact ih2 _ _ _
  | exact ih3 _ _ _ _ _ _ _ _
  | exact ih4 _ _ _ _ _ _ _ _
  | exact spec_l03Area.mono _ _
  | exact LeO.none _
  | refine LeO.ite ?_ ?_
  | refine LeO.bind ?_ (fun _ => ?_)
def spec_l03Ok.T20 : Bool × List (List Nat × List Nat) := (true, [([], []), ([0], [0]), ([], []), ([1, 2], [1, 2]), ([], []), ([3, 4], [3, 4]), ([5], [5]), ([6], [6]), ([6], [6]), ([6], [6]), ([6], [6]), ([9, 10, 6], [6, 9, 10]), ([11, 6], [6, 11]), ([6], [6]), ([6], [6]), ([14, 6], [6, 14]), ([6], [6]), ([15, 16, 6], [6, 15, 16]), ([13, 17, 6], [6, 13, 17]), ([18, 6], [6, 18]), ([7, 8, 12, 19, 6, 6], [6, 7, 8, 12, 19]), ([6, 20], [6, 20])])
def spec_l03Ok.B20 : List Nat := [0, 1, 0, 7, 0, 31, 63, 127, 127, 127, 127, 1663, 3711, 127, 127, 16511, 127, 114815, 254079, 516223, 1048575, 2097151]
theorem spec_l03Ok.tab20 : rtab .any (opsOf Try.f49 20) = spec_l03Ok.T20 := by kernel_rfl
theorem spec_l03Ok.bits20 : waitsOk spec_l03Ok.T20.2 spec_l03Ok.B20 = true := by kernel_rfl
set_option maxHeartbeats 8000000 in
set_option maxRecDepth 100000 in
theorem spec_l03Ok.calls (k : Nat) (A0 : Option Addr) (c0 : Nat) (l0 : List (S91)) (r : Bool) (w : World) (hr0 : Kd.C k91 w A0 l0.length l0) (hc0 : l0.length ≤ c0) (h : spec_l03Ok.f k l0 = some r) :
 Calls Try.prog 49 #[.slice A0 l0.length c0] w fun e w' => e = .returned (.bool r) ∧ Below w.heap.size w w' := by
 have hu91 := Try.underlying91; have HR0 := Aside0.mk hr0; have HC0 := Aside0.mk hc0; clear hr0 hc0; have HB := Aside0.mk (Below.refl w.heap.size w); have H : (if (l0.length : Int) < 3 then (spec_l03Ok.j0 k l0 (l0.length : Int) true) else (spec_l03Ok.j0 k l0 (l0.length : Int) (decide ((l0.length : Int) > 24)))) = some r := h; clear h; have HC2 := Aside0.mk H; clear H
 go_enter Try.func49, Try.ntmps49
 go_upto_region 2 with (fail)
 go_cut [17] (fun v17 wc => ∃ (kq : Nat) (x17_1 : Bool), v17 = .bool x17_1 ∧ Aside0 (spec_l03Ok.j0 kq l0 (l0.length : Int) x17_1 = some r) ∧ Aside0 (kq ≤ k) ∧ Aside0 (Below w.heap.size w wc))
 case first =>
  have H := HC2.out; clear HC2
  by_cases c3 : (l0.length : Int) < 3
  · rw [if_pos c3] at H
    have c3b0 := decide_eq_true c3
    have c3b1 : decide (l0.length < 3) = true := decide_eq_true (by omega)
    clear c3; (first | rw [c3b0] | (simp only [i64_w, i32_w]; rw [c3b0]) | skip); have H' := Aside0.mk H; clear H
    go_wp2
    go_meet
    case rel => exact ⟨_, (true), zR, H', ⟨by first | omega | exact Nat.le_refl _⟩, ⟨pB0 HB.out⟩⟩
  rw [if_neg c3] at H; have c3b0 := decide_eq_false c3
  have c3b1 : decide (l0.length < 3) = false := decide_eq_false (by omega)
  clear c3; (first | rw [c3b0] | (simp only [i64_w, i32_w]; rw [c3b0]) | skip); have H' := Aside0.mk H; clear H
  go_wp2
  go_meet
  case rel => exact ⟨_, (decide ((l0.length : Int) > 24)), zR, H', ⟨by first | omega | exact Nat.le_refl _⟩, ⟨pB0 HB.out⟩⟩
 case rest =>
  clear HC2; (try clear p2); (try clear c3); (try clear c3b0); (try clear c3b1); obtain ⟨kq, x17_1, rfl, HA, HJ1, HB⟩ := hcut
  cases kq with
  | zero => exact absurd HA.out (by simp [spec_l03Ok.j0])
  | succ kj1 =>
    have H := HA.out; clear HA; simp only [spec_l03Ok.j0] at H
    by_cases c4 : x17_1 = true
    · subst c4
      rw [if_pos rfl] at H; obtain rfl := Option.some.inj H
      go_wp2
      go_ret
      exact ⟨zE, pB0 HB.out⟩
    replace c4 := Bool.eq_false_iff.mpr c4; subst c4
    rw [if_neg (show ¬ (false = true) by decide)] at H
    have H' := Aside0.mk H; clear H
    go_wp2
    go_loopg [4] kj1 (fun kq v4 w' => ∃ (x4_2 : Int), v4 = .int .i64 x4_2 ∧ Aside0 (spec_l03Ok.l0 kq l0 (l0.length : Int) x4_2 = some r) ∧ Aside0 (kq ≤ kj1) ∧ Aside0 (Below w.heap.size w w'))
    case atStart => exact ⟨(0), zR, H', ⟨Nat.le_refl _⟩, ⟨pB0 HB.out⟩⟩
    case round =>
     clear H'; (try clear p2); (try clear c3); (try clear c3b0); (try clear c3b1); (try clear c4); (try clear p2); obtain ⟨x4_2, rfl, HA, HK2, HB⟩ := hrel
     cases gk with
     | zero => exact absurd HA.out (by simp [spec_l03Ok.l0])
     | succ k2 =>
       have H := HA.out; clear HA; simp only [spec_l03Ok.l0] at H
       by_cases c5 : x4_2 < (l0.length : Int)
       · rw [if_pos c5] at H
         have c5b0 := decide_eq_true c5; clear c5
         by_cases c6 : 0 ≤ x4_2
         rotate_left
         · rw [if_neg c6] at H
           exact absurd H (by simp)
         rw [if_pos c6] at H; have c6b0 := decide_eq_true c6; clear c6
         by_cases c7 : x4_2 < (l0.length : Int)
         rotate_left
         · rw [if_neg c7] at H
           exact absurd H (by simp)
         rw [if_pos c7] at H; have c7b0 := decide_eq_true c7; clear c7; replace H := Option.bind_eq_some_iff.mp H; obtain ⟨t206, A80, H⟩ := H; have A8 := Aside0.mk A80; clear A80
         by_cases c9 : t206 = true
         rotate_left
         · replace c9 := Bool.eq_false_iff.mpr c9
           subst c9
           rw [if_neg (show ¬ (false = true) by decide)] at H
           obtain rfl := Option.some.inj H; have p205 : 0 ≤ (x4_2 : Int) := zD; have q205 : x4_2 < (l0.length : Int) := zD; obtain ⟨ad205, e205, hx205_0, hx205_1⟩ := at_T91 HR0.out x4_2 p205 q205; cases e205
           try replace hx205_0 := zH HB hx205_0
           try replace hx205_1 := zH HB hx205_1
           replace p205 := eq_true p205; replace q205 := eq_true q205
           go_wp2_with (first | ((with_reducible refine gate_callee (f := 87) rfl ?_); refine zJ (some 27) Try.func87 #[.agg #[.int .i64 ((rd_T91 l0 x4_2).f0), .int .i64 ((rd_T91 l0 x4_2).f1)]] ?_; (with_reducible refine (spec_l02Ok.calls ((rd_T91 l0 x4_2).f0) ((rd_T91 l0 x4_2).f1) false _ A8.out).mono ?_); rintro e w11 ⟨rfl, hb⟩; refine ⟨_, rfl, ?_⟩; replace HB := zW (pB0 HB.out) hb; (try clear hb); (try clear hb2); (try clear hk); (try clear hi)))
           go_ret
           exact ⟨zE, pB0 HB.out⟩
         subst c9; rw [if_pos rfl] at H; have H' := Aside0.mk H; clear H; have p205 : 0 ≤ (x4_2 : Int) := zD; have q205 : x4_2 < (l0.length : Int) := zD; obtain ⟨ad205, e205, hx205_0, hx205_1⟩ := at_T91 HR0.out x4_2 p205 q205; cases e205
         try replace hx205_0 := zH HB hx205_0
         try replace hx205_1 := zH HB hx205_1
         replace p205 := eq_true p205; replace q205 := eq_true q205
         go_wp2_with (first | ((with_reducible refine gate_callee (f := 87) rfl ?_); refine zJ (some 27) Try.func87 #[.agg #[.int .i64 ((rd_T91 l0 x4_2).f0), .int .i64 ((rd_T91 l0 x4_2).f1)]] ?_; (with_reducible refine (spec_l02Ok.calls ((rd_T91 l0 x4_2).f0) ((rd_T91 l0 x4_2).f1) true _ A8.out).mono ?_); rintro e w10 ⟨rfl, hb⟩; refine ⟨_, rfl, ?_⟩; replace HB := zW (pB0 HB.out) hb; (try clear hb); (try clear hb2); (try clear hk); (try clear hi)))
         go_roundg k2
         case measure => have := HJ1.out; have := HK2.out; omega
         case rel => exact ⟨(wrap64 (x4_2 + 1)), zR, H', ⟨by have := HJ1.out; have := HK2.out; omega⟩, ⟨pB0 HB.out⟩⟩
       rw [if_neg c5] at H; have c5b0 := decide_eq_false c5; clear c5; have H' := Aside0.mk H; clear H
       go_wp2
       go_loopg [5] k2 (fun kq v5 w' => ∃ (x5_3 : Int), v5 = .int .i64 x5_3 ∧ Aside0 (spec_l03Ok.l1 kq l0 (l0.length : Int) x5_3 = some r) ∧ Aside0 (kq ≤ k2) ∧ Aside0 (Below w.heap.size w w'))
       case atStart => exact ⟨(0), zR, H', ⟨Nat.le_refl _⟩, ⟨pB0 HB.out⟩⟩
       case round =>
        clear H'; (try clear p2); (try clear q2); (try clear hx2); (try clear c3); (try clear c3b0); (try clear c3b1); (try clear c4); (try clear c5); (try clear c5b0); (try clear c6); (try clear c6b0); (try clear p6); (try clear c7); (try clear c7b0); (try clear c8); (try clear c9); (try clear hx205_0); (try clear hx205_1); (try clear p2); (try clear p205); (try clear q205); obtain ⟨x5_3, rfl, HA, HK3, HB⟩ := hrel
        cases gk with
        | zero => exact absurd HA.out (by simp [spec_l03Ok.l1])
        | succ k3 =>
          have H := HA.out; clear HA; simp only [spec_l03Ok.l1] at H
          by_cases c12 : x5_3 < (l0.length : Int)
          rotate_left
          · rw [if_neg c12] at H
            have c12b0 := decide_eq_false c12; clear c12; replace H := Option.bind_eq_some_iff.mp H; obtain ⟨t207, A750, H⟩ := H; have A75 := Aside0.mk A750; clear A750; obtain rfl := Option.some.inj H
            go_wp2_with (first | ((with_reducible refine gate_callee (f := 90) rfl ?_); refine zJ (some 97) Try.func90 #[.slice A0 l0.length c0] ?_; (with_reducible refine (spec_l03Area.calls k3 _ _ l0 t207 _ ?side1 ?side2 A75.out).mono ?_); (case side1 => exact pC (Kd.C_below HR0.out HB.out)); (case side2 => exact HC0.out); rintro e w76 ⟨rfl, hb⟩; refine ⟨_, rfl, ?_⟩; replace HB := zW (pB0 HB.out) hb; (try clear hb); (try clear hb2); (try clear hk); (try clear hi)))
            go_ret
            exact ⟨zE, pB0 HB.out⟩
          rw [if_pos c12] at H; have c12b0 := decide_eq_true c12; clear c12
          by_cases c13 : 0 ≤ x5_3
          rotate_left
          · rw [if_neg c13] at H
            exact absurd H (by simp)
          rw [if_pos c13] at H; have c13b0 := decide_eq_true c13; clear c13
          by_cases c14 : x5_3 < (l0.length : Int)
          rotate_left
          · rw [if_neg c14] at H
            exact absurd H (by simp)
          rw [if_pos c14] at H; have c14b0 := decide_eq_true c14; clear c14
          by_cases c15 : (l0.length : Int) = 0
          · rw [if_pos c15] at H
            exact absurd H (by simp)
          rw [if_neg c15] at H; have c15b0 : ((l0.length : Int) == 0) = false := beq_eq_false_iff_ne.mpr c15; have c15b1 : ((l0.length : Int) != 0) = true := bne_iff_ne.mpr c15
          have c15b2 : ¬ (l0 = []) := fun h_ => c15 (by rw [h_]; rfl)
          obtain ⟨ji16, hji16⟩ : ∃ j_ : Int, (Int.tmod (wrap64 (x5_3 + 1)) (l0.length : Int)) = j_ := ⟨_, rfl⟩
          replace H : (if 0 ≤ (ji16) then (if (ji16) < (l0.length : Int) then (if 0 ≤ (Int.tmod (wrap64 (x5_3 + 2)) (l0.length : Int)) then (if (Int.tmod (wrap64 (x5_3 + 2)) (l0.length : Int)) < (l0.length : Int) then (if (((rd_T91 l0 x5_3).f0) == ((rd_T91 l0 (ji16)).f0) && (((rd_T91 l0 x5_3).f1) == ((rd_T91 l0 (ji16)).f1))) = true then (spec_l03Ok.j3 k3 l0 (l0.length : Int) x5_3 true ((rd_T91 l0 x5_3).f0) ((rd_T91 l0 x5_3).f1) ((rd_T91 l0 (ji16)).f0) ((rd_T91 l0 (ji16)).f1)) else ((spec_l02On.f ((rd_T91 l0 x5_3).f0) ((rd_T91 l0 x5_3).f1) ((rd_T91 l0 (ji16)).f0) ((rd_T91 l0 (ji16)).f1) ((rd_T91 l0 (Int.tmod (wrap64 (x5_3 + 2)) (l0.length : Int))).f0) ((rd_T91 l0 (Int.tmod (wrap64 (x5_3 + 2)) (l0.length : Int))).f1)).bind fun t214 => (if t214 = true then (spec_l03Ok.j3 k3 l0 (l0.length : Int) x5_3 true ((rd_T91 l0 x5_3).f0) ((rd_T91 l0 x5_3).f1) ((rd_T91 l0 (ji16)).f0) ((rd_T91 l0 (ji16)).f1)) else ((spec_l02On.f ((rd_T91 l0 (ji16)).f0) ((rd_T91 l0 (ji16)).f1) ((rd_T91 l0 (Int.tmod (wrap64 (x5_3 + 2)) (l0.length : Int))).f0) ((rd_T91 l0 (Int.tmod (wrap64 (x5_3 + 2)) (l0.length : Int))).f1) ((rd_T91 l0 x5_3).f0) ((rd_T91 l0 x5_3).f1)).bind fun t215 => (spec_l03Ok.j3 k3 l0 (l0.length : Int) x5_3 t215 ((rd_T91 l0 x5_3).f0) ((rd_T91 l0 x5_3).f1) ((rd_T91 l0 (ji16)).f0) ((rd_T91 l0 (ji16)).f1)))))) else (none)) else (none)) else (none)) else (none)) = some r := by first | (rw [hji16] at H; exact H) | (simp only [hji16] at H ⊢; exact H)
          by_cases c17 : 0 ≤ (ji16)
          rotate_left
          · rw [if_neg c17] at H
            exact absurd H (by simp)
          rw [if_pos c17] at H; have c17b0 := decide_eq_true c17; clear c17
          by_cases c18 : (ji16) < (l0.length : Int)
          rotate_left
          · rw [if_neg c18] at H
            exact absurd H (by simp)
          rw [if_pos c18] at H; have c18b0 := decide_eq_true c18; clear c18; obtain ⟨ji19, hji19⟩ : ∃ j_ : Int, (Int.tmod (wrap64 (x5_3 + 2)) (l0.length : Int)) = j_ := ⟨_, rfl⟩
          replace H : (if 0 ≤ (ji19) then (if (ji19) < (l0.length : Int) then (if (((rd_T91 l0 x5_3).f0) == ((rd_T91 l0 (ji16)).f0) && (((rd_T91 l0 x5_3).f1) == ((rd_T91 l0 (ji16)).f1))) = true then (spec_l03Ok.j3 k3 l0 (l0.length : Int) x5_3 true ((rd_T91 l0 x5_3).f0) ((rd_T91 l0 x5_3).f1) ((rd_T91 l0 (ji16)).f0) ((rd_T91 l0 (ji16)).f1)) else ((spec_l02On.f ((rd_T91 l0 x5_3).f0) ((rd_T91 l0 x5_3).f1) ((rd_T91 l0 (ji16)).f0) ((rd_T91 l0 (ji16)).f1) ((rd_T91 l0 (ji19)).f0) ((rd_T91 l0 (ji19)).f1)).bind fun t214 => (if t214 = true then (spec_l03Ok.j3 k3 l0 (l0.length : Int) x5_3 true ((rd_T91 l0 x5_3).f0) ((rd_T91 l0 x5_3).f1) ((rd_T91 l0 (ji16)).f0) ((rd_T91 l0 (ji16)).f1)) else ((spec_l02On.f ((rd_T91 l0 (ji16)).f0) ((rd_T91 l0 (ji16)).f1) ((rd_T91 l0 (ji19)).f0) ((rd_T91 l0 (ji19)).f1) ((rd_T91 l0 x5_3).f0) ((rd_T91 l0 x5_3).f1)).bind fun t215 => (spec_l03Ok.j3 k3 l0 (l0.length : Int) x5_3 t215 ((rd_T91 l0 x5_3).f0) ((rd_T91 l0 x5_3).f1) ((rd_T91 l0 (ji16)).f0) ((rd_T91 l0 (ji16)).f1)))))) else (none)) else (none)) = some r := by first | (rw [hji19] at H; exact H) | (simp only [hji19] at H ⊢; exact H)
          by_cases c20 : 0 ≤ (ji19)
          rotate_left
          · rw [if_neg c20] at H
            exact absurd H (by simp)
          rw [if_pos c20] at H; have c20b0 := decide_eq_true c20; clear c20
          by_cases c21 : (ji19) < (l0.length : Int)
          rotate_left
          · rw [if_neg c21] at H
            exact absurd H (by simp)
          rw [if_pos c21] at H; have c21b0 := decide_eq_true c21; clear c21; have HC22 := Aside0.mk H; clear H; have p208 : 0 ≤ (x5_3 : Int) := zD; have q208 : x5_3 < (l0.length : Int) := zD; obtain ⟨ad208, e208, hx208_0, hx208_1⟩ := at_T91 HR0.out x5_3 p208 q208; cases e208
          try replace hx208_0 := zH HB hx208_0
          try replace hx208_1 := zH HB hx208_1
          replace p208 := eq_true p208; replace q208 := eq_true q208
          go_upto_region 15 with (first | ((with_reducible refine zI 6 rfl ?_); refine zB 6 #[.int .i64 0, .int .i64 0] 91 ?_; intro gb209 hg w23 hbox hb; have BK209 := Aside0.mk (hbox); have GW209 := zS (pB0 HB.out) hg; have GE209 := GW209; replace HB := zW (pB0 HB.out) hb; clear hb hbox hg; obtain ⟨Y24_0, X24_0, Y24_1, X24_1⟩ := zw2 BK209; have p210 : 0 ≤ ((ji16) : Int) := zD; have q210 : (ji16) < (l0.length : Int) := zD; obtain ⟨ad210, e210, hx210_0, hx210_1⟩ := at_T91 HR0.out (ji16) p210 q210; obtain rfl : ad208 = ad210 := (by injection e210); have hn210_0 : ad208.block ≠ gb209 := Nat.ne_of_lt (Nat.lt_of_lt_of_le (by have := World.block_lt_of_cell? _ _ hx210_0; first | rwa [add_block] at this | exact this) GW209.out); have hn210_1 : ad208.block ≠ gb209 := Nat.ne_of_lt (Nat.lt_of_lt_of_le (by have := World.block_lt_of_cell? _ _ hx210_0; first | rwa [add_block] at this | exact this) GW209.out); try replace hx210_0 := zH HB hx210_0; try replace hx210_1 := zH HB hx210_1; replace hx210_0 := (cell_far (p := ⟨gb209, 0, none⟩) (by first | (rw [add_block]; exact hn210_0) | (show (Addr.add _ _).block ≠ _; rw [add_block]; exact hn210_0) | exact hn210_0) (.int .i64 ((rd_T91 l0 x5_3).f0))).trans hx210_0; replace hx210_1 := (cell_far (p := ⟨gb209, 0, none⟩) (by first | (rw [add_block]; exact hn210_0) | (show (Addr.add _ _).block ≠ _; rw [add_block]; exact hn210_0) | exact hn210_0) (.int .i64 ((rd_T91 l0 x5_3).f0))).trans hx210_1; replace hx210_0 := (cell_far (p := ⟨gb209, 1, none⟩) (by first | (rw [add_block]; exact hn210_1) | (show (Addr.add _ _).block ≠ _; rw [add_block]; exact hn210_1) | exact hn210_1) (.int .i64 ((rd_T91 l0 x5_3).f1))).trans hx210_0; replace hx210_1 := (cell_far (p := ⟨gb209, 1, none⟩) (by first | (rw [add_block]; exact hn210_1) | (show (Addr.add _ _).block ≠ _; rw [add_block]; exact hn210_1) | exact hn210_1) (.int .i64 ((rd_T91 l0 x5_3).f1))).trans hx210_1; clear hn210_0; clear hn210_1; replace p210 := eq_true p210; replace q210 := eq_true q210) | ((with_reducible refine zI 7 rfl ?_); refine zB 7 #[.int .i64 0, .int .i64 0] 91 ?_; intro gb211 hg w25 hbox hb; have BK211 := Aside0.mk (hbox); have GW211 := zS (pB1 HB.out GE209.out) hg; have GE211 := GW211; have NB209_211 := Aside0.mk ((by rw [hg]; exact Nat.ne_of_lt (blk_lt (g := gb209) (o := .cells #[.int .i64 ((rd_T91 l0 x5_3).f0), .int .i64 ((rd_T91 l0 x5_3).f1)] 91 (0, 0)) (by refine zg #[.int .i64 ((rd_T91 l0 x5_3).f0), .int .i64 0] 1 ?_; refine zg #[.int .i64 0, .int .i64 0] 0 ?_; exact pK BK209.out)) : gb209 ≠ gb211)); have NB211_209 := Aside0.mk ((by rw [hg]; exact Nat.ne_of_gt (blk_lt (g := gb209) (o := .cells #[.int .i64 ((rd_T91 l0 x5_3).f0), .int .i64 ((rd_T91 l0 x5_3).f1)] 91 (0, 0)) (by refine zg #[.int .i64 ((rd_T91 l0 x5_3).f0), .int .i64 0] 1 ?_; refine zg #[.int .i64 0, .int .i64 0] 0 ?_; exact pK BK209.out)) : gb211 ≠ gb209)); replace BK209 := Aside0.mk (blk_below (g := gb209) (o := .cells #[.int .i64 ((rd_T91 l0 x5_3).f0), .int .i64 ((rd_T91 l0 x5_3).f1)] 91 (0, 0)) (by refine zg #[.int .i64 ((rd_T91 l0 x5_3).f0), .int .i64 0] 1 ?_; refine zg #[.int .i64 0, .int .i64 0] 0 ?_; exact pK BK209.out) hb); replace HB := zW (pB1 HB.out GE209.out) hb; clear hb hbox hg; have hnb26 := NB211_209.out; have hnc26 := NB209_211.out; obtain ⟨Y27_0, X27_0, Y27_1, X27_1⟩ := zw2 BK211; have p212 : 0 ≤ ((ji19) : Int) := zD; have q212 : (ji19) < (l0.length : Int) := zD; obtain ⟨ad212, e212, hx212_0, hx212_1⟩ := at_T91 HR0.out (ji19) p212 q212; obtain rfl : ad208 = ad212 := (by injection e212); have hn212_0 : ad208.block ≠ gb211 := Nat.ne_of_lt (Nat.lt_of_lt_of_le (by have := World.block_lt_of_cell? _ _ hx212_0; first | rwa [add_block] at this | exact this) GW211.out); have hn212_1 : ad208.block ≠ gb211 := Nat.ne_of_lt (Nat.lt_of_lt_of_le (by have := World.block_lt_of_cell? _ _ hx212_0; first | rwa [add_block] at this | exact this) GW211.out); try replace hx212_0 := zH HB hx212_0; try replace hx212_1 := zH HB hx212_1; replace hx212_0 := (cell_far (p := ⟨gb211, 0, none⟩) (by first | (rw [add_block]; exact hn212_0) | (show (Addr.add _ _).block ≠ _; rw [add_block]; exact hn212_0) | exact hn212_0) (.int .i64 ((rd_T91 l0 (ji16)).f0))).trans hx212_0; replace hx212_1 := (cell_far (p := ⟨gb211, 0, none⟩) (by first | (rw [add_block]; exact hn212_0) | (show (Addr.add _ _).block ≠ _; rw [add_block]; exact hn212_0) | exact hn212_0) (.int .i64 ((rd_T91 l0 (ji16)).f0))).trans hx212_1; replace hx212_0 := (cell_far (p := ⟨gb211, 1, none⟩) (by first | (rw [add_block]; exact hn212_1) | (show (Addr.add _ _).block ≠ _; rw [add_block]; exact hn212_1) | exact hn212_1) (.int .i64 ((rd_T91 l0 (ji16)).f1))).trans hx212_0; replace hx212_1 := (cell_far (p := ⟨gb211, 1, none⟩) (by first | (rw [add_block]; exact hn212_1) | (show (Addr.add _ _).block ≠ _; rw [add_block]; exact hn212_1) | exact hn212_1) (.int .i64 ((rd_T91 l0 (ji16)).f1))).trans hx212_1; clear hn212_0; clear hn212_1; replace p212 := eq_true p212; replace q212 := eq_true q212) | ((with_reducible refine zI 8 rfl ?_); refine zB 8 #[.int .i64 0, .int .i64 0] 91 ?_; intro gb213 hg w28 hbox hb; have BK213 := Aside0.mk (hbox); have GW213 := zS (pB2 HB.out GE209.out GE211.out) hg; have GE213 := GW213; have NB209_213 := Aside0.mk ((by rw [hg]; exact Nat.ne_of_lt (blk_lt (g := gb209) (o := .cells #[.int .i64 ((rd_T91 l0 x5_3).f0), .int .i64 ((rd_T91 l0 x5_3).f1)] 91 (0, 0)) (by refine zf ?_ NB209_211; refine zf ?_ NB209_211; exact pK BK209.out)) : gb209 ≠ gb213)); have NB213_209 := Aside0.mk ((by rw [hg]; exact Nat.ne_of_gt (blk_lt (g := gb209) (o := .cells #[.int .i64 ((rd_T91 l0 x5_3).f0), .int .i64 ((rd_T91 l0 x5_3).f1)] 91 (0, 0)) (by refine zf ?_ NB209_211; refine zf ?_ NB209_211; exact pK BK209.out)) : gb213 ≠ gb209)); have NB211_213 := Aside0.mk ((by rw [hg]; exact Nat.ne_of_lt (blk_lt (g := gb211) (o := .cells #[.int .i64 ((rd_T91 l0 (ji16)).f0), .int .i64 ((rd_T91 l0 (ji16)).f1)] 91 (0, 0)) (by refine zg #[.int .i64 ((rd_T91 l0 (ji16)).f0), .int .i64 0] 1 ?_; refine zg #[.int .i64 0, .int .i64 0] 0 ?_; exact pK BK211.out)) : gb211 ≠ gb213)); have NB213_211 := Aside0.mk ((by rw [hg]; exact Nat.ne_of_gt (blk_lt (g := gb211) (o := .cells #[.int .i64 ((rd_T91 l0 (ji16)).f0), .int .i64 ((rd_T91 l0 (ji16)).f1)] 91 (0, 0)) (by refine zg #[.int .i64 ((rd_T91 l0 (ji16)).f0), .int .i64 0] 1 ?_; refine zg #[.int .i64 0, .int .i64 0] 0 ?_; exact pK BK211.out)) : gb213 ≠ gb211)); replace BK209 := Aside0.mk (blk_below (g := gb209) (o := .cells #[.int .i64 ((rd_T91 l0 x5_3).f0), .int .i64 ((rd_T91 l0 x5_3).f1)] 91 (0, 0)) (by refine zf ?_ NB209_211; refine zf ?_ NB209_211; exact pK BK209.out) hb); replace BK211 := Aside0.mk (blk_below (g := gb211) (o := .cells #[.int .i64 ((rd_T91 l0 (ji16)).f0), .int .i64 ((rd_T91 l0 (ji16)).f1)] 91 (0, 0)) (by refine zg #[.int .i64 ((rd_T91 l0 (ji16)).f0), .int .i64 0] 1 ?_; refine zg #[.int .i64 0, .int .i64 0] 0 ?_; exact pK BK211.out) hb); replace HB := zW (pB2 HB.out GE209.out GE211.out) hb; clear hb hbox hg; have hnb29 := NB213_209.out; have hnc29 := NB209_213.out; have hnb30 := NB213_211.out; have hnc30 := NB211_213.out; obtain ⟨Y31_0, X31_0, Y31_1, X31_1⟩ := zw2 BK213))
          (try simp only [Act.put, List.setIfInBounds_toArray, List.set_cons_zero, List.set_cons_succ])
          go_cut [66] (fun v66 wc => ∃ (kq : Nat) (x66_21 : Bool), v66 = .bool x66_21 ∧ Aside0 (spec_l03Ok.j3 kq l0 (l0.length : Int) x5_3 x66_21 ((rd_T91 l0 x5_3).f0) ((rd_T91 l0 x5_3).f1) ((rd_T91 l0 (ji16)).f0) ((rd_T91 l0 (ji16)).f1) = some r) ∧ Aside0 (kq ≤ k3) ∧ Aside0 (wc.heap[gb209]? = some (.cells #[.int .i64 ((rd_T91 l0 x5_3).f0), .int .i64 ((rd_T91 l0 x5_3).f1)] 91 (0, 0))) ∧ Aside0 (wc.heap[gb211]? = some (.cells #[.int .i64 ((rd_T91 l0 (ji16)).f0), .int .i64 ((rd_T91 l0 (ji16)).f1)] 91 (0, 0))) ∧ Aside0 (wc.heap[gb213]? = some (.cells #[.int .i64 ((rd_T91 l0 (ji19)).f0), .int .i64 ((rd_T91 l0 (ji19)).f1)] 91 (0, 0))) ∧ Aside0 (Below w.heap.size w wc))
          case first =>
           have H := HC22.out; clear HC22
           by_cases c32 : (((rd_T91 l0 x5_3).f0) == ((rd_T91 l0 (ji16)).f0) && (((rd_T91 l0 x5_3).f1) == ((rd_T91 l0 (ji16)).f1))) = true
           · rw [if_pos c32] at H
             have c32b0 : (((rd_T91 l0 x5_3).f0) == ((rd_T91 l0 (ji16)).f0) && (((rd_T91 l0 x5_3).f1) == ((rd_T91 l0 (ji16)).f1))) = true := c32
             (try (have c32b1 : decide (((rd_T91 l0 x5_3).f0) = ((rd_T91 l0 (ji16)).f0) && (((rd_T91 l0 x5_3).f1) == ((rd_T91 l0 (ji16)).f1))) = true := by simpa using c32))
             (try (have c32b2 : (((rd_T91 l0 x5_3).f0) == ((rd_T91 l0 (ji16)).f0) && (((rd_T91 l0 x5_3).f1) == ((rd_T91 l0 (ji16)).f1))) = true := by simpa using c32))
             clear c32; (first | rw [c32b0] | (simp only [i64_w, i32_w]; rw [c32b0]) | skip); have H' := Aside0.mk H; clear H; have hnb33 := NB209_211.out; have hnc33 := NB211_209.out; have hnb34 := NB209_213.out; have hnc34 := NB213_209.out; have Y35_0 := zC (.int .i64 ((rd_T91 l0 x5_3).f0)) BK209 0; have Y35_1 := zC (.int .i64 ((rd_T91 l0 x5_3).f1)) BK209 1; have X35_0 := blk_frozen BK209.out 0; have X35_1 := blk_frozen BK209.out 1; have hnb36 := NB211_213.out; have hnc36 := NB213_211.out; have Y37_0 := zC (.int .i64 ((rd_T91 l0 (ji16)).f0)) BK211 0; have Y37_1 := zC (.int .i64 ((rd_T91 l0 (ji16)).f1)) BK211 1; have X37_0 := blk_frozen BK211.out 0; have X37_1 := blk_frozen BK211.out 1
             go_wp2
             go_meet
             case rel => exact ⟨_, (true), zR, H', ⟨by have := HJ1.out; have := HK2.out; have := HK3.out; first | omega | exact Nat.le_refl _⟩, ⟨by refine zf ?_ NB209_213; refine zf ?_ NB209_213; exact pK BK209.out⟩, ⟨by refine zf ?_ NB211_213; refine zf ?_ NB211_213; exact pK BK211.out⟩, ⟨by refine zg #[.int .i64 ((rd_T91 l0 (ji19)).f0), .int .i64 0] 1 ?_; refine zg #[.int .i64 0, .int .i64 0] 0 ?_; exact pK BK213.out⟩, ⟨pB3 HB.out GE209.out GE211.out GE213.out⟩⟩
           rw [if_neg c32] at H
           have c32b0 : (((rd_T91 l0 x5_3).f0) == ((rd_T91 l0 (ji16)).f0) && (((rd_T91 l0 x5_3).f1) == ((rd_T91 l0 (ji16)).f1))) = false := by simpa using c32
           (try (have c32b1 : decide (((rd_T91 l0 x5_3).f0) = ((rd_T91 l0 (ji16)).f0) && (((rd_T91 l0 x5_3).f1) == ((rd_T91 l0 (ji16)).f1))) = false := by simpa using c32))
           (try (have c32b2 : (((rd_T91 l0 x5_3).f0) == ((rd_T91 l0 (ji16)).f0) && (((rd_T91 l0 x5_3).f1) == ((rd_T91 l0 (ji16)).f1))) = false := by simpa using c32))
           (try (have c32b3 : ¬ (((rd_T91 l0 x5_3).f0) = ((rd_T91 l0 (ji16)).f0) && (((rd_T91 l0 x5_3).f1) == ((rd_T91 l0 (ji16)).f1))) := by simpa using c32))
           clear c32; (first | rw [c32b0] | (simp only [i64_w, i32_w]; rw [c32b0]) | skip); replace H := Option.bind_eq_some_iff.mp H; obtain ⟨t214, A380, H⟩ := H; have A38 := Aside0.mk A380; clear A380
           by_cases c39 : t214 = true
           · subst c39
             rw [if_pos rfl] at H; have H' := Aside0.mk H; clear H; have hnb40 := NB209_211.out; have hnc40 := NB211_209.out; have hnb41 := NB209_213.out; have hnc41 := NB213_209.out; have Y42_0 := zC (.int .i64 ((rd_T91 l0 x5_3).f0)) BK209 0; have Y42_1 := zC (.int .i64 ((rd_T91 l0 x5_3).f1)) BK209 1; have X42_0 := blk_frozen BK209.out 0; have X42_1 := blk_frozen BK209.out 1; have hnb43 := NB211_213.out; have hnc43 := NB213_211.out; have Y44_0 := zC (.int .i64 ((rd_T91 l0 (ji16)).f0)) BK211 0; have Y44_1 := zC (.int .i64 ((rd_T91 l0 (ji16)).f1)) BK211 1; have X44_0 := blk_frozen BK211.out 0; have X44_1 := blk_frozen BK211.out 1; have Y45_0 := zC (.int .i64 0) BK213 0; have Y45_1 := zC (.int .i64 0) BK213 1; have X45_0 := blk_frozen BK213.out 0; have X45_1 := blk_frozen BK213.out 1
             go_wp2_with (first | (go_at_call 88; (with_reducible refine (spec_l02On.calls ((rd_T91 l0 x5_3).f0) ((rd_T91 l0 x5_3).f1) ((rd_T91 l0 (ji16)).f0) ((rd_T91 l0 (ji16)).f1) ((rd_T91 l0 (ji19)).f0) ((rd_T91 l0 (ji19)).f1) true _ A38.out).mono ?_); rintro e w46 ⟨rfl, hb⟩; replace BK209 := Aside0.mk (blk_below (g := gb209) (o := .cells #[.int .i64 ((rd_T91 l0 x5_3).f0), .int .i64 ((rd_T91 l0 x5_3).f1)] 91 (0, 0)) (by refine zf ?_ NB209_213; refine zf ?_ NB209_213; exact pK BK209.out) hb); replace BK211 := Aside0.mk (blk_below (g := gb211) (o := .cells #[.int .i64 ((rd_T91 l0 (ji16)).f0), .int .i64 ((rd_T91 l0 (ji16)).f1)] 91 (0, 0)) (by refine zf ?_ NB211_213; refine zf ?_ NB211_213; exact pK BK211.out) hb); replace BK213 := Aside0.mk (blk_below (g := gb213) (o := .cells #[.int .i64 ((rd_T91 l0 (ji19)).f0), .int .i64 ((rd_T91 l0 (ji19)).f1)] 91 (0, 0)) (by refine zg #[.int .i64 ((rd_T91 l0 (ji19)).f0), .int .i64 0] 1 ?_; refine zg #[.int .i64 0, .int .i64 0] 0 ?_; exact pK BK213.out) hb); replace HB := zW (pB3 HB.out GE209.out GE211.out GE213.out) hb; (try clear hb); (try clear hb2); (try clear hk); (try clear hi)))
             go_meet
             case rel => exact ⟨_, (true), zR, H', ⟨by have := HJ1.out; have := HK2.out; have := HK3.out; first | omega | exact Nat.le_refl _⟩, ⟨pK BK209.out⟩, ⟨pK BK211.out⟩, ⟨pK BK213.out⟩, ⟨pB3 HB.out GE209.out GE211.out GE213.out⟩⟩
           replace c39 := Bool.eq_false_iff.mpr c39; subst c39
           rw [if_neg (show ¬ (false = true) by decide)] at H
           replace H := Option.bind_eq_some_iff.mp H; obtain ⟨t215, A470, H⟩ := H; have A47 := Aside0.mk A470; clear A470; have H' := Aside0.mk H; clear H; have hnb48 := NB209_211.out; have hnc48 := NB211_209.out; have hnb49 := NB209_213.out; have hnc49 := NB213_209.out; have Y50_0 := zC (.int .i64 ((rd_T91 l0 x5_3).f0)) BK209 0; have Y50_1 := zC (.int .i64 ((rd_T91 l0 x5_3).f1)) BK209 1; have X50_0 := blk_frozen BK209.out 0; have X50_1 := blk_frozen BK209.out 1; have hnb51 := NB211_213.out; have hnc51 := NB213_211.out; have Y52_0 := zC (.int .i64 ((rd_T91 l0 (ji16)).f0)) BK211 0; have Y52_1 := zC (.int .i64 ((rd_T91 l0 (ji16)).f1)) BK211 1; have X52_0 := blk_frozen BK211.out 0; have X52_1 := blk_frozen BK211.out 1; have Y53_0 := zC (.int .i64 0) BK213 0; have Y53_1 := zC (.int .i64 0) BK213 1; have X53_0 := blk_frozen BK213.out 0; have X53_1 := blk_frozen BK213.out 1
           go_wp2_with (first | (go_at_call 88; (with_reducible refine (spec_l02On.calls ((rd_T91 l0 x5_3).f0) ((rd_T91 l0 x5_3).f1) ((rd_T91 l0 (ji16)).f0) ((rd_T91 l0 (ji16)).f1) ((rd_T91 l0 (ji19)).f0) ((rd_T91 l0 (ji19)).f1) false _ A38.out).mono ?_); rintro e w54 ⟨rfl, hb⟩; replace BK209 := Aside0.mk (blk_below (g := gb209) (o := .cells #[.int .i64 ((rd_T91 l0 x5_3).f0), .int .i64 ((rd_T91 l0 x5_3).f1)] 91 (0, 0)) (by refine zf ?_ NB209_213; refine zf ?_ NB209_213; exact pK BK209.out) hb); replace BK211 := Aside0.mk (blk_below (g := gb211) (o := .cells #[.int .i64 ((rd_T91 l0 (ji16)).f0), .int .i64 ((rd_T91 l0 (ji16)).f1)] 91 (0, 0)) (by refine zf ?_ NB211_213; refine zf ?_ NB211_213; exact pK BK211.out) hb); replace BK213 := Aside0.mk (blk_below (g := gb213) (o := .cells #[.int .i64 ((rd_T91 l0 (ji19)).f0), .int .i64 ((rd_T91 l0 (ji19)).f1)] 91 (0, 0)) (by refine zg #[.int .i64 ((rd_T91 l0 (ji19)).f0), .int .i64 0] 1 ?_; refine zg #[.int .i64 0, .int .i64 0] 0 ?_; exact pK BK213.out) hb); replace HB := zW (pB3 HB.out GE209.out GE211.out GE213.out) hb; (try clear hb); (try clear hb2); (try clear hk); (try clear hi); have Y55_0 := zC (.int .i64 ((rd_T91 l0 (ji16)).f0)) BK211 0; have Y55_1 := zC (.int .i64 ((rd_T91 l0 (ji16)).f1)) BK211 1; obtain ⟨X55_0, X55_1⟩ := zf2 BK211; have Y56_0 := zC (.int .i64 ((rd_T91 l0 (ji19)).f0)) BK213 0; have Y56_1 := zC (.int .i64 ((rd_T91 l0 (ji19)).f1)) BK213 1; obtain ⟨X56_0, X56_1⟩ := zf2 BK213; obtain ⟨Y57_0, X57_0, Y57_1, X57_1⟩ := zw2 BK209) | (go_at_call 88; (with_reducible refine (spec_l02On.calls ((rd_T91 l0 (ji16)).f0) ((rd_T91 l0 (ji16)).f1) ((rd_T91 l0 (ji19)).f0) ((rd_T91 l0 (ji19)).f1) ((rd_T91 l0 x5_3).f0) ((rd_T91 l0 x5_3).f1) t215 _ A47.out).mono ?_); rintro e w58 ⟨rfl, hb⟩; replace BK209 := zK BK209 hb; replace BK211 := zK BK211 hb; replace BK213 := zK BK213 hb; replace HB := zW (pB3 HB.out GE209.out GE211.out GE213.out) hb; (try clear hb); (try clear hb2); (try clear hk); (try clear hi)))
           go_meet
           case rel => exact ⟨_, (t215), zR, H', ⟨by have := HJ1.out; have := HK2.out; have := HK3.out; first | omega | exact Nat.le_refl _⟩, ⟨pK BK209.out⟩, ⟨pK BK211.out⟩, ⟨pK BK213.out⟩, ⟨pB3 HB.out GE209.out GE211.out GE213.out⟩⟩
          case rest =>
           clear HC22; (try clear c1); (try clear c2); (try clear p2); (try clear q2); (try clear hx2); (try clear c3); (try clear c3b0); (try clear c3b1); (try clear c4); (try clear c5); (try clear c5b0); (try clear c6); (try clear c6b0); (try clear p6); (try clear c7); (try clear c7b0); (try clear c8); (try clear c9); (try clear c12); (try clear c12b0); (try clear c13); (try clear c13b0); (try clear c14); (try clear c14b0); (try clear c15); (try clear c15b0); (try clear c15b1); (try clear c15b2); (try clear c17); (try clear c17b0); (try clear c18); (try clear c18b0); (try clear c20); (try clear c20b0); (try clear p20); (try clear q20); (try clear hx20); (try clear c21); (try clear c21b0); (try clear p21); (try clear q21); (try clear hx21); (try clear c26); (try clear c29); (try clear c30); (try clear c32); (try clear c32b0); (try clear c32b1); (try clear c32b2); (try clear c33); (try clear c34); (try clear c36); (try clear c39); (try clear c40); (try clear c41); (try clear c43); (try clear c48); (try clear c49); (try clear c51); (try clear Y24_0 Y24_1); (try clear Y27_0 Y27_1); (try clear Y31_0 Y31_1); (try clear Y35_0 Y35_1); (try clear Y37_0 Y37_1); (try clear Y42_0 Y42_1); (try clear Y44_0 Y44_1); (try clear Y45_0 Y45_1); (try clear Y50_0 Y50_1); (try clear Y52_0 Y52_1); (try clear Y53_0 Y53_1); (try clear Y55_0 Y55_1); (try clear Y56_0 Y56_1); (try clear Y57_0 Y57_1); (try clear X24_0 X24_1); (try clear X27_0 X27_1); (try clear X31_0 X31_1); (try clear X35_0 X35_1); (try clear X37_0 X37_1); (try clear X42_0 X42_1); (try clear X44_0 X44_1); (try clear X45_0 X45_1); (try clear X50_0 X50_1); (try clear X52_0 X52_1); (try clear X53_0 X53_1); (try clear X55_0 X55_1); (try clear X56_0 X56_1); (try clear X57_0 X57_1); (try clear hx205_0); (try clear hx205_1); (try clear hx208_0); (try clear hx208_1); (try clear hx210_0); (try clear hx210_1); (try clear hx212_0); (try clear hx212_1); (try clear p2); (try clear p205); (try clear p208); (try clear p210); (try clear p212); (try clear p6); (try clear q2); (try clear q205); (try clear q208); (try clear q210); (try clear q212); obtain ⟨kq, x66_21, rfl, HA, HJ21, BK209, BK211, BK213, HB⟩ := hcut
           cases kq with
           | zero => exact absurd HA.out (by simp [spec_l03Ok.j3])
           | succ kj21 =>
             have H := HA.out; clear HA; simp only [spec_l03Ok.j3] at H
             by_cases c59 : x66_21 = true
             · subst c59
               rw [if_pos rfl] at H; obtain rfl := Option.some.inj H
               go_wp2
               go_ret
               exact ⟨by first | rfl | (simp [errW_none, errW_some] <;> rfl) | (simp only [← hji16, ← hji19]; first | rfl | (simp [errW_none, errW_some] <;> rfl)) | (simp [*, errW_none, errW_some] <;> rfl), pB3 HB.out GE209.out GE211.out GE213.out⟩
             replace c59 := Bool.eq_false_iff.mpr c59; subst c59
             rw [if_neg (show ¬ (false = true) by decide)] at H
             have H' := Aside0.mk H; clear H
             go_wp2
             go_loopg [9] kj21 (fun kq v9 w' => ∃ (x9_5 : Int), v9 = .int .i64 x9_5 ∧ Aside0 (spec_l03Ok.l2 kq l0 (l0.length : Int) x5_3 x9_5 ((rd_T91 l0 x5_3).f0) ((rd_T91 l0 x5_3).f1) ((rd_T91 l0 (ji16)).f0) ((rd_T91 l0 (ji16)).f1) = some r) ∧ Aside0 (kq ≤ kj21) ∧ Aside0 (w'.heap[gb209]? = some (.cells #[.int .i64 ((rd_T91 l0 x5_3).f0), .int .i64 ((rd_T91 l0 x5_3).f1)] 91 (0, 0))) ∧ Aside0 (w'.heap[gb211]? = some (.cells #[.int .i64 ((rd_T91 l0 (ji16)).f0), .int .i64 ((rd_T91 l0 (ji16)).f1)] 91 (0, 0))) ∧ Aside0 (w'.heap[gb213]? = some (.cells #[.int .i64 ((rd_T91 l0 (ji19)).f0), .int .i64 ((rd_T91 l0 (ji19)).f1)] 91 (0, 0))) ∧ Aside0 (Below w.heap.size w w'))
             case atStart => exact ⟨(wrap64 (x5_3 + 2)), zR, H', ⟨Nat.le_refl _⟩, ⟨pK BK209.out⟩, ⟨pK BK211.out⟩, ⟨pK BK213.out⟩, ⟨pB3 HB.out GE209.out GE211.out GE213.out⟩⟩
             case round =>
              clear H'; (try clear c1); (try clear c2); (try clear p2); (try clear q2); (try clear hx2); (try clear c3); (try clear c3b0); (try clear c3b1); (try clear c4); (try clear c5); (try clear c5b0); (try clear c6); (try clear c6b0); (try clear p6); (try clear c7); (try clear c7b0); (try clear c8); (try clear c9); (try clear c12); (try clear c12b0); (try clear c13); (try clear c13b0); (try clear c14); (try clear c14b0); (try clear c15); (try clear c15b0); (try clear c15b1); (try clear c15b2); (try clear c17); (try clear c17b0); (try clear c18); (try clear c18b0); (try clear c20); (try clear c20b0); (try clear p20); (try clear q20); (try clear hx20); (try clear c21); (try clear c21b0); (try clear p21); (try clear q21); (try clear hx21); (try clear c26); (try clear c29); (try clear c30); (try clear c32); (try clear c32b0); (try clear c32b1); (try clear c32b2); (try clear c33); (try clear c34); (try clear c36); (try clear c39); (try clear c40); (try clear c41); (try clear c43); (try clear c48); (try clear c49); (try clear c51); (try clear c59); (try clear Y24_0 Y24_1); (try clear Y27_0 Y27_1); (try clear Y31_0 Y31_1); (try clear Y35_0 Y35_1); (try clear Y37_0 Y37_1); (try clear Y42_0 Y42_1); (try clear Y44_0 Y44_1); (try clear Y45_0 Y45_1); (try clear Y50_0 Y50_1); (try clear Y52_0 Y52_1); (try clear Y53_0 Y53_1); (try clear Y55_0 Y55_1); (try clear Y56_0 Y56_1); (try clear Y57_0 Y57_1); (try clear X24_0 X24_1); (try clear X27_0 X27_1); (try clear X31_0 X31_1); (try clear X35_0 X35_1); (try clear X37_0 X37_1); (try clear X42_0 X42_1); (try clear X44_0 X44_1); (try clear X45_0 X45_1); (try clear X50_0 X50_1); (try clear X52_0 X52_1); (try clear X53_0 X53_1); (try clear X55_0 X55_1); (try clear X56_0 X56_1); (try clear X57_0 X57_1); (try clear hx205_0); (try clear hx205_1); (try clear hx208_0); (try clear hx208_1); (try clear hx210_0); (try clear hx210_1); (try clear hx212_0); (try clear hx212_1); (try clear p2); (try clear p20); (try clear p205); (try clear p208); (try clear p21); (try clear p210); (try clear p212); (try clear p6); (try clear q2); (try clear q20); (try clear q205); (try clear q208); (try clear q21); (try clear q210); (try clear q212); obtain ⟨x9_5, rfl, HA, HK5, BK209, BK211, BK213, HB⟩ := hrel
              cases gk with
              | zero => exact absurd HA.out (by simp [spec_l03Ok.l2])
              | succ k5 =>
                have H := HA.out; clear HA; simp only [spec_l03Ok.l2] at H
                by_cases c60 : x9_5 < (l0.length : Int)
                rotate_left
                · rw [if_neg c60] at H
                  have c60b0 := decide_eq_false c60; clear c60; have H' := Aside0.mk H; clear H
                  go_wp2
                  go_roundg k5
                  case measure => have := HJ1.out; have := HK2.out; have := HK3.out; have := HJ21.out; have := HK5.out; omega
                  case rel => exact ⟨(wrap64 (x5_3 + 1)), zR, H', ⟨by have := HJ1.out; have := HK2.out; have := HK3.out; have := HJ21.out; have := HK5.out; omega⟩, ⟨pB3 HB.out GE209.out GE211.out GE213.out⟩⟩
                rw [if_pos c60] at H; have c60b0 := decide_eq_true c60; clear c60
                by_cases c61 : (l0.length : Int) = 0
                · rw [if_pos c61] at H
                  exact absurd H (by simp)
                rw [if_neg c61] at H; have c61b0 : ((l0.length : Int) == 0) = false := beq_eq_false_iff_ne.mpr c61; have c61b1 : ((l0.length : Int) != 0) = true := bne_iff_ne.mpr c61
                have c61b2 : ¬ (l0 = []) := fun h_ => c61 (by rw [h_]; rfl)
                by_cases c62 : (Int.tmod (wrap64 (x9_5 + 1)) (l0.length : Int)) = x5_3
                · rw [if_pos c62] at H
                  have c62b0 : ((Int.tmod (wrap64 (x9_5 + 1)) (l0.length : Int)) == x5_3) = true := beq_iff_eq.mpr c62; have c62b1 : ((Int.tmod (wrap64 (x9_5 + 1)) (l0.length : Int)) != x5_3) = false := bne_eq_false_iff_eq.mpr c62; clear c62; have H' := Aside0.mk H; clear H
                  try go_wp2
                  replace BK209 := Aside0.mk (blk_drew BK209.out); replace BK211 := Aside0.mk (blk_drew BK211.out); replace BK213 := Aside0.mk (blk_drew BK213.out); replace HB := Aside0.mk (below_drew1 HB.out)
                  refine start_ (n := 22) (S := fun w' => True) (ds := []) (Array.replicate 22 false) (by kernel_rfl) rfl rfl trivial (fun hHeld => ?_); refine with_tabW spec_l03Ok.tab20 spec_l03Ok.bits20 (fun HT_ HW_ => ?_)
                  generalize wr.drew = w63 at BK209 BK211 BK213 HB hHeld ⊢
                  refine zP 0 (some 74) (zb 22 1) HT_ ?_; refine zP 1 (some 75) (zb 22 3) HT_ ?_; refine zP 2 (some 76) (zb 22 7) HT_ ?_; refine zP 3 (some 77) (zb 22 15) HT_ ?_; refine zP 4 (some 78) (zb 22 31) HT_ ?_; refine zP 5 (some 79) (zb 22 63) HT_ ?_; refine zP 6 (some 80) (zb 22 127) HT_ ?_; refine zU 7 (some 81) (zb 22 255) HT_ ?_; refine zU 8 (some 82) (zb 22 511) HT_ ?_; refine zU 9 (some 83) (zb 22 1023) HT_ ?_; refine zU 10 (some 84) (zb 22 2047) HT_ ?_; refine zU 11 (some 85) (zb 22 4095) HT_ ?_; refine zU 12 (some 86) (zb 22 8191) HT_ ?_; refine zU 13 (some 87) (zb 22 16383) HT_ ?_; refine zU 14 (some 88) (zb 22 32767) HT_ ?_; refine zU 15 (some 89) (zb 22 65535) HT_ ?_; refine zU 16 (some 90) (zb 22 131071) HT_ ?_; refine zU 17 (some 91) (zb 22 262143) HT_ ?_; refine zU 18 (some 92) (zb 22 524287) HT_ ?_; refine zU 19 (some 93) (zb 22 1048575) HT_ ?_; refine zU 20 (some 94) (zb 22 2097151) HT_ ?_; refine zP 21 (some 95) (zb 22 4194303) HT_ ?_
                  refine done_ (done_of HT_.out (by kernel_rfl)) ?_
                  try go_wp2
                  go_roundg k5
                  case measure => have := HJ1.out; have := HK2.out; have := HK3.out; have := HJ21.out; have := HK5.out; omega
                  case rel => exact ⟨(wrap64 (x9_5 + 1)), zR, H', ⟨by have := HJ1.out; have := HK2.out; have := HK3.out; have := HJ21.out; have := HK5.out; omega⟩, ⟨pK BK209.out⟩, ⟨pK BK211.out⟩, ⟨pK BK213.out⟩, ⟨pB3 HB.out GE209.out GE211.out GE213.out⟩⟩
                rw [if_neg c62] at H; have c62b0 : ((Int.tmod (wrap64 (x9_5 + 1)) (l0.length : Int)) == x5_3) = false := beq_eq_false_iff_ne.mpr c62; have c62b1 : ((Int.tmod (wrap64 (x9_5 + 1)) (l0.length : Int)) != x5_3) = true := bne_iff_ne.mpr c62
                by_cases c64 : 0 ≤ x9_5
                rotate_left
                · rw [if_neg c64] at H
                  exact absurd H (by simp)
                rw [if_pos c64] at H; have c64b0 := decide_eq_true c64; clear c64
                by_cases c65 : x9_5 < (l0.length : Int)
                rotate_left
                · rw [if_neg c65] at H
                  exact absurd H (by simp)
                rw [if_pos c65] at H; have c65b0 := decide_eq_true c65; clear c65; obtain ⟨ji66, hji66⟩ : ∃ j_ : Int, (Int.tmod (wrap64 (x9_5 + 1)) (l0.length : Int)) = j_ := ⟨_, rfl⟩
                replace H : (if 0 ≤ (ji66) then (if (ji66) < (l0.length : Int) then ((spec_l03Meet.f ((rd_T91 l0 x5_3).f0) ((rd_T91 l0 x5_3).f1) ((rd_T91 l0 (ji16)).f0) ((rd_T91 l0 (ji16)).f1) ((rd_T91 l0 x9_5).f0) ((rd_T91 l0 x9_5).f1) ((rd_T91 l0 (ji66)).f0) ((rd_T91 l0 (ji66)).f1)).bind fun t218 => (if t218 = true then (some false) else (spec_l03Ok.l2 k5 l0 (l0.length : Int) x5_3 (wrap64 (x9_5 + 1)) ((rd_T91 l0 x5_3).f0) ((rd_T91 l0 x5_3).f1) ((rd_T91 l0 (ji16)).f0) ((rd_T91 l0 (ji16)).f1)))) else (none)) else (none)) = some r := by first | (rw [hji66] at H; exact H) | (simp only [hji66] at H ⊢; exact H)
                (try rw [hji66] at c62b0); (try rw [hji66] at c62b1)
                by_cases c67 : 0 ≤ (ji66)
                rotate_left
                · rw [if_neg c67] at H
                  exact absurd H (by simp)
                rw [if_pos c67] at H; have c67b0 := decide_eq_true c67; clear c67
                by_cases c68 : (ji66) < (l0.length : Int)
                rotate_left
                · rw [if_neg c68] at H
                  exact absurd H (by simp)
                rw [if_pos c68] at H; have c68b0 := decide_eq_true c68; clear c68; replace H := Option.bind_eq_some_iff.mp H; obtain ⟨t218, A690, H⟩ := H; have A69 := Aside0.mk A690; clear A690
                by_cases c70 : t218 = true
                · subst c70
                  rw [if_pos rfl] at H; obtain rfl := Option.some.inj H
                  try go_wp2
                  replace BK209 := Aside0.mk (blk_drew BK209.out); replace BK211 := Aside0.mk (blk_drew BK211.out); replace BK213 := Aside0.mk (blk_drew BK213.out); replace HB := Aside0.mk (below_drew1 HB.out); have p216 : 0 ≤ (x9_5 : Int) := zD; have q216 : x9_5 < (l0.length : Int) := zD; obtain ⟨ad216, e216, hx216_0, hx216_1⟩ := at_T91 HR0.out x9_5 p216 q216; have hw216_1 := hx216_1; have hw216_0 := hx216_0
                  obtain rfl : ad208 = ad216 := (by injection e216)
                  try replace hx216_0 := zH HB hx216_0
                  try replace hx216_1 := zH HB hx216_1
                  replace p216 := eq_true p216; replace q216 := eq_true q216; have p217 : 0 ≤ ((ji66) : Int) := zD; have q217 : (ji66) < (l0.length : Int) := zD; obtain ⟨ad217, e217, hx217_0, hx217_1⟩ := at_T91 HR0.out (ji66) p217 q217; have hw217_1 := hx217_1; have hw217_0 := hx217_0
                  obtain rfl : ad208 = ad217 := (by injection e217)
                  try replace hx217_0 := zH HB hx217_0
                  try replace hx217_1 := zH HB hx217_1
                  replace p217 := eq_true p217; replace q217 := eq_true q217
                  refine start_ (n := 22) (S := fun w' => w'.cell? ⟨gb209, 0, none⟩ = some (.int .i64 ((rd_T91 l0 x5_3).f0)) ∧ w'.cell? ⟨gb209, 1, none⟩ = some (.int .i64 ((rd_T91 l0 x5_3).f1)) ∧ w'.cell? ⟨gb211, 0, none⟩ = some (.int .i64 ((rd_T91 l0 (ji16)).f0)) ∧ w'.cell? ⟨gb211, 1, none⟩ = some (.int .i64 ((rd_T91 l0 (ji16)).f1)) ∧ w'.cell? (ad208.add ((x9_5).toNat * 2)) = some (.int .i64 ((rd_T91 l0 x9_5).f0)) ∧ w'.cell? ⟨(ad208.add ((x9_5).toNat * 2)).block, (ad208.add ((x9_5).toNat * 2)).off + 1, none⟩ = some (.int .i64 ((rd_T91 l0 x9_5).f1)) ∧ w'.cell? (ad208.add (((ji66)).toNat * 2)) = some (.int .i64 ((rd_T91 l0 (ji66)).f0)) ∧ w'.cell? ⟨(ad208.add (((ji66)).toNat * 2)).block, (ad208.add (((ji66)).toNat * 2)).off + 1, none⟩ = some (.int .i64 ((rd_T91 l0 (ji66)).f1))) (ds := []) (Array.replicate 22 false) (by kernel_rfl) rfl rfl ⟨zQ BK209 0, zQ BK209 1, zQ BK211 0, zQ BK211 1, (zH HB hw216_0), (zH HB hw216_1), (zH HB hw217_0), (zH HB hw217_1)⟩ (fun hHeld => ?_); refine with_tabW spec_l03Ok.tab20 spec_l03Ok.bits20 (fun HT_ HW_ => ?_)
                  generalize wr.drew = w71 at BK209 BK211 BK213 HB hx216_0 hx216_1 hx217_0 hx217_1 hHeld ⊢
                  refine zP 0 (some 74) (zb 22 1) HT_ ?_; refine zP 1 (some 75) (zb 22 3) HT_ ?_; refine zP 2 (some 76) (zb 22 7) HT_ ?_; refine zP 3 (some 77) (zb 22 15) HT_ ?_; refine zP 4 (some 78) (zb 22 31) HT_ ?_; refine zP 5 (some 79) (zb 22 63) HT_ ?_; refine zP 6 (some 80) (zb 22 127) HT_ ?_; refine zP 9 (some 83) (zb 22 639) HT_ ?_; refine zP 10 (some 84) (zb 22 1663) HT_ ?_; refine zP 11 (some 85) (zb 22 3711) HT_ ?_; refine zP 13 (some 87) (zb 22 11903) HT_ ?_; refine zP 14 (some 88) (zb 22 28287) HT_ ?_; refine zP 15 (some 89) (zb 22 61055) HT_ ?_; refine zP 16 (some 90) (zb 22 126591) HT_ ?_; refine zP 17 (some 91) (zb 22 257663) HT_ ?_; refine zP 18 (some 92) (zb 22 519807) HT_ ?_; refine zT8 7 (some 81) (zb 22 519935) HT_ HW_ hHeld ?_; refine zT8 8 (some 82) (zb 22 520191) HT_ HW_ hHeld ?_; refine zT8 12 (some 86) (zb 22 524287) HT_ HW_ hHeld ?_; refine zT8 19 (some 93) (zb 22 1048575) HT_ HW_ hHeld ?_
                  refine one_ (i := 20) (N := some 94) (zb 22 2097151) rfl rfl (one_of HT_.out (by kernel_rfl)) (by decide) (fun K hK => ?_)
                  refine goes_ Try.func89 (by kernel_rfl) rfl #[.agg #[.int .i64 ((rd_T91 l0 x5_3).f0), .int .i64 ((rd_T91 l0 x5_3).f1)], .agg #[.int .i64 ((rd_T91 l0 (ji16)).f0), .int .i64 ((rd_T91 l0 (ji16)).f1)], .agg #[.int .i64 ((rd_T91 l0 x9_5).f0), .int .i64 ((rd_T91 l0 x9_5).f1)], .agg #[.int .i64 ((rd_T91 l0 (ji66)).f0), .int .i64 ((rd_T91 l0 (ji66)).f1)]] (by rfl) rfl rfl (by (try simp only [List.map_toArray, List.map_cons, List.map_nil]); first | done | (simp only [hji16, hji66]; rfl) | rfl | (simp only [List.length_drop, List.length_take]; rfl)) ?_
                  with_reducible refine (spec_l03Meet.calls ((rd_T91 l0 x5_3).f0) ((rd_T91 l0 x5_3).f1) ((rd_T91 l0 (ji16)).f0) ((rd_T91 l0 (ji16)).f1) ((rd_T91 l0 x9_5).f0) ((rd_T91 l0 x9_5).f1) ((rd_T91 l0 (ji66)).f0) ((rd_T91 l0 (ji66)).f1) true _ A69.out).mono ?_; rintro e w72 ⟨rfl, hb⟩; refine ⟨_, rfl, ?_⟩; replace BK209 := zK BK209 hb; replace BK211 := zK BK211 hb; replace BK213 := zK BK213 hb; replace HB := zW (pB3 HB.out GE209.out GE211.out GE213.out) hb; (try clear hb); (try clear hb2); (try clear hk); (try clear hi)
                  refine hK.out _ _ ⟨zQ BK209 0, zQ BK209 1, zQ BK211 0, zQ BK211 1, (zH HB hw216_0), (zH HB hw216_1), (zH HB hw217_0), (zH HB hw217_1)⟩ (fun hHeld => ?_)
                  clear hK K; refine zN ?_; refine zP 21 (some 95) (zb 22 4194303) HT_ ?_
                  refine done_ (done_of HT_.out (by kernel_rfl)) ?_
                  try go_wp2
                  go_ret
                  exact ⟨by first | rfl | (simp [errW_none, errW_some] <;> rfl) | (simp only [← hji16, ← hji19, ← hji66]; first | rfl | (simp [errW_none, errW_some] <;> rfl)) | (simp [*, errW_none, errW_some] <;> rfl), pB3 HB.out GE209.out GE211.out GE213.out⟩
                replace c70 := Bool.eq_false_iff.mpr c70; subst c70
                rw [if_neg (show ¬ (false = true) by decide)] at H
                have H' := Aside0.mk H; clear H
                try go_wp2
                replace BK209 := Aside0.mk (blk_drew BK209.out); replace BK211 := Aside0.mk (blk_drew BK211.out); replace BK213 := Aside0.mk (blk_drew BK213.out); replace HB := Aside0.mk (below_drew1 HB.out); have p216 : 0 ≤ (x9_5 : Int) := zD; have q216 : x9_5 < (l0.length : Int) := zD; obtain ⟨ad216, e216, hx216_0, hx216_1⟩ := at_T91 HR0.out x9_5 p216 q216; have hw216_1 := hx216_1; have hw216_0 := hx216_0
                obtain rfl : ad208 = ad216 := (by injection e216)
                try replace hx216_0 := zH HB hx216_0
                try replace hx216_1 := zH HB hx216_1
                replace p216 := eq_true p216; replace q216 := eq_true q216; have p217 : 0 ≤ ((ji66) : Int) := zD; have q217 : (ji66) < (l0.length : Int) := zD; obtain ⟨ad217, e217, hx217_0, hx217_1⟩ := at_T91 HR0.out (ji66) p217 q217; have hw217_1 := hx217_1; have hw217_0 := hx217_0
                obtain rfl : ad208 = ad217 := (by injection e217)
                try replace hx217_0 := zH HB hx217_0
                try replace hx217_1 := zH HB hx217_1
                replace p217 := eq_true p217; replace q217 := eq_true q217
                refine start_ (n := 22) (S := fun w' => w'.cell? ⟨gb209, 0, none⟩ = some (.int .i64 ((rd_T91 l0 x5_3).f0)) ∧ w'.cell? ⟨gb209, 1, none⟩ = some (.int .i64 ((rd_T91 l0 x5_3).f1)) ∧ w'.cell? ⟨gb211, 0, none⟩ = some (.int .i64 ((rd_T91 l0 (ji16)).f0)) ∧ w'.cell? ⟨gb211, 1, none⟩ = some (.int .i64 ((rd_T91 l0 (ji16)).f1)) ∧ w'.cell? (ad208.add ((x9_5).toNat * 2)) = some (.int .i64 ((rd_T91 l0 x9_5).f0)) ∧ w'.cell? ⟨(ad208.add ((x9_5).toNat * 2)).block, (ad208.add ((x9_5).toNat * 2)).off + 1, none⟩ = some (.int .i64 ((rd_T91 l0 x9_5).f1)) ∧ w'.cell? (ad208.add (((ji66)).toNat * 2)) = some (.int .i64 ((rd_T91 l0 (ji66)).f0)) ∧ w'.cell? ⟨(ad208.add (((ji66)).toNat * 2)).block, (ad208.add (((ji66)).toNat * 2)).off + 1, none⟩ = some (.int .i64 ((rd_T91 l0 (ji66)).f1))) (ds := []) (Array.replicate 22 false) (by kernel_rfl) rfl rfl ⟨zQ BK209 0, zQ BK209 1, zQ BK211 0, zQ BK211 1, (zH HB hw216_0), (zH HB hw216_1), (zH HB hw217_0), (zH HB hw217_1)⟩ (fun hHeld => ?_); refine with_tabW spec_l03Ok.tab20 spec_l03Ok.bits20 (fun HT_ HW_ => ?_)
                generalize wr.drew = w73 at BK209 BK211 BK213 HB hx216_0 hx216_1 hx217_0 hx217_1 hHeld ⊢
                refine zP 0 (some 74) (zb 22 1) HT_ ?_; refine zP 1 (some 75) (zb 22 3) HT_ ?_; refine zP 2 (some 76) (zb 22 7) HT_ ?_; refine zP 3 (some 77) (zb 22 15) HT_ ?_; refine zP 4 (some 78) (zb 22 31) HT_ ?_; refine zP 5 (some 79) (zb 22 63) HT_ ?_; refine zP 6 (some 80) (zb 22 127) HT_ ?_; refine zP 9 (some 83) (zb 22 639) HT_ ?_; refine zP 10 (some 84) (zb 22 1663) HT_ ?_; refine zP 11 (some 85) (zb 22 3711) HT_ ?_; refine zP 13 (some 87) (zb 22 11903) HT_ ?_; refine zP 14 (some 88) (zb 22 28287) HT_ ?_; refine zP 15 (some 89) (zb 22 61055) HT_ ?_; refine zP 16 (some 90) (zb 22 126591) HT_ ?_; refine zP 17 (some 91) (zb 22 257663) HT_ ?_; refine zP 18 (some 92) (zb 22 519807) HT_ ?_; refine zT8 7 (some 81) (zb 22 519935) HT_ HW_ hHeld ?_; refine zT8 8 (some 82) (zb 22 520191) HT_ HW_ hHeld ?_; refine zT8 12 (some 86) (zb 22 524287) HT_ HW_ hHeld ?_; refine zT8 19 (some 93) (zb 22 1048575) HT_ HW_ hHeld ?_
                refine one_ (i := 20) (N := some 94) (zb 22 2097151) rfl rfl (one_of HT_.out (by kernel_rfl)) (by decide) (fun K hK => ?_)
                refine goes_ Try.func89 (by kernel_rfl) rfl #[.agg #[.int .i64 ((rd_T91 l0 x5_3).f0), .int .i64 ((rd_T91 l0 x5_3).f1)], .agg #[.int .i64 ((rd_T91 l0 (ji16)).f0), .int .i64 ((rd_T91 l0 (ji16)).f1)], .agg #[.int .i64 ((rd_T91 l0 x9_5).f0), .int .i64 ((rd_T91 l0 x9_5).f1)], .agg #[.int .i64 ((rd_T91 l0 (ji66)).f0), .int .i64 ((rd_T91 l0 (ji66)).f1)]] (by rfl) rfl rfl (by (try simp only [List.map_toArray, List.map_cons, List.map_nil]); first | done | (simp only [hji16, hji66]; rfl) | rfl | (simp only [List.length_drop, List.length_take]; rfl)) ?_
                with_reducible refine (spec_l03Meet.calls ((rd_T91 l0 x5_3).f0) ((rd_T91 l0 x5_3).f1) ((rd_T91 l0 (ji16)).f0) ((rd_T91 l0 (ji16)).f1) ((rd_T91 l0 x9_5).f0) ((rd_T91 l0 x9_5).f1) ((rd_T91 l0 (ji66)).f0) ((rd_T91 l0 (ji66)).f1) false _ A69.out).mono ?_; rintro e w74 ⟨rfl, hb⟩; refine ⟨_, rfl, ?_⟩; replace BK209 := zK BK209 hb; replace BK211 := zK BK211 hb; replace BK213 := zK BK213 hb; replace HB := zW (pB3 HB.out GE209.out GE211.out GE213.out) hb; (try clear hb); (try clear hb2); (try clear hk); (try clear hi)
                refine hK.out _ _ ⟨zQ BK209 0, zQ BK209 1, zQ BK211 0, zQ BK211 1, (zH HB hw216_0), (zH HB hw216_1), (zH HB hw217_0), (zH HB hw217_1)⟩ (fun hHeld => ?_)
                clear hK K; refine zN ?_; refine zP 21 (some 95) (zb 22 4194303) HT_ ?_
                refine done_ (done_of HT_.out (by kernel_rfl)) ?_
                try go_wp2
                go_roundg k5
                case measure => have := HJ1.out; have := HK2.out; have := HK3.out; have := HJ21.out; have := HK5.out; omega
                case rel => exact ⟨(wrap64 (x9_5 + 1)), zR, H', ⟨by have := HJ1.out; have := HK2.out; have := HK3.out; have := HJ21.out; have := HK5.out; omega⟩, ⟨pK BK209.out⟩, ⟨pK BK211.out⟩, ⟨pK BK213.out⟩, ⟨pB3 HB.out GE209.out GE211.out GE213.out⟩⟩
end Go.Proofs.Ytfiiakhpdkdebaa.PFnExactOffcutsOf

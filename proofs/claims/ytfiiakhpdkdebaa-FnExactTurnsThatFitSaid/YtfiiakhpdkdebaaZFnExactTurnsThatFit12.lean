/- What each function that a law reaches comes to, and the proof that its walk comes to it; laid by a program of this session. No condition. -/
import Derived.Test.YtfiiakhpdkdebaaZFnExactTurnsThatFit0
import Derived.Test.YtfiiakhpdkdebaaZFnExactTurnsThatFit7
import Derived.Test.YtfiiakhpdkdebaaZFnExactTurnsThatFit10
import Derived.Test.YtfiiakhpdkdebaaZFnExactTurnsThatFit11
namespace Go.Proofs.Ytfiiakhpdkdebaa.PFnExactTurnsThatFit
open Go.RowKit Go.Proofs.YtfiiakhpdkdebaaW.PrintWords Go.Proofs.YtfiiakhpdkdebaaW.PrintLast Go.Proofs.YtfiiakhpdkdebaaW.PrintMore
attribute [local go_sem] max2_int min2_int max_two min_two max_three min_three max_four min_four
set_option linter.unusedVariables false
set_option linter.unusedSimpArgs false
def spec_l12Turns.l0 : Nat → List (S36) → List Int → Int → Int → Int → Int → Int → Option (List Int)
 | 0, _, _, _, _, _, _, _ => none
 | k + 1, x1, x7, x8, x302000, x302001, x303000, x303001 => if x8 < 8 then (if (Int.tmod x8 2) = 1 then (if 0 < (x1.length : Int) then (if (wrap64 (x303001 - x302001)) ≤ ((rd_T36 x1 0).f4) then (if (wrap64 (x303000 - x302000)) ≤ ((rd_T36 x1 0).f5) then (if x7.length < 17592186044416 then (spec_l12Turns.l0 k x1 (x7 ++ [x8]) (wrap64 (x8 + 1)) x302000 x302001 x303000 x303001) else (none)) else (spec_l12Turns.l0 k x1 x7 (wrap64 (x8 + 1)) x302000 x302001 x303000 x303001)) else (spec_l12Turns.l0 k x1 x7 (wrap64 (x8 + 1)) x302000 x302001 x303000 x303001)) else (none)) else (if 0 < (x1.length : Int) then (if (wrap64 (x303000 - x302000)) ≤ ((rd_T36 x1 0).f4) then (if (wrap64 (x303001 - x302001)) ≤ ((rd_T36 x1 0).f5) then (if x7.length < 17592186044416 then (spec_l12Turns.l0 k x1 (x7 ++ [x8]) (wrap64 (x8 + 1)) x302000 x302001 x303000 x303001) else (none)) else (spec_l12Turns.l0 k x1 x7 (wrap64 (x8 + 1)) x302000 x302001 x303000 x303001)) else (spec_l12Turns.l0 k x1 x7 (wrap64 (x8 + 1)) x302000 x302001 x303000 x303001)) else (none))) else (some x7)
def spec_l12Turns.f (k : Nat) (l0 : List (S91)) (l1 : List (S36)) : Option (List Int) := (spec_l03Bounds.f k l0).bind fun bt297 => (spec_l12Turns.l0 k l1 (([] : List Int)) 0 bt297.1 bt297.2.1 bt297.2.2.1 bt297.2.2.2)
theorem spec_l12Turns.mono_l : ∀ k, (∀ y0 y1 y2 y3 y4 y5 y6, LeO (spec_l12Turns.l0 k y0 y1 y2 y3 y4 y5 y6) (spec_l12Turns.l0 (k + 1) y0 y1 y2 y3 y4 y5 y6))
 | 0 => fun _ _ _ _ _ _ _ r h => by simp [spec_l12Turns.l0] at h
 | k + 1 => by
   have ih0 := spec_l12Turns.mono_l k
   · intro y0 y1 y2 y3 y4 y5 y6
     unfold spec_l12Turns.l0
     repeat' first
     | (with_reducible exact ih0 _ _ _ _ _ _ _)
     | (with_reducible exact spec_l03Bounds.mono _ _)
     | (with_reducible exact LeO.refl _)
     | (with_reducible exact LeO.none _)
     | (with_reducible refine LeO.ite ?_ ?_)
     | (with_reducible refine LeO.bind ?_ (fun _ => ?_))
     | exact ih0 _ _ _ _ _ _ _
     | exact spec_l03Bounds.mono _ _
     | exact LeO.none _
     | refine LeO.ite ?_ ?_
     | refine LeO.bind ?_ (fun _ => ?_)
theorem spec_l12Turns.mono : ∀ a0 a1 k, LeO (spec_l12Turns.f k a0 a1) (spec_l12Turns.f (k + 1) a0 a1) := by
 intro a0 a1 k
 have ih0 := spec_l12Turns.mono_l k
 unfold spec_l12Turns.f
 repeat' first
  | (with_reducible exact ih0 _ _ _ _ _ _ _)
  | (with_reducible exact spec_l03Bounds.mono _ _)
  | (with_reducible exact LeO.refl _)
  | (with_reducible exact LeO.none _)
  | (with_reducible refine LeO.ite ?_ ?_)
  | (with_reducible refine LeO.bind ?_ (fun _ => ?_))
  | exact ih0 _ _ _ _ _ _ _
  | exact spec_l03Bounds.mono _ _
  | exact LeO.none _
  | refine LeO.ite ?_ ?_
  | refine LeO.bind ?_ (fun _ => ?_)
set_option maxHeartbeats 8000000 in
set_option maxRecDepth 100000 in
theorem spec_l12Turns.calls (k : Nat) (A0 : Option Addr) (c0 : Nat) (l0 : List (S91)) (A1 : Option Addr) (c1 : Nat) (l1 : List (S36)) (r : List Int) (w : World) (hr0 : Kd.C k91 w A0 l0.length l0) (hc0 : l0.length ≤ c0) (hr1 : Kd.C k36 w A1 l1.length l1) (hc1 : l1.length ≤ c1) (h : spec_l12Turns.f k l0 l1 = some r) :
 Calls Try.prog 51 #[.slice A0 l0.length c0, .pointer A1] w fun e w' => ∃ v0_ : Value, e = .returned (v0_) ∧ Kd.R (Kd.int .i64) 2 w' w.heap.size (fun _ => True) v0_ r ∧ Below w.heap.size w w' := by
 have hu91 := Try.underlying91
 have HR0 := Aside0.mk hr0
 have HC0 := Aside0.mk hc0
 clear hr0 hc0
 have HR1 := Aside0.mk hr1
 have HC1 := Aside0.mk hc1
 clear hr1 hc1
 have HB := Aside0.mk (Below.refl w.heap.size w)
 have H : ((spec_l03Bounds.f k l0).bind fun bt297 => (spec_l12Turns.l0 k l1 (([] : List Int)) 0 bt297.1 bt297.2.1 bt297.2.2.1 bt297.2.2.2)) = some r := h
 clear h
 replace H := Option.bind_eq_some_iff.mp H
 obtain ⟨⟨t297, t298, t299, t300⟩, A30, H⟩ := H
 replace H : (spec_l12Turns.l0 k l1 (([] : List Int)) 0 t297 t298 t299 t300) = some r := H
 have A3 := Aside0.mk A30
 clear A30
 obtain ⟨y303, hy303⟩ : ∃ y_ : List Int, y_ = (([] : List Int)) := ⟨_, rfl⟩
 replace H : (spec_l12Turns.l0 k l1 y303 0 t297 t298 t299 t300) = some r := by first | (rw [hy303]; with_reducible exact H) | (have H2_ := (Option.bind_some _ _).symm.trans H; rw [hy303]; with_reducible exact H2_) | (have H2_ := (Option.bind_some _ _).symm.trans H; with_reducible exact H2_) | with_reducible exact H | (rw [hy303]; exact H) | exact H
 have Ny303 := Aside0.mk hy303
 clear hy303
 have H' := Aside0.mk H
 clear H
 go_enter Try.func51, Try.ntmps51
 go_wp2_with (first | ((with_reducible refine gate_callee (f := 60) rfl ?_); refine goesL_ (some 13) rfl rfl Try.func60 (by kernel_rfl) rfl #[.slice A0 l0.length c0] rfl pA ?_; (with_reducible refine (spec_l03Bounds.calls k _ _ l0 t297 t298 t299 t300 _ ?side1 ?side2 A3.out).mono ?_); (case side1 => exact pC HR0.out); (case side2 => exact HC0.out); rintro e w4 ⟨rfl, hb⟩; refine ⟨_, rfl, ?_⟩; replace HB := zW (pB0 HB.out) hb; (try clear hb); (try clear hb2); (try clear hk); (try clear hi)) | ((with_reducible refine gate_dst (N := 5) rfl ?_); refine zB 5 #[.int .i64 0, .int .i64 0] 91 ?_; intro gb301 hg w5 hbox hb; have BK301 := Aside0.mk (hbox); have GW301 := zS (pB0 HB.out) hg; have GE301 := zS (pB0 HB.out) hg; replace HB := zW (pB0 HB.out) hb; clear hb hbox hg) | ((with_reducible refine gate_dst (N := 6) rfl ?_); refine zB 6 #[.int .i64 0, .int .i64 0] 91 ?_; intro gb302 hg w6 hbox hb; have BK302 := Aside0.mk (hbox); have GW302 := zS (pB1 HB.out GE301.out) hg; have GE302 := zS (pB1 HB.out GE301.out) hg; have NB301_302 := zL BK301 hg; have NB302_301 := zM BK301 hg; replace BK301 := zK BK301 hb; replace HB := zW (pB1 HB.out GE301.out) hb; clear hb hbox hg; have hnb7 := NB301_302.out; have hnc7 := NB302_301.out; obtain ⟨hcz8_0, hfz8_0, hcz8_1, hfz8_1⟩ := zw2 BK301; obtain ⟨hcz9_0, hfz9_0, hcz9_1, hfz9_1⟩ := zw2 BK302) | ((with_reducible refine gate_dst (N := 16) rfl ?_); refine Kd.R_lit (Kd.int .i64) _ 2 ?hg (N := 16) ?hd (xs := ([] : List Int)) (inner := []) (ok := fun _ => True) (okp := fun _ => True) ?hr ?hp (fun _ hk => hk) trivial (Below.refl _ _) (Nat.le_refl _) (by simp) ?_; (case hd => rfl); (case hg => rfl); (case hr => first | (go_simp; done) | (go_simp; rfl)); (case hp => exact (Reps.none _ _)); intro v304 w10 ho11 hb hg_ hnew_; clear hg_ hnew_; (first | rw [← Ny303.out] at ho11 | (simp only [Int.reduceToNat] at ho11; rw [← Ny303.out] at ho11)); have HO305 := Aside0.mk (Kd.R_lower ho11 (below_size (pB2 HB.out GE301.out GE302.out))); replace BK301 := Aside0.mk (blk_below (g := gb301) (o := .cells #[.int .i64 t297, .int .i64 t298] 91 (0, 0)) (by refine zf ?_ NB301_302; refine zf ?_ NB301_302; refine zg #[.int .i64 t297, .int .i64 0] 1 ?_; refine zg #[.int .i64 0, .int .i64 0] 0 ?_; exact pK BK301.out) hb); replace BK302 := Aside0.mk (blk_below (g := gb302) (o := .cells #[.int .i64 t299, .int .i64 t300] 91 (0, 0)) (by refine zg #[.int .i64 t299, .int .i64 0] 1 ?_; refine zg #[.int .i64 0, .int .i64 0] 0 ?_; refine zf ?_ NB302_301; refine zf ?_ NB302_301; exact pK BK302.out) hb); replace HB := zW (pB2 HB.out GE301.out GE302.out) hb; clear hb ho11))
 go_loopg [7, 8] k (fun kq v7 v8 w' => ∃ (x7_1 : List Int) (x8_1 : Int), v8 = .int .i64 x8_1 ∧ Aside0 (spec_l12Turns.l0 kq l1 x7_1 x8_1 t297 t298 t299 t300 = some r) ∧ Aside0 (kq ≤ k) ∧ Aside0 (Kd.R (Kd.int .i64) 2 w' w.heap.size (fun _ => True) v7 x7_1) ∧ Aside0 (w'.heap[gb301]? = some (.cells #[.int .i64 t297, .int .i64 t298] 91 (0, 0))) ∧ Aside0 (w'.heap[gb302]? = some (.cells #[.int .i64 t299, .int .i64 t300] 91 (0, 0))) ∧ Aside0 (Below w.heap.size w w'))
 case atStart => exact ⟨(y303), (0), zR, H', ⟨Nat.le_refl _⟩, ⟨pR HO305.out⟩, ⟨pK BK301.out⟩, ⟨pK BK302.out⟩, ⟨pB2 HB.out GE301.out GE302.out⟩⟩
 case round =>
  clear H'
  try clear c1
  try clear p2
  try clear c5
  try clear c6
  try clear c7
  try clear hcz8_0
  try clear hcz8_1
  try clear hcz9_0
  try clear hcz9_1
  try clear hfz8_0
  try clear hfz8_1
  try clear hfz9_0
  try clear hfz9_1
  obtain ⟨x7_1, x8_1, rfl, HA, HK1, HO_7, BK301, BK302, HB⟩ := hrel
  cases gk with
  | zero => exact absurd HA.out (by simp [spec_l12Turns.l0])
  | succ k1 =>
    have H := HA.out
    clear HA
    simp only [spec_l12Turns.l0] at H
    by_cases c12 : x8_1 < 8
    rotate_left
    · rw [if_neg c12] at H
      have c12b0 : decide (x8_1 < 8) = false := decide_eq_false c12
      clear c12
      obtain rfl := Option.some.inj H
      go_wp2
      go_ret
      exact ⟨_, zE, by (with_reducible repeat (first | apply Kd.R_alloc | apply Kd.R_drewN | apply Kd.R_drew)); exact HO_7.out, pB2 HB.out GE301.out GE302.out⟩
    rw [if_pos c12] at H
    have c12b0 := decide_eq_true c12
    clear c12
    by_cases c13 : (Int.tmod x8_1 2) = 1
    rotate_left
    · rw [if_neg c13] at H
      have c13b0 : ((Int.tmod x8_1 2) == 1) = false := beq_eq_false_iff_ne.mpr c13
      have c13b1 : ((Int.tmod x8_1 2) != 1) = true := bne_iff_ne.mpr c13
      by_cases c28 : 0 < (l1.length : Int)
      rotate_left
      · rw [if_neg c28] at H
        exact absurd H (by simp)
      rw [if_pos c28] at H
      have c28b0 := decide_eq_true c28
      have c28b1 : decide (0 < l1.length) = true := decide_eq_true (by omega)
      clear c28
      by_cases c29 : (wrap64 (t299 - t297)) ≤ ((rd_T36 l1 0).f4)
      rotate_left
      · rw [if_neg c29] at H
        have c29b0 : decide ((wrap64 (t299 - t297)) ≤ ((rd_T36 l1 0).f4)) = false := decide_eq_false c29
        clear c29
        have H' := Aside0.mk H
        clear H
        have hnb39 := NB302_301.out
        have hnc39 := NB301_302.out
        obtain ⟨hcz40_0, hfz40_0, hcz40_1, hfz40_1⟩ := zw2 BK302; obtain ⟨hcz41_0, hfz41_0, hcz41_1, hfz41_1⟩ := zw2 BK301
        have p310 : 0 ≤ (0 : Int) := (by omega)
        have q310 : 0 < (l1.length : Int) := zD
        obtain ⟨ad310, A310_8, c310_8, e310, hx310_0, hx310_1, hx310_2, hx310_3, hx310_4, hx310_5, hx310_6, hx310_7, hx310_8, hl310_8, hi310_8⟩ := at_T36 HR1.out 0 p310 q310
        cases e310
        have qi310 : (0 < l1.length) = True := eq_true (by omega)
        (try rw [z0, Nat.zero_mul, Addr.add_zero'] at hx310_0)
        (try rw [z0, Nat.zero_mul, Addr.add_zero'] at hx310_1)
        (try rw [z0, Nat.zero_mul, Addr.add_zero'] at hx310_2)
        (try rw [z0, Nat.zero_mul, Addr.add_zero'] at hx310_3)
        (try rw [z0, Nat.zero_mul, Addr.add_zero'] at hx310_4)
        (try rw [z0, Nat.zero_mul, Addr.add_zero'] at hx310_5)
        (try rw [z0, Nat.zero_mul, Addr.add_zero'] at hx310_6)
        (try rw [z0, Nat.zero_mul, Addr.add_zero'] at hx310_7)
        (try rw [z0, Nat.zero_mul, Addr.add_zero'] at hx310_8)
        try replace hx310_0 := zH HB hx310_0
        try replace hx310_1 := zH HB hx310_1
        try replace hx310_2 := zH HB hx310_2
        try replace hx310_3 := zH HB hx310_3
        try replace hx310_4 := zH HB hx310_4
        try replace hx310_5 := zH HB hx310_5
        try replace hx310_6 := zH HB hx310_6
        try replace hx310_7 := zH HB hx310_7
        try replace hx310_8 := zH HB hx310_8
        have HR310_8 := Aside0.mk hi310_8
        have HC310_8 := Aside0.mk hl310_8
        clear hi310_8 hl310_8
        replace p310 := eq_true p310
        replace q310 := eq_true q310
        go_wp2
        go_roundg k1
        case measure => have := HK1.out; omega
        case rel => exact ⟨(x7_1), (wrap64 (x8_1 + 1)), zR, H', ⟨by have := HK1.out; omega⟩, ⟨pR HO_7.out⟩, ⟨pK BK301.out⟩, ⟨pK BK302.out⟩, ⟨pB2 HB.out GE301.out GE302.out⟩⟩
      rw [if_pos c29] at H
      have c29b0 := decide_eq_true c29
      clear c29
      by_cases c30 : (wrap64 (t300 - t298)) ≤ ((rd_T36 l1 0).f5)
      rotate_left
      · rw [if_neg c30] at H
        have c30b0 : decide ((wrap64 (t300 - t298)) ≤ ((rd_T36 l1 0).f5)) = false := decide_eq_false c30
        clear c30
        have H' := Aside0.mk H
        clear H
        have hnb36 := NB302_301.out
        have hnc36 := NB301_302.out
        obtain ⟨hcz37_0, hfz37_0, hcz37_1, hfz37_1⟩ := zw2 BK302; obtain ⟨hcz38_0, hfz38_0, hcz38_1, hfz38_1⟩ := zw2 BK301
        have p310 : 0 ≤ (0 : Int) := (by omega)
        have q310 : 0 < (l1.length : Int) := zD
        obtain ⟨ad310, A310_8, c310_8, e310, hx310_0, hx310_1, hx310_2, hx310_3, hx310_4, hx310_5, hx310_6, hx310_7, hx310_8, hl310_8, hi310_8⟩ := at_T36 HR1.out 0 p310 q310
        cases e310
        have qi310 : (0 < l1.length) = True := eq_true (by omega)
        (try rw [z0, Nat.zero_mul, Addr.add_zero'] at hx310_0)
        (try rw [z0, Nat.zero_mul, Addr.add_zero'] at hx310_1)
        (try rw [z0, Nat.zero_mul, Addr.add_zero'] at hx310_2)
        (try rw [z0, Nat.zero_mul, Addr.add_zero'] at hx310_3)
        (try rw [z0, Nat.zero_mul, Addr.add_zero'] at hx310_4)
        (try rw [z0, Nat.zero_mul, Addr.add_zero'] at hx310_5)
        (try rw [z0, Nat.zero_mul, Addr.add_zero'] at hx310_6)
        (try rw [z0, Nat.zero_mul, Addr.add_zero'] at hx310_7)
        (try rw [z0, Nat.zero_mul, Addr.add_zero'] at hx310_8)
        try replace hx310_0 := zH HB hx310_0
        try replace hx310_1 := zH HB hx310_1
        try replace hx310_2 := zH HB hx310_2
        try replace hx310_3 := zH HB hx310_3
        try replace hx310_4 := zH HB hx310_4
        try replace hx310_5 := zH HB hx310_5
        try replace hx310_6 := zH HB hx310_6
        try replace hx310_7 := zH HB hx310_7
        try replace hx310_8 := zH HB hx310_8
        have HR310_8 := Aside0.mk hi310_8
        have HC310_8 := Aside0.mk hl310_8
        clear hi310_8 hl310_8
        replace p310 := eq_true p310
        replace q310 := eq_true q310
        go_wp2
        go_roundg k1
        case measure => have := HK1.out; omega
        case rel => exact ⟨(x7_1), (wrap64 (x8_1 + 1)), zR, H', ⟨by have := HK1.out; omega⟩, ⟨pR HO_7.out⟩, ⟨pK BK301.out⟩, ⟨pK BK302.out⟩, ⟨pB2 HB.out GE301.out GE302.out⟩⟩
      rw [if_pos c30] at H
      have c30b0 := decide_eq_true c30
      clear c30
      by_cases c31 : x7_1.length < 17592186044416
      rotate_left
      · rw [if_neg c31] at H
        exact absurd H (by simp)
      rw [if_pos c31] at H
      have LMc31 := Aside0.mk c31
      clear c31
      obtain ⟨y311, hy311⟩ : ∃ y_ : List Int, y_ = (x7_1 ++ [x8_1]) := ⟨_, rfl⟩
      replace H : (spec_l12Turns.l0 k1 l1 y311 (wrap64 (x8_1 + 1)) t297 t298 t299 t300) = some r := by first | (rw [hy311]; with_reducible exact H) | (have H2_ := (Option.bind_some _ _).symm.trans H; rw [hy311]; with_reducible exact H2_) | (have H2_ := (Option.bind_some _ _).symm.trans H; with_reducible exact H2_) | with_reducible exact H | (rw [hy311]; exact H) | exact H
      have Ny311 := Aside0.mk hy311
      clear hy311
      have H' := Aside0.mk H
      clear H
      have hnb32 := NB302_301.out
      have hnc32 := NB301_302.out
      obtain ⟨hcz33_0, hfz33_0, hcz33_1, hfz33_1⟩ := zw2 BK302; obtain ⟨hcz34_0, hfz34_0, hcz34_1, hfz34_1⟩ := zw2 BK301
      have p310 : 0 ≤ (0 : Int) := (by omega)
      have q310 : 0 < (l1.length : Int) := zD
      obtain ⟨ad310, A310_8, c310_8, e310, hx310_0, hx310_1, hx310_2, hx310_3, hx310_4, hx310_5, hx310_6, hx310_7, hx310_8, hl310_8, hi310_8⟩ := at_T36 HR1.out 0 p310 q310
      cases e310
      have qi310 : (0 < l1.length) = True := eq_true (by omega)
      (try rw [z0, Nat.zero_mul, Addr.add_zero'] at hx310_0)
      (try rw [z0, Nat.zero_mul, Addr.add_zero'] at hx310_1)
      (try rw [z0, Nat.zero_mul, Addr.add_zero'] at hx310_2)
      (try rw [z0, Nat.zero_mul, Addr.add_zero'] at hx310_3)
      (try rw [z0, Nat.zero_mul, Addr.add_zero'] at hx310_4)
      (try rw [z0, Nat.zero_mul, Addr.add_zero'] at hx310_5)
      (try rw [z0, Nat.zero_mul, Addr.add_zero'] at hx310_6)
      (try rw [z0, Nat.zero_mul, Addr.add_zero'] at hx310_7)
      (try rw [z0, Nat.zero_mul, Addr.add_zero'] at hx310_8)
      try replace hx310_0 := zH HB hx310_0
      try replace hx310_1 := zH HB hx310_1
      try replace hx310_2 := zH HB hx310_2
      try replace hx310_3 := zH HB hx310_3
      try replace hx310_4 := zH HB hx310_4
      try replace hx310_5 := zH HB hx310_5
      try replace hx310_6 := zH HB hx310_6
      try replace hx310_7 := zH HB hx310_7
      try replace hx310_8 := zH HB hx310_8
      have HR310_8 := Aside0.mk hi310_8
      have HC310_8 := Aside0.mk hl310_8
      clear hi310_8 hl310_8
      replace p310 := eq_true p310
      replace q310 := eq_true q310
      go_wp2_with (first | ((with_reducible refine gate_builtin (b := .append) (xs := #[.tmp 58, .tmp 60]) rfl ?_); at_builtin; refine Kd.R_append (Kd.int .i64) (w0 := w) w.heap.size rfl (.tmp 58) (.tmp 60) 41 2 (.int .i64 0) 8 rfl Try.underlying41 info2 rfl (by decide) (by omega) u7 x7_1 x8_1 [.int .i64 x8_1] (fun _ => True) (fun _ => False) rfl rfl ?aP (fun _ hk => hk.elim) ?aF ?aO ?aB ?aS ?aL ?_; (case aP => exact rfl); (case aB => exact (pB2 HB.out GE301.out GE302.out)); (case aF => exact (fun _ _ => trivial)); (case aO => exact (pR HO_7.out)); (case aS => exact (below_size (pB2 HB.out GE301.out GE302.out))); (case aL => have := LMc31.out; omega); intro v312 w35 ho hb hg hat; rw [← Ny311.out] at ho; have HO313 := Aside0.mk (ho); replace BK301 := Aside0.mk (blk_grown (g := gb301) (o := .cells #[.int .i64 t297, .int .i64 t298] 91 (0, 0)) (pK BK301.out) hg (Kd.R_ne HO_7.out BK301.out (by decide))); replace BK302 := Aside0.mk (blk_grown (g := gb302) (o := .cells #[.int .i64 t299, .int .i64 t300] 91 (0, 0)) (pK BK302.out) hg (Kd.R_ne HO_7.out BK302.out (by decide))); replace HB := Aside0.mk (hb); clear HO_7; clear ho hb hg hat))
      go_roundg k1
      case measure => have := HK1.out; omega
      case rel => exact ⟨(y311), (wrap64 (x8_1 + 1)), zR, H', ⟨by have := HK1.out; omega⟩, ⟨pR HO313.out⟩, ⟨pK BK301.out⟩, ⟨pK BK302.out⟩, ⟨pB2 HB.out GE301.out GE302.out⟩⟩
    rw [if_pos c13] at H
    have c13b0 : ((Int.tmod x8_1 2) == 1) = true := beq_iff_eq.mpr c13
    have c13b1 : ((Int.tmod x8_1 2) != 1) = false := bne_eq_false_iff_eq.mpr c13
    clear c13
    by_cases c14 : 0 < (l1.length : Int)
    rotate_left
    · rw [if_neg c14] at H
      exact absurd H (by simp)
    rw [if_pos c14] at H
    have c14b0 := decide_eq_true c14
    have c14b1 : decide (0 < l1.length) = true := decide_eq_true (by omega)
    clear c14
    by_cases c15 : (wrap64 (t300 - t298)) ≤ ((rd_T36 l1 0).f4)
    rotate_left
    · rw [if_neg c15] at H
      have c15b0 : decide ((wrap64 (t300 - t298)) ≤ ((rd_T36 l1 0).f4)) = false := decide_eq_false c15
      clear c15
      have H' := Aside0.mk H
      clear H
      have hnb25 := NB302_301.out
      have hnc25 := NB301_302.out
      obtain ⟨hcz26_0, hfz26_0, hcz26_1, hfz26_1⟩ := zw2 BK302; obtain ⟨hcz27_0, hfz27_0, hcz27_1, hfz27_1⟩ := zw2 BK301
      have p306 : 0 ≤ (0 : Int) := (by omega)
      have q306 : 0 < (l1.length : Int) := zD
      obtain ⟨ad306, A306_8, c306_8, e306, hx306_0, hx306_1, hx306_2, hx306_3, hx306_4, hx306_5, hx306_6, hx306_7, hx306_8, hl306_8, hi306_8⟩ := at_T36 HR1.out 0 p306 q306
      cases e306
      have qi306 : (0 < l1.length) = True := eq_true (by omega)
      (try rw [z0, Nat.zero_mul, Addr.add_zero'] at hx306_0)
      (try rw [z0, Nat.zero_mul, Addr.add_zero'] at hx306_1)
      (try rw [z0, Nat.zero_mul, Addr.add_zero'] at hx306_2)
      (try rw [z0, Nat.zero_mul, Addr.add_zero'] at hx306_3)
      (try rw [z0, Nat.zero_mul, Addr.add_zero'] at hx306_4)
      (try rw [z0, Nat.zero_mul, Addr.add_zero'] at hx306_5)
      (try rw [z0, Nat.zero_mul, Addr.add_zero'] at hx306_6)
      (try rw [z0, Nat.zero_mul, Addr.add_zero'] at hx306_7)
      (try rw [z0, Nat.zero_mul, Addr.add_zero'] at hx306_8)
      try replace hx306_0 := zH HB hx306_0
      try replace hx306_1 := zH HB hx306_1
      try replace hx306_2 := zH HB hx306_2
      try replace hx306_3 := zH HB hx306_3
      try replace hx306_4 := zH HB hx306_4
      try replace hx306_5 := zH HB hx306_5
      try replace hx306_6 := zH HB hx306_6
      try replace hx306_7 := zH HB hx306_7
      try replace hx306_8 := zH HB hx306_8
      have HR306_8 := Aside0.mk hi306_8
      have HC306_8 := Aside0.mk hl306_8
      clear hi306_8 hl306_8
      replace p306 := eq_true p306
      replace q306 := eq_true q306
      go_wp2
      go_roundg k1
      case measure => have := HK1.out; omega
      case rel => exact ⟨(x7_1), (wrap64 (x8_1 + 1)), zR, H', ⟨by have := HK1.out; omega⟩, ⟨pR HO_7.out⟩, ⟨pK BK301.out⟩, ⟨pK BK302.out⟩, ⟨pB2 HB.out GE301.out GE302.out⟩⟩
    rw [if_pos c15] at H
    have c15b0 := decide_eq_true c15
    clear c15
    by_cases c16 : (wrap64 (t299 - t297)) ≤ ((rd_T36 l1 0).f5)
    rotate_left
    · rw [if_neg c16] at H
      have c16b0 : decide ((wrap64 (t299 - t297)) ≤ ((rd_T36 l1 0).f5)) = false := decide_eq_false c16
      clear c16
      have H' := Aside0.mk H
      clear H
      have hnb22 := NB302_301.out
      have hnc22 := NB301_302.out
      obtain ⟨hcz23_0, hfz23_0, hcz23_1, hfz23_1⟩ := zw2 BK302; obtain ⟨hcz24_0, hfz24_0, hcz24_1, hfz24_1⟩ := zw2 BK301
      have p306 : 0 ≤ (0 : Int) := (by omega)
      have q306 : 0 < (l1.length : Int) := zD
      obtain ⟨ad306, A306_8, c306_8, e306, hx306_0, hx306_1, hx306_2, hx306_3, hx306_4, hx306_5, hx306_6, hx306_7, hx306_8, hl306_8, hi306_8⟩ := at_T36 HR1.out 0 p306 q306
      cases e306
      have qi306 : (0 < l1.length) = True := eq_true (by omega)
      (try rw [z0, Nat.zero_mul, Addr.add_zero'] at hx306_0)
      (try rw [z0, Nat.zero_mul, Addr.add_zero'] at hx306_1)
      (try rw [z0, Nat.zero_mul, Addr.add_zero'] at hx306_2)
      (try rw [z0, Nat.zero_mul, Addr.add_zero'] at hx306_3)
      (try rw [z0, Nat.zero_mul, Addr.add_zero'] at hx306_4)
      (try rw [z0, Nat.zero_mul, Addr.add_zero'] at hx306_5)
      (try rw [z0, Nat.zero_mul, Addr.add_zero'] at hx306_6)
      (try rw [z0, Nat.zero_mul, Addr.add_zero'] at hx306_7)
      (try rw [z0, Nat.zero_mul, Addr.add_zero'] at hx306_8)
      try replace hx306_0 := zH HB hx306_0
      try replace hx306_1 := zH HB hx306_1
      try replace hx306_2 := zH HB hx306_2
      try replace hx306_3 := zH HB hx306_3
      try replace hx306_4 := zH HB hx306_4
      try replace hx306_5 := zH HB hx306_5
      try replace hx306_6 := zH HB hx306_6
      try replace hx306_7 := zH HB hx306_7
      try replace hx306_8 := zH HB hx306_8
      have HR306_8 := Aside0.mk hi306_8
      have HC306_8 := Aside0.mk hl306_8
      clear hi306_8 hl306_8
      replace p306 := eq_true p306
      replace q306 := eq_true q306
      go_wp2
      go_roundg k1
      case measure => have := HK1.out; omega
      case rel => exact ⟨(x7_1), (wrap64 (x8_1 + 1)), zR, H', ⟨by have := HK1.out; omega⟩, ⟨pR HO_7.out⟩, ⟨pK BK301.out⟩, ⟨pK BK302.out⟩, ⟨pB2 HB.out GE301.out GE302.out⟩⟩
    rw [if_pos c16] at H
    have c16b0 := decide_eq_true c16
    clear c16
    by_cases c17 : x7_1.length < 17592186044416
    rotate_left
    · rw [if_neg c17] at H
      exact absurd H (by simp)
    rw [if_pos c17] at H
    have LMc17 := Aside0.mk c17
    clear c17
    obtain ⟨y307, hy307⟩ : ∃ y_ : List Int, y_ = (x7_1 ++ [x8_1]) := ⟨_, rfl⟩
    replace H : (spec_l12Turns.l0 k1 l1 y307 (wrap64 (x8_1 + 1)) t297 t298 t299 t300) = some r := by first | (rw [hy307]; with_reducible exact H) | (have H2_ := (Option.bind_some _ _).symm.trans H; rw [hy307]; with_reducible exact H2_) | (have H2_ := (Option.bind_some _ _).symm.trans H; with_reducible exact H2_) | with_reducible exact H | (rw [hy307]; exact H) | exact H
    have Ny307 := Aside0.mk hy307
    clear hy307
    have H' := Aside0.mk H
    clear H
    have hnb18 := NB302_301.out
    have hnc18 := NB301_302.out
    obtain ⟨hcz19_0, hfz19_0, hcz19_1, hfz19_1⟩ := zw2 BK302; obtain ⟨hcz20_0, hfz20_0, hcz20_1, hfz20_1⟩ := zw2 BK301
    have p306 : 0 ≤ (0 : Int) := (by omega)
    have q306 : 0 < (l1.length : Int) := zD
    obtain ⟨ad306, A306_8, c306_8, e306, hx306_0, hx306_1, hx306_2, hx306_3, hx306_4, hx306_5, hx306_6, hx306_7, hx306_8, hl306_8, hi306_8⟩ := at_T36 HR1.out 0 p306 q306
    cases e306
    have qi306 : (0 < l1.length) = True := eq_true (by omega)
    (try rw [z0, Nat.zero_mul, Addr.add_zero'] at hx306_0)
    (try rw [z0, Nat.zero_mul, Addr.add_zero'] at hx306_1)
    (try rw [z0, Nat.zero_mul, Addr.add_zero'] at hx306_2)
    (try rw [z0, Nat.zero_mul, Addr.add_zero'] at hx306_3)
    (try rw [z0, Nat.zero_mul, Addr.add_zero'] at hx306_4)
    (try rw [z0, Nat.zero_mul, Addr.add_zero'] at hx306_5)
    (try rw [z0, Nat.zero_mul, Addr.add_zero'] at hx306_6)
    (try rw [z0, Nat.zero_mul, Addr.add_zero'] at hx306_7)
    (try rw [z0, Nat.zero_mul, Addr.add_zero'] at hx306_8)
    try replace hx306_0 := zH HB hx306_0
    try replace hx306_1 := zH HB hx306_1
    try replace hx306_2 := zH HB hx306_2
    try replace hx306_3 := zH HB hx306_3
    try replace hx306_4 := zH HB hx306_4
    try replace hx306_5 := zH HB hx306_5
    try replace hx306_6 := zH HB hx306_6
    try replace hx306_7 := zH HB hx306_7
    try replace hx306_8 := zH HB hx306_8
    have HR306_8 := Aside0.mk hi306_8
    have HC306_8 := Aside0.mk hl306_8
    clear hi306_8 hl306_8
    replace p306 := eq_true p306
    replace q306 := eq_true q306
    go_wp2_with (first | ((with_reducible refine gate_builtin (b := .append) (xs := #[.tmp 58, .tmp 60]) rfl ?_); at_builtin; refine Kd.R_append (Kd.int .i64) (w0 := w) w.heap.size rfl (.tmp 58) (.tmp 60) 41 2 (.int .i64 0) 8 rfl Try.underlying41 info2 rfl (by decide) (by omega) u7 x7_1 x8_1 [.int .i64 x8_1] (fun _ => True) (fun _ => False) rfl rfl ?aP (fun _ hk => hk.elim) ?aF ?aO ?aB ?aS ?aL ?_; (case aP => exact rfl); (case aB => exact (pB2 HB.out GE301.out GE302.out)); (case aF => exact (fun _ _ => trivial)); (case aO => exact (pR HO_7.out)); (case aS => exact (below_size (pB2 HB.out GE301.out GE302.out))); (case aL => have := LMc17.out; omega); intro v308 w21 ho hb hg hat; rw [← Ny307.out] at ho; have HO309 := Aside0.mk (ho); replace BK301 := Aside0.mk (blk_grown (g := gb301) (o := .cells #[.int .i64 t297, .int .i64 t298] 91 (0, 0)) (pK BK301.out) hg (Kd.R_ne HO_7.out BK301.out (by decide))); replace BK302 := Aside0.mk (blk_grown (g := gb302) (o := .cells #[.int .i64 t299, .int .i64 t300] 91 (0, 0)) (pK BK302.out) hg (Kd.R_ne HO_7.out BK302.out (by decide))); replace HB := Aside0.mk (hb); clear HO_7; clear ho hb hg hat))
    go_roundg k1
    case measure => have := HK1.out; omega
    case rel => exact ⟨(y307), (wrap64 (x8_1 + 1)), zR, H', ⟨by have := HK1.out; omega⟩, ⟨pR HO309.out⟩, ⟨pK BK301.out⟩, ⟨pK BK302.out⟩, ⟨pB2 HB.out GE301.out GE302.out⟩⟩
def spec_TurnsThatFit.f (k : Nat) (l0 : List (S91)) (a1_0 : ByteArray) (a1_1 : ByteArray) (a1_2 : Int) (a1_3 : ByteArray) (a1_4 : Int) (a1_5 : Int) (a1_6 : Int) (a1_7 : Int) (l1_8 : List (S103)) : Option (List Int × Int) := (spec_l03Ok.f k l0).bind fun t315 => (if t315 = true then ((spec_l09One.f k [(⟨a1_0, a1_1, a1_2, (⟨a1_3, a1_4, a1_5⟩ : S33), a1_6, a1_7, l1_8⟩ : S36)]).bind fun t316 => (if t316 = true then ((spec_l12Turns.f k l0 [(⟨a1_0, a1_1, a1_2, (⟨a1_3, a1_4, a1_5⟩ : S33), a1_6, a1_7, l1_8⟩ : S36)]).bind fun t317 => (some (t317, 0))) else (some (([] : List Int), 1)))) else (some (([] : List Int), 1)))
theorem spec_TurnsThatFit.mono : ∀ a0 a1 a2 a3 a4 a5 a6 a7 a8 a9 k, LeO (spec_TurnsThatFit.f k a0 a1 a2 a3 a4 a5 a6 a7 a8 a9) (spec_TurnsThatFit.f (k + 1) a0 a1 a2 a3 a4 a5 a6 a7 a8 a9) := by
 intro a0 a1 a2 a3 a4 a5 a6 a7 a8 a9 k
 unfold spec_TurnsThatFit.f
 repeat' first
  | (with_reducible exact spec_l03Ok.mono _ _)
  | (with_reducible exact spec_l09One.mono _ _)
  | (with_reducible exact spec_l12Turns.mono _ _ _)
  | (with_reducible exact LeO.refl _)
  | (with_reducible exact LeO.none _)
  | (with_reducible refine LeO.ite ?_ ?_)
  | (with_reducible refine LeO.bind ?_ (fun _ => ?_))
  | exact spec_l03Ok.mono _ _
  | exact spec_l09One.mono _ _
  | exact spec_l12Turns.mono _ _ _
  | exact LeO.none _
  | refine LeO.ite ?_ ?_
  | refine LeO.bind ?_ (fun _ => ?_)
set_option maxHeartbeats 8000000 in
set_option maxRecDepth 100000 in
theorem spec_TurnsThatFit.calls (k : Nat) (A0 : Option Addr) (c0 : Nat) (l0 : List (S91)) (a1_0 : ByteArray) (a1_1 : ByteArray) (a1_2 : Int) (a1_3 : ByteArray) (a1_4 : Int) (a1_5 : Int) (a1_6 : Int) (a1_7 : Int) (A1_8 : Option Addr) (c1_8 : Nat) (l1_8 : List (S103)) (r1 : List Int) (r2 : Int) (w : World) (hr0 : Kd.C k91 w A0 l0.length l0) (hc0 : l0.length ≤ c0) (hr1_8 : Kd.C k103 w A1_8 l1_8.length l1_8) (hc1_8 : l1_8.length ≤ c1_8) (h : spec_TurnsThatFit.f k l0 a1_0 a1_1 a1_2 a1_3 a1_4 a1_5 a1_6 a1_7 l1_8 = some (r1, r2)) :
 Calls Try.prog 17 #[.slice A0 l0.length c0, .agg #[.string a1_0, .string a1_1, .int .i64 a1_2, .string a1_3, .int .i64 a1_4, .int .i64 a1_5, .int .i64 a1_6, .int .i64 a1_7, .slice A1_8 l1_8.length c1_8]] w fun e w' => ∃ v0_ : Value, e = .returned (.tuple #[v0_, .int .i64 r2]) ∧ Kd.R (Kd.int .i64) 2 w' w.heap.size (fun _ => True) v0_ r1 ∧ Below w.heap.size w w' := by
 have hu36 := Try.underlying36
 have HR0 := Aside0.mk hr0
 have HC0 := Aside0.mk hc0
 clear hr0 hc0
 have HR1_8 := Aside0.mk hr1_8
 have HC1_8 := Aside0.mk hc1_8
 clear hr1_8 hc1_8
 have HB := Aside0.mk (Below.refl w.heap.size w)
 have H : ((spec_l03Ok.f k l0).bind fun t315 => (if t315 = true then ((spec_l09One.f k [(⟨a1_0, a1_1, a1_2, (⟨a1_3, a1_4, a1_5⟩ : S33), a1_6, a1_7, l1_8⟩ : S36)]).bind fun t316 => (if t316 = true then ((spec_l12Turns.f k l0 [(⟨a1_0, a1_1, a1_2, (⟨a1_3, a1_4, a1_5⟩ : S33), a1_6, a1_7, l1_8⟩ : S36)]).bind fun t317 => (some (t317, 0))) else (some (([] : List Int), 1)))) else (some (([] : List Int), 1)))) = some (r1, r2) := h
 clear h
 replace H := Option.bind_eq_some_iff.mp H
 obtain ⟨t315, A30, H⟩ := H
 have A3 := Aside0.mk A30
 clear A30
 by_cases c4 : t315 = true
 rotate_left
 · replace c4 := Bool.eq_false_iff.mpr c4
   subst c4
   have H1 : (some (([] : List Int), 1)) = some (r1, r2) := by rw [if_neg (show ¬ (false = true) by decide)] at H; exact H
   clear H
   have H := H1
   clear H1
   simp only [Option.some.injEq, Prod.mk.injEq] at H
   obtain ⟨rfl, rfl⟩ := H
   go_enter Try.func17, Try.ntmps17
   go_wp2_with (first | ((with_reducible refine gate_dst (N := 3) rfl ?_); refine zB 3 #[.string a1_0, .string a1_1, .int .i64 a1_2, .string a1_3, .int .i64 a1_4, .int .i64 a1_5, .int .i64 a1_6, .int .i64 a1_7, .slice A1_8 l1_8.length c1_8] 36 ?_; intro gb314 hg w15 hbox hb; have BK314 := Aside0.mk (hbox); have GW314 := zS (pB0 HB.out) hg; have GE314 := zS (pB0 HB.out) hg; replace HB := zW (pB0 HB.out) hb; clear hb hbox hg) | ((with_reducible refine gate_callee (f := 49) rfl ?_); refine goesL_ (some 7) rfl rfl Try.func49 (by kernel_rfl) rfl #[.slice A0 l0.length c0] rfl pA ?_; (with_reducible refine (spec_l03Ok.calls k _ _ l0 false _ ?side1 ?side2 A3.out).mono ?_); (case side1 => exact pC (Kd.C_below HR0.out HB.out)); (case side2 => exact HC0.out); rintro e w16 ⟨rfl, hb⟩; refine ⟨_, rfl, ?_⟩; replace BK314 := zK BK314 hb; replace HB := zW (pB1 HB.out GE314.out) hb; (try clear hb); (try clear hb2); (try clear hk); (try clear hi)))
   go_ret2
   exact ⟨_, zE, by first | exact Kd.R_nil _ _ _ _ _ | exact Kd.N_nil _ _ _ _ _ | exact Kd.V_nil _ _ _ _ _ | exact Kd.Q_nil _ _ _ _ _ | exact Kd.S_nil _ _ _ _ _, pB1 HB.out GE314.out⟩
 subst c4
 have H1 : ((spec_l09One.f k [(⟨a1_0, a1_1, a1_2, (⟨a1_3, a1_4, a1_5⟩ : S33), a1_6, a1_7, l1_8⟩ : S36)]).bind fun t316 => (if t316 = true then ((spec_l12Turns.f k l0 [(⟨a1_0, a1_1, a1_2, (⟨a1_3, a1_4, a1_5⟩ : S33), a1_6, a1_7, l1_8⟩ : S36)]).bind fun t317 => (some (t317, 0))) else (some (([] : List Int), 1)))) = some (r1, r2) := by rw [if_pos rfl] at H; exact H
 clear H
 have H := H1
 clear H1
 replace H := Option.bind_eq_some_iff.mp H
 obtain ⟨t316, A50, H⟩ := H
 have A5 := Aside0.mk A50
 clear A50
 by_cases c6 : t316 = true
 rotate_left
 · replace c6 := Bool.eq_false_iff.mpr c6
   subst c6
   have H1 : (some (([] : List Int), 1)) = some (r1, r2) := by rw [if_neg (show ¬ (false = true) by decide)] at H; exact H
   clear H
   have H := H1
   clear H1
   simp only [Option.some.injEq, Prod.mk.injEq] at H
   obtain ⟨rfl, rfl⟩ := H
   go_enter Try.func17, Try.ntmps17
   go_wp2_with (first | ((with_reducible refine gate_dst (N := 3) rfl ?_); refine zB 3 #[.string a1_0, .string a1_1, .int .i64 a1_2, .string a1_3, .int .i64 a1_4, .int .i64 a1_5, .int .i64 a1_6, .int .i64 a1_7, .slice A1_8 l1_8.length c1_8] 36 ?_; intro gb314 hg w12 hbox hb; have BK314 := Aside0.mk (hbox); have GW314 := zS (pB0 HB.out) hg; have GE314 := zS (pB0 HB.out) hg; replace HB := zW (pB0 HB.out) hb; clear hb hbox hg) | ((with_reducible refine gate_callee (f := 49) rfl ?_); refine goesL_ (some 7) rfl rfl Try.func49 (by kernel_rfl) rfl #[.slice A0 l0.length c0] rfl pA ?_; (with_reducible refine (spec_l03Ok.calls k _ _ l0 true _ ?side1 ?side2 A3.out).mono ?_); (case side1 => exact pC (Kd.C_below HR0.out HB.out)); (case side2 => exact HC0.out); rintro e w13 ⟨rfl, hb⟩; refine ⟨_, rfl, ?_⟩; replace BK314 := zK BK314 hb; replace HB := zW (pB1 HB.out GE314.out) hb; (try clear hb); (try clear hb2); (try clear hk); (try clear hi)) | (go_at_call 50; (with_reducible refine (spec_l09One.calls k _ 1 [(⟨a1_0, a1_1, a1_2, (⟨a1_3, a1_4, a1_5⟩ : S33), a1_6, a1_7, l1_8⟩ : S36)] false _ ?side1 ?side2 A5.out).mono ?_); (case side1 => exact C_box (cs := #[.string a1_0, .string a1_1, .int .i64 a1_2, .string a1_3, .int .i64 a1_4, .int .i64 a1_5, .int .i64 a1_6, .int .i64 a1_7, .slice A1_8 l1_8.length c1_8]) (t := 36) (pK BK314.out) (k36_mk _ _ (by exact HC1_8.out) (by exact pC (Kd.C_below HR1_8.out HB.out)))); (case side2 => exact Nat.le_refl _); rintro e w14 ⟨rfl, hb⟩; replace BK314 := zK BK314 hb; replace HB := zW (pB1 HB.out GE314.out) hb; (try clear hb); (try clear hb2); (try clear hk); (try clear hi)))
   go_ret2
   exact ⟨_, zE, by first | exact Kd.R_nil _ _ _ _ _ | exact Kd.N_nil _ _ _ _ _ | exact Kd.V_nil _ _ _ _ _ | exact Kd.Q_nil _ _ _ _ _ | exact Kd.S_nil _ _ _ _ _, pB1 HB.out GE314.out⟩
 subst c6
 have H1 : ((spec_l12Turns.f k l0 [(⟨a1_0, a1_1, a1_2, (⟨a1_3, a1_4, a1_5⟩ : S33), a1_6, a1_7, l1_8⟩ : S36)]).bind fun t317 => (some (t317, 0))) = some (r1, r2) := by rw [if_pos rfl] at H; exact H
 clear H
 have H := H1
 clear H1
 replace H := Option.bind_eq_some_iff.mp H
 obtain ⟨t317, A70, H⟩ := H
 have A7 := Aside0.mk A70
 clear A70
 simp only [Option.some.injEq, Prod.mk.injEq] at H
 obtain ⟨rfl, rfl⟩ := H
 go_enter Try.func17, Try.ntmps17
 go_wp2_with (first | ((with_reducible refine gate_dst (N := 3) rfl ?_); refine zB 3 #[.string a1_0, .string a1_1, .int .i64 a1_2, .string a1_3, .int .i64 a1_4, .int .i64 a1_5, .int .i64 a1_6, .int .i64 a1_7, .slice A1_8 l1_8.length c1_8] 36 ?_; intro gb314 hg w8 hbox hb; have BK314 := Aside0.mk (hbox); have GW314 := zS (pB0 HB.out) hg; have GE314 := zS (pB0 HB.out) hg; replace HB := zW (pB0 HB.out) hb; clear hb hbox hg) | ((with_reducible refine gate_callee (f := 49) rfl ?_); refine goesL_ (some 7) rfl rfl Try.func49 (by kernel_rfl) rfl #[.slice A0 l0.length c0] rfl pA ?_; (with_reducible refine (spec_l03Ok.calls k _ _ l0 true _ ?side1 ?side2 A3.out).mono ?_); (case side1 => exact pC (Kd.C_below HR0.out HB.out)); (case side2 => exact HC0.out); rintro e w9 ⟨rfl, hb⟩; refine ⟨_, rfl, ?_⟩; replace BK314 := zK BK314 hb; replace HB := zW (pB1 HB.out GE314.out) hb; (try clear hb); (try clear hb2); (try clear hk); (try clear hi)) | (go_at_call 50; (with_reducible refine (spec_l09One.calls k _ 1 [(⟨a1_0, a1_1, a1_2, (⟨a1_3, a1_4, a1_5⟩ : S33), a1_6, a1_7, l1_8⟩ : S36)] true _ ?side1 ?side2 A5.out).mono ?_); (case side1 => exact C_box (cs := #[.string a1_0, .string a1_1, .int .i64 a1_2, .string a1_3, .int .i64 a1_4, .int .i64 a1_5, .int .i64 a1_6, .int .i64 a1_7, .slice A1_8 l1_8.length c1_8]) (t := 36) (pK BK314.out) (k36_mk _ _ (by exact HC1_8.out) (by exact pC (Kd.C_below HR1_8.out HB.out)))); (case side2 => exact Nat.le_refl _); rintro e w10 ⟨rfl, hb⟩; replace BK314 := zK BK314 hb; replace HB := zW (pB1 HB.out GE314.out) hb; (try clear hb); (try clear hb2); (try clear hk); (try clear hi)) | ((with_reducible refine gate_callee (f := 51) rfl ?_); refine goesL_ (some 14) rfl rfl Try.func51 (by kernel_rfl) rfl #[.slice A0 l0.length c0, .pointer (some ⟨gb314, 0, none⟩)] rfl pA ?_; (with_reducible refine (spec_l12Turns.calls k _ _ l0 _ 1 [(⟨a1_0, a1_1, a1_2, (⟨a1_3, a1_4, a1_5⟩ : S33), a1_6, a1_7, l1_8⟩ : S36)] t317 _ ?side1 ?side2 ?side3 ?side4 A7.out).mono ?_); (case side1 => exact pC (Kd.C_below HR0.out HB.out)); (case side2 => exact HC0.out); (case side3 => exact C_box (cs := #[.string a1_0, .string a1_1, .int .i64 a1_2, .string a1_3, .int .i64 a1_4, .int .i64 a1_5, .int .i64 a1_6, .int .i64 a1_7, .slice A1_8 l1_8.length c1_8]) (t := 36) (pK BK314.out) (k36_mk _ _ (by exact HC1_8.out) (by exact pC (Kd.C_below HR1_8.out HB.out)))); (case side4 => exact Nat.le_refl _); rintro e w11 ⟨v318, rfl, ho0, hb⟩; refine ⟨_, rfl, ?_⟩; have HO319 := Aside0.mk (Kd.R_lower ho0 (below_size (pB1 HB.out GE314.out))); replace BK314 := zK BK314 hb; replace HB := zW (pB1 HB.out GE314.out) hb; (try clear hb); (try clear hb2); (try clear hk); (try clear hi); (try clear ho0)))
 go_ret2
 exact ⟨_, zE, by (with_reducible repeat (first | apply Kd.R_alloc | apply Kd.R_drewN | apply Kd.R_drew)); exact HO319.out, pB1 HB.out GE314.out⟩
def impl_within.f (a0 : Int) (a1 : Int) (a2 : Int) : Option (Bool) := if a0 ≥ a1 then (some (decide (a0 ≤ a2))) else (some false)
set_option maxHeartbeats 8000000 in
set_option maxRecDepth 100000 in
theorem impl_within.calls (a0 : Int) (a1 : Int) (a2 : Int) (r : Bool) (w : World) (h : impl_within.f a0 a1 a2 = some r) :
 Calls Try.prog 83 #[.int .i64 a0, .int .i64 a1, .int .i64 a2] w fun e w' => e = .returned (.bool r) ∧ Drawn0 w w' := by
 have H : (if a0 ≥ a1 then (some (decide (a0 ≤ a2))) else (some false)) = some r := h
 clear h
 by_cases c4 : a0 ≥ a1
 · rw [if_pos c4] at H
   have c4b0 := decide_eq_true c4
   clear c4
   obtain rfl := Option.some.inj H
   go_enter Try.func83, Try.ntmps83
   go_wp2
   go_ret
   exact ⟨by first | rfl | (simp; done) | (simp [*]; done), by repeat (first | exact Drawn0.refl _ | apply Drawn0.step)⟩
 rw [if_neg c4] at H
 have c4b0 : decide (a1 ≤ a0) = false := decide_eq_false c4
 clear c4
 obtain rfl := Option.some.inj H
 go_enter Try.func83, Try.ntmps83
 go_wp2
 go_ret
 exact ⟨by first | rfl | (simp; done) | (simp [*]; done), by repeat (first | exact Drawn0.refl _ | apply Drawn0.step)⟩
def impl_ValidPoint.f (a0_0 : Int) (a0_1 : Int) : Option (Bool) := (impl_within.f a0_0 0 20000).bind fun t321 => (if t321 = true then ((impl_within.f a0_1 0 20000).bind fun t322 => (some t322)) else (some false))
set_option maxHeartbeats 8000000 in
set_option maxRecDepth 100000 in
theorem impl_ValidPoint.calls (a0_0 : Int) (a0_1 : Int) (r : Bool) (w : World) (h : impl_ValidPoint.f a0_0 a0_1 = some r) :
 Calls Try.prog 132 #[.agg #[.int .i64 a0_0, .int .i64 a0_1]] w fun e w' => e = .returned (.bool r) ∧ Below w.heap.size w w' := by
 have hu91 := Try.underlying91
 have HB := Aside0.mk (Below.refl w.heap.size w)
 have H : ((impl_within.f a0_0 0 20000).bind fun t321 => (if t321 = true then ((impl_within.f a0_1 0 20000).bind fun t322 => (some t322)) else (some false))) = some r := h
 clear h
 replace H := Option.bind_eq_some_iff.mp H
 obtain ⟨t321, A20, H⟩ := H
 have A2 := Aside0.mk A20
 clear A20
 by_cases c3 : t321 = true
 rotate_left
 · replace c3 := Bool.eq_false_iff.mpr c3
   subst c3
   have H1 : (some false) = some r := by rw [if_neg (show ¬ (false = true) by decide)] at H; exact H
   clear H
   have H := H1
   clear H1
   obtain rfl := Option.some.inj H
   go_enter Try.func132, Try.ntmps132
   go_wp2_with (first | ((with_reducible refine gate_dst (N := 1) rfl ?_); refine zB 1 #[.int .i64 a0_0, .int .i64 a0_1] 91 ?_; intro gb320 hg w7 hbox hb; have BK320 := Aside0.mk (hbox); have GW320 := zS (pB0 HB.out) hg; have GE320 := zS (pB0 HB.out) hg; replace HB := zW (pB0 HB.out) hb; clear hb hbox hg; obtain ⟨hcz8_0, hfz8_0, hcz8_1, hfz8_1⟩ := zw2 BK320) | ((with_reducible refine gate_callee (f := 83) rfl ?_); refine goesL_ (some 5) rfl rfl Try.func83 (by kernel_rfl) rfl #[.int .i64 a0_0, .int .i64 0, .int .i64 20000] rfl pA ?_; (with_reducible refine (impl_within.calls a0_0 0 20000 false _ A2.out).mono ?_); rintro e w' ⟨rfl, ⟨nd, rfl⟩⟩; refine ⟨_, rfl, ?_⟩))
   go_ret
   exact ⟨zE, pB1 HB.out GE320.out⟩
 subst c3
 have H1 : ((impl_within.f a0_1 0 20000).bind fun t322 => (some t322)) = some r := by rw [if_pos rfl] at H; exact H
 clear H
 have H := H1
 clear H1
 replace H := Option.bind_eq_some_iff.mp H
 obtain ⟨t322, A40, H⟩ := H
 have A4 := Aside0.mk A40
 clear A40
 obtain rfl := Option.some.inj H
 go_enter Try.func132, Try.ntmps132
 go_wp2_with (first | ((with_reducible refine gate_dst (N := 1) rfl ?_); refine zB 1 #[.int .i64 a0_0, .int .i64 a0_1] 91 ?_; intro gb320 hg w5 hbox hb; have BK320 := Aside0.mk (hbox); have GW320 := zS (pB0 HB.out) hg; have GE320 := zS (pB0 HB.out) hg; replace HB := zW (pB0 HB.out) hb; clear hb hbox hg; obtain ⟨hcz6_0, hfz6_0, hcz6_1, hfz6_1⟩ := zw2 BK320) | ((with_reducible refine gate_callee (f := 83) rfl ?_); refine goesL_ (some 5) rfl rfl Try.func83 (by kernel_rfl) rfl #[.int .i64 a0_0, .int .i64 0, .int .i64 20000] rfl pA ?_; (with_reducible refine (impl_within.calls a0_0 0 20000 true _ A2.out).mono ?_); rintro e w' ⟨rfl, ⟨nd, rfl⟩⟩; refine ⟨_, rfl, ?_⟩) | (go_at_call 83; (with_reducible refine (impl_within.calls a0_1 0 20000 t322 _ A4.out).mono ?_); rintro e w' ⟨rfl, ⟨nd, rfl⟩⟩))
 go_ret
 exact ⟨zE, pB1 HB.out GE320.out⟩
def impl_validPoints.l0 : Nat → List (S91) → Int → Int → Option (Bool)
 | 0, _, _, _ => none
 | k + 1, x5, x6, x7 => if x7 < x6 then (if 0 ≤ x7 then (if x7 < (x5.length : Int) then ((impl_ValidPoint.f ((rd_T91 x5 x7).f0) ((rd_T91 x5 x7).f1)).bind fun t325 => (if t325 = true then (impl_validPoints.l0 k x5 x6 (wrap64 (x7 + 1))) else (some false))) else (none)) else (none)) else (some true)
def impl_validPoints.f (k : Nat) (l0 : List (S91)) : Option (Bool) := impl_validPoints.l0 k l0 (l0.length : Int) 0
theorem impl_validPoints.mono_l : ∀ k, (∀ y0 y1 y2, LeO (impl_validPoints.l0 k y0 y1 y2) (impl_validPoints.l0 (k + 1) y0 y1 y2))
 | 0 => fun _ _ _ r h => by simp [impl_validPoints.l0] at h
 | k + 1 => by
   have ih0 := impl_validPoints.mono_l k
   · intro y0 y1 y2
     unfold impl_validPoints.l0
     repeat' first
     | (with_reducible exact ih0 _ _ _)
     | (with_reducible exact LeO.refl _)
     | (with_reducible exact LeO.none _)
     | (with_reducible refine LeO.ite ?_ ?_)
     | (with_reducible refine LeO.bind ?_ (fun _ => ?_))
     | exact ih0 _ _ _
     | exact LeO.none _
     | refine LeO.ite ?_ ?_
     | refine LeO.bind ?_ (fun _ => ?_)
theorem impl_validPoints.mono : ∀ a0 k, LeO (impl_validPoints.f k a0) (impl_validPoints.f (k + 1) a0) := by
 intro a0 k
 have ih0 := impl_validPoints.mono_l k
 unfold impl_validPoints.f
 repeat' first
  | (with_reducible exact ih0 _ _ _)
  | (with_reducible exact LeO.refl _)
  | (with_reducible exact LeO.none _)
  | (with_reducible refine LeO.ite ?_ ?_)
  | (with_reducible refine LeO.bind ?_ (fun _ => ?_))
  | exact ih0 _ _ _
  | exact LeO.none _
  | refine LeO.ite ?_ ?_
  | refine LeO.bind ?_ (fun _ => ?_)
set_option maxHeartbeats 8000000 in
set_option maxRecDepth 100000 in
theorem impl_validPoints.calls (k : Nat) (A0 : Option Addr) (c0 : Nat) (l0 : List (S91)) (r : Bool) (w : World) (hr0 : Kd.C k91 w A0 l0.length l0) (hc0 : l0.length ≤ c0) (h : impl_validPoints.f k l0 = some r) :
 Calls Try.prog 95 #[.slice A0 l0.length c0] w fun e w' => e = .returned (.bool r) ∧ Below w.heap.size w w' := by
 have hu91 := Try.underlying91
 have HR0 := Aside0.mk hr0
 have HC0 := Aside0.mk hc0
 clear hr0 hc0
 have HB := Aside0.mk (Below.refl w.heap.size w)
 have H : (impl_validPoints.l0 k l0 (l0.length : Int) 0) = some r := h
 clear h
 have H' := Aside0.mk H
 clear H
 go_enter Try.func95, Try.ntmps95
 go_wp2
 go_loopg [7] k (fun kq v7 w' => ∃ (x7_1 : Int), v7 = .int .i64 x7_1 ∧ Aside0 (impl_validPoints.l0 kq l0 (l0.length : Int) x7_1 = some r) ∧ Aside0 (kq ≤ k) ∧ Aside0 (Below w.heap.size w w'))
 case atStart => exact ⟨(0), zR, H', ⟨Nat.le_refl _⟩, ⟨pB0 HB.out⟩⟩
 case round =>
  clear H'
  obtain ⟨x7_1, rfl, HA, HK1, HB⟩ := hrel
  cases gk with
  | zero => exact absurd HA.out (by simp [impl_validPoints.l0])
  | succ k1 =>
    have H := HA.out
    clear HA
    simp only [impl_validPoints.l0] at H
    by_cases c2 : x7_1 < (l0.length : Int)
    rotate_left
    · rw [if_neg c2] at H
      have c2b0 : decide (x7_1 < (l0.length : Int)) = false := decide_eq_false c2
      clear c2
      obtain rfl := Option.some.inj H
      go_wp2
      go_ret
      exact ⟨zE, pB0 HB.out⟩
    rw [if_pos c2] at H
    have c2b0 := decide_eq_true c2
    clear c2
    by_cases c3 : 0 ≤ x7_1
    rotate_left
    · rw [if_neg c3] at H
      exact absurd H (by simp)
    rw [if_pos c3] at H
    have c3b0 := decide_eq_true c3
    clear c3
    by_cases c4 : x7_1 < (l0.length : Int)
    rotate_left
    · rw [if_neg c4] at H
      exact absurd H (by simp)
    rw [if_pos c4] at H
    have c4b0 := decide_eq_true c4
    clear c4
    replace H := Option.bind_eq_some_iff.mp H
    obtain ⟨t325, A50, H⟩ := H
    have A5 := Aside0.mk A50
    clear A50
    by_cases c6 : t325 = true
    rotate_left
    · replace c6 := Bool.eq_false_iff.mpr c6
      subst c6
      have H1 : (some false) = some r := by rw [if_neg (show ¬ (false = true) by decide)] at H; exact H
      clear H
      have H := H1
      clear H1
      obtain rfl := Option.some.inj H
      have p323 : 0 ≤ (x7_1 : Int) := zD
      have q323 : x7_1 < (l0.length : Int) := zD
      obtain ⟨ad323, e323, hx323_0, hx323_1⟩ := at_T91 HR0.out x7_1 p323 q323
      cases e323
      try replace hx323_0 := zH HB hx323_0
      try replace hx323_1 := zH HB hx323_1
      replace p323 := eq_true p323
      replace q323 := eq_true q323
      go_wp2_with (first | ((with_reducible refine gate_dst (N := 4) rfl ?_); refine zB 4 #[.int .i64 0, .int .i64 0] 91 ?_; intro gb324 hg w10 hbox hb; have BK324 := Aside0.mk (hbox); have GW324 := zS (pB0 HB.out) hg; have GE324 := zS (pB0 HB.out) hg; replace HB := zW (pB0 HB.out) hb; clear hb hbox hg; obtain ⟨hcz11_0, hfz11_0, hcz11_1, hfz11_1⟩ := zw2 BK324) | ((with_reducible refine gate_callee (f := 132) rfl ?_); refine goesL_ (some 12) rfl rfl Try.func132 (by kernel_rfl) rfl #[.agg #[.int .i64 ((rd_T91 l0 x7_1).f0), .int .i64 ((rd_T91 l0 x7_1).f1)]] rfl pA ?_; (with_reducible refine (impl_ValidPoint.calls ((rd_T91 l0 x7_1).f0) ((rd_T91 l0 x7_1).f1) false _ A5.out).mono ?_); rintro e w12 ⟨rfl, hb⟩; refine ⟨_, rfl, ?_⟩; replace BK324 := Aside0.mk (blk_below (g := gb324) (o := .cells #[.int .i64 ((rd_T91 l0 x7_1).f0), .int .i64 ((rd_T91 l0 x7_1).f1)] 91 (0, 0)) (by refine zg #[.int .i64 ((rd_T91 l0 x7_1).f0), .int .i64 0] 1 ?_; refine zg #[.int .i64 0, .int .i64 0] 0 ?_; exact pK BK324.out) hb); replace HB := zW (pB1 HB.out GE324.out) hb; (try clear hb); (try clear hb2); (try clear hk); (try clear hi)))
      go_ret
      exact ⟨zE, pB1 HB.out GE324.out⟩
    subst c6
    have H1 : (impl_validPoints.l0 k1 l0 (l0.length : Int) (wrap64 (x7_1 + 1))) = some r := by rw [if_pos rfl] at H; exact H
    clear H
    have H := H1
    clear H1
    have H' := Aside0.mk H
    clear H
    have p323 : 0 ≤ (x7_1 : Int) := zD
    have q323 : x7_1 < (l0.length : Int) := zD
    obtain ⟨ad323, e323, hx323_0, hx323_1⟩ := at_T91 HR0.out x7_1 p323 q323
    cases e323
    try replace hx323_0 := zH HB hx323_0
    try replace hx323_1 := zH HB hx323_1
    replace p323 := eq_true p323
    replace q323 := eq_true q323
    go_wp2_with (first | ((with_reducible refine gate_dst (N := 4) rfl ?_); refine zB 4 #[.int .i64 0, .int .i64 0] 91 ?_; intro gb324 hg w7 hbox hb; have BK324 := Aside0.mk (hbox); have GW324 := zS (pB0 HB.out) hg; have GE324 := zS (pB0 HB.out) hg; replace HB := zW (pB0 HB.out) hb; clear hb hbox hg; obtain ⟨hcz8_0, hfz8_0, hcz8_1, hfz8_1⟩ := zw2 BK324) | ((with_reducible refine gate_callee (f := 132) rfl ?_); refine goesL_ (some 12) rfl rfl Try.func132 (by kernel_rfl) rfl #[.agg #[.int .i64 ((rd_T91 l0 x7_1).f0), .int .i64 ((rd_T91 l0 x7_1).f1)]] rfl pA ?_; (with_reducible refine (impl_ValidPoint.calls ((rd_T91 l0 x7_1).f0) ((rd_T91 l0 x7_1).f1) true _ A5.out).mono ?_); rintro e w9 ⟨rfl, hb⟩; refine ⟨_, rfl, ?_⟩; replace BK324 := Aside0.mk (blk_below (g := gb324) (o := .cells #[.int .i64 ((rd_T91 l0 x7_1).f0), .int .i64 ((rd_T91 l0 x7_1).f1)] 91 (0, 0)) (by refine zg #[.int .i64 ((rd_T91 l0 x7_1).f0), .int .i64 0] 1 ?_; refine zg #[.int .i64 0, .int .i64 0] 0 ?_; exact pK BK324.out) hb); replace HB := zW (pB1 HB.out GE324.out) hb; (try clear hb); (try clear hb2); (try clear hk); (try clear hi)))
    go_roundg k1
    case measure => have := HK1.out; omega
    case rel => exact ⟨(wrap64 (x7_1 + 1)), zR, H', ⟨by have := HK1.out; omega⟩, ⟨pB1 HB.out GE324.out⟩⟩
def impl_side.f (a0_0 : Int) (a0_1 : Int) (a1_0 : Int) (a1_1 : Int) (a2_0 : Int) (a2_1 : Int) : Option (Int) := if (wrap64 ((wrap64 ((wrap64 (a1_0 - a0_0)) * (wrap64 (a2_1 - a0_1)))) - (wrap64 ((wrap64 (a1_1 - a0_1)) * (wrap64 (a2_0 - a0_0)))))) > 0 then (some 1) else (if (wrap64 ((wrap64 ((wrap64 (a1_0 - a0_0)) * (wrap64 (a2_1 - a0_1)))) - (wrap64 ((wrap64 (a1_1 - a0_1)) * (wrap64 (a2_0 - a0_0)))))) < 0 then (some (-1)) else (some 0))
set_option maxHeartbeats 8000000 in
set_option maxRecDepth 100000 in
theorem impl_side.calls (a0_0 : Int) (a0_1 : Int) (a1_0 : Int) (a1_1 : Int) (a2_0 : Int) (a2_1 : Int) (r : Int) (w : World) (h : impl_side.f a0_0 a0_1 a1_0 a1_1 a2_0 a2_1 = some r) :
 Calls Try.prog 133 #[.agg #[.int .i64 a0_0, .int .i64 a0_1], .agg #[.int .i64 a1_0, .int .i64 a1_1], .agg #[.int .i64 a2_0, .int .i64 a2_1]] w fun e w' => e = .returned (.int .i64 r) ∧ Below w.heap.size w w' := by
 have hu91 := Try.underlying91
 have HB := Aside0.mk (Below.refl w.heap.size w)
 have H : (if (wrap64 ((wrap64 ((wrap64 (a1_0 - a0_0)) * (wrap64 (a2_1 - a0_1)))) - (wrap64 ((wrap64 (a1_1 - a0_1)) * (wrap64 (a2_0 - a0_0)))))) > 0 then (some 1) else (if (wrap64 ((wrap64 ((wrap64 (a1_0 - a0_0)) * (wrap64 (a2_1 - a0_1)))) - (wrap64 ((wrap64 (a1_1 - a0_1)) * (wrap64 (a2_0 - a0_0)))))) < 0 then (some (-1)) else (some 0))) = some r := h
 clear h
 by_cases c4 : (wrap64 ((wrap64 ((wrap64 (a1_0 - a0_0)) * (wrap64 (a2_1 - a0_1)))) - (wrap64 ((wrap64 (a1_1 - a0_1)) * (wrap64 (a2_0 - a0_0)))))) > 0
 · rw [if_pos c4] at H
   have c4b0 := decide_eq_true c4
   clear c4
   obtain rfl := Option.some.inj H
   go_enter Try.func133, Try.ntmps133
   go_wp2_with (first | ((with_reducible refine gate_dst (N := 3) rfl ?_); refine zB 3 #[.int .i64 a0_0, .int .i64 a0_1] 91 ?_; intro gb326 hg w5 hbox hb; have BK326 := Aside0.mk (hbox); have GW326 := zS (pB0 HB.out) hg; have GE326 := zS (pB0 HB.out) hg; replace HB := zW (pB0 HB.out) hb; clear hb hbox hg) | ((with_reducible refine gate_dst (N := 4) rfl ?_); refine zB 4 #[.int .i64 a1_0, .int .i64 a1_1] 91 ?_; intro gb327 hg w6 hbox hb; have BK327 := Aside0.mk (hbox); have GW327 := zS (pB1 HB.out GE326.out) hg; have GE327 := zS (pB1 HB.out GE326.out) hg; have NB326_327 := zL BK326 hg; have NB327_326 := zM BK326 hg; replace BK326 := zK BK326 hb; replace HB := zW (pB1 HB.out GE326.out) hb; clear hb hbox hg) | ((with_reducible refine gate_dst (N := 5) rfl ?_); refine zB 5 #[.int .i64 a2_0, .int .i64 a2_1] 91 ?_; intro gb328 hg w7 hbox hb; have BK328 := Aside0.mk (hbox); have GW328 := zS (pB2 HB.out GE326.out GE327.out) hg; have GE328 := zS (pB2 HB.out GE326.out GE327.out) hg; have NB326_328 := zL BK326 hg; have NB328_326 := zM BK326 hg; have NB327_328 := zL BK327 hg; have NB328_327 := zM BK327 hg; replace BK326 := zK BK326 hb; replace BK327 := zK BK327 hb; replace HB := zW (pB2 HB.out GE326.out GE327.out) hb; clear hb hbox hg; have hnb8 := NB327_326.out; have hnc8 := NB326_327.out; have hnb9 := NB327_328.out; have hnc9 := NB328_327.out; obtain ⟨hcz10_0, hfz10_0, hcz10_1, hfz10_1⟩ := zw2 BK327; have hnb11 := NB326_328.out; have hnc11 := NB328_326.out; obtain ⟨hcz12_0, hfz12_0, hcz12_1, hfz12_1⟩ := zw2 BK326; obtain ⟨hcz13_0, hfz13_0, hcz13_1, hfz13_1⟩ := zw2 BK328))
   go_ret
   exact ⟨zE, pB3 HB.out GE326.out GE327.out GE328.out⟩
 rw [if_neg c4] at H
 have c4b0 : decide (0 < (wrap64 ((wrap64 ((wrap64 (a1_0 - a0_0)) * (wrap64 (a2_1 - a0_1)))) - (wrap64 ((wrap64 (a1_1 - a0_1)) * (wrap64 (a2_0 - a0_0))))))) = false := decide_eq_false c4
 clear c4
 by_cases c14 : (wrap64 ((wrap64 ((wrap64 (a1_0 - a0_0)) * (wrap64 (a2_1 - a0_1)))) - (wrap64 ((wrap64 (a1_1 - a0_1)) * (wrap64 (a2_0 - a0_0)))))) < 0
 · rw [if_pos c14] at H
   have c14b0 := decide_eq_true c14
   clear c14
   obtain rfl := Option.some.inj H
   go_enter Try.func133, Try.ntmps133
   go_wp2_with (first | ((with_reducible refine gate_dst (N := 3) rfl ?_); refine zB 3 #[.int .i64 a0_0, .int .i64 a0_1] 91 ?_; intro gb326 hg w15 hbox hb; have BK326 := Aside0.mk (hbox); have GW326 := zS (pB0 HB.out) hg; have GE326 := zS (pB0 HB.out) hg; replace HB := zW (pB0 HB.out) hb; clear hb hbox hg) | ((with_reducible refine gate_dst (N := 4) rfl ?_); refine zB 4 #[.int .i64 a1_0, .int .i64 a1_1] 91 ?_; intro gb327 hg w16 hbox hb; have BK327 := Aside0.mk (hbox); have GW327 := zS (pB1 HB.out GE326.out) hg; have GE327 := zS (pB1 HB.out GE326.out) hg; have NB326_327 := zL BK326 hg; have NB327_326 := zM BK326 hg; replace BK326 := zK BK326 hb; replace HB := zW (pB1 HB.out GE326.out) hb; clear hb hbox hg) | ((with_reducible refine gate_dst (N := 5) rfl ?_); refine zB 5 #[.int .i64 a2_0, .int .i64 a2_1] 91 ?_; intro gb328 hg w17 hbox hb; have BK328 := Aside0.mk (hbox); have GW328 := zS (pB2 HB.out GE326.out GE327.out) hg; have GE328 := zS (pB2 HB.out GE326.out GE327.out) hg; have NB326_328 := zL BK326 hg; have NB328_326 := zM BK326 hg; have NB327_328 := zL BK327 hg; have NB328_327 := zM BK327 hg; replace BK326 := zK BK326 hb; replace BK327 := zK BK327 hb; replace HB := zW (pB2 HB.out GE326.out GE327.out) hb; clear hb hbox hg; have hnb18 := NB327_326.out; have hnc18 := NB326_327.out; have hnb19 := NB327_328.out; have hnc19 := NB328_327.out; obtain ⟨hcz20_0, hfz20_0, hcz20_1, hfz20_1⟩ := zw2 BK327; have hnb21 := NB326_328.out; have hnc21 := NB328_326.out; obtain ⟨hcz22_0, hfz22_0, hcz22_1, hfz22_1⟩ := zw2 BK326; obtain ⟨hcz23_0, hfz23_0, hcz23_1, hfz23_1⟩ := zw2 BK328))
   go_ret
   exact ⟨zE, pB3 HB.out GE326.out GE327.out GE328.out⟩
 rw [if_neg c14] at H
 have c14b0 : decide ((wrap64 ((wrap64 ((wrap64 (a1_0 - a0_0)) * (wrap64 (a2_1 - a0_1)))) - (wrap64 ((wrap64 (a1_1 - a0_1)) * (wrap64 (a2_0 - a0_0)))))) < 0) = false := decide_eq_false c14
 clear c14
 obtain rfl := Option.some.inj H
 go_enter Try.func133, Try.ntmps133
 go_wp2_with (first | ((with_reducible refine gate_dst (N := 3) rfl ?_); refine zB 3 #[.int .i64 a0_0, .int .i64 a0_1] 91 ?_; intro gb326 hg w24 hbox hb; have BK326 := Aside0.mk (hbox); have GW326 := zS (pB0 HB.out) hg; have GE326 := zS (pB0 HB.out) hg; replace HB := zW (pB0 HB.out) hb; clear hb hbox hg) | ((with_reducible refine gate_dst (N := 4) rfl ?_); refine zB 4 #[.int .i64 a1_0, .int .i64 a1_1] 91 ?_; intro gb327 hg w25 hbox hb; have BK327 := Aside0.mk (hbox); have GW327 := zS (pB1 HB.out GE326.out) hg; have GE327 := zS (pB1 HB.out GE326.out) hg; have NB326_327 := zL BK326 hg; have NB327_326 := zM BK326 hg; replace BK326 := zK BK326 hb; replace HB := zW (pB1 HB.out GE326.out) hb; clear hb hbox hg) | ((with_reducible refine gate_dst (N := 5) rfl ?_); refine zB 5 #[.int .i64 a2_0, .int .i64 a2_1] 91 ?_; intro gb328 hg w26 hbox hb; have BK328 := Aside0.mk (hbox); have GW328 := zS (pB2 HB.out GE326.out GE327.out) hg; have GE328 := zS (pB2 HB.out GE326.out GE327.out) hg; have NB326_328 := zL BK326 hg; have NB328_326 := zM BK326 hg; have NB327_328 := zL BK327 hg; have NB328_327 := zM BK327 hg; replace BK326 := zK BK326 hb; replace BK327 := zK BK327 hb; replace HB := zW (pB2 HB.out GE326.out GE327.out) hb; clear hb hbox hg; have hnb27 := NB327_326.out; have hnc27 := NB326_327.out; have hnb28 := NB327_328.out; have hnc28 := NB328_327.out; obtain ⟨hcz29_0, hfz29_0, hcz29_1, hfz29_1⟩ := zw2 BK327; have hnb30 := NB326_328.out; have hnc30 := NB328_326.out; obtain ⟨hcz31_0, hfz31_0, hcz31_1, hfz31_1⟩ := zw2 BK326; obtain ⟨hcz32_0, hfz32_0, hcz32_1, hfz32_1⟩ := zw2 BK328))
 go_ret
 exact ⟨zE, pB3 HB.out GE326.out GE327.out GE328.out⟩
end Go.Proofs.Ytfiiakhpdkdebaa.PFnExactTurnsThatFit

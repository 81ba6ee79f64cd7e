/- What each function that a law reaches comes to, and the proof that its walk comes to it; laid by a program of this session. No condition. -/
import Derived.Test.YtfiiakhpdkdebaaZFnExactFitsLeaf0
import Derived.Test.YtfiiakhpdkdebaaZFnExactFitsLeaf5
import Derived.Test.YtfiiakhpdkdebaaZFnExactFitsLeaf8
import Derived.Test.YtfiiakhpdkdebaaZFnExactFitsLeaf9
namespace Go.Proofs.Ytfiiakhpdkdebaa.PFnExactFitsLeaf
open Go.RowKit Go.Proofs.YtfiiakhpdkdebaaW.PrintWords Go.Proofs.YtfiiakhpdkdebaaW.PrintLast Go.Proofs.YtfiiakhpdkdebaaW.PrintMore
attribute [local go_sem] max2_int min2_int max_two min_two max_three min_three max_four min_four
set_option linter.unusedVariables false
set_option linter.unusedSimpArgs false
def spec_l12Turns.l0 : Nat → List (S36) → List Int → Int → Int → Int → Int → Int → Option (List Int)
 | 0, _, _, _, _, _, _, _ => none
 | k + 1, x1, x7, x8, x252000, x252001, x253000, x253001 => if x8 < 8 then (if (Int.tmod x8 2) = 1 then (if 0 < (x1.length : Int) then (if (wrap64 (x253001 - x252001)) ≤ ((rd_T36 x1 0).f4) then (if (wrap64 (x253000 - x252000)) ≤ ((rd_T36 x1 0).f5) then (if x7.length < 17592186044416 then (spec_l12Turns.l0 k x1 (x7 ++ [x8]) (wrap64 (x8 + 1)) x252000 x252001 x253000 x253001) else (none)) else (spec_l12Turns.l0 k x1 x7 (wrap64 (x8 + 1)) x252000 x252001 x253000 x253001)) else (spec_l12Turns.l0 k x1 x7 (wrap64 (x8 + 1)) x252000 x252001 x253000 x253001)) else (none)) else (if 0 < (x1.length : Int) then (if (wrap64 (x253000 - x252000)) ≤ ((rd_T36 x1 0).f4) then (if (wrap64 (x253001 - x252001)) ≤ ((rd_T36 x1 0).f5) then (if x7.length < 17592186044416 then (spec_l12Turns.l0 k x1 (x7 ++ [x8]) (wrap64 (x8 + 1)) x252000 x252001 x253000 x253001) else (none)) else (spec_l12Turns.l0 k x1 x7 (wrap64 (x8 + 1)) x252000 x252001 x253000 x253001)) else (spec_l12Turns.l0 k x1 x7 (wrap64 (x8 + 1)) x252000 x252001 x253000 x253001)) else (none))) else (some x7)
def spec_l12Turns.f (k : Nat) (l0 : List (S91)) (l1 : List (S36)) : Option (List Int) := (spec_l03Bounds.f k l0).bind fun bt247 => (spec_l12Turns.l0 k l1 (([] : List Int)) 0 bt247.1 bt247.2.1 bt247.2.2.1 bt247.2.2.2)
theorem spec_l12Turns.mono_l : ∀ k, (∀ y0 y1 y2 y3 y4 y5 y6, LeO (spec_l12Turns.l0 k y0 y1 y2 y3 y4 y5 y6) (spec_l12Turns.l0 (k + 1) y0 y1 y2 y3 y4 y5 y6))
 | 0 => fun _ _ _ _ _ _ _ r h => by simp [spec_l12Turns.l0] at h
 | k + 1 => by
   have ih0 := spec_l12Turns.mono_l k
   · intro y0 y1 y2 y3 y4 y5 y6
     unfold spec_l12Turns.l0
     repeat' first
     | (with_reducible exact ih0 _ _ _ _ _ _ _)
     | (with_reducible exact spec_l03Bounds.mono _ _)
     | (with_reducible exact LeO.refl _)
     | (with_reducible exact LeO.none _)
     | (with_reducible refine LeO.ite ?_ ?_)
     | (with_reducible refine LeO.bind ?_ (fun _ => ?_))
     | exact ih0 _ _ _ _ _ _ _
     | exact spec_l03Bounds.mono _ _
     | exact LeO.none _
     | refine LeO.ite ?_ ?_
     | refine LeO.bind ?_ (fun _ => ?_)
theorem spec_l12Turns.mono : ∀ a0 a1 k, LeO (spec_l12Turns.f k a0 a1) (spec_l12Turns.f (k + 1) a0 a1) := by
 intro a0 a1 k
 have ih0 := spec_l12Turns.mono_l k
 unfold spec_l12Turns.f
 repeat' first
  | (with_reducible exact ih0 _ _ _ _ _ _ _)
  | (with_reducible exact spec_l03Bounds.mono _ _)
  | (with_reducible exact LeO.refl _)
  | (with_reducible exact LeO.none _)
  | (with_reducible refine LeO.ite ?_ ?_)
  | (with_reducible refine LeO.bind ?_ (fun _ => ?_))
  | exact ih0 _ _ _ _ _ _ _
  | exact spec_l03Bounds.mono _ _
  | exact LeO.none _
  | refine LeO.ite ?_ ?_
  | refine LeO.bind ?_ (fun _ => ?_)
set_option maxHeartbeats 8000000 in
set_option maxRecDepth 100000 in
theorem spec_l12Turns.calls (k : Nat) (A0 : Option Addr) (c0 : Nat) (l0 : List (S91)) (A1 : Option Addr) (c1 : Nat) (l1 : List (S36)) (r : List Int) (w : World) (hr0 : Kd.C k91 w A0 l0.length l0) (hc0 : l0.length ≤ c0) (hr1 : Kd.C k36 w A1 l1.length l1) (hc1 : l1.length ≤ c1) (h : spec_l12Turns.f k l0 l1 = some r) :
 Calls Try.prog 51 #[.slice A0 l0.length c0, .pointer A1] w fun e w' => ∃ v0_ : Value, e = .returned (v0_) ∧ Kd.R (Kd.int .i64) 2 w' w.heap.size (fun _ => True) v0_ r ∧ Below w.heap.size w w' := by
 have hu91 := Try.underlying91
 have HR0 := Aside0.mk hr0
 have HC0 := Aside0.mk hc0
 clear hr0 hc0
 have HR1 := Aside0.mk hr1
 have HC1 := Aside0.mk hc1
 clear hr1 hc1
 have HB := Aside0.mk (Below.refl w.heap.size w)
 have H : ((spec_l03Bounds.f k l0).bind fun bt247 => (spec_l12Turns.l0 k l1 (([] : List Int)) 0 bt247.1 bt247.2.1 bt247.2.2.1 bt247.2.2.2)) = some r := h
 clear h
 replace H := Option.bind_eq_some_iff.mp H
 obtain ⟨⟨t247, t248, t249, t250⟩, A30, H⟩ := H
 replace H : (spec_l12Turns.l0 k l1 (([] : List Int)) 0 t247 t248 t249 t250) = some r := H
 have A3 := Aside0.mk A30
 clear A30
 obtain ⟨y253, hy253⟩ : ∃ y_ : List Int, y_ = (([] : List Int)) := ⟨_, rfl⟩
 replace H : (spec_l12Turns.l0 k l1 y253 0 t247 t248 t249 t250) = some r := by first | (rw [hy253]; with_reducible exact H) | (have H2_ := (Option.bind_some _ _).symm.trans H; rw [hy253]; with_reducible exact H2_) | (have H2_ := (Option.bind_some _ _).symm.trans H; with_reducible exact H2_) | with_reducible exact H | (rw [hy253]; exact H) | exact H
 have Ny253 := Aside0.mk hy253
 clear hy253
 have H' := Aside0.mk H
 clear H
 go_enter Try.func51, Try.ntmps51
 go_wp2_with (first | ((with_reducible refine gate_callee (f := 60) rfl ?_); refine goesL_ (some 13) rfl rfl Try.func60 (by kernel_rfl) rfl #[.slice A0 l0.length c0] rfl pA ?_; (with_reducible refine (spec_l03Bounds.calls k _ _ l0 t247 t248 t249 t250 _ ?side1 ?side2 A3.out).mono ?_); (case side1 => exact pC HR0.out); (case side2 => exact HC0.out); rintro e w4 ⟨rfl, hb⟩; refine ⟨_, rfl, ?_⟩; replace HB := zW (pB0 HB.out) hb; (try clear hb); (try clear hb2); (try clear hk); (try clear hi)) | ((with_reducible refine gate_dst (N := 5) rfl ?_); refine zB 5 #[.int .i64 0, .int .i64 0] 91 ?_; intro gb251 hg w5 hbox hb; have BK251 := Aside0.mk (hbox); have GW251 := zS (pB0 HB.out) hg; have GE251 := zS (pB0 HB.out) hg; replace HB := zW (pB0 HB.out) hb; clear hb hbox hg) | ((with_reducible refine gate_dst (N := 6) rfl ?_); refine zB 6 #[.int .i64 0, .int .i64 0] 91 ?_; intro gb252 hg w6 hbox hb; have BK252 := Aside0.mk (hbox); have GW252 := zS (pB1 HB.out GE251.out) hg; have GE252 := zS (pB1 HB.out GE251.out) hg; have NB251_252 := zL BK251 hg; have NB252_251 := zM BK251 hg; replace BK251 := zK BK251 hb; replace HB := zW (pB1 HB.out GE251.out) hb; clear hb hbox hg; have hnb7 := NB251_252.out; have hnc7 := NB252_251.out; obtain ⟨hcz8_0, hfz8_0, hcz8_1, hfz8_1⟩ := zw2 BK251; obtain ⟨hcz9_0, hfz9_0, hcz9_1, hfz9_1⟩ := zw2 BK252) | ((with_reducible refine gate_dst (N := 16) rfl ?_); refine Kd.R_lit (Kd.int .i64) _ 2 ?hg (N := 16) ?hd (xs := ([] : List Int)) (inner := []) (ok := fun _ => True) (okp := fun _ => True) ?hr ?hp (fun _ hk => hk) trivial (Below.refl _ _) (Nat.le_refl _) (by simp) ?_; (case hd => rfl); (case hg => rfl); (case hr => first | (go_simp; done) | (go_simp; rfl)); (case hp => exact (Reps.none _ _)); intro v254 w10 ho11 hb hg_ hnew_; clear hg_ hnew_; (first | rw [← Ny253.out] at ho11 | (simp only [Int.reduceToNat] at ho11; rw [← Ny253.out] at ho11)); have HO255 := Aside0.mk (Kd.R_lower ho11 (below_size (pB2 HB.out GE251.out GE252.out))); replace BK251 := Aside0.mk (blk_below (g := gb251) (o := .cells #[.int .i64 t247, .int .i64 t248] 91 (0, 0)) (by refine zf ?_ NB251_252; refine zf ?_ NB251_252; refine zg #[.int .i64 t247, .int .i64 0] 1 ?_; refine zg #[.int .i64 0, .int .i64 0] 0 ?_; exact pK BK251.out) hb); replace BK252 := Aside0.mk (blk_below (g := gb252) (o := .cells #[.int .i64 t249, .int .i64 t250] 91 (0, 0)) (by refine zg #[.int .i64 t249, .int .i64 0] 1 ?_; refine zg #[.int .i64 0, .int .i64 0] 0 ?_; refine zf ?_ NB252_251; refine zf ?_ NB252_251; exact pK BK252.out) hb); replace HB := zW (pB2 HB.out GE251.out GE252.out) hb; clear hb ho11))
 go_loopg [7, 8] k (fun kq v7 v8 w' => ∃ (x7_1 : List Int) (x8_1 : Int), v8 = .int .i64 x8_1 ∧ Aside0 (spec_l12Turns.l0 kq l1 x7_1 x8_1 t247 t248 t249 t250 = some r) ∧ Aside0 (kq ≤ k) ∧ Aside0 (Kd.R (Kd.int .i64) 2 w' w.heap.size (fun _ => True) v7 x7_1) ∧ Aside0 (w'.heap[gb251]? = some (.cells #[.int .i64 t247, .int .i64 t248] 91 (0, 0))) ∧ Aside0 (w'.heap[gb252]? = some (.cells #[.int .i64 t249, .int .i64 t250] 91 (0, 0))) ∧ Aside0 (Below w.heap.size w w'))
 case atStart => exact ⟨(y253), (0), zR, H', ⟨Nat.le_refl _⟩, ⟨pR HO255.out⟩, ⟨pK BK251.out⟩, ⟨pK BK252.out⟩, ⟨pB2 HB.out GE251.out GE252.out⟩⟩
 case round =>
  clear H'
  try clear c1
  try clear p2
  try clear c5
  try clear c6
  try clear c7
  try clear hcz8_0
  try clear hcz8_1
  try clear hcz9_0
  try clear hcz9_1
  try clear hfz8_0
  try clear hfz8_1
  try clear hfz9_0
  try clear hfz9_1
  obtain ⟨x7_1, x8_1, rfl, HA, HK1, HO_7, BK251, BK252, HB⟩ := hrel
  cases gk with
  | zero => exact absurd HA.out (by simp [spec_l12Turns.l0])
  | succ k1 =>
    have H := HA.out
    clear HA
    simp only [spec_l12Turns.l0] at H
    by_cases c12 : x8_1 < 8
    rotate_left
    · rw [if_neg c12] at H
      have c12b0 : decide (x8_1 < 8) = false := decide_eq_false c12
      clear c12
      obtain rfl := Option.some.inj H
      go_wp2
      go_ret
      exact ⟨_, zE, by (with_reducible repeat (first | apply Kd.R_alloc | apply Kd.R_drewN | apply Kd.R_drew)); exact HO_7.out, pB2 HB.out GE251.out GE252.out⟩
    rw [if_pos c12] at H
    have c12b0 := decide_eq_true c12
    clear c12
    by_cases c13 : (Int.tmod x8_1 2) = 1
    rotate_left
    · rw [if_neg c13] at H
      have c13b0 : ((Int.tmod x8_1 2) == 1) = false := beq_eq_false_iff_ne.mpr c13
      have c13b1 : ((Int.tmod x8_1 2) != 1) = true := bne_iff_ne.mpr c13
      by_cases c28 : 0 < (l1.length : Int)
      rotate_left
      · rw [if_neg c28] at H
        exact absurd H (by simp)
      rw [if_pos c28] at H
      have c28b0 := decide_eq_true c28
      have c28b1 : decide (0 < l1.length) = true := decide_eq_true (by omega)
      clear c28
      by_cases c29 : (wrap64 (t249 - t247)) ≤ ((rd_T36 l1 0).f4)
      rotate_left
      · rw [if_neg c29] at H
        have c29b0 : decide ((wrap64 (t249 - t247)) ≤ ((rd_T36 l1 0).f4)) = false := decide_eq_false c29
        clear c29
        have H' := Aside0.mk H
        clear H
        have hnb39 := NB252_251.out
        have hnc39 := NB251_252.out
        obtain ⟨hcz40_0, hfz40_0, hcz40_1, hfz40_1⟩ := zw2 BK252; obtain ⟨hcz41_0, hfz41_0, hcz41_1, hfz41_1⟩ := zw2 BK251
        have p260 : 0 ≤ (0 : Int) := (by omega)
        have q260 : 0 < (l1.length : Int) := zD
        obtain ⟨ad260, A260_8, c260_8, e260, hx260_0, hx260_1, hx260_2, hx260_3, hx260_4, hx260_5, hx260_6, hx260_7, hx260_8, hl260_8, hi260_8⟩ := at_T36 HR1.out 0 p260 q260
        cases e260
        have qi260 : (0 < l1.length) = True := eq_true (by omega)
        (try rw [z0, Nat.zero_mul, Addr.add_zero'] at hx260_0)
        (try rw [z0, Nat.zero_mul, Addr.add_zero'] at hx260_1)
        (try rw [z0, Nat.zero_mul, Addr.add_zero'] at hx260_2)
        (try rw [z0, Nat.zero_mul, Addr.add_zero'] at hx260_3)
        (try rw [z0, Nat.zero_mul, Addr.add_zero'] at hx260_4)
        (try rw [z0, Nat.zero_mul, Addr.add_zero'] at hx260_5)
        (try rw [z0, Nat.zero_mul, Addr.add_zero'] at hx260_6)
        (try rw [z0, Nat.zero_mul, Addr.add_zero'] at hx260_7)
        (try rw [z0, Nat.zero_mul, Addr.add_zero'] at hx260_8)
        try replace hx260_0 := zH HB hx260_0
        try replace hx260_1 := zH HB hx260_1
        try replace hx260_2 := zH HB hx260_2
        try replace hx260_3 := zH HB hx260_3
        try replace hx260_4 := zH HB hx260_4
        try replace hx260_5 := zH HB hx260_5
        try replace hx260_6 := zH HB hx260_6
        try replace hx260_7 := zH HB hx260_7
        try replace hx260_8 := zH HB hx260_8
        have HR260_8 := Aside0.mk hi260_8
        have HC260_8 := Aside0.mk hl260_8
        clear hi260_8 hl260_8
        replace p260 := eq_true p260
        replace q260 := eq_true q260
        go_wp2
        go_roundg k1
        case measure => have := HK1.out; omega
        case rel => exact ⟨(x7_1), (wrap64 (x8_1 + 1)), zR, H', ⟨by have := HK1.out; omega⟩, ⟨pR HO_7.out⟩, ⟨pK BK251.out⟩, ⟨pK BK252.out⟩, ⟨pB2 HB.out GE251.out GE252.out⟩⟩
      rw [if_pos c29] at H
      have c29b0 := decide_eq_true c29
      clear c29
      by_cases c30 : (wrap64 (t250 - t248)) ≤ ((rd_T36 l1 0).f5)
      rotate_left
      · rw [if_neg c30] at H
        have c30b0 : decide ((wrap64 (t250 - t248)) ≤ ((rd_T36 l1 0).f5)) = false := decide_eq_false c30
        clear c30
        have H' := Aside0.mk H
        clear H
        have hnb36 := NB252_251.out
        have hnc36 := NB251_252.out
        obtain ⟨hcz37_0, hfz37_0, hcz37_1, hfz37_1⟩ := zw2 BK252; obtain ⟨hcz38_0, hfz38_0, hcz38_1, hfz38_1⟩ := zw2 BK251
        have p260 : 0 ≤ (0 : Int) := (by omega)
        have q260 : 0 < (l1.length : Int) := zD
        obtain ⟨ad260, A260_8, c260_8, e260, hx260_0, hx260_1, hx260_2, hx260_3, hx260_4, hx260_5, hx260_6, hx260_7, hx260_8, hl260_8, hi260_8⟩ := at_T36 HR1.out 0 p260 q260
        cases e260
        have qi260 : (0 < l1.length) = True := eq_true (by omega)
        (try rw [z0, Nat.zero_mul, Addr.add_zero'] at hx260_0)
        (try rw [z0, Nat.zero_mul, Addr.add_zero'] at hx260_1)
        (try rw [z0, Nat.zero_mul, Addr.add_zero'] at hx260_2)
        (try rw [z0, Nat.zero_mul, Addr.add_zero'] at hx260_3)
        (try rw [z0, Nat.zero_mul, Addr.add_zero'] at hx260_4)
        (try rw [z0, Nat.zero_mul, Addr.add_zero'] at hx260_5)
        (try rw [z0, Nat.zero_mul, Addr.add_zero'] at hx260_6)
        (try rw [z0, Nat.zero_mul, Addr.add_zero'] at hx260_7)
        (try rw [z0, Nat.zero_mul, Addr.add_zero'] at hx260_8)
        try replace hx260_0 := zH HB hx260_0
        try replace hx260_1 := zH HB hx260_1
        try replace hx260_2 := zH HB hx260_2
        try replace hx260_3 := zH HB hx260_3
        try replace hx260_4 := zH HB hx260_4
        try replace hx260_5 := zH HB hx260_5
        try replace hx260_6 := zH HB hx260_6
        try replace hx260_7 := zH HB hx260_7
        try replace hx260_8 := zH HB hx260_8
        have HR260_8 := Aside0.mk hi260_8
        have HC260_8 := Aside0.mk hl260_8
        clear hi260_8 hl260_8
        replace p260 := eq_true p260
        replace q260 := eq_true q260
        go_wp2
        go_roundg k1
        case measure => have := HK1.out; omega
        case rel => exact ⟨(x7_1), (wrap64 (x8_1 + 1)), zR, H', ⟨by have := HK1.out; omega⟩, ⟨pR HO_7.out⟩, ⟨pK BK251.out⟩, ⟨pK BK252.out⟩, ⟨pB2 HB.out GE251.out GE252.out⟩⟩
      rw [if_pos c30] at H
      have c30b0 := decide_eq_true c30
      clear c30
      by_cases c31 : x7_1.length < 17592186044416
      rotate_left
      · rw [if_neg c31] at H
        exact absurd H (by simp)
      rw [if_pos c31] at H
      have LMc31 := Aside0.mk c31
      clear c31
      obtain ⟨y261, hy261⟩ : ∃ y_ : List Int, y_ = (x7_1 ++ [x8_1]) := ⟨_, rfl⟩
      replace H : (spec_l12Turns.l0 k1 l1 y261 (wrap64 (x8_1 + 1)) t247 t248 t249 t250) = some r := by first | (rw [hy261]; with_reducible exact H) | (have H2_ := (Option.bind_some _ _).symm.trans H; rw [hy261]; with_reducible exact H2_) | (have H2_ := (Option.bind_some _ _).symm.trans H; with_reducible exact H2_) | with_reducible exact H | (rw [hy261]; exact H) | exact H
      have Ny261 := Aside0.mk hy261
      clear hy261
      have H' := Aside0.mk H
      clear H
      have hnb32 := NB252_251.out
      have hnc32 := NB251_252.out
      obtain ⟨hcz33_0, hfz33_0, hcz33_1, hfz33_1⟩ := zw2 BK252; obtain ⟨hcz34_0, hfz34_0, hcz34_1, hfz34_1⟩ := zw2 BK251
      have p260 : 0 ≤ (0 : Int) := (by omega)
      have q260 : 0 < (l1.length : Int) := zD
      obtain ⟨ad260, A260_8, c260_8, e260, hx260_0, hx260_1, hx260_2, hx260_3, hx260_4, hx260_5, hx260_6, hx260_7, hx260_8, hl260_8, hi260_8⟩ := at_T36 HR1.out 0 p260 q260
      cases e260
      have qi260 : (0 < l1.length) = True := eq_true (by omega)
      (try rw [z0, Nat.zero_mul, Addr.add_zero'] at hx260_0)
      (try rw [z0, Nat.zero_mul, Addr.add_zero'] at hx260_1)
      (try rw [z0, Nat.zero_mul, Addr.add_zero'] at hx260_2)
      (try rw [z0, Nat.zero_mul, Addr.add_zero'] at hx260_3)
      (try rw [z0, Nat.zero_mul, Addr.add_zero'] at hx260_4)
      (try rw [z0, Nat.zero_mul, Addr.add_zero'] at hx260_5)
      (try rw [z0, Nat.zero_mul, Addr.add_zero'] at hx260_6)
      (try rw [z0, Nat.zero_mul, Addr.add_zero'] at hx260_7)
      (try rw [z0, Nat.zero_mul, Addr.add_zero'] at hx260_8)
      try replace hx260_0 := zH HB hx260_0
      try replace hx260_1 := zH HB hx260_1
      try replace hx260_2 := zH HB hx260_2
      try replace hx260_3 := zH HB hx260_3
      try replace hx260_4 := zH HB hx260_4
      try replace hx260_5 := zH HB hx260_5
      try replace hx260_6 := zH HB hx260_6
      try replace hx260_7 := zH HB hx260_7
      try replace hx260_8 := zH HB hx260_8
      have HR260_8 := Aside0.mk hi260_8
      have HC260_8 := Aside0.mk hl260_8
      clear hi260_8 hl260_8
      replace p260 := eq_true p260
      replace q260 := eq_true q260
      go_wp2_with (first | ((with_reducible refine gate_builtin (b := .append) (xs := #[.tmp 58, .tmp 60]) rfl ?_); at_builtin; refine Kd.R_append (Kd.int .i64) (w0 := w) w.heap.size rfl (.tmp 58) (.tmp 60) 41 2 (.int .i64 0) 8 rfl Try.underlying41 info2 rfl (by decide) (by omega) u7 x7_1 x8_1 [.int .i64 x8_1] (fun _ => True) (fun _ => False) rfl rfl ?aP (fun _ hk => hk.elim) ?aF ?aO ?aB ?aS ?aL ?_; (case aP => exact rfl); (case aB => exact (pB2 HB.out GE251.out GE252.out)); (case aF => exact (fun _ _ => trivial)); (case aO => exact (pR HO_7.out)); (case aS => exact (below_size (pB2 HB.out GE251.out GE252.out))); (case aL => have := LMc31.out; omega); intro v262 w35 ho hb hg hat; rw [← Ny261.out] at ho; have HO263 := Aside0.mk (ho); replace BK251 := Aside0.mk (blk_grown (g := gb251) (o := .cells #[.int .i64 t247, .int .i64 t248] 91 (0, 0)) (pK BK251.out) hg (Kd.R_ne HO_7.out BK251.out (by decide))); replace BK252 := Aside0.mk (blk_grown (g := gb252) (o := .cells #[.int .i64 t249, .int .i64 t250] 91 (0, 0)) (pK BK252.out) hg (Kd.R_ne HO_7.out BK252.out (by decide))); replace HB := Aside0.mk (hb); clear HO_7; clear ho hb hg hat))
      go_roundg k1
      case measure => have := HK1.out; omega
      case rel => exact ⟨(y261), (wrap64 (x8_1 + 1)), zR, H', ⟨by have := HK1.out; omega⟩, ⟨pR HO263.out⟩, ⟨pK BK251.out⟩, ⟨pK BK252.out⟩, ⟨pB2 HB.out GE251.out GE252.out⟩⟩
    rw [if_pos c13] at H
    have c13b0 : ((Int.tmod x8_1 2) == 1) = true := beq_iff_eq.mpr c13
    have c13b1 : ((Int.tmod x8_1 2) != 1) = false := bne_eq_false_iff_eq.mpr c13
    clear c13
    by_cases c14 : 0 < (l1.length : Int)
    rotate_left
    · rw [if_neg c14] at H
      exact absurd H (by simp)
    rw [if_pos c14] at H
    have c14b0 := decide_eq_true c14
    have c14b1 : decide (0 < l1.length) = true := decide_eq_true (by omega)
    clear c14
    by_cases c15 : (wrap64 (t250 - t248)) ≤ ((rd_T36 l1 0).f4)
    rotate_left
    · rw [if_neg c15] at H
      have c15b0 : decide ((wrap64 (t250 - t248)) ≤ ((rd_T36 l1 0).f4)) = false := decide_eq_false c15
      clear c15
      have H' := Aside0.mk H
      clear H
      have hnb25 := NB252_251.out
      have hnc25 := NB251_252.out
      obtain ⟨hcz26_0, hfz26_0, hcz26_1, hfz26_1⟩ := zw2 BK252; obtain ⟨hcz27_0, hfz27_0, hcz27_1, hfz27_1⟩ := zw2 BK251
      have p256 : 0 ≤ (0 : Int) := (by omega)
      have q256 : 0 < (l1.length : Int) := zD
      obtain ⟨ad256, A256_8, c256_8, e256, hx256_0, hx256_1, hx256_2, hx256_3, hx256_4, hx256_5, hx256_6, hx256_7, hx256_8, hl256_8, hi256_8⟩ := at_T36 HR1.out 0 p256 q256
      cases e256
      have qi256 : (0 < l1.length) = True := eq_true (by omega)
      (try rw [z0, Nat.zero_mul, Addr.add_zero'] at hx256_0)
      (try rw [z0, Nat.zero_mul, Addr.add_zero'] at hx256_1)
      (try rw [z0, Nat.zero_mul, Addr.add_zero'] at hx256_2)
      (try rw [z0, Nat.zero_mul, Addr.add_zero'] at hx256_3)
      (try rw [z0, Nat.zero_mul, Addr.add_zero'] at hx256_4)
      (try rw [z0, Nat.zero_mul, Addr.add_zero'] at hx256_5)
      (try rw [z0, Nat.zero_mul, Addr.add_zero'] at hx256_6)
      (try rw [z0, Nat.zero_mul, Addr.add_zero'] at hx256_7)
      (try rw [z0, Nat.zero_mul, Addr.add_zero'] at hx256_8)
      try replace hx256_0 := zH HB hx256_0
      try replace hx256_1 := zH HB hx256_1
      try replace hx256_2 := zH HB hx256_2
      try replace hx256_3 := zH HB hx256_3
      try replace hx256_4 := zH HB hx256_4
      try replace hx256_5 := zH HB hx256_5
      try replace hx256_6 := zH HB hx256_6
      try replace hx256_7 := zH HB hx256_7
      try replace hx256_8 := zH HB hx256_8
      have HR256_8 := Aside0.mk hi256_8
      have HC256_8 := Aside0.mk hl256_8
      clear hi256_8 hl256_8
      replace p256 := eq_true p256
      replace q256 := eq_true q256
      go_wp2
      go_roundg k1
      case measure => have := HK1.out; omega
      case rel => exact ⟨(x7_1), (wrap64 (x8_1 + 1)), zR, H', ⟨by have := HK1.out; omega⟩, ⟨pR HO_7.out⟩, ⟨pK BK251.out⟩, ⟨pK BK252.out⟩, ⟨pB2 HB.out GE251.out GE252.out⟩⟩
    rw [if_pos c15] at H
    have c15b0 := decide_eq_true c15
    clear c15
    by_cases c16 : (wrap64 (t249 - t247)) ≤ ((rd_T36 l1 0).f5)
    rotate_left
    · rw [if_neg c16] at H
      have c16b0 : decide ((wrap64 (t249 - t247)) ≤ ((rd_T36 l1 0).f5)) = false := decide_eq_false c16
      clear c16
      have H' := Aside0.mk H
      clear H
      have hnb22 := NB252_251.out
      have hnc22 := NB251_252.out
      obtain ⟨hcz23_0, hfz23_0, hcz23_1, hfz23_1⟩ := zw2 BK252; obtain ⟨hcz24_0, hfz24_0, hcz24_1, hfz24_1⟩ := zw2 BK251
      have p256 : 0 ≤ (0 : Int) := (by omega)
      have q256 : 0 < (l1.length : Int) := zD
      obtain ⟨ad256, A256_8, c256_8, e256, hx256_0, hx256_1, hx256_2, hx256_3, hx256_4, hx256_5, hx256_6, hx256_7, hx256_8, hl256_8, hi256_8⟩ := at_T36 HR1.out 0 p256 q256
      cases e256
      have qi256 : (0 < l1.length) = True := eq_true (by omega)
      (try rw [z0, Nat.zero_mul, Addr.add_zero'] at hx256_0)
      (try rw [z0, Nat.zero_mul, Addr.add_zero'] at hx256_1)
      (try rw [z0, Nat.zero_mul, Addr.add_zero'] at hx256_2)
      (try rw [z0, Nat.zero_mul, Addr.add_zero'] at hx256_3)
      (try rw [z0, Nat.zero_mul, Addr.add_zero'] at hx256_4)
      (try rw [z0, Nat.zero_mul, Addr.add_zero'] at hx256_5)
      (try rw [z0, Nat.zero_mul, Addr.add_zero'] at hx256_6)
      (try rw [z0, Nat.zero_mul, Addr.add_zero'] at hx256_7)
      (try rw [z0, Nat.zero_mul, Addr.add_zero'] at hx256_8)
      try replace hx256_0 := zH HB hx256_0
      try replace hx256_1 := zH HB hx256_1
      try replace hx256_2 := zH HB hx256_2
      try replace hx256_3 := zH HB hx256_3
      try replace hx256_4 := zH HB hx256_4
      try replace hx256_5 := zH HB hx256_5
      try replace hx256_6 := zH HB hx256_6
      try replace hx256_7 := zH HB hx256_7
      try replace hx256_8 := zH HB hx256_8
      have HR256_8 := Aside0.mk hi256_8
      have HC256_8 := Aside0.mk hl256_8
      clear hi256_8 hl256_8
      replace p256 := eq_true p256
      replace q256 := eq_true q256
      go_wp2
      go_roundg k1
      case measure => have := HK1.out; omega
      case rel => exact ⟨(x7_1), (wrap64 (x8_1 + 1)), zR, H', ⟨by have := HK1.out; omega⟩, ⟨pR HO_7.out⟩, ⟨pK BK251.out⟩, ⟨pK BK252.out⟩, ⟨pB2 HB.out GE251.out GE252.out⟩⟩
    rw [if_pos c16] at H
    have c16b0 := decide_eq_true c16
    clear c16
    by_cases c17 : x7_1.length < 17592186044416
    rotate_left
    · rw [if_neg c17] at H
      exact absurd H (by simp)
    rw [if_pos c17] at H
    have LMc17 := Aside0.mk c17
    clear c17
    obtain ⟨y257, hy257⟩ : ∃ y_ : List Int, y_ = (x7_1 ++ [x8_1]) := ⟨_, rfl⟩
    replace H : (spec_l12Turns.l0 k1 l1 y257 (wrap64 (x8_1 + 1)) t247 t248 t249 t250) = some r := by first | (rw [hy257]; with_reducible exact H) | (have H2_ := (Option.bind_some _ _).symm.trans H; rw [hy257]; with_reducible exact H2_) | (have H2_ := (Option.bind_some _ _).symm.trans H; with_reducible exact H2_) | with_reducible exact H | (rw [hy257]; exact H) | exact H
    have Ny257 := Aside0.mk hy257
    clear hy257
    have H' := Aside0.mk H
    clear H
    have hnb18 := NB252_251.out
    have hnc18 := NB251_252.out
    obtain ⟨hcz19_0, hfz19_0, hcz19_1, hfz19_1⟩ := zw2 BK252; obtain ⟨hcz20_0, hfz20_0, hcz20_1, hfz20_1⟩ := zw2 BK251
    have p256 : 0 ≤ (0 : Int) := (by omega)
    have q256 : 0 < (l1.length : Int) := zD
    obtain ⟨ad256, A256_8, c256_8, e256, hx256_0, hx256_1, hx256_2, hx256_3, hx256_4, hx256_5, hx256_6, hx256_7, hx256_8, hl256_8, hi256_8⟩ := at_T36 HR1.out 0 p256 q256
    cases e256
    have qi256 : (0 < l1.length) = True := eq_true (by omega)
    (try rw [z0, Nat.zero_mul, Addr.add_zero'] at hx256_0)
    (try rw [z0, Nat.zero_mul, Addr.add_zero'] at hx256_1)
    (try rw [z0, Nat.zero_mul, Addr.add_zero'] at hx256_2)
    (try rw [z0, Nat.zero_mul, Addr.add_zero'] at hx256_3)
    (try rw [z0, Nat.zero_mul, Addr.add_zero'] at hx256_4)
    (try rw [z0, Nat.zero_mul, Addr.add_zero'] at hx256_5)
    (try rw [z0, Nat.zero_mul, Addr.add_zero'] at hx256_6)
    (try rw [z0, Nat.zero_mul, Addr.add_zero'] at hx256_7)
    (try rw [z0, Nat.zero_mul, Addr.add_zero'] at hx256_8)
    try replace hx256_0 := zH HB hx256_0
    try replace hx256_1 := zH HB hx256_1
    try replace hx256_2 := zH HB hx256_2
    try replace hx256_3 := zH HB hx256_3
    try replace hx256_4 := zH HB hx256_4
    try replace hx256_5 := zH HB hx256_5
    try replace hx256_6 := zH HB hx256_6
    try replace hx256_7 := zH HB hx256_7
    try replace hx256_8 := zH HB hx256_8
    have HR256_8 := Aside0.mk hi256_8
    have HC256_8 := Aside0.mk hl256_8
    clear hi256_8 hl256_8
    replace p256 := eq_true p256
    replace q256 := eq_true q256
    go_wp2_with (first | ((with_reducible refine gate_builtin (b := .append) (xs := #[.tmp 58, .tmp 60]) rfl ?_); at_builtin; refine Kd.R_append (Kd.int .i64) (w0 := w) w.heap.size rfl (.tmp 58) (.tmp 60) 41 2 (.int .i64 0) 8 rfl Try.underlying41 info2 rfl (by decide) (by omega) u7 x7_1 x8_1 [.int .i64 x8_1] (fun _ => True) (fun _ => False) rfl rfl ?aP (fun _ hk => hk.elim) ?aF ?aO ?aB ?aS ?aL ?_; (case aP => exact rfl); (case aB => exact (pB2 HB.out GE251.out GE252.out)); (case aF => exact (fun _ _ => trivial)); (case aO => exact (pR HO_7.out)); (case aS => exact (below_size (pB2 HB.out GE251.out GE252.out))); (case aL => have := LMc17.out; omega); intro v258 w21 ho hb hg hat; rw [← Ny257.out] at ho; have HO259 := Aside0.mk (ho); replace BK251 := Aside0.mk (blk_grown (g := gb251) (o := .cells #[.int .i64 t247, .int .i64 t248] 91 (0, 0)) (pK BK251.out) hg (Kd.R_ne HO_7.out BK251.out (by decide))); replace BK252 := Aside0.mk (blk_grown (g := gb252) (o := .cells #[.int .i64 t249, .int .i64 t250] 91 (0, 0)) (pK BK252.out) hg (Kd.R_ne HO_7.out BK252.out (by decide))); replace HB := Aside0.mk (hb); clear HO_7; clear ho hb hg hat))
    go_roundg k1
    case measure => have := HK1.out; omega
    case rel => exact ⟨(y257), (wrap64 (x8_1 + 1)), zR, H', ⟨by have := HK1.out; omega⟩, ⟨pR HO259.out⟩, ⟨pK BK251.out⟩, ⟨pK BK252.out⟩, ⟨pB2 HB.out GE251.out GE252.out⟩⟩
def spec_FitsLeaf.f (k : Nat) (l0 : List (S91)) (a1_0 : ByteArray) (a1_1 : ByteArray) (a1_2 : Int) (a1_3 : ByteArray) (a1_4 : Int) (a1_5 : Int) (a1_6 : Int) (a1_7 : Int) (l1_8 : List (S103)) : Option (Bool) := (spec_l03Ok.f k l0).bind fun t265 => (if t265 = true then ((spec_l09One.f k [(⟨a1_0, a1_1, a1_2, (⟨a1_3, a1_4, a1_5⟩ : S33), a1_6, a1_7, l1_8⟩ : S36)]).bind fun t266 => (if t266 = true then ((spec_l12Turns.f k l0 [(⟨a1_0, a1_1, a1_2, (⟨a1_3, a1_4, a1_5⟩ : S33), a1_6, a1_7, l1_8⟩ : S36)]).bind fun t267 => (some (decide ((t267.length : Int) > 0)))) else (some false))) else (some false))
theorem spec_FitsLeaf.mono : ∀ a0 a1 a2 a3 a4 a5 a6 a7 a8 a9 k, LeO (spec_FitsLeaf.f k a0 a1 a2 a3 a4 a5 a6 a7 a8 a9) (spec_FitsLeaf.f (k + 1) a0 a1 a2 a3 a4 a5 a6 a7 a8 a9) := by
 intro a0 a1 a2 a3 a4 a5 a6 a7 a8 a9 k
 unfold spec_FitsLeaf.f
 repeat' first
  | (with_reducible exact spec_l03Ok.mono _ _)
  | (with_reducible exact spec_l09One.mono _ _)
  | (with_reducible exact spec_l12Turns.mono _ _ _)
  | (with_reducible exact LeO.refl _)
  | (with_reducible exact LeO.none _)
  | (with_reducible refine LeO.ite ?_ ?_)
  | (with_reducible refine LeO.bind ?_ (fun _ => ?_))
  | exact spec_l03Ok.mono _ _
  | exact spec_l09One.mono _ _
  | exact spec_l12Turns.mono _ _ _
  | exact LeO.none _
  | refine LeO.ite ?_ ?_
  | refine LeO.bind ?_ (fun _ => ?_)
set_option maxHeartbeats 8000000 in
set_option maxRecDepth 100000 in
theorem spec_FitsLeaf.calls (k : Nat) (A0 : Option Addr) (c0 : Nat) (l0 : List (S91)) (a1_0 : ByteArray) (a1_1 : ByteArray) (a1_2 : Int) (a1_3 : ByteArray) (a1_4 : Int) (a1_5 : Int) (a1_6 : Int) (a1_7 : Int) (A1_8 : Option Addr) (c1_8 : Nat) (l1_8 : List (S103)) (r : Bool) (w : World) (hr0 : Kd.C k91 w A0 l0.length l0) (hc0 : l0.length ≤ c0) (hr1_8 : Kd.C k103 w A1_8 l1_8.length l1_8) (hc1_8 : l1_8.length ≤ c1_8) (h : spec_FitsLeaf.f k l0 a1_0 a1_1 a1_2 a1_3 a1_4 a1_5 a1_6 a1_7 l1_8 = some r) :
 Calls Try.prog 11 #[.slice A0 l0.length c0, .agg #[.string a1_0, .string a1_1, .int .i64 a1_2, .string a1_3, .int .i64 a1_4, .int .i64 a1_5, .int .i64 a1_6, .int .i64 a1_7, .slice A1_8 l1_8.length c1_8]] w fun e w' => e = .returned (.bool r) ∧ Below w.heap.size w w' := by
 have hu36 := Try.underlying36
 have HR0 := Aside0.mk hr0
 have HC0 := Aside0.mk hc0
 clear hr0 hc0
 have HR1_8 := Aside0.mk hr1_8
 have HC1_8 := Aside0.mk hc1_8
 clear hr1_8 hc1_8
 have HB := Aside0.mk (Below.refl w.heap.size w)
 have H : ((spec_l03Ok.f k l0).bind fun t265 => (if t265 = true then ((spec_l09One.f k [(⟨a1_0, a1_1, a1_2, (⟨a1_3, a1_4, a1_5⟩ : S33), a1_6, a1_7, l1_8⟩ : S36)]).bind fun t266 => (if t266 = true then ((spec_l12Turns.f k l0 [(⟨a1_0, a1_1, a1_2, (⟨a1_3, a1_4, a1_5⟩ : S33), a1_6, a1_7, l1_8⟩ : S36)]).bind fun t267 => (some (decide ((t267.length : Int) > 0)))) else (some false))) else (some false))) = some r := h
 clear h
 replace H := Option.bind_eq_some_iff.mp H
 obtain ⟨t265, A30, H⟩ := H
 have A3 := Aside0.mk A30
 clear A30
 by_cases c4 : t265 = true
 rotate_left
 · replace c4 := Bool.eq_false_iff.mpr c4
   subst c4
   have H1 : (some false) = some r := by rw [if_neg (show ¬ (false = true) by decide)] at H; exact H
   clear H
   have H := H1
   clear H1
   obtain rfl := Option.some.inj H
   go_enter Try.func11, Try.ntmps11
   go_wp2_with (first | ((with_reducible refine gate_dst (N := 3) rfl ?_); (try (refine gate_guard (by rfl) ?_; dsimp only)); refine zB 3 #[.string a1_0, .string a1_1, .int .i64 a1_2, .string a1_3, .int .i64 a1_4, .int .i64 a1_5, .int .i64 a1_6, .int .i64 a1_7, .slice A1_8 l1_8.length c1_8] 36 ?_; intro gb264 hg w16 hbox hb; have BK264 := Aside0.mk (hbox); have GW264 := zS (pB0 HB.out) hg; have GE264 := zS (pB0 HB.out) hg; replace HB := zW (pB0 HB.out) hb; clear hb hbox hg) | ((with_reducible refine gate_callee (f := 49) rfl ?_); refine goesL_ (some 6) rfl rfl Try.func49 (by kernel_rfl) rfl #[.slice A0 l0.length c0] rfl pA ?_; (with_reducible refine (spec_l03Ok.calls k _ _ l0 false _ ?side1 ?side2 A3.out).mono ?_); (case side1 => exact pC (Kd.C_below HR0.out HB.out)); (case side2 => exact HC0.out); rintro e w17 ⟨rfl, hb⟩; refine ⟨_, rfl, ?_⟩; replace BK264 := zK BK264 hb; replace HB := zW (pB1 HB.out GE264.out) hb; (try clear hb); (try clear hb2); (try clear hk); (try clear hi)))
   go_ret
   exact ⟨zE, pB1 HB.out GE264.out⟩
 subst c4
 have H1 : ((spec_l09One.f k [(⟨a1_0, a1_1, a1_2, (⟨a1_3, a1_4, a1_5⟩ : S33), a1_6, a1_7, l1_8⟩ : S36)]).bind fun t266 => (if t266 = true then ((spec_l12Turns.f k l0 [(⟨a1_0, a1_1, a1_2, (⟨a1_3, a1_4, a1_5⟩ : S33), a1_6, a1_7, l1_8⟩ : S36)]).bind fun t267 => (some (decide ((t267.length : Int) > 0)))) else (some false))) = some r := by rw [if_pos rfl] at H; exact H
 clear H
 have H := H1
 clear H1
 replace H := Option.bind_eq_some_iff.mp H
 obtain ⟨t266, A50, H⟩ := H
 have A5 := Aside0.mk A50
 clear A50
 by_cases c6 : t266 = true
 rotate_left
 · replace c6 := Bool.eq_false_iff.mpr c6
   subst c6
   have H1 : (some false) = some r := by rw [if_neg (show ¬ (false = true) by decide)] at H; exact H
   clear H
   have H := H1
   clear H1
   obtain rfl := Option.some.inj H
   go_enter Try.func11, Try.ntmps11
   go_wp2_with (first | ((with_reducible refine gate_dst (N := 3) rfl ?_); (try (refine gate_guard (by rfl) ?_; dsimp only)); refine zB 3 #[.string a1_0, .string a1_1, .int .i64 a1_2, .string a1_3, .int .i64 a1_4, .int .i64 a1_5, .int .i64 a1_6, .int .i64 a1_7, .slice A1_8 l1_8.length c1_8] 36 ?_; intro gb264 hg w13 hbox hb; have BK264 := Aside0.mk (hbox); have GW264 := zS (pB0 HB.out) hg; have GE264 := zS (pB0 HB.out) hg; replace HB := zW (pB0 HB.out) hb; clear hb hbox hg) | ((with_reducible refine gate_callee (f := 49) rfl ?_); refine goesL_ (some 6) rfl rfl Try.func49 (by kernel_rfl) rfl #[.slice A0 l0.length c0] rfl pA ?_; (with_reducible refine (spec_l03Ok.calls k _ _ l0 true _ ?side1 ?side2 A3.out).mono ?_); (case side1 => exact pC (Kd.C_below HR0.out HB.out)); (case side2 => exact HC0.out); rintro e w14 ⟨rfl, hb⟩; refine ⟨_, rfl, ?_⟩; replace BK264 := zK BK264 hb; replace HB := zW (pB1 HB.out GE264.out) hb; (try clear hb); (try clear hb2); (try clear hk); (try clear hi)) | (go_at_call 50; (with_reducible refine (spec_l09One.calls k _ 1 [(⟨a1_0, a1_1, a1_2, (⟨a1_3, a1_4, a1_5⟩ : S33), a1_6, a1_7, l1_8⟩ : S36)] false _ ?side1 ?side2 A5.out).mono ?_); (case side1 => exact C_box (cs := #[.string a1_0, .string a1_1, .int .i64 a1_2, .string a1_3, .int .i64 a1_4, .int .i64 a1_5, .int .i64 a1_6, .int .i64 a1_7, .slice A1_8 l1_8.length c1_8]) (t := 36) (pK BK264.out) (k36_mk _ _ (by exact HC1_8.out) (by exact pC (Kd.C_below HR1_8.out HB.out)))); (case side2 => exact Nat.le_refl _); rintro e w15 ⟨rfl, hb⟩; replace BK264 := zK BK264 hb; replace HB := zW (pB1 HB.out GE264.out) hb; (try clear hb); (try clear hb2); (try clear hk); (try clear hi)))
   go_ret
   exact ⟨zE, pB1 HB.out GE264.out⟩
 subst c6
 have H1 : ((spec_l12Turns.f k l0 [(⟨a1_0, a1_1, a1_2, (⟨a1_3, a1_4, a1_5⟩ : S33), a1_6, a1_7, l1_8⟩ : S36)]).bind fun t267 => (some (decide ((t267.length : Int) > 0)))) = some r := by rw [if_pos rfl] at H; exact H
 clear H
 have H := H1
 clear H1
 replace H := Option.bind_eq_some_iff.mp H
 obtain ⟨t267, A70, H⟩ := H
 have A7 := Aside0.mk A70
 clear A70
 obtain rfl := Option.some.inj H
 go_enter Try.func11, Try.ntmps11
 go_wp2_with (first | ((with_reducible refine gate_dst (N := 3) rfl ?_); (try (refine gate_guard (by rfl) ?_; dsimp only)); refine zB 3 #[.string a1_0, .string a1_1, .int .i64 a1_2, .string a1_3, .int .i64 a1_4, .int .i64 a1_5, .int .i64 a1_6, .int .i64 a1_7, .slice A1_8 l1_8.length c1_8] 36 ?_; intro gb264 hg w8 hbox hb; have BK264 := Aside0.mk (hbox); have GW264 := zS (pB0 HB.out) hg; have GE264 := zS (pB0 HB.out) hg; replace HB := zW (pB0 HB.out) hb; clear hb hbox hg) | ((with_reducible refine gate_callee (f := 49) rfl ?_); refine goesL_ (some 6) rfl rfl Try.func49 (by kernel_rfl) rfl #[.slice A0 l0.length c0] rfl pA ?_; (with_reducible refine (spec_l03Ok.calls k _ _ l0 true _ ?side1 ?side2 A3.out).mono ?_); (case side1 => exact pC (Kd.C_below HR0.out HB.out)); (case side2 => exact HC0.out); rintro e w9 ⟨rfl, hb⟩; refine ⟨_, rfl, ?_⟩; replace BK264 := zK BK264 hb; replace HB := zW (pB1 HB.out GE264.out) hb; (try clear hb); (try clear hb2); (try clear hk); (try clear hi)) | (go_at_call 50; (with_reducible refine (spec_l09One.calls k _ 1 [(⟨a1_0, a1_1, a1_2, (⟨a1_3, a1_4, a1_5⟩ : S33), a1_6, a1_7, l1_8⟩ : S36)] true _ ?side1 ?side2 A5.out).mono ?_); (case side1 => exact C_box (cs := #[.string a1_0, .string a1_1, .int .i64 a1_2, .string a1_3, .int .i64 a1_4, .int .i64 a1_5, .int .i64 a1_6, .int .i64 a1_7, .slice A1_8 l1_8.length c1_8]) (t := 36) (pK BK264.out) (k36_mk _ _ (by exact HC1_8.out) (by exact pC (Kd.C_below HR1_8.out HB.out)))); (case side2 => exact Nat.le_refl _); rintro e w10 ⟨rfl, hb⟩; replace BK264 := zK BK264 hb; replace HB := zW (pB1 HB.out GE264.out) hb; (try clear hb); (try clear hb2); (try clear hk); (try clear hi)) | (go_at_call 51; (with_reducible refine (spec_l12Turns.calls k _ _ l0 _ 1 [(⟨a1_0, a1_1, a1_2, (⟨a1_3, a1_4, a1_5⟩ : S33), a1_6, a1_7, l1_8⟩ : S36)] t267 _ ?side1 ?side2 ?side3 ?side4 A7.out).mono ?_); (case side1 => exact pC (Kd.C_below HR0.out HB.out)); (case side2 => exact HC0.out); (case side3 => exact C_box (cs := #[.string a1_0, .string a1_1, .int .i64 a1_2, .string a1_3, .int .i64 a1_4, .int .i64 a1_5, .int .i64 a1_6, .int .i64 a1_7, .slice A1_8 l1_8.length c1_8]) (t := 36) (pK BK264.out) (k36_mk _ _ (by exact HC1_8.out) (by exact pC (Kd.C_below HR1_8.out HB.out)))); (case side4 => exact Nat.le_refl _); rintro e w11 ⟨v268, rfl, ho0, hb⟩; have HO269 := Aside0.mk (Kd.R_lower ho0 (below_size (pB1 HB.out GE264.out))); replace BK264 := zK BK264 hb; replace HB := zW (pB1 HB.out GE264.out) hb; (try clear hb); (try clear hb2); (try clear hk); (try clear hi); (try clear ho0); obtain ⟨Ao12, co12, eo12⟩ := Kd.R_slice HO269.out; subst eo12))
 go_ret
 exact ⟨zE, pB1 HB.out GE264.out⟩
def laws_toPoint.f (a0_0 : Int) (a0_1 : Int) : Option (Int × Int) := some (a0_0, a0_1)
set_option maxHeartbeats 8000000 in
set_option maxRecDepth 100000 in
theorem laws_toPoint.calls (a0_0 : Int) (a0_1 : Int) (r1 : Int) (r2 : Int) (w : World) (h : laws_toPoint.f a0_0 a0_1 = some (r1, r2)) :
 Calls Try.prog 52 #[.agg #[.int .i64 a0_0, .int .i64 a0_1]] w fun e w' => e = .returned (.agg #[.int .i64 r1, .int .i64 r2]) ∧ Below w.heap.size w w' := by
 have hu93 := Try.underlying93
 have hu91 := Try.underlying91
 have HB := Aside0.mk (Below.refl w.heap.size w)
 have H : (some (a0_0, a0_1)) = some (r1, r2) := h
 clear h
 simp only [Option.some.injEq, Prod.mk.injEq] at H
 obtain ⟨rfl, rfl⟩ := H
 go_enter Try.func52, Try.ntmps52
 go_wp2_with (first | ((with_reducible refine gate_dst (N := 1) rfl ?_); refine zB 1 #[.int .i64 a0_0, .int .i64 a0_1] 93 ?_; intro gb270 hg w2 hbox hb; have BK270 := Aside0.mk (hbox); have GW270 := zS (pB0 HB.out) hg; have GE270 := zS (pB0 HB.out) hg; replace HB := zW (pB0 HB.out) hb; clear hb hbox hg) | ((with_reducible refine gate_dst (N := 2) rfl ?_); refine zB 2 #[.int .i64 0, .int .i64 0] 91 ?_; intro gb271 hg w3 hbox hb; have BK271 := Aside0.mk (hbox); have GW271 := zS (pB1 HB.out GE270.out) hg; have GE271 := zS (pB1 HB.out GE270.out) hg; have NB270_271 := zL BK270 hg; have NB271_270 := zM BK270 hg; replace BK270 := zK BK270 hb; replace HB := zW (pB1 HB.out GE270.out) hb; clear hb hbox hg) | ((with_reducible refine gate_dst (N := 3) rfl ?_); refine zB 3 #[.int .i64 0, .int .i64 0] 91 ?_; intro gb272 hg w4 hbox hb; have BK272 := Aside0.mk (hbox); have GW272 := zS (pB2 HB.out GE270.out GE271.out) hg; have GE272 := zS (pB2 HB.out GE270.out GE271.out) hg; have NB270_272 := zL BK270 hg; have NB272_270 := zM BK270 hg; have NB271_272 := zL BK271 hg; have NB272_271 := zM BK271 hg; replace BK270 := zK BK270 hb; replace BK271 := zK BK271 hb; replace HB := zW (pB2 HB.out GE270.out GE271.out) hb; clear hb hbox hg; have hnb5 := NB270_271.out; have hnc5 := NB271_270.out; have hnb6 := NB270_272.out; have hnc6 := NB272_270.out; obtain ⟨hcz7_0, hfz7_0, hcz7_1, hfz7_1⟩ := zw2 BK270; have hnb8 := NB272_271.out; have hnc8 := NB271_272.out; obtain ⟨hcz9_0, hfz9_0, hcz9_1, hfz9_1⟩ := zw2 BK272; obtain ⟨hcz10_0, hfz10_0, hcz10_1, hfz10_1⟩ := zw2 BK271))
 refine bodyPost_ret (results_cell_row rfl _ _ gb271 91 #[.int .i64 a0_0, .int .i64 a0_1] (0, 0) _ rfl (by refine zg #[.int .i64 a0_0, .int .i64 0] 1 ?_; refine zg #[.int .i64 0, .int .i64 0] 0 ?_; refine zf ?_ NB271_272; refine zf ?_ NB271_272; exact pK BK271.out) Try.underlying91 rfl (by kernel_rfl)) rfl ?_
 exact ⟨zE, pB3 HB.out GE270.out GE271.out GE272.out⟩
def laws_toPointS.l0 : Nat → List (S93) → List (S91) → Int → Option ((List (S91)))
 | 0, _, _, _ => none
 | k + 1, x0, x3, x4 => if x4 < (x0.length : Int) then (if 0 ≤ x4 then ((laws_toPoint.f ((rd_T93 x0 x4).f0) ((rd_T93 x0 x4).f1)).bind fun bt277 => (if x4 < (x3.length : Int) then (laws_toPointS.l0 k x0 (x3.set (x4 : Int).toNat (⟨bt277.1, bt277.2⟩ : S91)) (wrap64 (x4 + 1))) else (none))) else (none)) else (some x3)
def laws_toPointS.f (k : Nat) (l0 : List (S93)) : Option ((List (S91))) := if 0 ≤ (l0.length : Int) then (if ((l0.length : Int) : Int).toNat ≤ 17592186044416 then (laws_toPointS.l0 k l0 (List.replicate ((l0.length : Int) : Int).toNat z91) 0) else (none)) else (none)
theorem laws_toPointS.mono_l : ∀ k, (∀ y0 y1 y2, LeO (laws_toPointS.l0 k y0 y1 y2) (laws_toPointS.l0 (k + 1) y0 y1 y2))
 | 0 => fun _ _ _ r h => by simp [laws_toPointS.l0] at h
 | k + 1 => by
   have ih0 := laws_toPointS.mono_l k
   · intro y0 y1 y2
     unfold laws_toPointS.l0
     repeat' first
     | (with_reducible exact ih0 _ _ _)
     | (with_reducible exact LeO.refl _)
     | (with_reducible exact LeO.none _)
     | (with_reducible refine LeO.ite ?_ ?_)
     | (with_reducible refine LeO.bind ?_ (fun _ => ?_))
     | exact ih0 _ _ _
     | exact LeO.none _
     | refine LeO.ite ?_ ?_
     | refine LeO.bind ?_ (fun _ => ?_)
theorem laws_toPointS.mono : ∀ a0 k, LeO (laws_toPointS.f k a0) (laws_toPointS.f (k + 1) a0) := by
 intro a0 k
 have ih0 := laws_toPointS.mono_l k
 unfold laws_toPointS.f
 repeat' first
  | (with_reducible exact ih0 _ _ _)
  | (with_reducible exact LeO.refl _)
  | (with_reducible exact LeO.none _)
  | (with_reducible refine LeO.ite ?_ ?_)
  | (with_reducible refine LeO.bind ?_ (fun _ => ?_))
  | exact ih0 _ _ _
  | exact LeO.none _
  | refine LeO.ite ?_ ?_
  | refine LeO.bind ?_ (fun _ => ?_)
set_option maxHeartbeats 8000000 in
set_option maxRecDepth 100000 in
theorem laws_toPointS.calls (k : Nat) (A0 : Option Addr) (c0 : Nat) (l0 : List (S93)) (r : List (S91)) (w : World) (hr0 : Kd.C k93 w A0 l0.length l0) (hc0 : l0.length ≤ c0) (h : laws_toPointS.f k l0 = some r) :
 Calls Try.prog 12 #[.slice A0 l0.length c0] w fun e w' => ∃ v0_ : Value, e = .returned (v0_) ∧ Kd.R k91 91 w' w.heap.size (fun _ => True) v0_ r ∧ Below w.heap.size w w' := by
 have hu93 := Try.underlying93
 have hu91 := Try.underlying91
 have HR0 := Aside0.mk hr0
 have HC0 := Aside0.mk hc0
 clear hr0 hc0
 have HB := Aside0.mk (Below.refl w.heap.size w)
 have H : (if 0 ≤ (l0.length : Int) then (if ((l0.length : Int) : Int).toNat ≤ 17592186044416 then (laws_toPointS.l0 k l0 (List.replicate ((l0.length : Int) : Int).toNat z91) 0) else (none)) else (none)) = some r := h
 clear h
 by_cases c2 : 0 ≤ (l0.length : Int)
 rotate_left
 · rw [if_neg c2] at H
   exact absurd H (by simp)
 rw [if_pos c2] at H
 have c2b0 := eq_true c2
 have c2b1 := decide_eq_true c2
 clear c2
 by_cases c3 : ((l0.length : Int) : Int).toNat ≤ 17592186044416
 rotate_left
 · rw [if_neg c3] at H
   exact absurd H (by simp)
 rw [if_pos c3] at H
 have c3b0 := eq_true c3
 have c3b1 := decide_eq_true c3
 clear c3
 obtain ⟨y273, hy273⟩ : ∃ y_ : List (S91), y_ = (List.replicate ((l0.length : Int) : Int).toNat z91) := ⟨_, rfl⟩
 replace H : (laws_toPointS.l0 k l0 y273 0) = some r := by first | (rw [hy273]; with_reducible exact H) | (have H2_ := (Option.bind_some _ _).symm.trans H; rw [hy273]; with_reducible exact H2_) | (have H2_ := (Option.bind_some _ _).symm.trans H; with_reducible exact H2_) | with_reducible exact H | (rw [hy273]; exact H) | exact H
 have Ny273 := Aside0.mk hy273
 clear hy273
 have H' := Aside0.mk H
 clear H
 go_enter Try.func12, Try.ntmps12
 go_wp2_with (first | ((with_reducible refine gate_dst (N := 7) rfl ?_); refine Kd.R_make k91 _ 91 rfl (N := 7) rfl 31 _ _ rfl (l0.length : Int) rfl rfl Try.underlying31 (.agg #[(.int .i64 0), (.int .i64 0)]) 16 info91 rfl (by decide) (by omega) z91 (ok := fun _ => True) (okp := fun _ => True) (k91_mkM _ _ _ z91 ) (fun _ hk => hk) trivial (zD) (Nat.le_trans (Nat.mul_le_mul_right _ (zD : (l0.length : Int).toNat ≤ 17592186044416)) (by omega)) (Below.refl _ _) (Nat.le_refl _) ?_; intro v274 w4 ho5 hb hg_ hnew_; clear hg_ hnew_; (first | rw [← Ny273.out] at ho5 | (simp only [Int.reduceToNat] at ho5; rw [← Ny273.out] at ho5)); have HO275 := Aside0.mk (Kd.R_lower ho5 (below_size (pB0 HB.out))); replace HB := zW (pB0 HB.out) hb; clear hb ho5))
 go_loopg [4] k (fun kq v4 w' => ∃ (x3_1 : List (S91)) (x4_1 : Int), v4 = .int .i64 x4_1 ∧ Aside0 (laws_toPointS.l0 kq l0 x3_1 x4_1 = some r) ∧ Aside0 (kq ≤ k) ∧ Aside0 (Kd.R k91 91 w' w.heap.size (fun _ => True) v274 x3_1) ∧ Aside0 (Below w.heap.size w w'))
 case atStart => exact ⟨(y273), (0), zR, H', ⟨Nat.le_refl _⟩, ⟨pR HO275.out⟩, ⟨pB0 HB.out⟩⟩
 case round =>
  clear H'
  try clear c1
  try clear c2
  try clear c2b0
  try clear c2b1
  try clear p2
  try clear c3
  try clear c3b0
  try clear c3b1
  obtain ⟨x3_1, x4_1, rfl, HA, HK1, HO_3, HB⟩ := hrel
  cases gk with
  | zero => exact absurd HA.out (by simp [laws_toPointS.l0])
  | succ k1 =>
    have H := HA.out
    clear HA
    simp only [laws_toPointS.l0] at H
    by_cases c6 : x4_1 < (l0.length : Int)
    rotate_left
    · rw [if_neg c6] at H
      have c6b0 : decide (x4_1 < (l0.length : Int)) = false := decide_eq_false c6
      clear c6
      obtain rfl := Option.some.inj H
      go_wp2
      go_ret
      exact ⟨_, zE, by (with_reducible repeat (first | apply Kd.R_alloc | apply Kd.R_drewN | apply Kd.R_drew)); exact HO_3.out, pB0 HB.out⟩
    rw [if_pos c6] at H
    have c6b0 := decide_eq_true c6
    clear c6
    by_cases c7 : 0 ≤ x4_1
    rotate_left
    · rw [if_neg c7] at H
      exact absurd H (by simp)
    rw [if_pos c7] at H
    have c7b0 := decide_eq_true c7
    clear c7
    replace H := Option.bind_eq_some_iff.mp H
    obtain ⟨⟨t277, t278⟩, A80, H⟩ := H
    replace H : (if x4_1 < (x3_1.length : Int) then (laws_toPointS.l0 k1 l0 (x3_1.set (x4_1 : Int).toNat (⟨t277, t278⟩ : S91)) (wrap64 (x4_1 + 1))) else (none)) = some r := H
    have A8 := Aside0.mk A80
    clear A80
    by_cases c9 : x4_1 < (x3_1.length : Int)
    rotate_left
    · rw [if_neg c9] at H
      exact absurd H (by simp)
    rw [if_pos c9] at H
    have c9b0 := decide_eq_true c9
    clear c9
    obtain ⟨y279, hy279⟩ : ∃ y_ : List (S91), y_ = (x3_1.set (x4_1 : Int).toNat (⟨t277, t278⟩ : S91)) := ⟨_, rfl⟩
    replace H : (laws_toPointS.l0 k1 l0 y279 (wrap64 (x4_1 + 1))) = some r := by first | (rw [hy279]; with_reducible exact H) | (have H2_ := (Option.bind_some _ _).symm.trans H; rw [hy279]; with_reducible exact H2_) | (have H2_ := (Option.bind_some _ _).symm.trans H; with_reducible exact H2_) | with_reducible exact H | (rw [hy279]; exact H) | exact H
    have Ny279 := Aside0.mk hy279
    clear hy279
    have H' := Aside0.mk H
    clear H
    have p276 : 0 ≤ (x4_1 : Int) := zD
    have q276 : x4_1 < (l0.length : Int) := zD
    obtain ⟨ad276, e276, hx276_0, hx276_1⟩ := at_T93 HR0.out x4_1 p276 q276
    cases e276
    try replace hx276_0 := zH HB hx276_0
    try replace hx276_1 := zH HB hx276_1
    replace p276 := eq_true p276
    replace q276 := eq_true q276
    go_wp2_with (first | ((with_reducible refine gate_callee (f := 52) rfl ?_); refine goesL_ (some 20) rfl rfl Try.func52 (by kernel_rfl) rfl #[.agg #[.int .i64 ((rd_T93 l0 x4_1).f0), .int .i64 ((rd_T93 l0 x4_1).f1)]] rfl pA ?_; (with_reducible refine (laws_toPoint.calls ((rd_T93 l0 x4_1).f0) ((rd_T93 l0 x4_1).f1) t277 t278 _ A8.out).mono ?_); rintro e w11 ⟨rfl, hb⟩; refine ⟨_, rfl, ?_⟩; replace HO_3 := Aside0.mk (Kd.R_below (pR HO_3.out) hb); replace HB := zW (pB0 HB.out) hb; (try clear hb); (try clear hb2); (try clear hk); (try clear hi); have p10 : 0 ≤ (x4_1 : Int) := zD; have q10 : (x4_1 : Int) < ((x3_1.length : Int) : Int) := zD; obtain ⟨go10, co10, eo10, gb10, gl10, cl10, HG10⟩ := Kd.R_form HO_3.out (by omega); (first | cases eo10 | (injection eo10 with ea_ en_ ec_; (first | subst ea_ | (injection ea_ with ea_; subst ea_)); subst ec_; clear en_)); have GB10 := Aside0.mk gb10; have GG10 := Aside0.mk HG10; clear gb10 gl10 HG10; obtain ⟨ce10, hcl10, hM10, hcc10, hfr10⟩ := Kd.R_elem HO_3.out z91 (x4_1 : Int) p10 q10; obtain rfl := k91_openM hM10; have hx10_0 : w11.cell? ⟨go10, (x4_1 : Int).toNat * 2, none⟩ = some (.int .i64 ((rd_T91 x3_1 x4_1).f0)) := hcc10 0 _ rfl; have hx10_1 : w11.cell? ⟨go10, (x4_1 : Int).toNat * 2 + 1, none⟩ = some (.int .i64 ((rd_T91 x3_1 x4_1).f1)) := hcc10 1 _ rfl; have hf10_0 : w11.frozen? ⟨go10, (x4_1 : Int).toNat * 2, none⟩ = false := hfr10 0; have hf10_1 : w11.frozen? ⟨go10, (x4_1 : Int).toNat * 2 + 1, none⟩ = false := hfr10 1; clear hcl10 hcc10 hfr10; (try clear hM10); replace p10 := eq_true p10; replace q10 := eq_true q10; have HX12 := Aside0.mk (show Kd.R k91 91 w11 w.heap.size (fun _ => True) (.slice (some ⟨go10, 0, none⟩) x3_1.length co10) x3_1 from (pR HO_3.out)); obtain ⟨ce12, hcl12, hM12, hcc12, hfr12⟩ := Kd.R_elem HX12.out z91 (x4_1 : Int) (zD) (by have h_ : (x4_1 : Int) < ((x3_1.length : Int) : Int) := zD; first | exact h_ | (have e_ := (Kd.R_reads' HO_3.out).1; omega) | simpa using h_); obtain rfl := k91_openM hM12; have HP12 := Kd.R_seg HX12.out (x4_1 : Int) (zD) (by have h_ : (x4_1 : Int) < ((x3_1.length : Int) : Int) := zD; first | exact h_ | (have e_ := (Kd.R_reads' HO_3.out).1; omega) | simpa using h_) (seg := [.int .i64 t277, .int .i64 t278]) (j := 0) hcl12 hcc12 (show 2 ≤ 2 from by decide) (x' := (⟨t277, t278⟩ : S91)) (k91_mkM _ _ _ (⟨t277, t278⟩ : S91) ) (fun _ hk => hk); have hx12_0 := hcc12 0 _ rfl; (try simp only [show (k91).sz = 2 from rfl, Nat.mul_one, Nat.add_zero] at hx12_0); have hf12_0 := hfr12 0; (try simp only [show (k91).sz = 2 from rfl, Nat.mul_one, Nat.add_zero] at hf12_0); have hx12_1 := hcc12 1 _ rfl; (try simp only [show (k91).sz = 2 from rfl, Nat.mul_one, Nat.add_zero] at hx12_1); have hf12_1 := hfr12 1; (try simp only [show (k91).sz = 2 from rfl, Nat.mul_one, Nat.add_zero] at hf12_1); clear hcl12 hcc12 hfr12; (try clear hM12)) | ((with_reducible refine gate_store (t := 91) (p := 21) rfl ?_); refine store_event (t := 91) (p := 21) (v := ?vo_w13) (w1 := ((w11.setCell ⟨go10, (x4_1 : Int).toNat * 2, none⟩ (.int .i64 t277)).setCell ⟨go10, (x4_1 : Int).toNat * 2 + 1, none⟩ (.int .i64 t278))) ?hg ?ho ?hn ?hr ?_; (case ho => rfl); (case hg => rfl); (case hn => rfl); (case hr => first | (go_simp; done) | (go_simp; rfl)); intro w13 hw; have hg : w11.grownBy w13 (some go10) := (by rw [hw]; exact HP12.2); have hp_ : Kd.R k91 91 w13 w.heap.size (fun _ => True) (.slice (some ⟨go10, 0, none⟩) x3_1.length co10) y279 := (by rw [hw, Ny279.out]; exact HP12.1); clear HP12; replace HO_3 := Aside0.mk (hp_); replace HB := Aside0.mk ((by rw [hw]; exact below_set (below_set (HB.out) GB10.out) GB10.out : Below w.heap.size w w13)); clear hg hw hp_))
    go_roundg k1
    case measure => have := HK1.out; omega
    case rel => exact ⟨(y279), (wrap64 (x4_1 + 1)), zR, H', ⟨by have := HK1.out; omega⟩, ⟨pR HO_3.out⟩, ⟨pB0 HB.out⟩⟩
def laws_toVeneer.f (a0_0 : ByteArray) (a0_1 : Int) (a0_2 : Int) : Option (ByteArray × Int × Int) := some (a0_0, a0_1, a0_2)
set_option maxHeartbeats 8000000 in
set_option maxRecDepth 100000 in
theorem laws_toVeneer.calls (a0_0 : ByteArray) (a0_1 : Int) (a0_2 : Int) (r1 : ByteArray) (r2 : Int) (r3 : Int) (w : World) (h : laws_toVeneer.f a0_0 a0_1 a0_2 = some (r1, r2, r3)) :
 Calls Try.prog 53 #[.agg #[.string a0_0, .int .i64 a0_1, .int .i64 a0_2]] w fun e w' => e = .returned (.agg #[.string r1, .int .i64 r2, .int .i64 r3]) ∧ Below w.heap.size w w' := by
 have hu24 := Try.underlying24
 have hu33 := Try.underlying33
 have HB := Aside0.mk (Below.refl w.heap.size w)
 have H : (some (a0_0, a0_1, a0_2)) = some (r1, r2, r3) := h
 clear h
 simp only [Option.some.injEq, Prod.mk.injEq] at H
 obtain ⟨rfl, rfl, rfl⟩ := H
 go_enter Try.func53, Try.ntmps53
 go_wp2_with (first | ((with_reducible refine gate_dst (N := 1) rfl ?_); refine zB 1 #[.string a0_0, .int .i64 a0_1, .int .i64 a0_2] 24 ?_; intro gb280 hg w2 hbox hb; have BK280 := Aside0.mk (hbox); have GW280 := zS (pB0 HB.out) hg; have GE280 := zS (pB0 HB.out) hg; replace HB := zW (pB0 HB.out) hb; clear hb hbox hg) | ((with_reducible refine gate_dst (N := 2) rfl ?_); refine zB 2 #[.string (⟨#[]⟩ : ByteArray), .int .i64 0, .int .i64 0] 33 ?_; intro gb281 hg w3 hbox hb; have BK281 := Aside0.mk (hbox); have GW281 := zS (pB1 HB.out GE280.out) hg; have GE281 := zS (pB1 HB.out GE280.out) hg; have NB280_281 := zL BK280 hg; have NB281_280 := zM BK280 hg; replace BK280 := zK BK280 hb; replace HB := zW (pB1 HB.out GE280.out) hb; clear hb hbox hg) | ((with_reducible refine gate_dst (N := 3) rfl ?_); refine zB 3 #[.string (⟨#[]⟩ : ByteArray), .int .i64 0, .int .i64 0] 33 ?_; intro gb282 hg w4 hbox hb; have BK282 := Aside0.mk (hbox); have GW282 := zS (pB2 HB.out GE280.out GE281.out) hg; have GE282 := zS (pB2 HB.out GE280.out GE281.out) hg; have NB280_282 := zL BK280 hg; have NB282_280 := zM BK280 hg; have NB281_282 := zL BK281 hg; have NB282_281 := zM BK281 hg; replace BK280 := zK BK280 hb; replace BK281 := zK BK281 hb; replace HB := zW (pB2 HB.out GE280.out GE281.out) hb; clear hb hbox hg; have hnb5 := NB280_281.out; have hnc5 := NB281_280.out; have hnb6 := NB280_282.out; have hnc6 := NB282_280.out; obtain ⟨hcz7_0, hfz7_0, hcz7_1, hfz7_1, hcz7_2, hfz7_2⟩ := zw3 BK280; have hnb8 := NB282_281.out; have hnc8 := NB281_282.out; obtain ⟨hcz9_0, hfz9_0, hcz9_1, hfz9_1, hcz9_2, hfz9_2⟩ := zw3 BK282; obtain ⟨hcz10_0, hfz10_0, hcz10_1, hfz10_1, hcz10_2, hfz10_2⟩ := zw3 BK281))
 refine bodyPost_ret (results_cell_row rfl _ _ gb281 33 #[.string a0_0, .int .i64 a0_1, .int .i64 a0_2] (0, 0) _ rfl (by refine zg #[.string a0_0, .int .i64 a0_1, .int .i64 0] 2 ?_; refine zg #[.string a0_0, .int .i64 0, .int .i64 0] 1 ?_; refine zg #[.string (⟨#[]⟩ : ByteArray), .int .i64 0, .int .i64 0] 0 ?_; refine zf ?_ NB281_282; refine zf ?_ NB281_282; refine zf ?_ NB281_282; exact pK BK281.out) Try.underlying33 rfl (by kernel_rfl)) rfl ?_
 exact ⟨zE, pB3 HB.out GE280.out GE281.out GE282.out⟩
def laws_toBox.f (a0_0 : Int) (a0_1 : Int) (a0_2 : Int) (a0_3 : Int) : Option (Int × Int × Int × Int) := some (a0_0, a0_1, a0_2, a0_3)
set_option maxHeartbeats 8000000 in
set_option maxRecDepth 100000 in
theorem laws_toBox.calls (a0_0 : Int) (a0_1 : Int) (a0_2 : Int) (a0_3 : Int) (r1 : Int) (r2 : Int) (r3 : Int) (r4 : Int) (w : World) (h : laws_toBox.f a0_0 a0_1 a0_2 a0_3 = some (r1, r2, r3, r4)) :
 Calls Try.prog 94 #[.agg #[.int .i64 a0_0, .int .i64 a0_1, .int .i64 a0_2, .int .i64 a0_3]] w fun e w' => e = .returned (.agg #[.int .i64 r1, .int .i64 r2, .int .i64 r3, .int .i64 r4]) ∧ Below w.heap.size w w' := by
 have hu136 := Try.underlying136
 have hu103 := Try.underlying103
 have HB := Aside0.mk (Below.refl w.heap.size w)
 have H : (some (a0_0, a0_1, a0_2, a0_3)) = some (r1, r2, r3, r4) := h
 clear h
 simp only [Option.some.injEq, Prod.mk.injEq] at H
 obtain ⟨rfl, rfl, rfl, rfl⟩ := H
 go_enter Try.func94, Try.ntmps94
 go_wp2_with (first | ((with_reducible refine gate_dst (N := 1) rfl ?_); refine zB 1 #[.int .i64 a0_0, .int .i64 a0_1, .int .i64 a0_2, .int .i64 a0_3] 136 ?_; intro gb283 hg w2 hbox hb; have BK283 := Aside0.mk (hbox); have GW283 := zS (pB0 HB.out) hg; have GE283 := zS (pB0 HB.out) hg; replace HB := zW (pB0 HB.out) hb; clear hb hbox hg) | ((with_reducible refine gate_dst (N := 2) rfl ?_); refine zB 2 #[.int .i64 0, .int .i64 0, .int .i64 0, .int .i64 0] 103 ?_; intro gb284 hg w3 hbox hb; have BK284 := Aside0.mk (hbox); have GW284 := zS (pB1 HB.out GE283.out) hg; have GE284 := zS (pB1 HB.out GE283.out) hg; have NB283_284 := zL BK283 hg; have NB284_283 := zM BK283 hg; replace BK283 := zK BK283 hb; replace HB := zW (pB1 HB.out GE283.out) hb; clear hb hbox hg) | ((with_reducible refine gate_dst (N := 3) rfl ?_); refine zB 3 #[.int .i64 0, .int .i64 0, .int .i64 0, .int .i64 0] 103 ?_; intro gb285 hg w4 hbox hb; have BK285 := Aside0.mk (hbox); have GW285 := zS (pB2 HB.out GE283.out GE284.out) hg; have GE285 := zS (pB2 HB.out GE283.out GE284.out) hg; have NB283_285 := zL BK283 hg; have NB285_283 := zM BK283 hg; have NB284_285 := zL BK284 hg; have NB285_284 := zM BK284 hg; replace BK283 := zK BK283 hb; replace BK284 := zK BK284 hb; replace HB := zW (pB2 HB.out GE283.out GE284.out) hb; clear hb hbox hg; have hnb5 := NB283_284.out; have hnc5 := NB284_283.out; have hnb6 := NB283_285.out; have hnc6 := NB285_283.out; obtain ⟨hcz7_0, hfz7_0, hcz7_1, hfz7_1, hcz7_2, hfz7_2, hcz7_3, hfz7_3⟩ := zw4 BK283; have hnb8 := NB285_284.out; have hnc8 := NB284_285.out; obtain ⟨hcz9_0, hfz9_0, hcz9_1, hfz9_1, hcz9_2, hfz9_2, hcz9_3, hfz9_3⟩ := zw4 BK285; obtain ⟨hcz10_0, hfz10_0, hcz10_1, hfz10_1, hcz10_2, hfz10_2, hcz10_3, hfz10_3⟩ := zw4 BK284))
 refine bodyPost_ret (results_cell_row rfl _ _ gb284 103 #[.int .i64 a0_0, .int .i64 a0_1, .int .i64 a0_2, .int .i64 a0_3] (0, 0) _ rfl (by refine zg #[.int .i64 a0_0, .int .i64 a0_1, .int .i64 a0_2, .int .i64 0] 3 ?_; refine zg #[.int .i64 a0_0, .int .i64 a0_1, .int .i64 0, .int .i64 0] 2 ?_; refine zg #[.int .i64 a0_0, .int .i64 0, .int .i64 0, .int .i64 0] 1 ?_; refine zg #[.int .i64 0, .int .i64 0, .int .i64 0, .int .i64 0] 0 ?_; refine zf ?_ NB284_285; refine zf ?_ NB284_285; refine zf ?_ NB284_285; refine zf ?_ NB284_285; exact pK BK284.out) Try.underlying103 rfl (by kernel_rfl)) rfl ?_
 exact ⟨zE, pB3 HB.out GE283.out GE284.out GE285.out⟩
end Go.Proofs.Ytfiiakhpdkdebaa.PFnExactFitsLeaf

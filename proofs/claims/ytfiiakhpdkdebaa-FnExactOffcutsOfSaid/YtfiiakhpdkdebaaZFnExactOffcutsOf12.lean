/- What each function that a law reaches comes to, and the proof that its walk comes to it; laid by a program of this session. No condition. -/
import Derived.Test.YtfiiakhpdkdebaaZFnExactOffcutsOf0
import Derived.Test.YtfiiakhpdkdebaaZFnExactOffcutsOf11
namespace Go.Proofs.Ytfiiakhpdkdebaa.PFnExactOffcutsOf
open Go.RowKit Go.Proofs.YtfiiakhpdkdebaaW.PrintWords Go.Proofs.YtfiiakhpdkdebaaW.PrintLast Go.Proofs.YtfiiakhpdkdebaaW.PrintMore
attribute [local go_sem] max2_int min2_int max_two min_two max_three min_three max_four min_four
set_option linter.unusedVariables false
set_option linter.unusedSimpArgs false
def spec_l12Turns.l0 : Nat → List (S36) → List Int → Int → Int → Int → Int → Int → Option (List Int)
 | 0, _, _, _, _, _, _, _ => none
 | k + 1, x1, x7, x8, x311000, x311001, x312000, x312001 => if x8 < 8 then (if (Int.tmod x8 2) = 1 then (if 0 < (x1.length : Int) then (if (wrap64 (x312001 - x311001)) ≤ ((rd_T36 x1 0).f4) then (if (wrap64 (x312000 - x311000)) ≤ ((rd_T36 x1 0).f5) then (if x7.length < 17592186044416 then (spec_l12Turns.l0 k x1 (x7 ++ [x8]) (wrap64 (x8 + 1)) x311000 x311001 x312000 x312001) else (none)) else (spec_l12Turns.l0 k x1 x7 (wrap64 (x8 + 1)) x311000 x311001 x312000 x312001)) else (spec_l12Turns.l0 k x1 x7 (wrap64 (x8 + 1)) x311000 x311001 x312000 x312001)) else (none)) else (if 0 < (x1.length : Int) then (if (wrap64 (x312000 - x311000)) ≤ ((rd_T36 x1 0).f4) then (if (wrap64 (x312001 - x311001)) ≤ ((rd_T36 x1 0).f5) then (if x7.length < 17592186044416 then (spec_l12Turns.l0 k x1 (x7 ++ [x8]) (wrap64 (x8 + 1)) x311000 x311001 x312000 x312001) else (none)) else (spec_l12Turns.l0 k x1 x7 (wrap64 (x8 + 1)) x311000 x311001 x312000 x312001)) else (spec_l12Turns.l0 k x1 x7 (wrap64 (x8 + 1)) x311000 x311001 x312000 x312001)) else (none))) else (some x7)
def spec_l12Turns.f (k : Nat) (l0 : List (S91)) (l1 : List (S36)) : Option (List Int) := (spec_l03Bounds.f k l0).bind fun bt306 => (spec_l12Turns.l0 k l1 (([] : List Int)) 0 bt306.1 bt306.2.1 bt306.2.2.1 bt306.2.2.2)
theorem spec_l12Turns.mono_l : ∀ k, (∀ y0 y1 y2 y3 y4 y5 y6, LeO (spec_l12Turns.l0 k y0 y1 y2 y3 y4 y5 y6) (spec_l12Turns.l0 (k + 1) y0 y1 y2 y3 y4 y5 y6))
 | 0 => fun _ _ _ _ _ _ _ r h => by simp [spec_l12Turns.l0] at h
 | k + 1 => by
   have ih0 := spec_l12Turns.mono_l k
   · intro y0 y1 y2 y3 y4 y5 y6
     unfold spec_l12Turns.l0
     repeat' first
     | (with_reducible exact ih0 _ _ _ _ _ _ _)
     | (with_reducible exact spec_l03Bounds.mono _ _)
     | (with_reducible exact LeO.refl _)
     | (with_reducible exact LeO.none _)
     | (with_reducible refine LeO.ite ?_ ?_)
     | (with_reducible refine LeO.bind ?_ (fun _ => ?_))
     | exact ih0 _ _ _ _ _ _ _
     | exact spec_l03Bounds.mono _ _
     | exact LeO.none _
     | refine LeO.ite ?_ ?_
     | refine LeO.bind ?_ (fun _ => ?_)
theorem spec_l12Turns.mono : ∀ a0 a1 k, LeO (spec_l12Turns.f k a0 a1) (spec_l12Turns.f (k + 1) a0 a1) := by
 intro a0 a1 k; have ih0 := spec_l12Turns.mono_l k; unfold spec_l12Turns.f
 repeat' first
  | (with_reducible exact ih0 _ _ _ _ _ _ _)
  | (with_reducible exact spec_l03Bounds.mono _ _)
  | (with_reducible exact LeO.refl _)
  | (with_reducible exact LeO.none _)
  | (with_reducible refine LeO.ite ?_ ?_)
  | (with_reducible refine LeO.bind ?_ (fun _ => ?_))
  | exact ih0 _ _ _ _ _ _ _
  | exact spec_l03Bounds.mono _ _
  | exact LeO.none _
  | refine LeO.ite ?_ ?_
  | refine LeO.bind ?_ (fun _ => ?_)
set_option maxHeartbeats 8000000 in
set_option maxRecDepth 100000 in
theorem spec_l12Turns.calls (k : Nat) (A0 : Option Addr) (c0 : Nat) (l0 : List (S91)) (A1 : Option Addr) (c1 : Nat) (l1 : List (S36)) (r : List Int) (w : World) (hr0 : Kd.C k91 w A0 l0.length l0) (hc0 : l0.length ≤ c0) (hr1 : Kd.C k36 w A1 l1.length l1) (hc1 : l1.length ≤ c1) (h : spec_l12Turns.f k l0 l1 = some r) :
 Calls Try.prog 51 #[.slice A0 l0.length c0, .pointer A1] w fun e w' => ∃ v0_ : Value, e = .returned (v0_) ∧ Kd.R (Kd.int .i64) 2 w' w.heap.size (fun _ => True) v0_ r ∧ Below w.heap.size w w' := by
 have hu91 := Try.underlying91; have HR0 := Aside0.mk hr0; have HC0 := Aside0.mk hc0; clear hr0 hc0; have HR1 := Aside0.mk hr1; have HC1 := Aside0.mk hc1; clear hr1 hc1; have HB := Aside0.mk (Below.refl w.heap.size w)
 have H : ((spec_l03Bounds.f k l0).bind fun bt306 => (spec_l12Turns.l0 k l1 (([] : List Int)) 0 bt306.1 bt306.2.1 bt306.2.2.1 bt306.2.2.2)) = some r := h
 clear h; replace H := Option.bind_eq_some_iff.mp H; obtain ⟨⟨t306, t307, t308, t309⟩, A30, H⟩ := H; replace H : (spec_l12Turns.l0 k l1 (([] : List Int)) 0 t306 t307 t308 t309) = some r := H; have A3 := Aside0.mk A30; clear A30; obtain ⟨y312, hy312⟩ : ∃ y_ : List Int, y_ = (([] : List Int)) := ⟨_, rfl⟩; replace H : (spec_l12Turns.l0 k l1 y312 0 t306 t307 t308 t309) = some r := zY hy312 H; have Ny312 := Aside0.mk hy312; clear hy312; have H' := Aside0.mk H; clear H
 go_enter Try.func51, Try.ntmps51
 go_wp2_with (first | ((with_reducible refine gate_callee (f := 60) rfl ?_); refine zJ (some 13) Try.func60 #[.slice A0 l0.length c0] ?_; (with_reducible refine (spec_l03Bounds.calls k _ _ l0 t306 t307 t308 t309 _ ?side1 ?side2 A3.out).mono ?_); (case side1 => exact pC HR0.out); (case side2 => exact HC0.out); rintro e w4 ⟨rfl, hb⟩; refine ⟨_, rfl, ?_⟩; replace HB := zW (pB0 HB.out) hb; (try clear hb); (try clear hb2); (try clear hk); (try clear hi)) | ((with_reducible refine zI 5 rfl ?_); refine zB 5 #[.int .i64 0, .int .i64 0] 91 ?_; intro gb310 hg w5 hbox hb; have BK310 := Aside0.mk (hbox); have GW310 := zS (pB0 HB.out) hg; have GE310 := GW310; replace HB := zW (pB0 HB.out) hb; clear hb hbox hg) | ((with_reducible refine zI 6 rfl ?_); refine zB 6 #[.int .i64 0, .int .i64 0] 91 ?_; intro gb311 hg w6 hbox hb; have BK311 := Aside0.mk (hbox); have GW311 := zS (pB1 HB.out GE310.out) hg; have GE311 := GW311; have NB310_311 := zL BK310 hg; have NB311_310 := zM BK310 hg; replace BK310 := zK BK310 hb; replace HB := zW (pB1 HB.out GE310.out) hb; clear hb hbox hg; have hnb7 := NB310_311.out; have hnc7 := NB311_310.out; obtain ⟨Y8_0, X8_0, Y8_1, X8_1⟩ := zw2 BK310; obtain ⟨Y9_0, X9_0, Y9_1, X9_1⟩ := zw2 BK311) | ((with_reducible refine zI 16 rfl ?_); refine Kd.R_lit (Kd.int .i64) _ 2 ?hg (N := 16) ?hd (xs := ([] : List Int)) (inner := []) (ok := fun _ => True) (okp := fun _ => True) ?hr ?hp (fun _ hk => hk) trivial (Below.refl _ _) (Nat.le_refl _) (by simp) ?_; (case hd => rfl); (case hg => rfl); (case hr => first | (go_simp; done) | (go_simp; rfl)); (case hp => exact (Reps.none _ _)); intro v313 w10 ho11 hb hg_ hnew_; clear hg_ hnew_; (first | rw [← Ny312.out] at ho11 | (simp only [Int.reduceToNat] at ho11; rw [← Ny312.out] at ho11)); have HO314 := Aside0.mk (Kd.R_lower ho11 (below_size (pB2 HB.out GE310.out GE311.out))); replace BK310 := Aside0.mk (blk_below (g := gb310) (o := .cells #[.int .i64 t306, .int .i64 t307] 91 (0, 0)) (by refine zf ?_ NB310_311; refine zf ?_ NB310_311; refine zg #[.int .i64 t306, .int .i64 0] 1 ?_; refine zg #[.int .i64 0, .int .i64 0] 0 ?_; exact pK BK310.out) hb); replace BK311 := Aside0.mk (blk_below (g := gb311) (o := .cells #[.int .i64 t308, .int .i64 t309] 91 (0, 0)) (by refine zg #[.int .i64 t308, .int .i64 0] 1 ?_; refine zg #[.int .i64 0, .int .i64 0] 0 ?_; refine zf ?_ NB311_310; refine zf ?_ NB311_310; exact pK BK311.out) hb); replace HB := zW (pB2 HB.out GE310.out GE311.out) hb; clear hb ho11))
 go_loopg [7, 8] k (fun kq v7 v8 w' => ∃ (x7_1 : List Int) (x8_1 : Int), v8 = .int .i64 x8_1 ∧ Aside0 (spec_l12Turns.l0 kq l1 x7_1 x8_1 t306 t307 t308 t309 = some r) ∧ Aside0 (kq ≤ k) ∧ Aside0 (Kd.R (Kd.int .i64) 2 w' w.heap.size (fun _ => True) v7 x7_1) ∧ Aside0 (w'.heap[gb310]? = some (.cells #[.int .i64 t306, .int .i64 t307] 91 (0, 0))) ∧ Aside0 (w'.heap[gb311]? = some (.cells #[.int .i64 t308, .int .i64 t309] 91 (0, 0))) ∧ Aside0 (Below w.heap.size w w'))
 case atStart => exact ⟨(y312), (0), zR, H', ⟨Nat.le_refl _⟩, ⟨pR HO314.out⟩, ⟨pK BK310.out⟩, ⟨pK BK311.out⟩, ⟨pB2 HB.out GE310.out GE311.out⟩⟩
 case round =>
  clear H'; (try clear c1); (try clear p2); (try clear c5); (try clear c6); (try clear c7); (try clear Y8_0 Y8_1); (try clear Y9_0 Y9_1); (try clear X8_0 X8_1); (try clear X9_0 X9_1); obtain ⟨x7_1, x8_1, rfl, HA, HK1, HO_7, BK310, BK311, HB⟩ := hrel
  cases gk with
  | zero => exact absurd HA.out (by simp [spec_l12Turns.l0])
  | succ k1 =>
    have H := HA.out; clear HA; simp only [spec_l12Turns.l0] at H
    by_cases c12 : x8_1 < 8
    rotate_left
    · rw [if_neg c12] at H
      have c12b0 := decide_eq_false c12; clear c12; obtain rfl := Option.some.inj H
      go_wp2
      go_ret
      exact ⟨_, zE, by (with_reducible repeat (first | apply Kd.R_alloc | apply Kd.R_drewN | apply Kd.R_drew)); exact HO_7.out, pB2 HB.out GE310.out GE311.out⟩
    rw [if_pos c12] at H; have c12b0 := decide_eq_true c12; clear c12
    by_cases c13 : (Int.tmod x8_1 2) = 1
    rotate_left
    · rw [if_neg c13] at H
      have c13b0 : ((Int.tmod x8_1 2) == 1) = false := beq_eq_false_iff_ne.mpr c13; have c13b1 : ((Int.tmod x8_1 2) != 1) = true := bne_iff_ne.mpr c13
      by_cases c28 : 0 < (l1.length : Int)
      rotate_left
      · rw [if_neg c28] at H
        exact absurd H (by simp)
      rw [if_pos c28] at H; have c28b0 := decide_eq_true c28
      have c28b1 : decide (0 < l1.length) = true := decide_eq_true (by omega)
      clear c28
      by_cases c29 : (wrap64 (t308 - t306)) ≤ ((rd_T36 l1 0).f4)
      rotate_left
      · rw [if_neg c29] at H
        have c29b0 := decide_eq_false c29; clear c29; have H' := Aside0.mk H; clear H; have hnb39 := NB311_310.out; have hnc39 := NB310_311.out; have Y40_0 := zC (.int .i64 t308) BK311 0; have Y40_1 := zC (.int .i64 t309) BK311 1; have X40_0 := blk_frozen BK311.out 0; have X40_1 := blk_frozen BK311.out 1; have Y41_0 := zC (.int .i64 t306) BK310 0; have Y41_1 := zC (.int .i64 t307) BK310 1; have X41_0 := blk_frozen BK310.out 0; have X41_1 := blk_frozen BK310.out 1
        have p319 : 0 ≤ (0 : Int) := (by omega)
        have q319 : 0 < (l1.length : Int) := zD; obtain ⟨ad319, A319_8, c319_8, e319, hx319_0, hx319_1, hx319_2, hx319_3, hx319_4, hx319_5, hx319_6, hx319_7, hx319_8, hl319_8, hi319_8⟩ := at_T36 HR1.out 0 p319 q319; cases e319
        have qi319 : (0 < l1.length) = True := eq_true (by omega)
        (try rw [z0, Nat.zero_mul, Addr.add_zero'] at hx319_0); (try rw [z0, Nat.zero_mul, Addr.add_zero'] at hx319_1); (try rw [z0, Nat.zero_mul, Addr.add_zero'] at hx319_2); (try rw [z0, Nat.zero_mul, Addr.add_zero'] at hx319_3); (try rw [z0, Nat.zero_mul, Addr.add_zero'] at hx319_4); (try rw [z0, Nat.zero_mul, Addr.add_zero'] at hx319_5); (try rw [z0, Nat.zero_mul, Addr.add_zero'] at hx319_6); (try rw [z0, Nat.zero_mul, Addr.add_zero'] at hx319_7); (try rw [z0, Nat.zero_mul, Addr.add_zero'] at hx319_8)
        try replace hx319_0 := zH HB hx319_0
        try replace hx319_1 := zH HB hx319_1
        try replace hx319_2 := zH HB hx319_2
        try replace hx319_3 := zH HB hx319_3
        try replace hx319_4 := zH HB hx319_4
        try replace hx319_5 := zH HB hx319_5
        try replace hx319_6 := zH HB hx319_6
        try replace hx319_7 := zH HB hx319_7
        try replace hx319_8 := zH HB hx319_8
        have HR319_8 := Aside0.mk hi319_8; have HC319_8 := Aside0.mk hl319_8; clear hi319_8 hl319_8; replace p319 := eq_true p319; replace q319 := eq_true q319
        go_wp2
        go_roundg k1
        case measure => have := HK1.out; omega
        case rel => exact ⟨(x7_1), (wrap64 (x8_1 + 1)), zR, H', ⟨by have := HK1.out; omega⟩, ⟨pR HO_7.out⟩, ⟨pK BK310.out⟩, ⟨pK BK311.out⟩, ⟨pB2 HB.out GE310.out GE311.out⟩⟩
      rw [if_pos c29] at H; have c29b0 := decide_eq_true c29; clear c29
      by_cases c30 : (wrap64 (t309 - t307)) ≤ ((rd_T36 l1 0).f5)
      rotate_left
      · rw [if_neg c30] at H
        have c30b0 := decide_eq_false c30; clear c30; have H' := Aside0.mk H; clear H; have hnb36 := NB311_310.out; have hnc36 := NB310_311.out; have Y37_0 := zC (.int .i64 t308) BK311 0; have Y37_1 := zC (.int .i64 t309) BK311 1; have X37_0 := blk_frozen BK311.out 0; have X37_1 := blk_frozen BK311.out 1; have Y38_0 := zC (.int .i64 t306) BK310 0; have Y38_1 := zC (.int .i64 t307) BK310 1; have X38_0 := blk_frozen BK310.out 0; have X38_1 := blk_frozen BK310.out 1
        have p319 : 0 ≤ (0 : Int) := (by omega)
        have q319 : 0 < (l1.length : Int) := zD; obtain ⟨ad319, A319_8, c319_8, e319, hx319_0, hx319_1, hx319_2, hx319_3, hx319_4, hx319_5, hx319_6, hx319_7, hx319_8, hl319_8, hi319_8⟩ := at_T36 HR1.out 0 p319 q319; cases e319
        have qi319 : (0 < l1.length) = True := eq_true (by omega)
        (try rw [z0, Nat.zero_mul, Addr.add_zero'] at hx319_0); (try rw [z0, Nat.zero_mul, Addr.add_zero'] at hx319_1); (try rw [z0, Nat.zero_mul, Addr.add_zero'] at hx319_2); (try rw [z0, Nat.zero_mul, Addr.add_zero'] at hx319_3); (try rw [z0, Nat.zero_mul, Addr.add_zero'] at hx319_4); (try rw [z0, Nat.zero_mul, Addr.add_zero'] at hx319_5); (try rw [z0, Nat.zero_mul, Addr.add_zero'] at hx319_6); (try rw [z0, Nat.zero_mul, Addr.add_zero'] at hx319_7); (try rw [z0, Nat.zero_mul, Addr.add_zero'] at hx319_8)
        try replace hx319_0 := zH HB hx319_0
        try replace hx319_1 := zH HB hx319_1
        try replace hx319_2 := zH HB hx319_2
        try replace hx319_3 := zH HB hx319_3
        try replace hx319_4 := zH HB hx319_4
        try replace hx319_5 := zH HB hx319_5
        try replace hx319_6 := zH HB hx319_6
        try replace hx319_7 := zH HB hx319_7
        try replace hx319_8 := zH HB hx319_8
        have HR319_8 := Aside0.mk hi319_8; have HC319_8 := Aside0.mk hl319_8; clear hi319_8 hl319_8; replace p319 := eq_true p319; replace q319 := eq_true q319
        go_wp2
        go_roundg k1
        case measure => have := HK1.out; omega
        case rel => exact ⟨(x7_1), (wrap64 (x8_1 + 1)), zR, H', ⟨by have := HK1.out; omega⟩, ⟨pR HO_7.out⟩, ⟨pK BK310.out⟩, ⟨pK BK311.out⟩, ⟨pB2 HB.out GE310.out GE311.out⟩⟩
      rw [if_pos c30] at H; have c30b0 := decide_eq_true c30; clear c30
      by_cases c31 : x7_1.length < 17592186044416
      rotate_left
      · rw [if_neg c31] at H
        exact absurd H (by simp)
      rw [if_pos c31] at H; have LMc31 := Aside0.mk c31; clear c31; obtain ⟨y320, hy320⟩ : ∃ y_ : List Int, y_ = (x7_1 ++ [x8_1]) := ⟨_, rfl⟩; replace H : (spec_l12Turns.l0 k1 l1 y320 (wrap64 (x8_1 + 1)) t306 t307 t308 t309) = some r := zY hy320 H; have Ny320 := Aside0.mk hy320; clear hy320; have H' := Aside0.mk H; clear H; have hnb32 := NB311_310.out; have hnc32 := NB310_311.out; have Y33_0 := zC (.int .i64 t308) BK311 0; have Y33_1 := zC (.int .i64 t309) BK311 1; have X33_0 := blk_frozen BK311.out 0; have X33_1 := blk_frozen BK311.out 1; have Y34_0 := zC (.int .i64 t306) BK310 0; have Y34_1 := zC (.int .i64 t307) BK310 1; have X34_0 := blk_frozen BK310.out 0; have X34_1 := blk_frozen BK310.out 1
      have p319 : 0 ≤ (0 : Int) := (by omega)
      have q319 : 0 < (l1.length : Int) := zD; obtain ⟨ad319, A319_8, c319_8, e319, hx319_0, hx319_1, hx319_2, hx319_3, hx319_4, hx319_5, hx319_6, hx319_7, hx319_8, hl319_8, hi319_8⟩ := at_T36 HR1.out 0 p319 q319; cases e319
      have qi319 : (0 < l1.length) = True := eq_true (by omega)
      (try rw [z0, Nat.zero_mul, Addr.add_zero'] at hx319_0); (try rw [z0, Nat.zero_mul, Addr.add_zero'] at hx319_1); (try rw [z0, Nat.zero_mul, Addr.add_zero'] at hx319_2); (try rw [z0, Nat.zero_mul, Addr.add_zero'] at hx319_3); (try rw [z0, Nat.zero_mul, Addr.add_zero'] at hx319_4); (try rw [z0, Nat.zero_mul, Addr.add_zero'] at hx319_5); (try rw [z0, Nat.zero_mul, Addr.add_zero'] at hx319_6); (try rw [z0, Nat.zero_mul, Addr.add_zero'] at hx319_7); (try rw [z0, Nat.zero_mul, Addr.add_zero'] at hx319_8)
      try replace hx319_0 := zH HB hx319_0
      try replace hx319_1 := zH HB hx319_1
      try replace hx319_2 := zH HB hx319_2
      try replace hx319_3 := zH HB hx319_3
      try replace hx319_4 := zH HB hx319_4
      try replace hx319_5 := zH HB hx319_5
      try replace hx319_6 := zH HB hx319_6
      try replace hx319_7 := zH HB hx319_7
      try replace hx319_8 := zH HB hx319_8
      have HR319_8 := Aside0.mk hi319_8; have HC319_8 := Aside0.mk hl319_8; clear hi319_8 hl319_8; replace p319 := eq_true p319; replace q319 := eq_true q319
      go_wp2_with (first | ((with_reducible refine gate_builtin (b := .append) (xs := #[.tmp 58, .tmp 60]) rfl ?_); at_builtin; refine Kd.R_append (Kd.int .i64) (w0 := w) w.heap.size rfl (.tmp 58) (.tmp 60) 41 2 (.int .i64 0) 8 rfl Try.underlying41 info2 rfl (by decide) (by omega) u7 x7_1 x8_1 [.int .i64 x8_1] (fun _ => True) (fun _ => False) rfl rfl ?aP (fun _ hk => hk.elim) ?aF ?aO ?aB ?aS ?aL ?_; (case aP => exact rfl); (case aB => exact (pB2 HB.out GE310.out GE311.out)); (case aF => exact (fun _ _ => trivial)); (case aO => exact (pR HO_7.out)); (case aS => exact (below_size (pB2 HB.out GE310.out GE311.out))); (case aL => have := LMc31.out; omega); intro v321 w35 ho hb hg hat; rw [← Ny320.out] at ho; have HO322 := Aside0.mk (ho); replace BK310 := Aside0.mk (blk_grown (g := gb310) (o := .cells #[.int .i64 t306, .int .i64 t307] 91 (0, 0)) (pK BK310.out) hg (Kd.R_ne HO_7.out BK310.out (by decide))); replace BK311 := Aside0.mk (blk_grown (g := gb311) (o := .cells #[.int .i64 t308, .int .i64 t309] 91 (0, 0)) (pK BK311.out) hg (Kd.R_ne HO_7.out BK311.out (by decide))); replace HB := Aside0.mk (hb); clear HO_7; clear ho hb hg hat))
      go_roundg k1
      case measure => have := HK1.out; omega
      case rel => exact ⟨(y320), (wrap64 (x8_1 + 1)), zR, H', ⟨by have := HK1.out; omega⟩, ⟨pR HO322.out⟩, ⟨pK BK310.out⟩, ⟨pK BK311.out⟩, ⟨pB2 HB.out GE310.out GE311.out⟩⟩
    rw [if_pos c13] at H; have c13b0 : ((Int.tmod x8_1 2) == 1) = true := beq_iff_eq.mpr c13; have c13b1 : ((Int.tmod x8_1 2) != 1) = false := bne_eq_false_iff_eq.mpr c13; clear c13
    by_cases c14 : 0 < (l1.length : Int)
    rotate_left
    · rw [if_neg c14] at H
      exact absurd H (by simp)
    rw [if_pos c14] at H; have c14b0 := decide_eq_true c14
    have c14b1 : decide (0 < l1.length) = true := decide_eq_true (by omega)
    clear c14
    by_cases c15 : (wrap64 (t309 - t307)) ≤ ((rd_T36 l1 0).f4)
    rotate_left
    · rw [if_neg c15] at H
      have c15b0 := decide_eq_false c15; clear c15; have H' := Aside0.mk H; clear H; have hnb25 := NB311_310.out; have hnc25 := NB310_311.out; have Y26_0 := zC (.int .i64 t308) BK311 0; have Y26_1 := zC (.int .i64 t309) BK311 1; have X26_0 := blk_frozen BK311.out 0; have X26_1 := blk_frozen BK311.out 1; have Y27_0 := zC (.int .i64 t306) BK310 0; have Y27_1 := zC (.int .i64 t307) BK310 1; have X27_0 := blk_frozen BK310.out 0; have X27_1 := blk_frozen BK310.out 1
      have p315 : 0 ≤ (0 : Int) := (by omega)
      have q315 : 0 < (l1.length : Int) := zD; obtain ⟨ad315, A315_8, c315_8, e315, hx315_0, hx315_1, hx315_2, hx315_3, hx315_4, hx315_5, hx315_6, hx315_7, hx315_8, hl315_8, hi315_8⟩ := at_T36 HR1.out 0 p315 q315; cases e315
      have qi315 : (0 < l1.length) = True := eq_true (by omega)
      (try rw [z0, Nat.zero_mul, Addr.add_zero'] at hx315_0); (try rw [z0, Nat.zero_mul, Addr.add_zero'] at hx315_1); (try rw [z0, Nat.zero_mul, Addr.add_zero'] at hx315_2); (try rw [z0, Nat.zero_mul, Addr.add_zero'] at hx315_3); (try rw [z0, Nat.zero_mul, Addr.add_zero'] at hx315_4); (try rw [z0, Nat.zero_mul, Addr.add_zero'] at hx315_5); (try rw [z0, Nat.zero_mul, Addr.add_zero'] at hx315_6); (try rw [z0, Nat.zero_mul, Addr.add_zero'] at hx315_7); (try rw [z0, Nat.zero_mul, Addr.add_zero'] at hx315_8)
      try replace hx315_0 := zH HB hx315_0
      try replace hx315_1 := zH HB hx315_1
      try replace hx315_2 := zH HB hx315_2
      try replace hx315_3 := zH HB hx315_3
      try replace hx315_4 := zH HB hx315_4
      try replace hx315_5 := zH HB hx315_5
      try replace hx315_6 := zH HB hx315_6
      try replace hx315_7 := zH HB hx315_7
      try replace hx315_8 := zH HB hx315_8
      have HR315_8 := Aside0.mk hi315_8; have HC315_8 := Aside0.mk hl315_8; clear hi315_8 hl315_8; replace p315 := eq_true p315; replace q315 := eq_true q315
      go_wp2
      go_roundg k1
      case measure => have := HK1.out; omega
      case rel => exact ⟨(x7_1), (wrap64 (x8_1 + 1)), zR, H', ⟨by have := HK1.out; omega⟩, ⟨pR HO_7.out⟩, ⟨pK BK310.out⟩, ⟨pK BK311.out⟩, ⟨pB2 HB.out GE310.out GE311.out⟩⟩
    rw [if_pos c15] at H; have c15b0 := decide_eq_true c15; clear c15
    by_cases c16 : (wrap64 (t308 - t306)) ≤ ((rd_T36 l1 0).f5)
    rotate_left
    · rw [if_neg c16] at H
      have c16b0 := decide_eq_false c16; clear c16; have H' := Aside0.mk H; clear H; have hnb22 := NB311_310.out; have hnc22 := NB310_311.out; have Y23_0 := zC (.int .i64 t308) BK311 0; have Y23_1 := zC (.int .i64 t309) BK311 1; have X23_0 := blk_frozen BK311.out 0; have X23_1 := blk_frozen BK311.out 1; have Y24_0 := zC (.int .i64 t306) BK310 0; have Y24_1 := zC (.int .i64 t307) BK310 1; have X24_0 := blk_frozen BK310.out 0; have X24_1 := blk_frozen BK310.out 1
      have p315 : 0 ≤ (0 : Int) := (by omega)
      have q315 : 0 < (l1.length : Int) := zD; obtain ⟨ad315, A315_8, c315_8, e315, hx315_0, hx315_1, hx315_2, hx315_3, hx315_4, hx315_5, hx315_6, hx315_7, hx315_8, hl315_8, hi315_8⟩ := at_T36 HR1.out 0 p315 q315; cases e315
      have qi315 : (0 < l1.length) = True := eq_true (by omega)
      (try rw [z0, Nat.zero_mul, Addr.add_zero'] at hx315_0); (try rw [z0, Nat.zero_mul, Addr.add_zero'] at hx315_1); (try rw [z0, Nat.zero_mul, Addr.add_zero'] at hx315_2); (try rw [z0, Nat.zero_mul, Addr.add_zero'] at hx315_3); (try rw [z0, Nat.zero_mul, Addr.add_zero'] at hx315_4); (try rw [z0, Nat.zero_mul, Addr.add_zero'] at hx315_5); (try rw [z0, Nat.zero_mul, Addr.add_zero'] at hx315_6); (try rw [z0, Nat.zero_mul, Addr.add_zero'] at hx315_7); (try rw [z0, Nat.zero_mul, Addr.add_zero'] at hx315_8)
      try replace hx315_0 := zH HB hx315_0
      try replace hx315_1 := zH HB hx315_1
      try replace hx315_2 := zH HB hx315_2
      try replace hx315_3 := zH HB hx315_3
      try replace hx315_4 := zH HB hx315_4
      try replace hx315_5 := zH HB hx315_5
      try replace hx315_6 := zH HB hx315_6
      try replace hx315_7 := zH HB hx315_7
      try replace hx315_8 := zH HB hx315_8
      have HR315_8 := Aside0.mk hi315_8; have HC315_8 := Aside0.mk hl315_8; clear hi315_8 hl315_8; replace p315 := eq_true p315; replace q315 := eq_true q315
      go_wp2
      go_roundg k1
      case measure => have := HK1.out; omega
      case rel => exact ⟨(x7_1), (wrap64 (x8_1 + 1)), zR, H', ⟨by have := HK1.out; omega⟩, ⟨pR HO_7.out⟩, ⟨pK BK310.out⟩, ⟨pK BK311.out⟩, ⟨pB2 HB.out GE310.out GE311.out⟩⟩
    rw [if_pos c16] at H; have c16b0 := decide_eq_true c16; clear c16
    by_cases c17 : x7_1.length < 17592186044416
    rotate_left
    · rw [if_neg c17] at H
      exact absurd H (by simp)
    rw [if_pos c17] at H; have LMc17 := Aside0.mk c17; clear c17; obtain ⟨y316, hy316⟩ : ∃ y_ : List Int, y_ = (x7_1 ++ [x8_1]) := ⟨_, rfl⟩; replace H : (spec_l12Turns.l0 k1 l1 y316 (wrap64 (x8_1 + 1)) t306 t307 t308 t309) = some r := zY hy316 H; have Ny316 := Aside0.mk hy316; clear hy316; have H' := Aside0.mk H; clear H; have hnb18 := NB311_310.out; have hnc18 := NB310_311.out; have Y19_0 := zC (.int .i64 t308) BK311 0; have Y19_1 := zC (.int .i64 t309) BK311 1; have X19_0 := blk_frozen BK311.out 0; have X19_1 := blk_frozen BK311.out 1; have Y20_0 := zC (.int .i64 t306) BK310 0; have Y20_1 := zC (.int .i64 t307) BK310 1; have X20_0 := blk_frozen BK310.out 0; have X20_1 := blk_frozen BK310.out 1
    have p315 : 0 ≤ (0 : Int) := (by omega)
    have q315 : 0 < (l1.length : Int) := zD; obtain ⟨ad315, A315_8, c315_8, e315, hx315_0, hx315_1, hx315_2, hx315_3, hx315_4, hx315_5, hx315_6, hx315_7, hx315_8, hl315_8, hi315_8⟩ := at_T36 HR1.out 0 p315 q315; cases e315
    have qi315 : (0 < l1.length) = True := eq_true (by omega)
    (try rw [z0, Nat.zero_mul, Addr.add_zero'] at hx315_0); (try rw [z0, Nat.zero_mul, Addr.add_zero'] at hx315_1); (try rw [z0, Nat.zero_mul, Addr.add_zero'] at hx315_2); (try rw [z0, Nat.zero_mul, Addr.add_zero'] at hx315_3); (try rw [z0, Nat.zero_mul, Addr.add_zero'] at hx315_4); (try rw [z0, Nat.zero_mul, Addr.add_zero'] at hx315_5); (try rw [z0, Nat.zero_mul, Addr.add_zero'] at hx315_6); (try rw [z0, Nat.zero_mul, Addr.add_zero'] at hx315_7); (try rw [z0, Nat.zero_mul, Addr.add_zero'] at hx315_8)
    try replace hx315_0 := zH HB hx315_0
    try replace hx315_1 := zH HB hx315_1
    try replace hx315_2 := zH HB hx315_2
    try replace hx315_3 := zH HB hx315_3
    try replace hx315_4 := zH HB hx315_4
    try replace hx315_5 := zH HB hx315_5
    try replace hx315_6 := zH HB hx315_6
    try replace hx315_7 := zH HB hx315_7
    try replace hx315_8 := zH HB hx315_8
    have HR315_8 := Aside0.mk hi315_8; have HC315_8 := Aside0.mk hl315_8; clear hi315_8 hl315_8; replace p315 := eq_true p315; replace q315 := eq_true q315
    go_wp2_with (first | ((with_reducible refine gate_builtin (b := .append) (xs := #[.tmp 58, .tmp 60]) rfl ?_); at_builtin; refine Kd.R_append (Kd.int .i64) (w0 := w) w.heap.size rfl (.tmp 58) (.tmp 60) 41 2 (.int .i64 0) 8 rfl Try.underlying41 info2 rfl (by decide) (by omega) u7 x7_1 x8_1 [.int .i64 x8_1] (fun _ => True) (fun _ => False) rfl rfl ?aP (fun _ hk => hk.elim) ?aF ?aO ?aB ?aS ?aL ?_; (case aP => exact rfl); (case aB => exact (pB2 HB.out GE310.out GE311.out)); (case aF => exact (fun _ _ => trivial)); (case aO => exact (pR HO_7.out)); (case aS => exact (below_size (pB2 HB.out GE310.out GE311.out))); (case aL => have := LMc17.out; omega); intro v317 w21 ho hb hg hat; rw [← Ny316.out] at ho; have HO318 := Aside0.mk (ho); replace BK310 := Aside0.mk (blk_grown (g := gb310) (o := .cells #[.int .i64 t306, .int .i64 t307] 91 (0, 0)) (pK BK310.out) hg (Kd.R_ne HO_7.out BK310.out (by decide))); replace BK311 := Aside0.mk (blk_grown (g := gb311) (o := .cells #[.int .i64 t308, .int .i64 t309] 91 (0, 0)) (pK BK311.out) hg (Kd.R_ne HO_7.out BK311.out (by decide))); replace HB := Aside0.mk (hb); clear HO_7; clear ho hb hg hat))
    go_roundg k1
    case measure => have := HK1.out; omega
    case rel => exact ⟨(y316), (wrap64 (x8_1 + 1)), zR, H', ⟨by have := HK1.out; omega⟩, ⟨pR HO318.out⟩, ⟨pK BK310.out⟩, ⟨pK BK311.out⟩, ⟨pB2 HB.out GE310.out GE311.out⟩⟩
end Go.Proofs.Ytfiiakhpdkdebaa.PFnExactOffcutsOf

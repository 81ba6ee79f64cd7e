/- What each function that a law reaches comes to, and the proof that its walk comes to it; laid by a program of this session. No condition. -/
import Derived.Test.YtfiiakhpdkdebaaZFnExactRotateSheets0
import Derived.Test.YtfiiakhpdkdebaaZFnExactRotateSheets2
import Derived.Test.YtfiiakhpdkdebaaZFnExactRotateSheets6
namespace Go.Proofs.Ytfiiakhpdkdebaa.PFnExactRotateSheets
open Go.RowKit Go.Proofs.YtfiiakhpdkdebaaW.PrintWords Go.Proofs.YtfiiakhpdkdebaaW.PrintLast Go.Proofs.YtfiiakhpdkdebaaW.PrintMore
attribute [local go_sem] max2_int min2_int max_two min_two max_three min_three max_four min_four
set_option linter.unusedVariables false
set_option linter.unusedSimpArgs false
def laws_heldVeneerS.l0 : Nat → List (S33) → Int → Int → Option (Int)
 | 0, _, _, _ => none
 | k + 1, x0, x1, x5 => if x5 < (x0.length : Int) then (if 0 ≤ x5 then ((laws_markText.f k x1).bind fun t306 => (if ((rd_T33 x0 x5).f0).toList = t306.toList then (if ((rd_T33 x0 x5).f1) = (wrap64 (x1 + 1)) then (if ((rd_T33 x0 x5).f2) = (wrap64 ((wrap64 (x1 + 1)) + 1)) then (laws_heldVeneerS.l0 k x0 (wrap64 ((wrap64 ((wrap64 (x1 + 1)) + 1)) + 1)) (wrap64 (x5 + 1))) else (some (-1))) else (some (-1))) else (some (-1)))) else (none)) else (some x1)
def laws_heldVeneerS.f (k : Nat) (l0 : List (S33)) (a1 : Int) : Option (Int) := laws_heldVeneerS.l0 k l0 a1 0
theorem laws_heldVeneerS.mono_l : ∀ k, (∀ y0 y1 y2, LeO (laws_heldVeneerS.l0 k y0 y1 y2) (laws_heldVeneerS.l0 (k + 1) y0 y1 y2))
 | 0 => fun _ _ _ r h => by simp [laws_heldVeneerS.l0] at h
 | k + 1 => by
   have ih0 := laws_heldVeneerS.mono_l k
   · intro y0 y1 y2
     unfold laws_heldVeneerS.l0
     repeat' first
     | (with_reducible exact ih0 _ _ _)
     | (with_reducible exact laws_markText.mono _ _)
     | (with_reducible exact LeO.refl _)
     | (with_reducible exact LeO.none _)
     | (with_reducible refine LeO.ite ?_ ?_)
     | (with_reducible refine LeO.bind ?_ (fun _ => ?_))
     | exact ih0 _ _ _
     | exact laws_markText.mono _ _
     | exact LeO.none _
     | refine LeO.ite ?_ ?_
     | refine LeO.bind ?_ (fun _ => ?_)
theorem laws_heldVeneerS.mono : ∀ a0 a1 k, LeO (laws_heldVeneerS.f k a0 a1) (laws_heldVeneerS.f (k + 1) a0 a1) := by
 intro a0 a1 k; have ih0 := laws_heldVeneerS.mono_l k; unfold laws_heldVeneerS.f
 repeat' first
  | (with_reducible exact ih0 _ _ _)
  | (with_reducible exact laws_markText.mono _ _)
  | (with_reducible exact LeO.refl _)
  | (with_reducible exact LeO.none _)
  | (with_reducible refine LeO.ite ?_ ?_)
  | (with_reducible refine LeO.bind ?_ (fun _ => ?_))
  | exact ih0 _ _ _
  | exact laws_markText.mono _ _
  | exact LeO.none _
  | refine LeO.ite ?_ ?_
  | refine LeO.bind ?_ (fun _ => ?_)
def laws_heldVeneerS.T4 : Bool × List (List Nat × List Nat) := (true, [([], []), ([], []), ([0, 1], [0, 1]), ([2], [2]), ([3], [3]), ([], []), ([5], [5]), ([4, 6], [4, 6])])
def laws_heldVeneerS.B4 : List Nat := [0, 0, 3, 7, 15, 0, 32, 127]
theorem laws_heldVeneerS.tab4 : rtab .any (opsOf Try.f86 4) = laws_heldVeneerS.T4 := by kernel_rfl
theorem laws_heldVeneerS.bits4 : waitsOk laws_heldVeneerS.T4.2 laws_heldVeneerS.B4 = true := by kernel_rfl
set_option maxHeartbeats 8000000 in
set_option maxRecDepth 100000 in
theorem laws_heldVeneerS.calls (k : Nat) (A0 : Option Addr) (c0 : Nat) (l0 : List (S33)) (a1 : Int) (r : Int) (w : World) (hr0 : Kd.C k33 w A0 l0.length l0) (hc0 : l0.length ≤ c0) (h : laws_heldVeneerS.f k l0 a1 = some r) :
 Calls Try.prog 86 #[.slice A0 l0.length c0, .int .i64 a1] w fun e w' => e = .returned (.int .i64 r) ∧ Below w.heap.size w w' := by
 have HR0 := Aside0.mk hr0; have HC0 := Aside0.mk hc0; clear hr0 hc0; have HB := Aside0.mk (Below.refl w.heap.size w); have H : (laws_heldVeneerS.l0 k l0 a1 0) = some r := h; clear h; have H' := Aside0.mk H; clear H
 go_enter Try.func86, Try.ntmps86
 go_wp2
 go_loopg [1, 5] k (fun kq v1 v5 w' => ∃ (x1_1 : Int) (x5_1 : Int), v1 = .int .i64 x1_1 ∧ v5 = .int .i64 x5_1 ∧ Aside0 (laws_heldVeneerS.l0 kq l0 x1_1 x5_1 = some r) ∧ Aside0 (kq ≤ k) ∧ Aside0 (Below w.heap.size w w'))
 case atStart => exact ⟨(a1), (0), zR, zR, H', ⟨Nat.le_refl _⟩, ⟨pB0 HB.out⟩⟩
 case round =>
  clear H'; (try clear p2); obtain ⟨x1_1, x5_1, rfl, rfl, HA, HK1, HB⟩ := hrel
  cases gk with
  | zero => exact absurd HA.out (by simp [laws_heldVeneerS.l0])
  | succ k1 =>
    have H := HA.out; clear HA; simp only [laws_heldVeneerS.l0] at H
    by_cases c3 : x5_1 < (l0.length : Int)
    rotate_left
    · rw [if_neg c3] at H
      have c3b0 := decide_eq_false c3; clear c3; obtain rfl := Option.some.inj H
      go_wp2
      go_ret
      exact ⟨zE, pB0 HB.out⟩
    rw [if_pos c3] at H; have c3b0 := decide_eq_true c3; clear c3
    by_cases c4 : 0 ≤ x5_1
    rotate_left
    · rw [if_neg c4] at H
      exact absurd H (by simp)
    rw [if_pos c4] at H; have c4b0 := decide_eq_true c4; clear c4; replace H := Option.bind_eq_some_iff.mp H; obtain ⟨t306, A50, H⟩ := H; have A5 := Aside0.mk A50; clear A50
    by_cases c6 : ((rd_T33 l0 x5_1).f0).toList = t306.toList
    rotate_left
    · rw [if_neg c6] at H
      have c6b0 : (((rd_T33 l0 x5_1).f0).toList == t306.toList) = false := beq_eq_false_iff_ne.mpr c6; have c6b1 : (((rd_T33 l0 x5_1).f0).toList != t306.toList) = true := bne_iff_ne.mpr c6; obtain rfl := Option.some.inj H
      try go_wp2
      replace HB := Aside0.mk (below_drew1 HB.out); have p305 : 0 ≤ (x5_1 : Int) := zD; have q305 : x5_1 < (l0.length : Int) := zD; obtain ⟨ad305, e305, hx305_0, hx305_1, hx305_2⟩ := at_T33 HR0.out x5_1 p305 q305; have hw305_2 := hx305_2; have hw305_1 := hx305_1; have hw305_0 := hx305_0; cases e305
      try replace hx305_0 := zH HB hx305_0
      try replace hx305_1 := zH HB hx305_1
      try replace hx305_2 := zH HB hx305_2
      replace p305 := eq_true p305; replace q305 := eq_true q305
      refine start_ (n := 8) (S := fun w' => w'.cell? (ad305.add ((x5_1).toNat * 3)) = some (.string ((rd_T33 l0 x5_1).f0)) ∧ w'.cell? ⟨(ad305.add ((x5_1).toNat * 3)).block, (ad305.add ((x5_1).toNat * 3)).off + 1, none⟩ = some (.int .i64 ((rd_T33 l0 x5_1).f1)) ∧ w'.cell? ⟨(ad305.add ((x5_1).toNat * 3)).block, (ad305.add ((x5_1).toNat * 3)).off + 2, none⟩ = some (.int .i64 ((rd_T33 l0 x5_1).f2))) (ds := []) (Array.replicate 8 false) (by kernel_rfl) rfl rfl ⟨(zH HB hw305_0), (zH HB hw305_1), (zH HB hw305_2)⟩ (fun hHeld => ?_); refine with_tabW laws_heldVeneerS.tab4 laws_heldVeneerS.bits4 (fun HT_ HW_ => ?_)
      generalize wr.drew = w15 at HB hx305_0 hx305_1 hx305_2 hHeld ⊢
      refine zP 0 (some 12) (zb 8 1) HT_ ?_; refine zP 1 (some 13) (zb 8 3) HT_ ?_; refine zP 2 (some 14) (zb 8 7) HT_ ?_; refine zP 3 (some 15) (zb 8 15) HT_ ?_; refine zP 5 (some 17) (zb 8 47) HT_ ?_; refine zT3 4 (some 16) (zb 8 63) HT_ HW_ hHeld ?_
      refine one_ (i := 6) (N := some 18) (zb 8 127) rfl rfl (one_of HT_.out (by kernel_rfl)) (by decide) (fun K hK => ?_)
      refine goes_ Try.func114 (by kernel_rfl) rfl #[.int .i64 x1_1] (by rfl) rfl rfl pA ?_
      with_reducible refine (laws_markText.calls k1 x1_1 t306 _ A5.out).mono ?_; rintro e w16 ⟨rfl, hb⟩; refine ⟨_, rfl, ?_⟩; replace HB := zW (pB0 HB.out) hb; (try clear hb); (try clear hb2); (try clear hk); (try clear hi)
      refine hK.out _ _ ⟨(zH HB hw305_0), (zH HB hw305_1), (zH HB hw305_2)⟩ (fun hHeld => ?_)
      clear hK K; refine zN ?_; refine zP 7 (some 19) (zb 8 255) HT_ ?_
      refine done_ (done_of HT_.out (by kernel_rfl)) ?_
      try go_wp2
      go_ret
      exact ⟨zE, pB0 HB.out⟩
    rw [if_pos c6] at H; have c6b0 : (((rd_T33 l0 x5_1).f0).toList == t306.toList) = true := beq_iff_eq.mpr c6; have c6b1 : (((rd_T33 l0 x5_1).f0).toList != t306.toList) = false := bne_eq_false_iff_eq.mpr c6; clear c6
    by_cases c7 : ((rd_T33 l0 x5_1).f1) = (wrap64 (x1_1 + 1))
    rotate_left
    · rw [if_neg c7] at H
      have c7b0 : (((rd_T33 l0 x5_1).f1) == (wrap64 (x1_1 + 1))) = false := beq_eq_false_iff_ne.mpr c7; have c7b1 : (((rd_T33 l0 x5_1).f1) != (wrap64 (x1_1 + 1))) = true := bne_iff_ne.mpr c7; obtain rfl := Option.some.inj H
      try go_wp2
      replace HB := Aside0.mk (below_drew1 HB.out); have p305 : 0 ≤ (x5_1 : Int) := zD; have q305 : x5_1 < (l0.length : Int) := zD; obtain ⟨ad305, e305, hx305_0, hx305_1, hx305_2⟩ := at_T33 HR0.out x5_1 p305 q305; have hw305_2 := hx305_2; have hw305_1 := hx305_1; have hw305_0 := hx305_0; cases e305
      try replace hx305_0 := zH HB hx305_0
      try replace hx305_1 := zH HB hx305_1
      try replace hx305_2 := zH HB hx305_2
      replace p305 := eq_true p305; replace q305 := eq_true q305
      refine start_ (n := 8) (S := fun w' => w'.cell? (ad305.add ((x5_1).toNat * 3)) = some (.string ((rd_T33 l0 x5_1).f0)) ∧ w'.cell? ⟨(ad305.add ((x5_1).toNat * 3)).block, (ad305.add ((x5_1).toNat * 3)).off + 1, none⟩ = some (.int .i64 ((rd_T33 l0 x5_1).f1)) ∧ w'.cell? ⟨(ad305.add ((x5_1).toNat * 3)).block, (ad305.add ((x5_1).toNat * 3)).off + 2, none⟩ = some (.int .i64 ((rd_T33 l0 x5_1).f2))) (ds := []) (Array.replicate 8 false) (by kernel_rfl) rfl rfl ⟨(zH HB hw305_0), (zH HB hw305_1), (zH HB hw305_2)⟩ (fun hHeld => ?_); refine with_tabW laws_heldVeneerS.tab4 laws_heldVeneerS.bits4 (fun HT_ HW_ => ?_)
      generalize wr.drew = w13 at HB hx305_0 hx305_1 hx305_2 hHeld ⊢
      refine zP 0 (some 12) (zb 8 1) HT_ ?_; refine zP 1 (some 13) (zb 8 3) HT_ ?_; refine zP 2 (some 14) (zb 8 7) HT_ ?_; refine zP 3 (some 15) (zb 8 15) HT_ ?_; refine zP 5 (some 17) (zb 8 47) HT_ ?_; refine zT3 4 (some 16) (zb 8 63) HT_ HW_ hHeld ?_
      refine one_ (i := 6) (N := some 18) (zb 8 127) rfl rfl (one_of HT_.out (by kernel_rfl)) (by decide) (fun K hK => ?_)
      refine goes_ Try.func114 (by kernel_rfl) rfl #[.int .i64 x1_1] (by rfl) rfl rfl pA ?_
      with_reducible refine (laws_markText.calls k1 x1_1 t306 _ A5.out).mono ?_; rintro e w14 ⟨rfl, hb⟩; refine ⟨_, rfl, ?_⟩; replace HB := zW (pB0 HB.out) hb; (try clear hb); (try clear hb2); (try clear hk); (try clear hi)
      refine hK.out _ _ ⟨(zH HB hw305_0), (zH HB hw305_1), (zH HB hw305_2)⟩ (fun hHeld => ?_)
      clear hK K; refine zN ?_; refine zP 7 (some 19) (zb 8 255) HT_ ?_
      refine done_ (done_of HT_.out (by kernel_rfl)) ?_
      have p307 : 0 ≤ (x5_1 : Int) := zD; have q307 : x5_1 < (l0.length : Int) := zD; obtain ⟨ad307, e307, hx307_0, hx307_1, hx307_2⟩ := at_T33 HR0.out x5_1 p307 q307
      obtain rfl : ad305 = ad307 := (by injection e307)
      try replace hx307_0 := zH HB hx307_0
      try replace hx307_1 := zH HB hx307_1
      try replace hx307_2 := zH HB hx307_2
      replace p307 := eq_true p307; replace q307 := eq_true q307
      try go_wp2
      go_ret
      exact ⟨zE, pB0 HB.out⟩
    rw [if_pos c7] at H; have c7b0 : (((rd_T33 l0 x5_1).f1) == (wrap64 (x1_1 + 1))) = true := beq_iff_eq.mpr c7; have c7b1 : (((rd_T33 l0 x5_1).f1) != (wrap64 (x1_1 + 1))) = false := bne_eq_false_iff_eq.mpr c7; clear c7
    by_cases c8 : ((rd_T33 l0 x5_1).f2) = (wrap64 ((wrap64 (x1_1 + 1)) + 1))
    rotate_left
    · rw [if_neg c8] at H
      have c8b0 : (((rd_T33 l0 x5_1).f2) == (wrap64 ((wrap64 (x1_1 + 1)) + 1))) = false := beq_eq_false_iff_ne.mpr c8; have c8b1 : (((rd_T33 l0 x5_1).f2) != (wrap64 ((wrap64 (x1_1 + 1)) + 1))) = true := bne_iff_ne.mpr c8; obtain rfl := Option.some.inj H
      try go_wp2
      replace HB := Aside0.mk (below_drew1 HB.out); have p305 : 0 ≤ (x5_1 : Int) := zD; have q305 : x5_1 < (l0.length : Int) := zD; obtain ⟨ad305, e305, hx305_0, hx305_1, hx305_2⟩ := at_T33 HR0.out x5_1 p305 q305; have hw305_2 := hx305_2; have hw305_1 := hx305_1; have hw305_0 := hx305_0; cases e305
      try replace hx305_0 := zH HB hx305_0
      try replace hx305_1 := zH HB hx305_1
      try replace hx305_2 := zH HB hx305_2
      replace p305 := eq_true p305; replace q305 := eq_true q305
      refine start_ (n := 8) (S := fun w' => w'.cell? (ad305.add ((x5_1).toNat * 3)) = some (.string ((rd_T33 l0 x5_1).f0)) ∧ w'.cell? ⟨(ad305.add ((x5_1).toNat * 3)).block, (ad305.add ((x5_1).toNat * 3)).off + 1, none⟩ = some (.int .i64 ((rd_T33 l0 x5_1).f1)) ∧ w'.cell? ⟨(ad305.add ((x5_1).toNat * 3)).block, (ad305.add ((x5_1).toNat * 3)).off + 2, none⟩ = some (.int .i64 ((rd_T33 l0 x5_1).f2))) (ds := []) (Array.replicate 8 false) (by kernel_rfl) rfl rfl ⟨(zH HB hw305_0), (zH HB hw305_1), (zH HB hw305_2)⟩ (fun hHeld => ?_); refine with_tabW laws_heldVeneerS.tab4 laws_heldVeneerS.bits4 (fun HT_ HW_ => ?_)
      generalize wr.drew = w11 at HB hx305_0 hx305_1 hx305_2 hHeld ⊢
      refine zP 0 (some 12) (zb 8 1) HT_ ?_; refine zP 1 (some 13) (zb 8 3) HT_ ?_; refine zP 2 (some 14) (zb 8 7) HT_ ?_; refine zP 3 (some 15) (zb 8 15) HT_ ?_; refine zP 5 (some 17) (zb 8 47) HT_ ?_; refine zT3 4 (some 16) (zb 8 63) HT_ HW_ hHeld ?_
      refine one_ (i := 6) (N := some 18) (zb 8 127) rfl rfl (one_of HT_.out (by kernel_rfl)) (by decide) (fun K hK => ?_)
      refine goes_ Try.func114 (by kernel_rfl) rfl #[.int .i64 x1_1] (by rfl) rfl rfl pA ?_
      with_reducible refine (laws_markText.calls k1 x1_1 t306 _ A5.out).mono ?_; rintro e w12 ⟨rfl, hb⟩; refine ⟨_, rfl, ?_⟩; replace HB := zW (pB0 HB.out) hb; (try clear hb); (try clear hb2); (try clear hk); (try clear hi)
      refine hK.out _ _ ⟨(zH HB hw305_0), (zH HB hw305_1), (zH HB hw305_2)⟩ (fun hHeld => ?_)
      clear hK K; refine zN ?_; refine zP 7 (some 19) (zb 8 255) HT_ ?_
      refine done_ (done_of HT_.out (by kernel_rfl)) ?_
      have p307 : 0 ≤ (x5_1 : Int) := zD; have q307 : x5_1 < (l0.length : Int) := zD; obtain ⟨ad307, e307, hx307_0, hx307_1, hx307_2⟩ := at_T33 HR0.out x5_1 p307 q307
      obtain rfl : ad305 = ad307 := (by injection e307)
      try replace hx307_0 := zH HB hx307_0
      try replace hx307_1 := zH HB hx307_1
      try replace hx307_2 := zH HB hx307_2
      replace p307 := eq_true p307; replace q307 := eq_true q307; have p308 : 0 ≤ (x5_1 : Int) := zD; have q308 : x5_1 < (l0.length : Int) := zD; obtain ⟨ad308, e308, hx308_0, hx308_1, hx308_2⟩ := at_T33 HR0.out x5_1 p308 q308
      obtain rfl : ad305 = ad308 := (by injection e308)
      try replace hx308_0 := zH HB hx308_0
      try replace hx308_1 := zH HB hx308_1
      try replace hx308_2 := zH HB hx308_2
      replace p308 := eq_true p308; replace q308 := eq_true q308
      try go_wp2
      go_ret
      exact ⟨zE, pB0 HB.out⟩
    rw [if_pos c8] at H; have c8b0 : (((rd_T33 l0 x5_1).f2) == (wrap64 ((wrap64 (x1_1 + 1)) + 1))) = true := beq_iff_eq.mpr c8; have c8b1 : (((rd_T33 l0 x5_1).f2) != (wrap64 ((wrap64 (x1_1 + 1)) + 1))) = false := bne_eq_false_iff_eq.mpr c8; clear c8; have H' := Aside0.mk H; clear H
    try go_wp2
    replace HB := Aside0.mk (below_drew1 HB.out); have p305 : 0 ≤ (x5_1 : Int) := zD; have q305 : x5_1 < (l0.length : Int) := zD; obtain ⟨ad305, e305, hx305_0, hx305_1, hx305_2⟩ := at_T33 HR0.out x5_1 p305 q305; have hw305_2 := hx305_2; have hw305_1 := hx305_1; have hw305_0 := hx305_0; cases e305
    try replace hx305_0 := zH HB hx305_0
    try replace hx305_1 := zH HB hx305_1
    try replace hx305_2 := zH HB hx305_2
    replace p305 := eq_true p305; replace q305 := eq_true q305
    refine start_ (n := 8) (S := fun w' => w'.cell? (ad305.add ((x5_1).toNat * 3)) = some (.string ((rd_T33 l0 x5_1).f0)) ∧ w'.cell? ⟨(ad305.add ((x5_1).toNat * 3)).block, (ad305.add ((x5_1).toNat * 3)).off + 1, none⟩ = some (.int .i64 ((rd_T33 l0 x5_1).f1)) ∧ w'.cell? ⟨(ad305.add ((x5_1).toNat * 3)).block, (ad305.add ((x5_1).toNat * 3)).off + 2, none⟩ = some (.int .i64 ((rd_T33 l0 x5_1).f2))) (ds := []) (Array.replicate 8 false) (by kernel_rfl) rfl rfl ⟨(zH HB hw305_0), (zH HB hw305_1), (zH HB hw305_2)⟩ (fun hHeld => ?_); refine with_tabW laws_heldVeneerS.tab4 laws_heldVeneerS.bits4 (fun HT_ HW_ => ?_)
    generalize wr.drew = w9 at HB hx305_0 hx305_1 hx305_2 hHeld ⊢
    refine zP 0 (some 12) (zb 8 1) HT_ ?_; refine zP 1 (some 13) (zb 8 3) HT_ ?_; refine zP 2 (some 14) (zb 8 7) HT_ ?_; refine zP 3 (some 15) (zb 8 15) HT_ ?_; refine zP 5 (some 17) (zb 8 47) HT_ ?_; refine zT3 4 (some 16) (zb 8 63) HT_ HW_ hHeld ?_
    refine one_ (i := 6) (N := some 18) (zb 8 127) rfl rfl (one_of HT_.out (by kernel_rfl)) (by decide) (fun K hK => ?_)
    refine goes_ Try.func114 (by kernel_rfl) rfl #[.int .i64 x1_1] (by rfl) rfl rfl pA ?_
    with_reducible refine (laws_markText.calls k1 x1_1 t306 _ A5.out).mono ?_; rintro e w10 ⟨rfl, hb⟩; refine ⟨_, rfl, ?_⟩; replace HB := zW (pB0 HB.out) hb; (try clear hb); (try clear hb2); (try clear hk); (try clear hi)
    refine hK.out _ _ ⟨(zH HB hw305_0), (zH HB hw305_1), (zH HB hw305_2)⟩ (fun hHeld => ?_)
    clear hK K; refine zN ?_; refine zP 7 (some 19) (zb 8 255) HT_ ?_
    refine done_ (done_of HT_.out (by kernel_rfl)) ?_
    have p307 : 0 ≤ (x5_1 : Int) := zD; have q307 : x5_1 < (l0.length : Int) := zD; obtain ⟨ad307, e307, hx307_0, hx307_1, hx307_2⟩ := at_T33 HR0.out x5_1 p307 q307
    obtain rfl : ad305 = ad307 := (by injection e307)
    try replace hx307_0 := zH HB hx307_0
    try replace hx307_1 := zH HB hx307_1
    try replace hx307_2 := zH HB hx307_2
    replace p307 := eq_true p307; replace q307 := eq_true q307; have p308 : 0 ≤ (x5_1 : Int) := zD; have q308 : x5_1 < (l0.length : Int) := zD; obtain ⟨ad308, e308, hx308_0, hx308_1, hx308_2⟩ := at_T33 HR0.out x5_1 p308 q308
    obtain rfl : ad305 = ad308 := (by injection e308)
    try replace hx308_0 := zH HB hx308_0
    try replace hx308_1 := zH HB hx308_1
    try replace hx308_2 := zH HB hx308_2
    replace p308 := eq_true p308; replace q308 := eq_true q308
    try go_wp2
    go_roundg k1
    case measure => have := HK1.out; omega
    case rel => exact ⟨(wrap64 ((wrap64 ((wrap64 (x1_1 + 1)) + 1)) + 1)), (wrap64 (x5_1 + 1)), zR, zR, H', ⟨by have := HK1.out; omega⟩, ⟨pB0 HB.out⟩⟩
def laws_heldPacket.f (k : Nat) (l0_0 : List (S33)) (l0_1 : List Int) (a1 : Int) : Option (Int) := (laws_heldVeneerS.f k l0_0 a1).bind fun t310 => (if t310 < 0 then (some (-1)) else ((laws_heldInt64S.f k l0_1 t310).bind fun t311 => (if t311 < 0 then (some (-1)) else (some t311))))
theorem laws_heldPacket.mono : ∀ a0 a1 a2 k, LeO (laws_heldPacket.f k a0 a1 a2) (laws_heldPacket.f (k + 1) a0 a1 a2) := by
 intro a0 a1 a2 k; unfold laws_heldPacket.f
 repeat' first
  | (with_reducible exact laws_heldInt64S.mono _ _ _)
  | (with_reducible exact laws_heldVeneerS.mono _ _ _)
  | (with_reducible exact LeO.refl _)
  | (with_reducible exact LeO.none _)
  | (with_reducible refine LeO.ite ?_ ?_)
  | (with_reducible refine LeO.bind ?_ (fun _ => ?_))
  | exact laws_heldInt64S.mono _ _ _
  | exact laws_heldVeneerS.mono _ _ _
  | exact LeO.none _
  | refine LeO.ite ?_ ?_
  | refine LeO.bind ?_ (fun _ => ?_)
set_option maxHeartbeats 8000000 in
set_option maxRecDepth 100000 in
theorem laws_heldPacket.calls (k : Nat) (A0_0 : Option Addr) (c0_0 : Nat) (l0_0 : List (S33)) (A0_1 : Option Addr) (c0_1 : Nat) (l0_1 : List Int) (a1 : Int) (r : Int) (w : World) (hr0_0 : Kd.C k33 w A0_0 l0_0.length l0_0) (hc0_0 : l0_0.length ≤ c0_0) (hr0_1 : Kd.C (Kd.int .i64) w A0_1 l0_1.length l0_1) (hc0_1 : l0_1.length ≤ c0_1) (h : laws_heldPacket.f k l0_0 l0_1 a1 = some r) :
 Calls Try.prog 46 #[.agg #[.slice A0_0 l0_0.length c0_0, .slice A0_1 l0_1.length c0_1], .int .i64 a1] w fun e w' => e = .returned (.int .i64 r) ∧ Below w.heap.size w w' := by
 have hu62 := Try.underlying62; have HR0_0 := Aside0.mk hr0_0; have HC0_0 := Aside0.mk hc0_0; clear hr0_0 hc0_0; have HR0_1 := Aside0.mk hr0_1; have HC0_1 := Aside0.mk hc0_1; clear hr0_1 hc0_1; have HB := Aside0.mk (Below.refl w.heap.size w)
 have H : ((laws_heldVeneerS.f k l0_0 a1).bind fun t310 => (if t310 < 0 then (some (-1)) else ((laws_heldInt64S.f k l0_1 t310).bind fun t311 => (if t311 < 0 then (some (-1)) else (some t311))))) = some r := h
 clear h; replace H := Option.bind_eq_some_iff.mp H; obtain ⟨t310, A30, H⟩ := H; have A3 := Aside0.mk A30; clear A30
 by_cases c4 : t310 < 0
 · rw [if_pos c4] at H
   have c4b0 := decide_eq_true c4; clear c4; obtain rfl := Option.some.inj H
   go_enter Try.func46, Try.ntmps46
   go_wp2_with (first | ((with_reducible refine zI 2 rfl ?_); refine zB 2 #[.slice A0_0 l0_0.length c0_0, .slice A0_1 l0_1.length c0_1] 62 ?_; intro gb309 hg w5 hbox hb; have BK309 := Aside0.mk (hbox); have GW309 := zS (pB0 HB.out) hg; have GE309 := GW309; replace HB := zW (pB0 HB.out) hb; clear hb hbox hg; obtain ⟨Y6_0, X6_0, Y6_1, X6_1⟩ := zw2 BK309) | ((with_reducible refine gate_callee (f := 86) rfl ?_); refine zJ (some 8) Try.func86 #[.slice A0_0 l0_0.length c0_0, .int .i64 a1] ?_; (with_reducible refine (laws_heldVeneerS.calls k _ _ l0_0 a1 t310 _ ?side1 ?side2 A3.out).mono ?_); (case side1 => exact pC (Kd.C_below HR0_0.out HB.out)); (case side2 => exact HC0_0.out); rintro e w7 ⟨rfl, hb⟩; refine ⟨_, rfl, ?_⟩; replace BK309 := zK BK309 hb; replace HB := zW (pB1 HB.out GE309.out) hb; (try clear hb); (try clear hb2); (try clear hk); (try clear hi)))
   go_ret
   exact ⟨zE, pB1 HB.out GE309.out⟩
 rw [if_neg c4] at H; have c4b0 := decide_eq_false c4; clear c4; replace H := Option.bind_eq_some_iff.mp H; obtain ⟨t311, A80, H⟩ := H; have A8 := Aside0.mk A80; clear A80
 by_cases c9 : t311 < 0
 · rw [if_pos c9] at H
   have c9b0 := decide_eq_true c9; clear c9; obtain rfl := Option.some.inj H
   go_enter Try.func46, Try.ntmps46
   go_wp2_with (first | ((with_reducible refine zI 2 rfl ?_); refine zB 2 #[.slice A0_0 l0_0.length c0_0, .slice A0_1 l0_1.length c0_1] 62 ?_; intro gb309 hg w10 hbox hb; have BK309 := Aside0.mk (hbox); have GW309 := zS (pB0 HB.out) hg; have GE309 := GW309; replace HB := zW (pB0 HB.out) hb; clear hb hbox hg; obtain ⟨Y11_0, X11_0, Y11_1, X11_1⟩ := zw2 BK309) | ((with_reducible refine gate_callee (f := 86) rfl ?_); refine zJ (some 8) Try.func86 #[.slice A0_0 l0_0.length c0_0, .int .i64 a1] ?_; (with_reducible refine (laws_heldVeneerS.calls k _ _ l0_0 a1 t310 _ ?side1 ?side2 A3.out).mono ?_); (case side1 => exact pC (Kd.C_below HR0_0.out HB.out)); (case side2 => exact HC0_0.out); rintro e w12 ⟨rfl, hb⟩; refine ⟨_, rfl, ?_⟩; replace BK309 := zK BK309 hb; replace HB := zW (pB1 HB.out GE309.out) hb; (try clear hb); (try clear hb2); (try clear hk); (try clear hi); obtain ⟨Y13_0, X13_0, Y13_1, X13_1⟩ := zw2 BK309) | ((with_reducible refine gate_callee (f := 23) rfl ?_); refine zJ (some 14) Try.func23 #[.slice A0_1 l0_1.length c0_1, .int .i64 t310] ?_; (with_reducible refine (laws_heldInt64S.calls k _ _ l0_1 t310 t311 _ ?side1 ?side2 A8.out).mono ?_); (case side1 => exact pC (Kd.C_below HR0_1.out HB.out)); (case side2 => exact HC0_1.out); rintro e w' ⟨rfl, ⟨nd, rfl⟩⟩; refine ⟨_, rfl, ?_⟩))
   go_ret
   exact ⟨zE, pB1 HB.out GE309.out⟩
 rw [if_neg c9] at H; have c9b0 := decide_eq_false c9; clear c9; obtain rfl := Option.some.inj H
 go_enter Try.func46, Try.ntmps46
 go_wp2_with (first | ((with_reducible refine zI 2 rfl ?_); refine zB 2 #[.slice A0_0 l0_0.length c0_0, .slice A0_1 l0_1.length c0_1] 62 ?_; intro gb309 hg w14 hbox hb; have BK309 := Aside0.mk (hbox); have GW309 := zS (pB0 HB.out) hg; have GE309 := GW309; replace HB := zW (pB0 HB.out) hb; clear hb hbox hg; obtain ⟨Y15_0, X15_0, Y15_1, X15_1⟩ := zw2 BK309) | ((with_reducible refine gate_callee (f := 86) rfl ?_); refine zJ (some 8) Try.func86 #[.slice A0_0 l0_0.length c0_0, .int .i64 a1] ?_; (with_reducible refine (laws_heldVeneerS.calls k _ _ l0_0 a1 t310 _ ?side1 ?side2 A3.out).mono ?_); (case side1 => exact pC (Kd.C_below HR0_0.out HB.out)); (case side2 => exact HC0_0.out); rintro e w16 ⟨rfl, hb⟩; refine ⟨_, rfl, ?_⟩; replace BK309 := zK BK309 hb; replace HB := zW (pB1 HB.out GE309.out) hb; (try clear hb); (try clear hb2); (try clear hk); (try clear hi); obtain ⟨Y17_0, X17_0, Y17_1, X17_1⟩ := zw2 BK309) | ((with_reducible refine gate_callee (f := 23) rfl ?_); refine zJ (some 14) Try.func23 #[.slice A0_1 l0_1.length c0_1, .int .i64 t310] ?_; (with_reducible refine (laws_heldInt64S.calls k _ _ l0_1 t310 t311 _ ?side1 ?side2 A8.out).mono ?_); (case side1 => exact pC (Kd.C_below HR0_1.out HB.out)); (case side2 => exact HC0_1.out); rintro e w' ⟨rfl, ⟨nd, rfl⟩⟩; refine ⟨_, rfl, ?_⟩))
 go_ret
 exact ⟨zE, pB1 HB.out GE309.out⟩
end Go.Proofs.Ytfiiakhpdkdebaa.PFnExactRotateSheets

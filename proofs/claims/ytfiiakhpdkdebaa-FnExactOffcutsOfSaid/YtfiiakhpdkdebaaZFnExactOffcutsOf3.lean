/- What each function that a law reaches comes to, and the proof that its walk comes to it; laid by a program of this session. No condition. -/
import Derived.Test.YtfiiakhpdkdebaaZFnExactOffcutsOf0
import Derived.Test.YtfiiakhpdkdebaaZFnExactOffcutsOf2
namespace Go.Proofs.Ytfiiakhpdkdebaa.PFnExactOffcutsOf
open Go.RowKit Go.Proofs.YtfiiakhpdkdebaaW.PrintWords Go.Proofs.YtfiiakhpdkdebaaW.PrintLast Go.Proofs.YtfiiakhpdkdebaaW.PrintMore
attribute [local go_sem] max2_int min2_int max_two min_two max_three min_three max_four min_four
set_option linter.unusedVariables false
set_option linter.unusedSimpArgs false
def laws_eqPointS.l0 : Nat → List (S91) → List (S91) → Int → Option (Bool)
 | 0, _, _, _ => none
 | k + 1, x0, x1, x5 => if x5 < (x0.length : Int) then (if 0 ≤ x5 then (if x5 < (x1.length : Int) then ((laws_eqPoint.f ((rd_T91 x0 x5).f0) ((rd_T91 x0 x5).f1) ((rd_T91 x1 x5).f0) ((rd_T91 x1 x5).f1)).bind fun t143 => (if t143 = true then (laws_eqPointS.l0 k x0 x1 (wrap64 (x5 + 1))) else (some false))) else (none)) else (none)) else (some true)
def laws_eqPointS.f (k : Nat) (l0 : List (S91)) (l1 : List (S91)) : Option (Bool) := if (l0.length : Int) = (l1.length : Int) then (laws_eqPointS.l0 k l0 l1 0) else (some false)
theorem laws_eqPointS.mono_l : ∀ k, (∀ y0 y1 y2, LeO (laws_eqPointS.l0 k y0 y1 y2) (laws_eqPointS.l0 (k + 1) y0 y1 y2))
 | 0 => fun _ _ _ r h => by simp [laws_eqPointS.l0] at h
 | k + 1 => by
   have ih0 := laws_eqPointS.mono_l k
   · intro y0 y1 y2
     unfold laws_eqPointS.l0
     repeat' first
     | (with_reducible exact ih0 _ _ _)
     | (with_reducible exact LeO.refl _)
     | (with_reducible exact LeO.none _)
     | (with_reducible refine LeO.ite ?_ ?_)
     | (with_reducible refine LeO.bind ?_ (fun _ => ?_))
     | exact ih0 _ _ _
     | exact LeO.none _
     | refine LeO.ite ?_ ?_
     | refine LeO.bind ?_ (fun _ => ?_)
theorem laws_eqPointS.mono : ∀ a0 a1 k, LeO (laws_eqPointS.f k a0 a1) (laws_eqPointS.f (k + 1) a0 a1) := by
 intro a0 a1 k; have ih0 := laws_eqPointS.mono_l k; unfold laws_eqPointS.f
 repeat' first
  | (with_reducible exact ih0 _ _ _)
  | (with_reducible exact LeO.refl _)
  | (with_reducible exact LeO.none _)
  | (with_reducible refine LeO.ite ?_ ?_)
  | (with_reducible refine LeO.bind ?_ (fun _ => ?_))
  | exact ih0 _ _ _
  | exact LeO.none _
  | refine LeO.ite ?_ ?_
  | refine LeO.bind ?_ (fun _ => ?_)
def laws_eqPointS.T6 : Bool × List (List Nat × List Nat) := (true, [([], []), ([], []), ([0, 1], [0, 1]), ([2], [2]), ([], []), ([], []), ([4, 5], [4, 5]), ([6], [6]), ([3, 7], [3, 7]), ([8], [8])])
def laws_eqPointS.B6 : List Nat := [0, 0, 3, 7, 0, 0, 48, 112, 255, 511]
theorem laws_eqPointS.tab6 : rtab .any (opsOf Try.f15 6) = laws_eqPointS.T6 := by kernel_rfl
theorem laws_eqPointS.bits6 : waitsOk laws_eqPointS.T6.2 laws_eqPointS.B6 = true := by kernel_rfl
set_option maxHeartbeats 8000000 in
set_option maxRecDepth 100000 in
theorem laws_eqPointS.calls (k : Nat) (A0 : Option Addr) (c0 : Nat) (l0 : List (S91)) (A1 : Option Addr) (c1 : Nat) (l1 : List (S91)) (r : Bool) (w : World) (hr0 : Kd.C k91 w A0 l0.length l0) (hc0 : l0.length ≤ c0) (hr1 : Kd.C k91 w A1 l1.length l1) (hc1 : l1.length ≤ c1) (h : laws_eqPointS.f k l0 l1 = some r) :
 Calls Try.prog 15 #[.slice A0 l0.length c0, .slice A1 l1.length c1] w fun e w' => e = .returned (.bool r) ∧ Below w.heap.size w w' := by
 have hu91 := Try.underlying91; have HR0 := Aside0.mk hr0; have HC0 := Aside0.mk hc0; clear hr0 hc0; have HR1 := Aside0.mk hr1; have HC1 := Aside0.mk hc1; clear hr1 hc1; have HB := Aside0.mk (Below.refl w.heap.size w); have H : (if (l0.length : Int) = (l1.length : Int) then (laws_eqPointS.l0 k l0 l1 0) else (some false)) = some r := h; clear h
 by_cases c3 : (l0.length : Int) = (l1.length : Int)
 rotate_left
 · rw [if_neg c3] at H
   have c3b0 : ((l0.length : Int) == (l1.length : Int)) = false := beq_eq_false_iff_ne.mpr c3; have c3b1 : ((l0.length : Int) != (l1.length : Int)) = true := bne_iff_ne.mpr c3
   have c3b2 : (l0.length == l1.length) = false := by first | simpa using c3 | (simp at c3 ⊢; omega)
   obtain rfl := Option.some.inj H
   go_enter Try.func15, Try.ntmps15
   go_wp2
   go_ret
   exact ⟨zE, pB0 HB.out⟩
 rw [if_pos c3] at H; have c3b0 : ((l0.length : Int) == (l1.length : Int)) = true := beq_iff_eq.mpr c3; have c3b1 : ((l0.length : Int) != (l1.length : Int)) = false := bne_eq_false_iff_eq.mpr c3
 have c3b2 : (l0.length == l1.length) = true := by first | simpa using c3 | (simp at c3 ⊢; omega)
 clear c3; have H' := Aside0.mk H; clear H
 go_enter Try.func15, Try.ntmps15
 go_wp2
 go_loopg [5] k (fun kq v5 w' => ∃ (x5_1 : Int), v5 = .int .i64 x5_1 ∧ Aside0 (laws_eqPointS.l0 kq l0 l1 x5_1 = some r) ∧ Aside0 (kq ≤ k) ∧ Aside0 (Below w.heap.size w w'))
 case atStart => exact ⟨(0), zR, H', ⟨Nat.le_refl _⟩, ⟨pB0 HB.out⟩⟩
 case round =>
  clear H'; (try clear c1); (try clear p2); (try clear c3); (try clear c3b0); (try clear c3b1); (try clear c3b2); obtain ⟨x5_1, rfl, HA, HK1, HB⟩ := hrel
  cases gk with
  | zero => exact absurd HA.out (by simp [laws_eqPointS.l0])
  | succ k1 =>
    have H := HA.out; clear HA; simp only [laws_eqPointS.l0] at H
    by_cases c4 : x5_1 < (l0.length : Int)
    rotate_left
    · rw [if_neg c4] at H
      have c4b0 := decide_eq_false c4; clear c4; obtain rfl := Option.some.inj H
      go_wp2
      go_ret
      exact ⟨zE, pB0 HB.out⟩
    rw [if_pos c4] at H; have c4b0 := decide_eq_true c4; clear c4
    by_cases c5 : 0 ≤ x5_1
    rotate_left
    · rw [if_neg c5] at H
      exact absurd H (by simp)
    rw [if_pos c5] at H; have c5b0 := decide_eq_true c5; clear c5
    by_cases c6 : x5_1 < (l1.length : Int)
    rotate_left
    · rw [if_neg c6] at H
      exact absurd H (by simp)
    rw [if_pos c6] at H; have c6b0 := decide_eq_true c6; clear c6; replace H := Option.bind_eq_some_iff.mp H; obtain ⟨t143, A70, H⟩ := H; have A7 := Aside0.mk A70; clear A70
    by_cases c8 : t143 = true
    rotate_left
    · replace c8 := Bool.eq_false_iff.mpr c8
      subst c8
      rw [if_neg (show ¬ (false = true) by decide)] at H
      obtain rfl := Option.some.inj H
      try go_wp2
      replace HB := Aside0.mk (below_drew1 HB.out); have p141 : 0 ≤ (x5_1 : Int) := zD; have q141 : x5_1 < (l0.length : Int) := zD; obtain ⟨ad141, e141, hx141_0, hx141_1⟩ := at_T91 HR0.out x5_1 p141 q141; have hw141_1 := hx141_1; have hw141_0 := hx141_0; cases e141
      try replace hx141_0 := zH HB hx141_0
      try replace hx141_1 := zH HB hx141_1
      replace p141 := eq_true p141; replace q141 := eq_true q141; have p142 : 0 ≤ (x5_1 : Int) := zD; have q142 : x5_1 < (l1.length : Int) := zD; obtain ⟨ad142, e142, hx142_0, hx142_1⟩ := at_T91 HR1.out x5_1 p142 q142; have hw142_1 := hx142_1; have hw142_0 := hx142_0; cases e142
      try replace hx142_0 := zH HB hx142_0
      try replace hx142_1 := zH HB hx142_1
      replace p142 := eq_true p142; replace q142 := eq_true q142
      refine start_ (n := 10) (S := fun w' => w'.cell? (ad141.add ((x5_1).toNat * 2)) = some (.int .i64 ((rd_T91 l0 x5_1).f0)) ∧ w'.cell? ⟨(ad141.add ((x5_1).toNat * 2)).block, (ad141.add ((x5_1).toNat * 2)).off + 1, none⟩ = some (.int .i64 ((rd_T91 l0 x5_1).f1)) ∧ w'.cell? (ad142.add ((x5_1).toNat * 2)) = some (.int .i64 ((rd_T91 l1 x5_1).f0)) ∧ w'.cell? ⟨(ad142.add ((x5_1).toNat * 2)).block, (ad142.add ((x5_1).toNat * 2)).off + 1, none⟩ = some (.int .i64 ((rd_T91 l1 x5_1).f1))) (ds := []) (Array.replicate 10 false) (by kernel_rfl) rfl rfl ⟨(zH HB hw141_0), (zH HB hw141_1), (zH HB hw142_0), (zH HB hw142_1)⟩ (fun hHeld => ?_); refine with_tabW laws_eqPointS.tab6 laws_eqPointS.bits6 (fun HT_ HW_ => ?_)
      generalize wr.drew = w11 at HB hx141_0 hx141_1 hx142_0 hx142_1 hHeld ⊢
      refine zP 0 (some 17) (zb 10 1) HT_ ?_; refine zP 1 (some 18) (zb 10 3) HT_ ?_; refine zP 2 (some 19) (zb 10 7) HT_ ?_; refine zP 4 (some 21) (zb 10 23) HT_ ?_; refine zP 5 (some 22) (zb 10 55) HT_ ?_; refine zP 6 (some 23) (zb 10 119) HT_ ?_; refine zT4 3 (some 20) (zb 10 127) HT_ HW_ hHeld ?_; refine zT4 7 (some 24) (zb 10 255) HT_ HW_ hHeld ?_
      refine one_ (i := 8) (N := some 25) (zb 10 511) rfl rfl (one_of HT_.out (by kernel_rfl)) (by decide) (fun K hK => ?_)
      refine goes_ Try.func58 (by kernel_rfl) rfl #[.agg #[.int .i64 ((rd_T91 l0 x5_1).f0), .int .i64 ((rd_T91 l0 x5_1).f1)], .agg #[.int .i64 ((rd_T91 l1 x5_1).f0), .int .i64 ((rd_T91 l1 x5_1).f1)]] (by rfl) rfl rfl pA ?_
      with_reducible refine (laws_eqPoint.calls ((rd_T91 l0 x5_1).f0) ((rd_T91 l0 x5_1).f1) ((rd_T91 l1 x5_1).f0) ((rd_T91 l1 x5_1).f1) false _ A7.out).mono ?_; rintro e w12 ⟨rfl, hb⟩; refine ⟨_, rfl, ?_⟩; replace HB := zW (pB0 HB.out) hb; (try clear hb); (try clear hb2); (try clear hk); (try clear hi)
      refine hK.out _ _ ⟨(zH HB hw141_0), (zH HB hw141_1), (zH HB hw142_0), (zH HB hw142_1)⟩ (fun hHeld => ?_)
      clear hK K; refine zN ?_; refine zP 9 (some 26) (zb 10 1023) HT_ ?_
      refine done_ (done_of HT_.out (by kernel_rfl)) ?_
      try go_wp2
      go_ret
      exact ⟨zE, pB0 HB.out⟩
    subst c8; rw [if_pos rfl] at H; have H' := Aside0.mk H; clear H
    try go_wp2
    replace HB := Aside0.mk (below_drew1 HB.out); have p141 : 0 ≤ (x5_1 : Int) := zD; have q141 : x5_1 < (l0.length : Int) := zD; obtain ⟨ad141, e141, hx141_0, hx141_1⟩ := at_T91 HR0.out x5_1 p141 q141; have hw141_1 := hx141_1; have hw141_0 := hx141_0; cases e141
    try replace hx141_0 := zH HB hx141_0
    try replace hx141_1 := zH HB hx141_1
    replace p141 := eq_true p141; replace q141 := eq_true q141; have p142 : 0 ≤ (x5_1 : Int) := zD; have q142 : x5_1 < (l1.length : Int) := zD; obtain ⟨ad142, e142, hx142_0, hx142_1⟩ := at_T91 HR1.out x5_1 p142 q142; have hw142_1 := hx142_1; have hw142_0 := hx142_0; cases e142
    try replace hx142_0 := zH HB hx142_0
    try replace hx142_1 := zH HB hx142_1
    replace p142 := eq_true p142; replace q142 := eq_true q142
    refine start_ (n := 10) (S := fun w' => w'.cell? (ad141.add ((x5_1).toNat * 2)) = some (.int .i64 ((rd_T91 l0 x5_1).f0)) ∧ w'.cell? ⟨(ad141.add ((x5_1).toNat * 2)).block, (ad141.add ((x5_1).toNat * 2)).off + 1, none⟩ = some (.int .i64 ((rd_T91 l0 x5_1).f1)) ∧ w'.cell? (ad142.add ((x5_1).toNat * 2)) = some (.int .i64 ((rd_T91 l1 x5_1).f0)) ∧ w'.cell? ⟨(ad142.add ((x5_1).toNat * 2)).block, (ad142.add ((x5_1).toNat * 2)).off + 1, none⟩ = some (.int .i64 ((rd_T91 l1 x5_1).f1))) (ds := []) (Array.replicate 10 false) (by kernel_rfl) rfl rfl ⟨(zH HB hw141_0), (zH HB hw141_1), (zH HB hw142_0), (zH HB hw142_1)⟩ (fun hHeld => ?_); refine with_tabW laws_eqPointS.tab6 laws_eqPointS.bits6 (fun HT_ HW_ => ?_)
    generalize wr.drew = w9 at HB hx141_0 hx141_1 hx142_0 hx142_1 hHeld ⊢
    refine zP 0 (some 17) (zb 10 1) HT_ ?_; refine zP 1 (some 18) (zb 10 3) HT_ ?_; refine zP 2 (some 19) (zb 10 7) HT_ ?_; refine zP 4 (some 21) (zb 10 23) HT_ ?_; refine zP 5 (some 22) (zb 10 55) HT_ ?_; refine zP 6 (some 23) (zb 10 119) HT_ ?_; refine zT4 3 (some 20) (zb 10 127) HT_ HW_ hHeld ?_; refine zT4 7 (some 24) (zb 10 255) HT_ HW_ hHeld ?_
    refine one_ (i := 8) (N := some 25) (zb 10 511) rfl rfl (one_of HT_.out (by kernel_rfl)) (by decide) (fun K hK => ?_)
    refine goes_ Try.func58 (by kernel_rfl) rfl #[.agg #[.int .i64 ((rd_T91 l0 x5_1).f0), .int .i64 ((rd_T91 l0 x5_1).f1)], .agg #[.int .i64 ((rd_T91 l1 x5_1).f0), .int .i64 ((rd_T91 l1 x5_1).f1)]] (by rfl) rfl rfl pA ?_
    with_reducible refine (laws_eqPoint.calls ((rd_T91 l0 x5_1).f0) ((rd_T91 l0 x5_1).f1) ((rd_T91 l1 x5_1).f0) ((rd_T91 l1 x5_1).f1) true _ A7.out).mono ?_; rintro e w10 ⟨rfl, hb⟩; refine ⟨_, rfl, ?_⟩; replace HB := zW (pB0 HB.out) hb; (try clear hb); (try clear hb2); (try clear hk); (try clear hi)
    refine hK.out _ _ ⟨(zH HB hw141_0), (zH HB hw141_1), (zH HB hw142_0), (zH HB hw142_1)⟩ (fun hHeld => ?_)
    clear hK K; refine zN ?_; refine zP 9 (some 26) (zb 10 1023) HT_ ?_
    refine done_ (done_of HT_.out (by kernel_rfl)) ?_
    try go_wp2
    go_roundg k1
    case measure => have := HK1.out; omega
    case rel => exact ⟨(wrap64 (x5_1 + 1)), zR, H', ⟨by have := HK1.out; omega⟩, ⟨pB0 HB.out⟩⟩
def laws_eqBox.f (a0_0 : Int) (a0_1 : Int) (a0_2 : Int) (a0_3 : Int) (a1_0 : Int) (a1_1 : Int) (a1_2 : Int) (a1_3 : Int) : Option (Bool) := if a0_0 = a1_0 then (if a0_1 = a1_1 then (if a0_2 = a1_2 then (if a0_3 = a1_3 then (some true) else (some false)) else (some false)) else (some false)) else (some false)
set_option maxHeartbeats 8000000 in
set_option maxRecDepth 100000 in
theorem laws_eqBox.calls (a0_0 : Int) (a0_1 : Int) (a0_2 : Int) (a0_3 : Int) (a1_0 : Int) (a1_1 : Int) (a1_2 : Int) (a1_3 : Int) (r : Bool) (w : World) (h : laws_eqBox.f a0_0 a0_1 a0_2 a0_3 a1_0 a1_1 a1_2 a1_3 = some r) :
 Calls Try.prog 63 #[.agg #[.int .i64 a0_0, .int .i64 a0_1, .int .i64 a0_2, .int .i64 a0_3], .agg #[.int .i64 a1_0, .int .i64 a1_1, .int .i64 a1_2, .int .i64 a1_3]] w fun e w' => e = .returned (.bool r) ∧ Below w.heap.size w w' := by
 have hu103 := Try.underlying103; have HB := Aside0.mk (Below.refl w.heap.size w); have H : (if a0_0 = a1_0 then (if a0_1 = a1_1 then (if a0_2 = a1_2 then (if a0_3 = a1_3 then (some true) else (some false)) else (some false)) else (some false)) else (some false)) = some r := h; clear h
 by_cases c3 : a0_0 = a1_0
 rotate_left
 · rw [if_neg c3] at H
   have c3b0 : (a0_0 == a1_0) = false := beq_eq_false_iff_ne.mpr c3; have c3b1 : (a0_0 != a1_0) = true := bne_iff_ne.mpr c3; obtain rfl := Option.some.inj H
   go_enter Try.func63, Try.ntmps63
   go_wp2_with (first | ((with_reducible refine zI 2 rfl ?_); refine zB 2 #[.int .i64 a0_0, .int .i64 a0_1, .int .i64 a0_2, .int .i64 a0_3] 103 ?_; intro gb144 hg w27 hbox hb; have BK144 := Aside0.mk (hbox); have GW144 := zS (pB0 HB.out) hg; have GE144 := GW144; replace HB := zW (pB0 HB.out) hb; clear hb hbox hg) | ((with_reducible refine zI 3 rfl ?_); refine zB 3 #[.int .i64 a1_0, .int .i64 a1_1, .int .i64 a1_2, .int .i64 a1_3] 103 ?_; intro gb145 hg w28 hbox hb; have BK145 := Aside0.mk (hbox); have GW145 := zS (pB1 HB.out GE144.out) hg; have GE145 := GW145; have NB144_145 := zL BK144 hg; have NB145_144 := zM BK144 hg; replace BK144 := zK BK144 hb; replace HB := zW (pB1 HB.out GE144.out) hb; clear hb hbox hg; have hnb29 := NB144_145.out; have hnc29 := NB145_144.out; obtain ⟨Y30_0, X30_0, Y30_1, X30_1, Y30_2, X30_2, Y30_3, X30_3⟩ := zw4 BK144; obtain ⟨Y31_0, X31_0, Y31_1, X31_1, Y31_2, X31_2, Y31_3, X31_3⟩ := zw4 BK145))
   go_ret
   exact ⟨zE, pB2 HB.out GE144.out GE145.out⟩
 rw [if_pos c3] at H; have c3b0 : (a0_0 == a1_0) = true := beq_iff_eq.mpr c3; have c3b1 : (a0_0 != a1_0) = false := bne_eq_false_iff_eq.mpr c3; clear c3
 by_cases c4 : a0_1 = a1_1
 rotate_left
 · rw [if_neg c4] at H
   have c4b0 : (a0_1 == a1_1) = false := beq_eq_false_iff_ne.mpr c4; have c4b1 : (a0_1 != a1_1) = true := bne_iff_ne.mpr c4; obtain rfl := Option.some.inj H
   go_enter Try.func63, Try.ntmps63
   go_wp2_with (first | ((with_reducible refine zI 2 rfl ?_); refine zB 2 #[.int .i64 a0_0, .int .i64 a0_1, .int .i64 a0_2, .int .i64 a0_3] 103 ?_; intro gb144 hg w22 hbox hb; have BK144 := Aside0.mk (hbox); have GW144 := zS (pB0 HB.out) hg; have GE144 := GW144; replace HB := zW (pB0 HB.out) hb; clear hb hbox hg) | ((with_reducible refine zI 3 rfl ?_); refine zB 3 #[.int .i64 a1_0, .int .i64 a1_1, .int .i64 a1_2, .int .i64 a1_3] 103 ?_; intro gb145 hg w23 hbox hb; have BK145 := Aside0.mk (hbox); have GW145 := zS (pB1 HB.out GE144.out) hg; have GE145 := GW145; have NB144_145 := zL BK144 hg; have NB145_144 := zM BK144 hg; replace BK144 := zK BK144 hb; replace HB := zW (pB1 HB.out GE144.out) hb; clear hb hbox hg; have hnb24 := NB144_145.out; have hnc24 := NB145_144.out; obtain ⟨Y25_0, X25_0, Y25_1, X25_1, Y25_2, X25_2, Y25_3, X25_3⟩ := zw4 BK144; obtain ⟨Y26_0, X26_0, Y26_1, X26_1, Y26_2, X26_2, Y26_3, X26_3⟩ := zw4 BK145))
   go_ret
   exact ⟨zE, pB2 HB.out GE144.out GE145.out⟩
 rw [if_pos c4] at H; have c4b0 : (a0_1 == a1_1) = true := beq_iff_eq.mpr c4; have c4b1 : (a0_1 != a1_1) = false := bne_eq_false_iff_eq.mpr c4; clear c4
 by_cases c5 : a0_2 = a1_2
 rotate_left
 · rw [if_neg c5] at H
   have c5b0 : (a0_2 == a1_2) = false := beq_eq_false_iff_ne.mpr c5; have c5b1 : (a0_2 != a1_2) = true := bne_iff_ne.mpr c5; obtain rfl := Option.some.inj H
   go_enter Try.func63, Try.ntmps63
   go_wp2_with (first | ((with_reducible refine zI 2 rfl ?_); refine zB 2 #[.int .i64 a0_0, .int .i64 a0_1, .int .i64 a0_2, .int .i64 a0_3] 103 ?_; intro gb144 hg w17 hbox hb; have BK144 := Aside0.mk (hbox); have GW144 := zS (pB0 HB.out) hg; have GE144 := GW144; replace HB := zW (pB0 HB.out) hb; clear hb hbox hg) | ((with_reducible refine zI 3 rfl ?_); refine zB 3 #[.int .i64 a1_0, .int .i64 a1_1, .int .i64 a1_2, .int .i64 a1_3] 103 ?_; intro gb145 hg w18 hbox hb; have BK145 := Aside0.mk (hbox); have GW145 := zS (pB1 HB.out GE144.out) hg; have GE145 := GW145; have NB144_145 := zL BK144 hg; have NB145_144 := zM BK144 hg; replace BK144 := zK BK144 hb; replace HB := zW (pB1 HB.out GE144.out) hb; clear hb hbox hg; have hnb19 := NB144_145.out; have hnc19 := NB145_144.out; obtain ⟨Y20_0, X20_0, Y20_1, X20_1, Y20_2, X20_2, Y20_3, X20_3⟩ := zw4 BK144; obtain ⟨Y21_0, X21_0, Y21_1, X21_1, Y21_2, X21_2, Y21_3, X21_3⟩ := zw4 BK145))
   go_ret
   exact ⟨zE, pB2 HB.out GE144.out GE145.out⟩
 rw [if_pos c5] at H; have c5b0 : (a0_2 == a1_2) = true := beq_iff_eq.mpr c5; have c5b1 : (a0_2 != a1_2) = false := bne_eq_false_iff_eq.mpr c5; clear c5
 by_cases c6 : a0_3 = a1_3
 rotate_left
 · rw [if_neg c6] at H
   have c6b0 : (a0_3 == a1_3) = false := beq_eq_false_iff_ne.mpr c6; have c6b1 : (a0_3 != a1_3) = true := bne_iff_ne.mpr c6; obtain rfl := Option.some.inj H
   go_enter Try.func63, Try.ntmps63
   go_wp2_with (first | ((with_reducible refine zI 2 rfl ?_); refine zB 2 #[.int .i64 a0_0, .int .i64 a0_1, .int .i64 a0_2, .int .i64 a0_3] 103 ?_; intro gb144 hg w12 hbox hb; have BK144 := Aside0.mk (hbox); have GW144 := zS (pB0 HB.out) hg; have GE144 := GW144; replace HB := zW (pB0 HB.out) hb; clear hb hbox hg) | ((with_reducible refine zI 3 rfl ?_); refine zB 3 #[.int .i64 a1_0, .int .i64 a1_1, .int .i64 a1_2, .int .i64 a1_3] 103 ?_; intro gb145 hg w13 hbox hb; have BK145 := Aside0.mk (hbox); have GW145 := zS (pB1 HB.out GE144.out) hg; have GE145 := GW145; have NB144_145 := zL BK144 hg; have NB145_144 := zM BK144 hg; replace BK144 := zK BK144 hb; replace HB := zW (pB1 HB.out GE144.out) hb; clear hb hbox hg; have hnb14 := NB144_145.out; have hnc14 := NB145_144.out; obtain ⟨Y15_0, X15_0, Y15_1, X15_1, Y15_2, X15_2, Y15_3, X15_3⟩ := zw4 BK144; obtain ⟨Y16_0, X16_0, Y16_1, X16_1, Y16_2, X16_2, Y16_3, X16_3⟩ := zw4 BK145))
   go_ret
   exact ⟨zE, pB2 HB.out GE144.out GE145.out⟩
 rw [if_pos c6] at H; have c6b0 : (a0_3 == a1_3) = true := beq_iff_eq.mpr c6; have c6b1 : (a0_3 != a1_3) = false := bne_eq_false_iff_eq.mpr c6; clear c6; obtain rfl := Option.some.inj H
 go_enter Try.func63, Try.ntmps63
 go_wp2_with (first | ((with_reducible refine zI 2 rfl ?_); refine zB 2 #[.int .i64 a0_0, .int .i64 a0_1, .int .i64 a0_2, .int .i64 a0_3] 103 ?_; intro gb144 hg w7 hbox hb; have BK144 := Aside0.mk (hbox); have GW144 := zS (pB0 HB.out) hg; have GE144 := GW144; replace HB := zW (pB0 HB.out) hb; clear hb hbox hg) | ((with_reducible refine zI 3 rfl ?_); refine zB 3 #[.int .i64 a1_0, .int .i64 a1_1, .int .i64 a1_2, .int .i64 a1_3] 103 ?_; intro gb145 hg w8 hbox hb; have BK145 := Aside0.mk (hbox); have GW145 := zS (pB1 HB.out GE144.out) hg; have GE145 := GW145; have NB144_145 := zL BK144 hg; have NB145_144 := zM BK144 hg; replace BK144 := zK BK144 hb; replace HB := zW (pB1 HB.out GE144.out) hb; clear hb hbox hg; have hnb9 := NB144_145.out; have hnc9 := NB145_144.out; obtain ⟨Y10_0, X10_0, Y10_1, X10_1, Y10_2, X10_2, Y10_3, X10_3⟩ := zw4 BK144; obtain ⟨Y11_0, X11_0, Y11_1, X11_1, Y11_2, X11_2, Y11_3, X11_3⟩ := zw4 BK145))
 go_ret
 exact ⟨zE, pB2 HB.out GE144.out GE145.out⟩
def laws_eqBoxS.l0 : Nat → List (S103) → List (S103) → Int → Option (Bool)
 | 0, _, _, _ => none
 | k + 1, x0, x1, x5 => if x5 < (x0.length : Int) then (if 0 ≤ x5 then (if x5 < (x1.length : Int) then ((laws_eqBox.f ((rd_T103 x0 x5).f0) ((rd_T103 x0 x5).f1) ((rd_T103 x0 x5).f2) ((rd_T103 x0 x5).f3) ((rd_T103 x1 x5).f0) ((rd_T103 x1 x5).f1) ((rd_T103 x1 x5).f2) ((rd_T103 x1 x5).f3)).bind fun t148 => (if t148 = true then (laws_eqBoxS.l0 k x0 x1 (wrap64 (x5 + 1))) else (some false))) else (none)) else (none)) else (some true)
def laws_eqBoxS.f (k : Nat) (l0 : List (S103)) (l1 : List (S103)) : Option (Bool) := if (l0.length : Int) = (l1.length : Int) then (laws_eqBoxS.l0 k l0 l1 0) else (some false)
theorem laws_eqBoxS.mono_l : ∀ k, (∀ y0 y1 y2, LeO (laws_eqBoxS.l0 k y0 y1 y2) (laws_eqBoxS.l0 (k + 1) y0 y1 y2))
 | 0 => fun _ _ _ r h => by simp [laws_eqBoxS.l0] at h
 | k + 1 => by
   have ih0 := laws_eqBoxS.mono_l k
   · intro y0 y1 y2
     unfold laws_eqBoxS.l0
     repeat' first
     | (with_reducible exact ih0 _ _ _)
     | (with_reducible exact LeO.refl _)
     | (with_reducible exact LeO.none _)
     | (with_reducible refine LeO.ite ?_ ?_)
     | (with_reducible refine LeO.bind ?_ (fun _ => ?_))
     | exact ih0 _ _ _
     | exact LeO.none _
     | refine LeO.ite ?_ ?_
     | refine LeO.bind ?_ (fun _ => ?_)
theorem laws_eqBoxS.mono : ∀ a0 a1 k, LeO (laws_eqBoxS.f k a0 a1) (laws_eqBoxS.f (k + 1) a0 a1) := by
 intro a0 a1 k; have ih0 := laws_eqBoxS.mono_l k; unfold laws_eqBoxS.f
 repeat' first
  | (with_reducible exact ih0 _ _ _)
  | (with_reducible exact LeO.refl _)
  | (with_reducible exact LeO.none _)
  | (with_reducible refine LeO.ite ?_ ?_)
  | (with_reducible refine LeO.bind ?_ (fun _ => ?_))
  | exact ih0 _ _ _
  | exact LeO.none _
  | refine LeO.ite ?_ ?_
  | refine LeO.bind ?_ (fun _ => ?_)
def laws_eqBoxS.T6 : Bool × List (List Nat × List Nat) := (true, [([], []), ([], []), ([0, 1], [0, 1]), ([2], [2]), ([], []), ([], []), ([4, 5], [4, 5]), ([6], [6]), ([3, 7], [3, 7]), ([8], [8])])
def laws_eqBoxS.B6 : List Nat := [0, 0, 3, 7, 0, 0, 48, 112, 255, 511]
theorem laws_eqBoxS.tab6 : rtab .any (opsOf Try.f26 6) = laws_eqBoxS.T6 := by kernel_rfl
theorem laws_eqBoxS.bits6 : waitsOk laws_eqBoxS.T6.2 laws_eqBoxS.B6 = true := by kernel_rfl
set_option maxHeartbeats 8000000 in
set_option maxRecDepth 100000 in
theorem laws_eqBoxS.calls (k : Nat) (A0 : Option Addr) (c0 : Nat) (l0 : List (S103)) (A1 : Option Addr) (c1 : Nat) (l1 : List (S103)) (r : Bool) (w : World) (hr0 : Kd.C k103 w A0 l0.length l0) (hc0 : l0.length ≤ c0) (hr1 : Kd.C k103 w A1 l1.length l1) (hc1 : l1.length ≤ c1) (h : laws_eqBoxS.f k l0 l1 = some r) :
 Calls Try.prog 26 #[.slice A0 l0.length c0, .slice A1 l1.length c1] w fun e w' => e = .returned (.bool r) ∧ Below w.heap.size w w' := by
 have hu103 := Try.underlying103; have HR0 := Aside0.mk hr0; have HC0 := Aside0.mk hc0; clear hr0 hc0; have HR1 := Aside0.mk hr1; have HC1 := Aside0.mk hc1; clear hr1 hc1; have HB := Aside0.mk (Below.refl w.heap.size w); have H : (if (l0.length : Int) = (l1.length : Int) then (laws_eqBoxS.l0 k l0 l1 0) else (some false)) = some r := h; clear h
 by_cases c3 : (l0.length : Int) = (l1.length : Int)
 rotate_left
 · rw [if_neg c3] at H
   have c3b0 : ((l0.length : Int) == (l1.length : Int)) = false := beq_eq_false_iff_ne.mpr c3; have c3b1 : ((l0.length : Int) != (l1.length : Int)) = true := bne_iff_ne.mpr c3
   have c3b2 : (l0.length == l1.length) = false := by first | simpa using c3 | (simp at c3 ⊢; omega)
   obtain rfl := Option.some.inj H
   go_enter Try.func26, Try.ntmps26
   go_wp2
   go_ret
   exact ⟨zE, pB0 HB.out⟩
 rw [if_pos c3] at H; have c3b0 : ((l0.length : Int) == (l1.length : Int)) = true := beq_iff_eq.mpr c3; have c3b1 : ((l0.length : Int) != (l1.length : Int)) = false := bne_eq_false_iff_eq.mpr c3
 have c3b2 : (l0.length == l1.length) = true := by first | simpa using c3 | (simp at c3 ⊢; omega)
 clear c3; have H' := Aside0.mk H; clear H
 go_enter Try.func26, Try.ntmps26
 go_wp2
 go_loopg [5] k (fun kq v5 w' => ∃ (x5_1 : Int), v5 = .int .i64 x5_1 ∧ Aside0 (laws_eqBoxS.l0 kq l0 l1 x5_1 = some r) ∧ Aside0 (kq ≤ k) ∧ Aside0 (Below w.heap.size w w'))
 case atStart => exact ⟨(0), zR, H', ⟨Nat.le_refl _⟩, ⟨pB0 HB.out⟩⟩
 case round =>
  clear H'; (try clear c1); (try clear c2); (try clear p2); (try clear c3); (try clear c3b0); (try clear c3b1); (try clear c3b2); obtain ⟨x5_1, rfl, HA, HK1, HB⟩ := hrel
  cases gk with
  | zero => exact absurd HA.out (by simp [laws_eqBoxS.l0])
  | succ k1 =>
    have H := HA.out; clear HA; simp only [laws_eqBoxS.l0] at H
    by_cases c4 : x5_1 < (l0.length : Int)
    rotate_left
    · rw [if_neg c4] at H
      have c4b0 := decide_eq_false c4; clear c4; obtain rfl := Option.some.inj H
      go_wp2
      go_ret
      exact ⟨zE, pB0 HB.out⟩
    rw [if_pos c4] at H; have c4b0 := decide_eq_true c4; clear c4
    by_cases c5 : 0 ≤ x5_1
    rotate_left
    · rw [if_neg c5] at H
      exact absurd H (by simp)
    rw [if_pos c5] at H; have c5b0 := decide_eq_true c5; clear c5
    by_cases c6 : x5_1 < (l1.length : Int)
    rotate_left
    · rw [if_neg c6] at H
      exact absurd H (by simp)
    rw [if_pos c6] at H; have c6b0 := decide_eq_true c6; clear c6; replace H := Option.bind_eq_some_iff.mp H; obtain ⟨t148, A70, H⟩ := H; have A7 := Aside0.mk A70; clear A70
    by_cases c8 : t148 = true
    rotate_left
    · replace c8 := Bool.eq_false_iff.mpr c8
      subst c8
      rw [if_neg (show ¬ (false = true) by decide)] at H
      obtain rfl := Option.some.inj H
      try go_wp2
      replace HB := Aside0.mk (below_drew1 HB.out); have p146 : 0 ≤ (x5_1 : Int) := zD; have q146 : x5_1 < (l0.length : Int) := zD; obtain ⟨ad146, e146, hx146_0, hx146_1, hx146_2, hx146_3⟩ := at_T103 HR0.out x5_1 p146 q146; have hw146_3 := hx146_3; have hw146_2 := hx146_2; have hw146_1 := hx146_1; have hw146_0 := hx146_0; cases e146
      try replace hx146_0 := zH HB hx146_0
      try replace hx146_1 := zH HB hx146_1
      try replace hx146_2 := zH HB hx146_2
      try replace hx146_3 := zH HB hx146_3
      replace p146 := eq_true p146; replace q146 := eq_true q146; have p147 : 0 ≤ (x5_1 : Int) := zD; have q147 : x5_1 < (l1.length : Int) := zD; obtain ⟨ad147, e147, hx147_0, hx147_1, hx147_2, hx147_3⟩ := at_T103 HR1.out x5_1 p147 q147; have hw147_3 := hx147_3; have hw147_2 := hx147_2; have hw147_1 := hx147_1; have hw147_0 := hx147_0; cases e147
      try replace hx147_0 := zH HB hx147_0
      try replace hx147_1 := zH HB hx147_1
      try replace hx147_2 := zH HB hx147_2
      try replace hx147_3 := zH HB hx147_3
      replace p147 := eq_true p147; replace q147 := eq_true q147
      refine start_ (n := 10) (S := fun w' => w'.cell? (ad146.add ((x5_1).toNat * 4)) = some (.int .i64 ((rd_T103 l0 x5_1).f0)) ∧ w'.cell? ⟨(ad146.add ((x5_1).toNat * 4)).block, (ad146.add ((x5_1).toNat * 4)).off + 1, none⟩ = some (.int .i64 ((rd_T103 l0 x5_1).f1)) ∧ w'.cell? ⟨(ad146.add ((x5_1).toNat * 4)).block, (ad146.add ((x5_1).toNat * 4)).off + 2, none⟩ = some (.int .i64 ((rd_T103 l0 x5_1).f2)) ∧ w'.cell? ⟨(ad146.add ((x5_1).toNat * 4)).block, (ad146.add ((x5_1).toNat * 4)).off + 3, none⟩ = some (.int .i64 ((rd_T103 l0 x5_1).f3)) ∧ w'.cell? (ad147.add ((x5_1).toNat * 4)) = some (.int .i64 ((rd_T103 l1 x5_1).f0)) ∧ w'.cell? ⟨(ad147.add ((x5_1).toNat * 4)).block, (ad147.add ((x5_1).toNat * 4)).off + 1, none⟩ = some (.int .i64 ((rd_T103 l1 x5_1).f1)) ∧ w'.cell? ⟨(ad147.add ((x5_1).toNat * 4)).block, (ad147.add ((x5_1).toNat * 4)).off + 2, none⟩ = some (.int .i64 ((rd_T103 l1 x5_1).f2)) ∧ w'.cell? ⟨(ad147.add ((x5_1).toNat * 4)).block, (ad147.add ((x5_1).toNat * 4)).off + 3, none⟩ = some (.int .i64 ((rd_T103 l1 x5_1).f3))) (ds := []) (Array.replicate 10 false) (by kernel_rfl) rfl rfl ⟨(zH HB hw146_0), (zH HB hw146_1), (zH HB hw146_2), (zH HB hw146_3), (zH HB hw147_0), (zH HB hw147_1), (zH HB hw147_2), (zH HB hw147_3)⟩ (fun hHeld => ?_); refine with_tabW laws_eqBoxS.tab6 laws_eqBoxS.bits6 (fun HT_ HW_ => ?_)
      generalize wr.drew = w11 at HB hx146_0 hx146_1 hx146_2 hx146_3 hx147_0 hx147_1 hx147_2 hx147_3 hHeld ⊢
      refine zP 0 (some 17) (zb 10 1) HT_ ?_; refine zP 1 (some 18) (zb 10 3) HT_ ?_; refine zP 2 (some 19) (zb 10 7) HT_ ?_; refine zP 4 (some 21) (zb 10 23) HT_ ?_; refine zP 5 (some 22) (zb 10 55) HT_ ?_; refine zP 6 (some 23) (zb 10 119) HT_ ?_; refine zT8 3 (some 20) (zb 10 127) HT_ HW_ hHeld ?_; refine zT8 7 (some 24) (zb 10 255) HT_ HW_ hHeld ?_
      refine one_ (i := 8) (N := some 25) (zb 10 511) rfl rfl (one_of HT_.out (by kernel_rfl)) (by decide) (fun K hK => ?_)
      refine goes_ Try.func63 (by kernel_rfl) rfl #[.agg #[.int .i64 ((rd_T103 l0 x5_1).f0), .int .i64 ((rd_T103 l0 x5_1).f1), .int .i64 ((rd_T103 l0 x5_1).f2), .int .i64 ((rd_T103 l0 x5_1).f3)], .agg #[.int .i64 ((rd_T103 l1 x5_1).f0), .int .i64 ((rd_T103 l1 x5_1).f1), .int .i64 ((rd_T103 l1 x5_1).f2), .int .i64 ((rd_T103 l1 x5_1).f3)]] (by rfl) rfl rfl pA ?_
      with_reducible refine (laws_eqBox.calls ((rd_T103 l0 x5_1).f0) ((rd_T103 l0 x5_1).f1) ((rd_T103 l0 x5_1).f2) ((rd_T103 l0 x5_1).f3) ((rd_T103 l1 x5_1).f0) ((rd_T103 l1 x5_1).f1) ((rd_T103 l1 x5_1).f2) ((rd_T103 l1 x5_1).f3) false _ A7.out).mono ?_; rintro e w12 ⟨rfl, hb⟩; refine ⟨_, rfl, ?_⟩; replace HB := zW (pB0 HB.out) hb; (try clear hb); (try clear hb2); (try clear hk); (try clear hi)
      refine hK.out _ _ ⟨(zH HB hw146_0), (zH HB hw146_1), (zH HB hw146_2), (zH HB hw146_3), (zH HB hw147_0), (zH HB hw147_1), (zH HB hw147_2), (zH HB hw147_3)⟩ (fun hHeld => ?_)
      clear hK K; refine zN ?_; refine zP 9 (some 26) (zb 10 1023) HT_ ?_
      refine done_ (done_of HT_.out (by kernel_rfl)) ?_
      try go_wp2
      go_ret
      exact ⟨zE, pB0 HB.out⟩
    subst c8; rw [if_pos rfl] at H; have H' := Aside0.mk H; clear H
    try go_wp2
    replace HB := Aside0.mk (below_drew1 HB.out); have p146 : 0 ≤ (x5_1 : Int) := zD; have q146 : x5_1 < (l0.length : Int) := zD; obtain ⟨ad146, e146, hx146_0, hx146_1, hx146_2, hx146_3⟩ := at_T103 HR0.out x5_1 p146 q146; have hw146_3 := hx146_3; have hw146_2 := hx146_2; have hw146_1 := hx146_1; have hw146_0 := hx146_0; cases e146
    try replace hx146_0 := zH HB hx146_0
    try replace hx146_1 := zH HB hx146_1
    try replace hx146_2 := zH HB hx146_2
    try replace hx146_3 := zH HB hx146_3
    replace p146 := eq_true p146; replace q146 := eq_true q146; have p147 : 0 ≤ (x5_1 : Int) := zD; have q147 : x5_1 < (l1.length : Int) := zD; obtain ⟨ad147, e147, hx147_0, hx147_1, hx147_2, hx147_3⟩ := at_T103 HR1.out x5_1 p147 q147; have hw147_3 := hx147_3; have hw147_2 := hx147_2; have hw147_1 := hx147_1; have hw147_0 := hx147_0; cases e147
    try replace hx147_0 := zH HB hx147_0
    try replace hx147_1 := zH HB hx147_1
    try replace hx147_2 := zH HB hx147_2
    try replace hx147_3 := zH HB hx147_3
    replace p147 := eq_true p147; replace q147 := eq_true q147
    refine start_ (n := 10) (S := fun w' => w'.cell? (ad146.add ((x5_1).toNat * 4)) = some (.int .i64 ((rd_T103 l0 x5_1).f0)) ∧ w'.cell? ⟨(ad146.add ((x5_1).toNat * 4)).block, (ad146.add ((x5_1).toNat * 4)).off + 1, none⟩ = some (.int .i64 ((rd_T103 l0 x5_1).f1)) ∧ w'.cell? ⟨(ad146.add ((x5_1).toNat * 4)).block, (ad146.add ((x5_1).toNat * 4)).off + 2, none⟩ = some (.int .i64 ((rd_T103 l0 x5_1).f2)) ∧ w'.cell? ⟨(ad146.add ((x5_1).toNat * 4)).block, (ad146.add ((x5_1).toNat * 4)).off + 3, none⟩ = some (.int .i64 ((rd_T103 l0 x5_1).f3)) ∧ w'.cell? (ad147.add ((x5_1).toNat * 4)) = some (.int .i64 ((rd_T103 l1 x5_1).f0)) ∧ w'.cell? ⟨(ad147.add ((x5_1).toNat * 4)).block, (ad147.add ((x5_1).toNat * 4)).off + 1, none⟩ = some (.int .i64 ((rd_T103 l1 x5_1).f1)) ∧ w'.cell? ⟨(ad147.add ((x5_1).toNat * 4)).block, (ad147.add ((x5_1).toNat * 4)).off + 2, none⟩ = some (.int .i64 ((rd_T103 l1 x5_1).f2)) ∧ w'.cell? ⟨(ad147.add ((x5_1).toNat * 4)).block, (ad147.add ((x5_1).toNat * 4)).off + 3, none⟩ = some (.int .i64 ((rd_T103 l1 x5_1).f3))) (ds := []) (Array.replicate 10 false) (by kernel_rfl) rfl rfl ⟨(zH HB hw146_0), (zH HB hw146_1), (zH HB hw146_2), (zH HB hw146_3), (zH HB hw147_0), (zH HB hw147_1), (zH HB hw147_2), (zH HB hw147_3)⟩ (fun hHeld => ?_); refine with_tabW laws_eqBoxS.tab6 laws_eqBoxS.bits6 (fun HT_ HW_ => ?_)
    generalize wr.drew = w9 at HB hx146_0 hx146_1 hx146_2 hx146_3 hx147_0 hx147_1 hx147_2 hx147_3 hHeld ⊢
    refine zP 0 (some 17) (zb 10 1) HT_ ?_; refine zP 1 (some 18) (zb 10 3) HT_ ?_; refine zP 2 (some 19) (zb 10 7) HT_ ?_; refine zP 4 (some 21) (zb 10 23) HT_ ?_; refine zP 5 (some 22) (zb 10 55) HT_ ?_; refine zP 6 (some 23) (zb 10 119) HT_ ?_; refine zT8 3 (some 20) (zb 10 127) HT_ HW_ hHeld ?_; refine zT8 7 (some 24) (zb 10 255) HT_ HW_ hHeld ?_
    refine one_ (i := 8) (N := some 25) (zb 10 511) rfl rfl (one_of HT_.out (by kernel_rfl)) (by decide) (fun K hK => ?_)
    refine goes_ Try.func63 (by kernel_rfl) rfl #[.agg #[.int .i64 ((rd_T103 l0 x5_1).f0), .int .i64 ((rd_T103 l0 x5_1).f1), .int .i64 ((rd_T103 l0 x5_1).f2), .int .i64 ((rd_T103 l0 x5_1).f3)], .agg #[.int .i64 ((rd_T103 l1 x5_1).f0), .int .i64 ((rd_T103 l1 x5_1).f1), .int .i64 ((rd_T103 l1 x5_1).f2), .int .i64 ((rd_T103 l1 x5_1).f3)]] (by rfl) rfl rfl pA ?_
    with_reducible refine (laws_eqBox.calls ((rd_T103 l0 x5_1).f0) ((rd_T103 l0 x5_1).f1) ((rd_T103 l0 x5_1).f2) ((rd_T103 l0 x5_1).f3) ((rd_T103 l1 x5_1).f0) ((rd_T103 l1 x5_1).f1) ((rd_T103 l1 x5_1).f2) ((rd_T103 l1 x5_1).f3) true _ A7.out).mono ?_; rintro e w10 ⟨rfl, hb⟩; refine ⟨_, rfl, ?_⟩; replace HB := zW (pB0 HB.out) hb; (try clear hb); (try clear hb2); (try clear hk); (try clear hi)
    refine hK.out _ _ ⟨(zH HB hw146_0), (zH HB hw146_1), (zH HB hw146_2), (zH HB hw146_3), (zH HB hw147_0), (zH HB hw147_1), (zH HB hw147_2), (zH HB hw147_3)⟩ (fun hHeld => ?_)
    clear hK K; refine zN ?_; refine zP 9 (some 26) (zb 10 1023) HT_ ?_
    refine done_ (done_of HT_.out (by kernel_rfl)) ?_
    try go_wp2
    go_roundg k1
    case measure => have := HK1.out; omega
    case rel => exact ⟨(wrap64 (x5_1 + 1)), zR, H', ⟨by have := HK1.out; omega⟩, ⟨pB0 HB.out⟩⟩
def laws_eqVeneer.f (a0_0 : ByteArray) (a0_1 : Int) (a0_2 : Int) (a1_0 : ByteArray) (a1_1 : Int) (a1_2 : Int) : Option (Bool) := if a0_0.toList = a1_0.toList then (if a0_1 = a1_1 then (if a0_2 = a1_2 then (some true) else (some false)) else (some false)) else (some false)
set_option maxHeartbeats 8000000 in
set_option maxRecDepth 100000 in
theorem laws_eqVeneer.calls (a0_0 : ByteArray) (a0_1 : Int) (a0_2 : Int) (a1_0 : ByteArray) (a1_1 : Int) (a1_2 : Int) (r : Bool) (w : World) (h : laws_eqVeneer.f a0_0 a0_1 a0_2 a1_0 a1_1 a1_2 = some r) :
 Calls Try.prog 59 #[.agg #[.string a0_0, .int .i64 a0_1, .int .i64 a0_2], .agg #[.string a1_0, .int .i64 a1_1, .int .i64 a1_2]] w fun e w' => e = .returned (.bool r) ∧ Below w.heap.size w w' := by
 have hu33 := Try.underlying33; have HB := Aside0.mk (Below.refl w.heap.size w); have H : (if a0_0.toList = a1_0.toList then (if a0_1 = a1_1 then (if a0_2 = a1_2 then (some true) else (some false)) else (some false)) else (some false)) = some r := h; clear h
 by_cases c3 : a0_0.toList = a1_0.toList
 rotate_left
 · rw [if_neg c3] at H
   have c3b0 : (a0_0.toList == a1_0.toList) = false := beq_eq_false_iff_ne.mpr c3; have c3b1 : (a0_0.toList != a1_0.toList) = true := bne_iff_ne.mpr c3; obtain rfl := Option.some.inj H
   go_enter Try.func59, Try.ntmps59
   go_wp2_with (first | ((with_reducible refine zI 2 rfl ?_); refine zB 2 #[.string a0_0, .int .i64 a0_1, .int .i64 a0_2] 33 ?_; intro gb149 hg w21 hbox hb; have BK149 := Aside0.mk (hbox); have GW149 := zS (pB0 HB.out) hg; have GE149 := GW149; replace HB := zW (pB0 HB.out) hb; clear hb hbox hg) | ((with_reducible refine zI 3 rfl ?_); refine zB 3 #[.string a1_0, .int .i64 a1_1, .int .i64 a1_2] 33 ?_; intro gb150 hg w22 hbox hb; have BK150 := Aside0.mk (hbox); have GW150 := zS (pB1 HB.out GE149.out) hg; have GE150 := GW150; have NB149_150 := zL BK149 hg; have NB150_149 := zM BK149 hg; replace BK149 := zK BK149 hb; replace HB := zW (pB1 HB.out GE149.out) hb; clear hb hbox hg; have hnb23 := NB149_150.out; have hnc23 := NB150_149.out; obtain ⟨Y24_0, X24_0, Y24_1, X24_1, Y24_2, X24_2⟩ := zw3 BK149; obtain ⟨Y25_0, X25_0, Y25_1, X25_1, Y25_2, X25_2⟩ := zw3 BK150))
   go_ret
   exact ⟨zE, pB2 HB.out GE149.out GE150.out⟩
 rw [if_pos c3] at H; have c3b0 : (a0_0.toList == a1_0.toList) = true := beq_iff_eq.mpr c3; have c3b1 : (a0_0.toList != a1_0.toList) = false := bne_eq_false_iff_eq.mpr c3; clear c3
 by_cases c4 : a0_1 = a1_1
 rotate_left
 · rw [if_neg c4] at H
   have c4b0 : (a0_1 == a1_1) = false := beq_eq_false_iff_ne.mpr c4; have c4b1 : (a0_1 != a1_1) = true := bne_iff_ne.mpr c4; obtain rfl := Option.some.inj H
   go_enter Try.func59, Try.ntmps59
   go_wp2_with (first | ((with_reducible refine zI 2 rfl ?_); refine zB 2 #[.string a0_0, .int .i64 a0_1, .int .i64 a0_2] 33 ?_; intro gb149 hg w16 hbox hb; have BK149 := Aside0.mk (hbox); have GW149 := zS (pB0 HB.out) hg; have GE149 := GW149; replace HB := zW (pB0 HB.out) hb; clear hb hbox hg) | ((with_reducible refine zI 3 rfl ?_); refine zB 3 #[.string a1_0, .int .i64 a1_1, .int .i64 a1_2] 33 ?_; intro gb150 hg w17 hbox hb; have BK150 := Aside0.mk (hbox); have GW150 := zS (pB1 HB.out GE149.out) hg; have GE150 := GW150; have NB149_150 := zL BK149 hg; have NB150_149 := zM BK149 hg; replace BK149 := zK BK149 hb; replace HB := zW (pB1 HB.out GE149.out) hb; clear hb hbox hg; have hnb18 := NB149_150.out; have hnc18 := NB150_149.out; obtain ⟨Y19_0, X19_0, Y19_1, X19_1, Y19_2, X19_2⟩ := zw3 BK149; obtain ⟨Y20_0, X20_0, Y20_1, X20_1, Y20_2, X20_2⟩ := zw3 BK150))
   go_ret
   exact ⟨zE, pB2 HB.out GE149.out GE150.out⟩
 rw [if_pos c4] at H; have c4b0 : (a0_1 == a1_1) = true := beq_iff_eq.mpr c4; have c4b1 : (a0_1 != a1_1) = false := bne_eq_false_iff_eq.mpr c4; clear c4
 by_cases c5 : a0_2 = a1_2
 rotate_left
 · rw [if_neg c5] at H
   have c5b0 : (a0_2 == a1_2) = false := beq_eq_false_iff_ne.mpr c5; have c5b1 : (a0_2 != a1_2) = true := bne_iff_ne.mpr c5; obtain rfl := Option.some.inj H
   go_enter Try.func59, Try.ntmps59
   go_wp2_with (first | ((with_reducible refine zI 2 rfl ?_); refine zB 2 #[.string a0_0, .int .i64 a0_1, .int .i64 a0_2] 33 ?_; intro gb149 hg w11 hbox hb; have BK149 := Aside0.mk (hbox); have GW149 := zS (pB0 HB.out) hg; have GE149 := GW149; replace HB := zW (pB0 HB.out) hb; clear hb hbox hg) | ((with_reducible refine zI 3 rfl ?_); refine zB 3 #[.string a1_0, .int .i64 a1_1, .int .i64 a1_2] 33 ?_; intro gb150 hg w12 hbox hb; have BK150 := Aside0.mk (hbox); have GW150 := zS (pB1 HB.out GE149.out) hg; have GE150 := GW150; have NB149_150 := zL BK149 hg; have NB150_149 := zM BK149 hg; replace BK149 := zK BK149 hb; replace HB := zW (pB1 HB.out GE149.out) hb; clear hb hbox hg; have hnb13 := NB149_150.out; have hnc13 := NB150_149.out; obtain ⟨Y14_0, X14_0, Y14_1, X14_1, Y14_2, X14_2⟩ := zw3 BK149; obtain ⟨Y15_0, X15_0, Y15_1, X15_1, Y15_2, X15_2⟩ := zw3 BK150))
   go_ret
   exact ⟨zE, pB2 HB.out GE149.out GE150.out⟩
 rw [if_pos c5] at H; have c5b0 : (a0_2 == a1_2) = true := beq_iff_eq.mpr c5; have c5b1 : (a0_2 != a1_2) = false := bne_eq_false_iff_eq.mpr c5; clear c5; obtain rfl := Option.some.inj H
 go_enter Try.func59, Try.ntmps59
 go_wp2_with (first | ((with_reducible refine zI 2 rfl ?_); refine zB 2 #[.string a0_0, .int .i64 a0_1, .int .i64 a0_2] 33 ?_; intro gb149 hg w6 hbox hb; have BK149 := Aside0.mk (hbox); have GW149 := zS (pB0 HB.out) hg; have GE149 := GW149; replace HB := zW (pB0 HB.out) hb; clear hb hbox hg) | ((with_reducible refine zI 3 rfl ?_); refine zB 3 #[.string a1_0, .int .i64 a1_1, .int .i64 a1_2] 33 ?_; intro gb150 hg w7 hbox hb; have BK150 := Aside0.mk (hbox); have GW150 := zS (pB1 HB.out GE149.out) hg; have GE150 := GW150; have NB149_150 := zL BK149 hg; have NB150_149 := zM BK149 hg; replace BK149 := zK BK149 hb; replace HB := zW (pB1 HB.out GE149.out) hb; clear hb hbox hg; have hnb8 := NB149_150.out; have hnc8 := NB150_149.out; obtain ⟨Y9_0, X9_0, Y9_1, X9_1, Y9_2, X9_2⟩ := zw3 BK149; obtain ⟨Y10_0, X10_0, Y10_1, X10_1, Y10_2, X10_2⟩ := zw3 BK150))
 go_ret
 exact ⟨zE, pB2 HB.out GE149.out GE150.out⟩
end Go.Proofs.Ytfiiakhpdkdebaa.PFnExactOffcutsOf

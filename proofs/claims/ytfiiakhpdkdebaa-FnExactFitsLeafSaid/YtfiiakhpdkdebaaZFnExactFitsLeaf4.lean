/- What each function that a law reaches comes to, and the proof that its walk comes to it; laid by a program of this session. No condition. -/
import Derived.Test.YtfiiakhpdkdebaaZFnExactFitsLeaf0
import Derived.Test.YtfiiakhpdkdebaaZFnExactFitsLeaf2
import Derived.Test.YtfiiakhpdkdebaaZFnExactFitsLeaf3
namespace Go.Proofs.Ytfiiakhpdkdebaa.PFnExactFitsLeaf
open Go.RowKit Go.Proofs.YtfiiakhpdkdebaaW.PrintWords Go.Proofs.YtfiiakhpdkdebaaW.PrintLast Go.Proofs.YtfiiakhpdkdebaaW.PrintMore
attribute [local go_sem] max2_int min2_int max_two min_two max_three min_three max_four min_four
set_option linter.unusedVariables false
set_option linter.unusedSimpArgs false
def spec_l02Crosses.f (a0_0 : Int) (a0_1 : Int) (a1_0 : Int) (a1_1 : Int) (a2_0 : Int) (a2_1 : Int) (a3_0 : Int) (a3_1 : Int) : Option (Bool) := (spec_l02Side.f a0_0 a0_1 a1_0 a1_1 a2_0 a2_1).bind fun t129 => ((spec_l02Side.f a0_0 a0_1 a1_0 a1_1 a3_0 a3_1).bind fun t130 => (if (wrap64 (t129 * t130)) < 0 then ((spec_l02Side.f a2_0 a2_1 a3_0 a3_1 a0_0 a0_1).bind fun t131 => ((spec_l02Side.f a2_0 a2_1 a3_0 a3_1 a1_0 a1_1).bind fun t132 => (some (decide ((wrap64 (t131 * t132)) < 0))))) else (some false)))
def spec_l02Crosses.T1 : Bool × List (List Nat × List Nat) := (true, [([], []), ([], []), ([], []), ([0, 1, 2], [0, 1, 2]), ([], []), ([], []), ([], []), ([4, 5, 6, 3], [4, 5, 6]), ([3, 7], [3, 7]), ([8], [8]), ([9, 7], [9]), ([10], [10]), ([10], [10]), ([10], [10]), ([11, 12, 13, 10, 10], [10, 11, 12, 13]), ([10], [10]), ([10], [10]), ([10], [10]), ([15, 16, 17, 14, 10], [10, 15, 16, 17]), ([14, 18, 10], [10, 14, 18]), ([19, 10], [10, 19]), ([10, 20], [10, 20]), ([21, 18, 0, 1, 2, 3, 4, 5, 6, 7, 8, 9, 10, 11, 12, 13, 14, 15, 16, 17, 18, 19, 20, 21], [21])])
def spec_l02Crosses.B1 : List Nat := [0, 0, 0, 7, 0, 0, 0, 127, 255, 511, 1023, 2047, 2047, 2047, 16383, 2047, 2047, 2047, 262143, 524287, 1048575, 2097151, 4194303]
theorem spec_l02Crosses.tab1 : rtab .any (opsOf Try.f126 1) = spec_l02Crosses.T1 := by kernel_rfl
theorem spec_l02Crosses.bits1 : waitsOk spec_l02Crosses.T1.2 spec_l02Crosses.B1 = true := by kernel_rfl
set_option maxHeartbeats 8000000 in
set_option maxRecDepth 100000 in
theorem spec_l02Crosses.calls (a0_0 : Int) (a0_1 : Int) (a1_0 : Int) (a1_1 : Int) (a2_0 : Int) (a2_1 : Int) (a3_0 : Int) (a3_1 : Int) (r : Bool) (w : World) (h : spec_l02Crosses.f a0_0 a0_1 a1_0 a1_1 a2_0 a2_1 a3_0 a3_1 = some r) :
 Calls Try.prog 126 #[.agg #[.int .i64 a0_0, .int .i64 a0_1], .agg #[.int .i64 a1_0, .int .i64 a1_1], .agg #[.int .i64 a2_0, .int .i64 a2_1], .agg #[.int .i64 a3_0, .int .i64 a3_1]] w fun e w' => e = .returned (.bool r) ∧ Below w.heap.size w w' := by
 have hu91 := Try.underlying91
 have HB := Aside0.mk (Below.refl w.heap.size w)
 have H : ((spec_l02Side.f a0_0 a0_1 a1_0 a1_1 a2_0 a2_1).bind fun t129 => ((spec_l02Side.f a0_0 a0_1 a1_0 a1_1 a3_0 a3_1).bind fun t130 => (if (wrap64 (t129 * t130)) < 0 then ((spec_l02Side.f a2_0 a2_1 a3_0 a3_1 a0_0 a0_1).bind fun t131 => ((spec_l02Side.f a2_0 a2_1 a3_0 a3_1 a1_0 a1_1).bind fun t132 => (some (decide ((wrap64 (t131 * t132)) < 0))))) else (some false)))) = some r := h
 clear h
 replace H := Option.bind_eq_some_iff.mp H
 obtain ⟨t129, A50, H⟩ := H
 have A5 := Aside0.mk A50
 clear A50
 replace H := Option.bind_eq_some_iff.mp H
 obtain ⟨t130, A60, H⟩ := H
 have A6 := Aside0.mk A60
 clear A60
 by_cases c7 : (wrap64 (t129 * t130)) < 0
 rotate_left
 · rw [if_neg c7] at H
   have c7b0 : decide ((wrap64 (t129 * t130)) < 0) = false := decide_eq_false c7
   clear c7
   obtain rfl := Option.some.inj H
   go_enter Try.func126, Try.ntmps126
   try go_wp2_with (first | ((with_reducible refine gate_dst (N := 4) rfl ?_); refine zB 4 #[.int .i64 a0_0, .int .i64 a0_1] 91 ?_; intro gb125 hg w19 hbox hb; have BK125 := Aside0.mk (hbox); have GW125 := zS (pB0 HB.out) hg; have GE125 := zS (pB0 HB.out) hg; replace HB := zW (pB0 HB.out) hb; clear hb hbox hg) | ((with_reducible refine gate_dst (N := 5) rfl ?_); refine zB 5 #[.int .i64 a1_0, .int .i64 a1_1] 91 ?_; intro gb126 hg w20 hbox hb; have BK126 := Aside0.mk (hbox); have GW126 := zS (pB1 HB.out GE125.out) hg; have GE126 := zS (pB1 HB.out GE125.out) hg; have NB125_126 := zL BK125 hg; have NB126_125 := zM BK125 hg; replace BK125 := zK BK125 hb; replace HB := zW (pB1 HB.out GE125.out) hb; clear hb hbox hg) | ((with_reducible refine gate_dst (N := 6) rfl ?_); refine zB 6 #[.int .i64 a2_0, .int .i64 a2_1] 91 ?_; intro gb127 hg w21 hbox hb; have BK127 := Aside0.mk (hbox); have GW127 := zS (pB2 HB.out GE125.out GE126.out) hg; have GE127 := zS (pB2 HB.out GE125.out GE126.out) hg; have NB125_127 := zL BK125 hg; have NB127_125 := zM BK125 hg; have NB126_127 := zL BK126 hg; have NB127_126 := zM BK126 hg; replace BK125 := zK BK125 hb; replace BK126 := zK BK126 hb; replace HB := zW (pB2 HB.out GE125.out GE126.out) hb; clear hb hbox hg) | ((with_reducible refine gate_dst (N := 7) rfl ?_); refine zB 7 #[.int .i64 a3_0, .int .i64 a3_1] 91 ?_; intro gb128 hg w22 hbox hb; have BK128 := Aside0.mk (hbox); have GW128 := zS (pB3 HB.out GE125.out GE126.out GE127.out) hg; have GE128 := zS (pB3 HB.out GE125.out GE126.out GE127.out) hg; have NB125_128 := zL BK125 hg; have NB128_125 := zM BK125 hg; have NB126_128 := zL BK126 hg; have NB128_126 := zM BK126 hg; have NB127_128 := zL BK127 hg; have NB128_127 := zM BK127 hg; replace BK125 := zK BK125 hb; replace BK126 := zK BK126 hb; replace BK127 := zK BK127 hb; replace HB := zW (pB3 HB.out GE125.out GE126.out GE127.out) hb; clear hb hbox hg))
   replace BK125 := Aside0.mk (blk_drew BK125.out)
   replace BK126 := Aside0.mk (blk_drew BK126.out)
   replace BK127 := Aside0.mk (blk_drew BK127.out)
   replace BK128 := Aside0.mk (blk_drew BK128.out)
   replace HB := Aside0.mk (below_drew1 HB.out)
   refine start_ (n := 23) (S := fun w' => w'.cell? ⟨gb125, 0, none⟩ = some (.int .i64 a0_0) ∧ w'.cell? ⟨gb125, 1, none⟩ = some (.int .i64 a0_1) ∧ w'.cell? ⟨gb126, 0, none⟩ = some (.int .i64 a1_0) ∧ w'.cell? ⟨gb126, 1, none⟩ = some (.int .i64 a1_1) ∧ w'.cell? ⟨gb127, 0, none⟩ = some (.int .i64 a2_0) ∧ w'.cell? ⟨gb127, 1, none⟩ = some (.int .i64 a2_1) ∧ w'.cell? ⟨gb128, 0, none⟩ = some (.int .i64 a3_0) ∧ w'.cell? ⟨gb128, 1, none⟩ = some (.int .i64 a3_1)) (ds := []) (Array.replicate 23 false) (by kernel_rfl) rfl rfl ⟨zQ BK125 0, zQ BK125 1, zQ BK126 0, zQ BK126 1, zQ BK127 0, zQ BK127 1, zQ BK128 0, zQ BK128 1⟩ (fun hHeld => ?_); refine with_tabW spec_l02Crosses.tab1 spec_l02Crosses.bits1 (fun HT_ HW_ => ?_)
   generalize w22.drew = w23 at BK125 BK126 BK127 BK128 HB hHeld ⊢
   refine zT8 0 (some 9) (zb 23 1) HT_ HW_ hHeld ?_
   refine zT8 1 (some 10) (zb 23 3) HT_ HW_ hHeld ?_
   refine zT8 2 (some 11) (zb 23 7) HT_ HW_ hHeld ?_
   refine zT8 4 (some 13) (zb 23 23) HT_ HW_ hHeld ?_
   refine zT8 5 (some 14) (zb 23 55) HT_ HW_ hHeld ?_
   refine zT8 6 (some 15) (zb 23 119) HT_ HW_ hHeld ?_
   refine one_ (i := 3) (N := some 12) (zb 23 127) rfl rfl (one_of HT_.out (by kernel_rfl)) (by decide) (fun K hK => ?_)
   refine goes_ Try.func125 (by kernel_rfl) rfl #[.agg #[.int .i64 a0_0, .int .i64 a0_1], .agg #[.int .i64 a1_0, .int .i64 a1_1], .agg #[.int .i64 a2_0, .int .i64 a2_1]] (by rfl) rfl rfl pA ?_
   with_reducible refine (spec_l02Side.calls a0_0 a0_1 a1_0 a1_1 a2_0 a2_1 t129 _ A5.out).mono ?_
   rintro e w24 ⟨rfl, hb⟩
   refine ⟨_, rfl, ?_⟩
   replace BK125 := zK BK125 hb
   replace BK126 := zK BK126 hb
   replace BK127 := zK BK127 hb
   replace BK128 := zK BK128 hb
   replace HB := zW (pB4 HB.out GE125.out GE126.out GE127.out GE128.out) hb
   (try clear hb)
   (try clear hb2)
   (try clear hk)
   (try clear hi)
   refine hK.out _ _ ⟨zQ BK125 0, zQ BK125 1, zQ BK126 0, zQ BK126 1, zQ BK127 0, zQ BK127 1, zQ BK128 0, zQ BK128 1⟩ (fun hHeld => ?_)
   clear hK K
   refine zN ?_
   refine one_ (i := 7) (N := some 16) (zb 23 255) rfl rfl (one_of HT_.out (by kernel_rfl)) (by decide) (fun K hK => ?_)
   refine goes_ Try.func125 (by kernel_rfl) rfl #[.agg #[.int .i64 a0_0, .int .i64 a0_1], .agg #[.int .i64 a1_0, .int .i64 a1_1], .agg #[.int .i64 a3_0, .int .i64 a3_1]] (by rfl) rfl rfl pA ?_
   with_reducible refine (spec_l02Side.calls a0_0 a0_1 a1_0 a1_1 a3_0 a3_1 t130 _ A6.out).mono ?_
   rintro e w25 ⟨rfl, hb⟩
   refine ⟨_, rfl, ?_⟩
   replace BK125 := zK BK125 hb
   replace BK126 := zK BK126 hb
   replace BK127 := zK BK127 hb
   replace BK128 := zK BK128 hb
   replace HB := zW (pB4 HB.out GE125.out GE126.out GE127.out GE128.out) hb
   (try clear hb)
   (try clear hb2)
   (try clear hk)
   (try clear hi)
   refine hK.out _ _ ⟨zQ BK125 0, zQ BK125 1, zQ BK126 0, zQ BK126 1, zQ BK127 0, zQ BK127 1, zQ BK128 0, zQ BK128 1⟩ (fun hHeld => ?_)
   clear hK K
   refine zN ?_
   refine zP 8 (some 17) (zb 23 511) HT_ ?_
   refine zP 9 (some 18) (zb 23 1023) HT_ ?_
   refine zP 10 (some 19) (zb 23 2047) HT_ ?_
   refine zU 11 (some 20) (zb 23 4095) HT_ ?_
   refine zU 12 (some 21) (zb 23 8191) HT_ ?_
   refine zU 13 (some 22) (zb 23 16383) HT_ ?_
   refine zU 14 (some 23) (zb 23 32767) HT_ ?_
   refine zU 15 (some 24) (zb 23 65535) HT_ ?_
   refine zU 16 (some 25) (zb 23 131071) HT_ ?_
   refine zU 17 (some 26) (zb 23 262143) HT_ ?_
   refine zU 18 (some 27) (zb 23 524287) HT_ ?_
   refine zU 19 (some 28) (zb 23 1048575) HT_ ?_
   refine zU 20 (some 29) (zb 23 2097151) HT_ ?_
   refine zP 21 (some 30) (zb 23 4194303) HT_ ?_
   refine zP 22 (some 8) (zb 23 8388607) HT_ ?_
   refine done_ (done_of HT_.out (by kernel_rfl)) ?_
   try go_wp2
   go_ret
   exact ⟨zE, pB4 HB.out GE125.out GE126.out GE127.out GE128.out⟩
 rw [if_pos c7] at H
 have c7b0 := decide_eq_true c7
 clear c7
 replace H := Option.bind_eq_some_iff.mp H
 obtain ⟨t131, A80, H⟩ := H
 have A8 := Aside0.mk A80
 clear A80
 replace H := Option.bind_eq_some_iff.mp H
 obtain ⟨t132, A90, H⟩ := H
 have A9 := Aside0.mk A90
 clear A90
 obtain rfl := Option.some.inj H
 go_enter Try.func126, Try.ntmps126
 try go_wp2_with (first | ((with_reducible refine gate_dst (N := 4) rfl ?_); refine zB 4 #[.int .i64 a0_0, .int .i64 a0_1] 91 ?_; intro gb125 hg w10 hbox hb; have BK125 := Aside0.mk (hbox); have GW125 := zS (pB0 HB.out) hg; have GE125 := zS (pB0 HB.out) hg; replace HB := zW (pB0 HB.out) hb; clear hb hbox hg) | ((with_reducible refine gate_dst (N := 5) rfl ?_); refine zB 5 #[.int .i64 a1_0, .int .i64 a1_1] 91 ?_; intro gb126 hg w11 hbox hb; have BK126 := Aside0.mk (hbox); have GW126 := zS (pB1 HB.out GE125.out) hg; have GE126 := zS (pB1 HB.out GE125.out) hg; have NB125_126 := zL BK125 hg; have NB126_125 := zM BK125 hg; replace BK125 := zK BK125 hb; replace HB := zW (pB1 HB.out GE125.out) hb; clear hb hbox hg) | ((with_reducible refine gate_dst (N := 6) rfl ?_); refine zB 6 #[.int .i64 a2_0, .int .i64 a2_1] 91 ?_; intro gb127 hg w12 hbox hb; have BK127 := Aside0.mk (hbox); have GW127 := zS (pB2 HB.out GE125.out GE126.out) hg; have GE127 := zS (pB2 HB.out GE125.out GE126.out) hg; have NB125_127 := zL BK125 hg; have NB127_125 := zM BK125 hg; have NB126_127 := zL BK126 hg; have NB127_126 := zM BK126 hg; replace BK125 := zK BK125 hb; replace BK126 := zK BK126 hb; replace HB := zW (pB2 HB.out GE125.out GE126.out) hb; clear hb hbox hg) | ((with_reducible refine gate_dst (N := 7) rfl ?_); refine zB 7 #[.int .i64 a3_0, .int .i64 a3_1] 91 ?_; intro gb128 hg w13 hbox hb; have BK128 := Aside0.mk (hbox); have GW128 := zS (pB3 HB.out GE125.out GE126.out GE127.out) hg; have GE128 := zS (pB3 HB.out GE125.out GE126.out GE127.out) hg; have NB125_128 := zL BK125 hg; have NB128_125 := zM BK125 hg; have NB126_128 := zL BK126 hg; have NB128_126 := zM BK126 hg; have NB127_128 := zL BK127 hg; have NB128_127 := zM BK127 hg; replace BK125 := zK BK125 hb; replace BK126 := zK BK126 hb; replace BK127 := zK BK127 hb; replace HB := zW (pB3 HB.out GE125.out GE126.out GE127.out) hb; clear hb hbox hg))
 replace BK125 := Aside0.mk (blk_drew BK125.out)
 replace BK126 := Aside0.mk (blk_drew BK126.out)
 replace BK127 := Aside0.mk (blk_drew BK127.out)
 replace BK128 := Aside0.mk (blk_drew BK128.out)
 replace HB := Aside0.mk (below_drew1 HB.out)
 refine start_ (n := 23) (S := fun w' => w'.cell? ⟨gb125, 0, none⟩ = some (.int .i64 a0_0) ∧ w'.cell? ⟨gb125, 1, none⟩ = some (.int .i64 a0_1) ∧ w'.cell? ⟨gb126, 0, none⟩ = some (.int .i64 a1_0) ∧ w'.cell? ⟨gb126, 1, none⟩ = some (.int .i64 a1_1) ∧ w'.cell? ⟨gb127, 0, none⟩ = some (.int .i64 a2_0) ∧ w'.cell? ⟨gb127, 1, none⟩ = some (.int .i64 a2_1) ∧ w'.cell? ⟨gb128, 0, none⟩ = some (.int .i64 a3_0) ∧ w'.cell? ⟨gb128, 1, none⟩ = some (.int .i64 a3_1)) (ds := []) (Array.replicate 23 false) (by kernel_rfl) rfl rfl ⟨zQ BK125 0, zQ BK125 1, zQ BK126 0, zQ BK126 1, zQ BK127 0, zQ BK127 1, zQ BK128 0, zQ BK128 1⟩ (fun hHeld => ?_); refine with_tabW spec_l02Crosses.tab1 spec_l02Crosses.bits1 (fun HT_ HW_ => ?_)
 generalize w13.drew = w14 at BK125 BK126 BK127 BK128 HB hHeld ⊢
 refine zT8 0 (some 9) (zb 23 1) HT_ HW_ hHeld ?_
 refine zT8 1 (some 10) (zb 23 3) HT_ HW_ hHeld ?_
 refine zT8 2 (some 11) (zb 23 7) HT_ HW_ hHeld ?_
 refine zT8 4 (some 13) (zb 23 23) HT_ HW_ hHeld ?_
 refine zT8 5 (some 14) (zb 23 55) HT_ HW_ hHeld ?_
 refine zT8 6 (some 15) (zb 23 119) HT_ HW_ hHeld ?_
 refine one_ (i := 3) (N := some 12) (zb 23 127) rfl rfl (one_of HT_.out (by kernel_rfl)) (by decide) (fun K hK => ?_)
 refine goes_ Try.func125 (by kernel_rfl) rfl #[.agg #[.int .i64 a0_0, .int .i64 a0_1], .agg #[.int .i64 a1_0, .int .i64 a1_1], .agg #[.int .i64 a2_0, .int .i64 a2_1]] (by rfl) rfl rfl pA ?_
 with_reducible refine (spec_l02Side.calls a0_0 a0_1 a1_0 a1_1 a2_0 a2_1 t129 _ A5.out).mono ?_
 rintro e w15 ⟨rfl, hb⟩
 refine ⟨_, rfl, ?_⟩
 replace BK125 := zK BK125 hb
 replace BK126 := zK BK126 hb
 replace BK127 := zK BK127 hb
 replace BK128 := zK BK128 hb
 replace HB := zW (pB4 HB.out GE125.out GE126.out GE127.out GE128.out) hb
 (try clear hb)
 (try clear hb2)
 (try clear hk)
 (try clear hi)
 refine hK.out _ _ ⟨zQ BK125 0, zQ BK125 1, zQ BK126 0, zQ BK126 1, zQ BK127 0, zQ BK127 1, zQ BK128 0, zQ BK128 1⟩ (fun hHeld => ?_)
 clear hK K
 refine zN ?_
 refine one_ (i := 7) (N := some 16) (zb 23 255) rfl rfl (one_of HT_.out (by kernel_rfl)) (by decide) (fun K hK => ?_)
 refine goes_ Try.func125 (by kernel_rfl) rfl #[.agg #[.int .i64 a0_0, .int .i64 a0_1], .agg #[.int .i64 a1_0, .int .i64 a1_1], .agg #[.int .i64 a3_0, .int .i64 a3_1]] (by rfl) rfl rfl pA ?_
 with_reducible refine (spec_l02Side.calls a0_0 a0_1 a1_0 a1_1 a3_0 a3_1 t130 _ A6.out).mono ?_
 rintro e w16 ⟨rfl, hb⟩
 refine ⟨_, rfl, ?_⟩
 replace BK125 := zK BK125 hb
 replace BK126 := zK BK126 hb
 replace BK127 := zK BK127 hb
 replace BK128 := zK BK128 hb
 replace HB := zW (pB4 HB.out GE125.out GE126.out GE127.out GE128.out) hb
 (try clear hb)
 (try clear hb2)
 (try clear hk)
 (try clear hi)
 refine hK.out _ _ ⟨zQ BK125 0, zQ BK125 1, zQ BK126 0, zQ BK126 1, zQ BK127 0, zQ BK127 1, zQ BK128 0, zQ BK128 1⟩ (fun hHeld => ?_)
 clear hK K
 refine zN ?_
 refine zP 8 (some 17) (zb 23 511) HT_ ?_
 refine zP 9 (some 18) (zb 23 1023) HT_ ?_
 refine zP 10 (some 19) (zb 23 2047) HT_ ?_
 refine zT8 11 (some 20) (zb 23 4095) HT_ HW_ hHeld ?_
 refine zT8 12 (some 21) (zb 23 8191) HT_ HW_ hHeld ?_
 refine zT8 13 (some 22) (zb 23 16383) HT_ HW_ hHeld ?_
 refine zT8 15 (some 24) (zb 23 49151) HT_ HW_ hHeld ?_
 refine zT8 16 (some 25) (zb 23 114687) HT_ HW_ hHeld ?_
 refine zT8 17 (some 26) (zb 23 245759) HT_ HW_ hHeld ?_
 refine one_ (i := 14) (N := some 23) (zb 23 262143) rfl rfl (one_of HT_.out (by kernel_rfl)) (by decide) (fun K hK => ?_)
 refine goes_ Try.func125 (by kernel_rfl) rfl #[.agg #[.int .i64 a2_0, .int .i64 a2_1], .agg #[.int .i64 a3_0, .int .i64 a3_1], .agg #[.int .i64 a0_0, .int .i64 a0_1]] (by rfl) rfl rfl pA ?_
 with_reducible refine (spec_l02Side.calls a2_0 a2_1 a3_0 a3_1 a0_0 a0_1 t131 _ A8.out).mono ?_
 rintro e w17 ⟨rfl, hb⟩
 refine ⟨_, rfl, ?_⟩
 replace BK125 := zK BK125 hb
 replace BK126 := zK BK126 hb
 replace BK127 := zK BK127 hb
 replace BK128 := zK BK128 hb
 replace HB := zW (pB4 HB.out GE125.out GE126.out GE127.out GE128.out) hb
 (try clear hb)
 (try clear hb2)
 (try clear hk)
 (try clear hi)
 refine hK.out _ _ ⟨zQ BK125 0, zQ BK125 1, zQ BK126 0, zQ BK126 1, zQ BK127 0, zQ BK127 1, zQ BK128 0, zQ BK128 1⟩ (fun hHeld => ?_)
 clear hK K
 refine zN ?_
 refine one_ (i := 18) (N := some 27) (zb 23 524287) rfl rfl (one_of HT_.out (by kernel_rfl)) (by decide) (fun K hK => ?_)
 refine goes_ Try.func125 (by kernel_rfl) rfl #[.agg #[.int .i64 a2_0, .int .i64 a2_1], .agg #[.int .i64 a3_0, .int .i64 a3_1], .agg #[.int .i64 a1_0, .int .i64 a1_1]] (by rfl) rfl rfl pA ?_
 with_reducible refine (spec_l02Side.calls a2_0 a2_1 a3_0 a3_1 a1_0 a1_1 t132 _ A9.out).mono ?_
 rintro e w18 ⟨rfl, hb⟩
 refine ⟨_, rfl, ?_⟩
 replace BK125 := zK BK125 hb
 replace BK126 := zK BK126 hb
 replace BK127 := zK BK127 hb
 replace BK128 := zK BK128 hb
 replace HB := zW (pB4 HB.out GE125.out GE126.out GE127.out GE128.out) hb
 (try clear hb)
 (try clear hb2)
 (try clear hk)
 (try clear hi)
 refine hK.out _ _ ⟨zQ BK125 0, zQ BK125 1, zQ BK126 0, zQ BK126 1, zQ BK127 0, zQ BK127 1, zQ BK128 0, zQ BK128 1⟩ (fun hHeld => ?_)
 clear hK K
 refine zN ?_
 refine zP 19 (some 28) (zb 23 1048575) HT_ ?_
 refine zP 20 (some 29) (zb 23 2097151) HT_ ?_
 refine zP 21 (some 30) (zb 23 4194303) HT_ ?_
 refine zP 22 (some 8) (zb 23 8388607) HT_ ?_
 refine done_ (done_of HT_.out (by kernel_rfl)) ?_
 try go_wp2
 go_ret
 exact ⟨zE, pB4 HB.out GE125.out GE126.out GE127.out GE128.out⟩
def spec_l03Meet.f (a0_0 : Int) (a0_1 : Int) (a1_0 : Int) (a1_1 : Int) (a2_0 : Int) (a2_1 : Int) (a3_0 : Int) (a3_1 : Int) : Option (Bool) := (spec_l02Crosses.f a0_0 a0_1 a1_0 a1_1 a2_0 a2_1 a3_0 a3_1).bind fun t137 => (if t137 = true then (some true) else ((spec_l02On.f a0_0 a0_1 a1_0 a1_1 a2_0 a2_1).bind fun t138 => (if t138 = true then (some true) else ((spec_l02On.f a0_0 a0_1 a1_0 a1_1 a3_0 a3_1).bind fun t139 => (if t139 = true then (some true) else ((spec_l02On.f a2_0 a2_1 a3_0 a3_1 a0_0 a0_1).bind fun t140 => (if t140 = true then (some true) else ((spec_l02On.f a2_0 a2_1 a3_0 a3_1 a1_0 a1_1).bind fun t141 => (some t141)))))))))
set_option maxHeartbeats 8000000 in
set_option maxRecDepth 100000 in
theorem spec_l03Meet.calls (a0_0 : Int) (a0_1 : Int) (a1_0 : Int) (a1_1 : Int) (a2_0 : Int) (a2_1 : Int) (a3_0 : Int) (a3_1 : Int) (r : Bool) (w : World) (h : spec_l03Meet.f a0_0 a0_1 a1_0 a1_1 a2_0 a2_1 a3_0 a3_1 = some r) :
 Calls Try.prog 89 #[.agg #[.int .i64 a0_0, .int .i64 a0_1], .agg #[.int .i64 a1_0, .int .i64 a1_1], .agg #[.int .i64 a2_0, .int .i64 a2_1], .agg #[.int .i64 a3_0, .int .i64 a3_1]] w fun e w' => e = .returned (.bool r) ∧ Below w.heap.size w w' := by
 have hu91 := Try.underlying91
 have HB := Aside0.mk (Below.refl w.heap.size w)
 have H : ((spec_l02Crosses.f a0_0 a0_1 a1_0 a1_1 a2_0 a2_1 a3_0 a3_1).bind fun t137 => (if t137 = true then (some true) else ((spec_l02On.f a0_0 a0_1 a1_0 a1_1 a2_0 a2_1).bind fun t138 => (if t138 = true then (some true) else ((spec_l02On.f a0_0 a0_1 a1_0 a1_1 a3_0 a3_1).bind fun t139 => (if t139 = true then (some true) else ((spec_l02On.f a2_0 a2_1 a3_0 a3_1 a0_0 a0_1).bind fun t140 => (if t140 = true then (some true) else ((spec_l02On.f a2_0 a2_1 a3_0 a3_1 a1_0 a1_1).bind fun t141 => (some t141)))))))))) = some r := h
 clear h
 replace H := Option.bind_eq_some_iff.mp H
 obtain ⟨t137, A50, H⟩ := H
 have A5 := Aside0.mk A50
 clear A50
 by_cases c6 : t137 = true
 · subst c6
   have H1 : (some true) = some r := by rw [if_pos rfl] at H; exact H
   clear H
   have H := H1
   clear H1
   obtain rfl := Option.some.inj H
   go_enter Try.func89, Try.ntmps89
   go_wp2_with (first | ((with_reducible refine gate_dst (N := 4) rfl ?_); refine zB 4 #[.int .i64 a0_0, .int .i64 a0_1] 91 ?_; intro gb133 hg w7 hbox hb; have BK133 := Aside0.mk (hbox); have GW133 := zS (pB0 HB.out) hg; have GE133 := zS (pB0 HB.out) hg; replace HB := zW (pB0 HB.out) hb; clear hb hbox hg) | ((with_reducible refine gate_dst (N := 5) rfl ?_); refine zB 5 #[.int .i64 a1_0, .int .i64 a1_1] 91 ?_; intro gb134 hg w8 hbox hb; have BK134 := Aside0.mk (hbox); have GW134 := zS (pB1 HB.out GE133.out) hg; have GE134 := zS (pB1 HB.out GE133.out) hg; have NB133_134 := zL BK133 hg; have NB134_133 := zM BK133 hg; replace BK133 := zK BK133 hb; replace HB := zW (pB1 HB.out GE133.out) hb; clear hb hbox hg) | ((with_reducible refine gate_dst (N := 6) rfl ?_); refine zB 6 #[.int .i64 a2_0, .int .i64 a2_1] 91 ?_; intro gb135 hg w9 hbox hb; have BK135 := Aside0.mk (hbox); have GW135 := zS (pB2 HB.out GE133.out GE134.out) hg; have GE135 := zS (pB2 HB.out GE133.out GE134.out) hg; have NB133_135 := zL BK133 hg; have NB135_133 := zM BK133 hg; have NB134_135 := zL BK134 hg; have NB135_134 := zM BK134 hg; replace BK133 := zK BK133 hb; replace BK134 := zK BK134 hb; replace HB := zW (pB2 HB.out GE133.out GE134.out) hb; clear hb hbox hg) | ((with_reducible refine gate_dst (N := 7) rfl ?_); refine zB 7 #[.int .i64 a3_0, .int .i64 a3_1] 91 ?_; intro gb136 hg w10 hbox hb; have BK136 := Aside0.mk (hbox); have GW136 := zS (pB3 HB.out GE133.out GE134.out GE135.out) hg; have GE136 := zS (pB3 HB.out GE133.out GE134.out GE135.out) hg; have NB133_136 := zL BK133 hg; have NB136_133 := zM BK133 hg; have NB134_136 := zL BK134 hg; have NB136_134 := zM BK134 hg; have NB135_136 := zL BK135 hg; have NB136_135 := zM BK135 hg; replace BK133 := zK BK133 hb; replace BK134 := zK BK134 hb; replace BK135 := zK BK135 hb; replace HB := zW (pB3 HB.out GE133.out GE134.out GE135.out) hb; clear hb hbox hg; have hnb11 := NB133_134.out; have hnc11 := NB134_133.out; have hnb12 := NB133_135.out; have hnc12 := NB135_133.out; have hnb13 := NB133_136.out; have hnc13 := NB136_133.out; obtain ⟨hcz14_0, hfz14_0, hcz14_1, hfz14_1⟩ := zw2 BK133; have hnb15 := NB134_135.out; have hnc15 := NB135_134.out; have hnb16 := NB134_136.out; have hnc16 := NB136_134.out; obtain ⟨hcz17_0, hfz17_0, hcz17_1, hfz17_1⟩ := zw2 BK134; have hnb18 := NB135_136.out; have hnc18 := NB136_135.out; obtain ⟨hcz19_0, hfz19_0, hcz19_1, hfz19_1⟩ := zw2 BK135; obtain ⟨hcz20_0, hfz20_0, hcz20_1, hfz20_1⟩ := zw2 BK136) | ((with_reducible refine gate_callee (f := 126) rfl ?_); refine goesL_ (some 13) rfl rfl Try.func126 (by kernel_rfl) rfl #[.agg #[.int .i64 a0_0, .int .i64 a0_1], .agg #[.int .i64 a1_0, .int .i64 a1_1], .agg #[.int .i64 a2_0, .int .i64 a2_1], .agg #[.int .i64 a3_0, .int .i64 a3_1]] rfl pA ?_; (with_reducible refine (spec_l02Crosses.calls a0_0 a0_1 a1_0 a1_1 a2_0 a2_1 a3_0 a3_1 true _ A5.out).mono ?_); rintro e w21 ⟨rfl, hb⟩; refine ⟨_, rfl, ?_⟩; replace BK133 := zK BK133 hb; replace BK134 := zK BK134 hb; replace BK135 := zK BK135 hb; replace BK136 := zK BK136 hb; replace HB := zW (pB4 HB.out GE133.out GE134.out GE135.out GE136.out) hb; (try clear hb); (try clear hb2); (try clear hk); (try clear hi)))
   go_ret
   exact ⟨zE, pB4 HB.out GE133.out GE134.out GE135.out GE136.out⟩
 replace c6 := Bool.eq_false_iff.mpr c6
 subst c6
 have H1 : ((spec_l02On.f a0_0 a0_1 a1_0 a1_1 a2_0 a2_1).bind fun t138 => (if t138 = true then (some true) else ((spec_l02On.f a0_0 a0_1 a1_0 a1_1 a3_0 a3_1).bind fun t139 => (if t139 = true then (some true) else ((spec_l02On.f a2_0 a2_1 a3_0 a3_1 a0_0 a0_1).bind fun t140 => (if t140 = true then (some true) else ((spec_l02On.f a2_0 a2_1 a3_0 a3_1 a1_0 a1_1).bind fun t141 => (some t141)))))))) = some r := by rw [if_neg (show ¬ (false = true) by decide)] at H; exact H
 clear H
 have H := H1
 clear H1
 replace H := Option.bind_eq_some_iff.mp H
 obtain ⟨t138, A220, H⟩ := H
 have A22 := Aside0.mk A220
 clear A220
 by_cases c23 : t138 = true
 · subst c23
   have H1 : (some true) = some r := by rw [if_pos rfl] at H; exact H
   clear H
   have H := H1
   clear H1
   obtain rfl := Option.some.inj H
   go_enter Try.func89, Try.ntmps89
   go_wp2_with (first | ((with_reducible refine gate_dst (N := 4) rfl ?_); refine zB 4 #[.int .i64 a0_0, .int .i64 a0_1] 91 ?_; intro gb133 hg w24 hbox hb; have BK133 := Aside0.mk (hbox); have GW133 := zS (pB0 HB.out) hg; have GE133 := zS (pB0 HB.out) hg; replace HB := zW (pB0 HB.out) hb; clear hb hbox hg) | ((with_reducible refine gate_dst (N := 5) rfl ?_); refine zB 5 #[.int .i64 a1_0, .int .i64 a1_1] 91 ?_; intro gb134 hg w25 hbox hb; have BK134 := Aside0.mk (hbox); have GW134 := zS (pB1 HB.out GE133.out) hg; have GE134 := zS (pB1 HB.out GE133.out) hg; have NB133_134 := zL BK133 hg; have NB134_133 := zM BK133 hg; replace BK133 := zK BK133 hb; replace HB := zW (pB1 HB.out GE133.out) hb; clear hb hbox hg) | ((with_reducible refine gate_dst (N := 6) rfl ?_); refine zB 6 #[.int .i64 a2_0, .int .i64 a2_1] 91 ?_; intro gb135 hg w26 hbox hb; have BK135 := Aside0.mk (hbox); have GW135 := zS (pB2 HB.out GE133.out GE134.out) hg; have GE135 := zS (pB2 HB.out GE133.out GE134.out) hg; have NB133_135 := zL BK133 hg; have NB135_133 := zM BK133 hg; have NB134_135 := zL BK134 hg; have NB135_134 := zM BK134 hg; replace BK133 := zK BK133 hb; replace BK134 := zK BK134 hb; replace HB := zW (pB2 HB.out GE133.out GE134.out) hb; clear hb hbox hg) | ((with_reducible refine gate_dst (N := 7) rfl ?_); refine zB 7 #[.int .i64 a3_0, .int .i64 a3_1] 91 ?_; intro gb136 hg w27 hbox hb; have BK136 := Aside0.mk (hbox); have GW136 := zS (pB3 HB.out GE133.out GE134.out GE135.out) hg; have GE136 := zS (pB3 HB.out GE133.out GE134.out GE135.out) hg; have NB133_136 := zL BK133 hg; have NB136_133 := zM BK133 hg; have NB134_136 := zL BK134 hg; have NB136_134 := zM BK134 hg; have NB135_136 := zL BK135 hg; have NB136_135 := zM BK135 hg; replace BK133 := zK BK133 hb; replace BK134 := zK BK134 hb; replace BK135 := zK BK135 hb; replace HB := zW (pB3 HB.out GE133.out GE134.out GE135.out) hb; clear hb hbox hg; have hnb28 := NB133_134.out; have hnc28 := NB134_133.out; have hnb29 := NB133_135.out; have hnc29 := NB135_133.out; have hnb30 := NB133_136.out; have hnc30 := NB136_133.out; obtain ⟨hcz31_0, hfz31_0, hcz31_1, hfz31_1⟩ := zw2 BK133; have hnb32 := NB134_135.out; have hnc32 := NB135_134.out; have hnb33 := NB134_136.out; have hnc33 := NB136_134.out; obtain ⟨hcz34_0, hfz34_0, hcz34_1, hfz34_1⟩ := zw2 BK134; have hnb35 := NB135_136.out; have hnc35 := NB136_135.out; obtain ⟨hcz36_0, hfz36_0, hcz36_1, hfz36_1⟩ := zw2 BK135; obtain ⟨hcz37_0, hfz37_0, hcz37_1, hfz37_1⟩ := zw2 BK136) | ((with_reducible refine gate_callee (f := 126) rfl ?_); refine goesL_ (some 13) rfl rfl Try.func126 (by kernel_rfl) rfl #[.agg #[.int .i64 a0_0, .int .i64 a0_1], .agg #[.int .i64 a1_0, .int .i64 a1_1], .agg #[.int .i64 a2_0, .int .i64 a2_1], .agg #[.int .i64 a3_0, .int .i64 a3_1]] rfl pA ?_; (with_reducible refine (spec_l02Crosses.calls a0_0 a0_1 a1_0 a1_1 a2_0 a2_1 a3_0 a3_1 false _ A5.out).mono ?_); rintro e w38 ⟨rfl, hb⟩; refine ⟨_, rfl, ?_⟩; replace BK133 := zK BK133 hb; replace BK134 := zK BK134 hb; replace BK135 := zK BK135 hb; replace BK136 := zK BK136 hb; replace HB := zW (pB4 HB.out GE133.out GE134.out GE135.out GE136.out) hb; (try clear hb); (try clear hb2); (try clear hk); (try clear hi); obtain ⟨hcz39_0, hfz39_0, hcz39_1, hfz39_1⟩ := zw2 BK133; obtain ⟨hcz40_0, hfz40_0, hcz40_1, hfz40_1⟩ := zw2 BK134; obtain ⟨hcz41_0, hfz41_0, hcz41_1, hfz41_1⟩ := zw2 BK135) | (go_at_call 88; (with_reducible refine (spec_l02On.calls a0_0 a0_1 a1_0 a1_1 a2_0 a2_1 true _ A22.out).mono ?_); rintro e w42 ⟨rfl, hb⟩; replace BK133 := zK BK133 hb; replace BK134 := zK BK134 hb; replace BK135 := zK BK135 hb; replace BK136 := zK BK136 hb; replace HB := zW (pB4 HB.out GE133.out GE134.out GE135.out GE136.out) hb; (try clear hb); (try clear hb2); (try clear hk); (try clear hi)))
   go_ret
   exact ⟨zE, pB4 HB.out GE133.out GE134.out GE135.out GE136.out⟩
 replace c23 := Bool.eq_false_iff.mpr c23
 subst c23
 have H1 : ((spec_l02On.f a0_0 a0_1 a1_0 a1_1 a3_0 a3_1).bind fun t139 => (if t139 = true then (some true) else ((spec_l02On.f a2_0 a2_1 a3_0 a3_1 a0_0 a0_1).bind fun t140 => (if t140 = true then (some true) else ((spec_l02On.f a2_0 a2_1 a3_0 a3_1 a1_0 a1_1).bind fun t141 => (some t141)))))) = some r := by rw [if_neg (show ¬ (false = true) by decide)] at H; exact H
 clear H
 have H := H1
 clear H1
 replace H := Option.bind_eq_some_iff.mp H
 obtain ⟨t139, A430, H⟩ := H
 have A43 := Aside0.mk A430
 clear A430
 by_cases c44 : t139 = true
 · subst c44
   have H1 : (some true) = some r := by rw [if_pos rfl] at H; exact H
   clear H
   have H := H1
   clear H1
   obtain rfl := Option.some.inj H
   go_enter Try.func89, Try.ntmps89
   go_wp2_with (first | ((with_reducible refine gate_dst (N := 4) rfl ?_); refine zB 4 #[.int .i64 a0_0, .int .i64 a0_1] 91 ?_; intro gb133 hg w45 hbox hb; have BK133 := Aside0.mk (hbox); have GW133 := zS (pB0 HB.out) hg; have GE133 := zS (pB0 HB.out) hg; replace HB := zW (pB0 HB.out) hb; clear hb hbox hg) | ((with_reducible refine gate_dst (N := 5) rfl ?_); refine zB 5 #[.int .i64 a1_0, .int .i64 a1_1] 91 ?_; intro gb134 hg w46 hbox hb; have BK134 := Aside0.mk (hbox); have GW134 := zS (pB1 HB.out GE133.out) hg; have GE134 := zS (pB1 HB.out GE133.out) hg; have NB133_134 := zL BK133 hg; have NB134_133 := zM BK133 hg; replace BK133 := zK BK133 hb; replace HB := zW (pB1 HB.out GE133.out) hb; clear hb hbox hg) | ((with_reducible refine gate_dst (N := 6) rfl ?_); refine zB 6 #[.int .i64 a2_0, .int .i64 a2_1] 91 ?_; intro gb135 hg w47 hbox hb; have BK135 := Aside0.mk (hbox); have GW135 := zS (pB2 HB.out GE133.out GE134.out) hg; have GE135 := zS (pB2 HB.out GE133.out GE134.out) hg; have NB133_135 := zL BK133 hg; have NB135_133 := zM BK133 hg; have NB134_135 := zL BK134 hg; have NB135_134 := zM BK134 hg; replace BK133 := zK BK133 hb; replace BK134 := zK BK134 hb; replace HB := zW (pB2 HB.out GE133.out GE134.out) hb; clear hb hbox hg) | ((with_reducible refine gate_dst (N := 7) rfl ?_); refine zB 7 #[.int .i64 a3_0, .int .i64 a3_1] 91 ?_; intro gb136 hg w48 hbox hb; have BK136 := Aside0.mk (hbox); have GW136 := zS (pB3 HB.out GE133.out GE134.out GE135.out) hg; have GE136 := zS (pB3 HB.out GE133.out GE134.out GE135.out) hg; have NB133_136 := zL BK133 hg; have NB136_133 := zM BK133 hg; have NB134_136 := zL BK134 hg; have NB136_134 := zM BK134 hg; have NB135_136 := zL BK135 hg; have NB136_135 := zM BK135 hg; replace BK133 := zK BK133 hb; replace BK134 := zK BK134 hb; replace BK135 := zK BK135 hb; replace HB := zW (pB3 HB.out GE133.out GE134.out GE135.out) hb; clear hb hbox hg; have hnb49 := NB133_134.out; have hnc49 := NB134_133.out; have hnb50 := NB133_135.out; have hnc50 := NB135_133.out; have hnb51 := NB133_136.out; have hnc51 := NB136_133.out; obtain ⟨hcz52_0, hfz52_0, hcz52_1, hfz52_1⟩ := zw2 BK133; have hnb53 := NB134_135.out; have hnc53 := NB135_134.out; have hnb54 := NB134_136.out; have hnc54 := NB136_134.out; obtain ⟨hcz55_0, hfz55_0, hcz55_1, hfz55_1⟩ := zw2 BK134; have hnb56 := NB135_136.out; have hnc56 := NB136_135.out; obtain ⟨hcz57_0, hfz57_0, hcz57_1, hfz57_1⟩ := zw2 BK135; obtain ⟨hcz58_0, hfz58_0, hcz58_1, hfz58_1⟩ := zw2 BK136) | ((with_reducible refine gate_callee (f := 126) rfl ?_); refine goesL_ (some 13) rfl rfl Try.func126 (by kernel_rfl) rfl #[.agg #[.int .i64 a0_0, .int .i64 a0_1], .agg #[.int .i64 a1_0, .int .i64 a1_1], .agg #[.int .i64 a2_0, .int .i64 a2_1], .agg #[.int .i64 a3_0, .int .i64 a3_1]] rfl pA ?_; (with_reducible refine (spec_l02Crosses.calls a0_0 a0_1 a1_0 a1_1 a2_0 a2_1 a3_0 a3_1 false _ A5.out).mono ?_); rintro e w59 ⟨rfl, hb⟩; refine ⟨_, rfl, ?_⟩; replace BK133 := zK BK133 hb; replace BK134 := zK BK134 hb; replace BK135 := zK BK135 hb; replace BK136 := zK BK136 hb; replace HB := zW (pB4 HB.out GE133.out GE134.out GE135.out GE136.out) hb; (try clear hb); (try clear hb2); (try clear hk); (try clear hi); obtain ⟨hcz60_0, hfz60_0, hcz60_1, hfz60_1⟩ := zw2 BK133; obtain ⟨hcz61_0, hfz61_0, hcz61_1, hfz61_1⟩ := zw2 BK134; obtain ⟨hcz62_0, hfz62_0, hcz62_1, hfz62_1⟩ := zw2 BK135) | (go_at_call 88; (with_reducible refine (spec_l02On.calls a0_0 a0_1 a1_0 a1_1 a2_0 a2_1 false _ A22.out).mono ?_); rintro e w63 ⟨rfl, hb⟩; replace BK133 := zK BK133 hb; replace BK134 := zK BK134 hb; replace BK135 := zK BK135 hb; replace BK136 := zK BK136 hb; replace HB := zW (pB4 HB.out GE133.out GE134.out GE135.out GE136.out) hb; (try clear hb); (try clear hb2); (try clear hk); (try clear hi); obtain ⟨hcz64_0, hfz64_0, hcz64_1, hfz64_1⟩ := zw2 BK133; obtain ⟨hcz65_0, hfz65_0, hcz65_1, hfz65_1⟩ := zw2 BK134; obtain ⟨hcz66_0, hfz66_0, hcz66_1, hfz66_1⟩ := zw2 BK136) | (go_at_call 88; (with_reducible refine (spec_l02On.calls a0_0 a0_1 a1_0 a1_1 a3_0 a3_1 true _ A43.out).mono ?_); rintro e w67 ⟨rfl, hb⟩; replace BK133 := zK BK133 hb; replace BK134 := zK BK134 hb; replace BK135 := zK BK135 hb; replace BK136 := zK BK136 hb; replace HB := zW (pB4 HB.out GE133.out GE134.out GE135.out GE136.out) hb; (try clear hb); (try clear hb2); (try clear hk); (try clear hi)))
   go_ret
   exact ⟨zE, pB4 HB.out GE133.out GE134.out GE135.out GE136.out⟩
 replace c44 := Bool.eq_false_iff.mpr c44
 subst c44
 have H1 : ((spec_l02On.f a2_0 a2_1 a3_0 a3_1 a0_0 a0_1).bind fun t140 => (if t140 = true then (some true) else ((spec_l02On.f a2_0 a2_1 a3_0 a3_1 a1_0 a1_1).bind fun t141 => (some t141)))) = some r := by rw [if_neg (show ¬ (false = true) by decide)] at H; exact H
 clear H
 have H := H1
 clear H1
 replace H := Option.bind_eq_some_iff.mp H
 obtain ⟨t140, A680, H⟩ := H
 have A68 := Aside0.mk A680
 clear A680
 by_cases c69 : t140 = true
 · subst c69
   have H1 : (some true) = some r := by rw [if_pos rfl] at H; exact H
   clear H
   have H := H1
   clear H1
   obtain rfl := Option.some.inj H
   go_enter Try.func89, Try.ntmps89
   go_wp2_with (first | ((with_reducible refine gate_dst (N := 4) rfl ?_); refine zB 4 #[.int .i64 a0_0, .int .i64 a0_1] 91 ?_; intro gb133 hg w70 hbox hb; have BK133 := Aside0.mk (hbox); have GW133 := zS (pB0 HB.out) hg; have GE133 := zS (pB0 HB.out) hg; replace HB := zW (pB0 HB.out) hb; clear hb hbox hg) | ((with_reducible refine gate_dst (N := 5) rfl ?_); refine zB 5 #[.int .i64 a1_0, .int .i64 a1_1] 91 ?_; intro gb134 hg w71 hbox hb; have BK134 := Aside0.mk (hbox); have GW134 := zS (pB1 HB.out GE133.out) hg; have GE134 := zS (pB1 HB.out GE133.out) hg; have NB133_134 := zL BK133 hg; have NB134_133 := zM BK133 hg; replace BK133 := zK BK133 hb; replace HB := zW (pB1 HB.out GE133.out) hb; clear hb hbox hg) | ((with_reducible refine gate_dst (N := 6) rfl ?_); refine zB 6 #[.int .i64 a2_0, .int .i64 a2_1] 91 ?_; intro gb135 hg w72 hbox hb; have BK135 := Aside0.mk (hbox); have GW135 := zS (pB2 HB.out GE133.out GE134.out) hg; have GE135 := zS (pB2 HB.out GE133.out GE134.out) hg; have NB133_135 := zL BK133 hg; have NB135_133 := zM BK133 hg; have NB134_135 := zL BK134 hg; have NB135_134 := zM BK134 hg; replace BK133 := zK BK133 hb; replace BK134 := zK BK134 hb; replace HB := zW (pB2 HB.out GE133.out GE134.out) hb; clear hb hbox hg) | ((with_reducible refine gate_dst (N := 7) rfl ?_); refine zB 7 #[.int .i64 a3_0, .int .i64 a3_1] 91 ?_; intro gb136 hg w73 hbox hb; have BK136 := Aside0.mk (hbox); have GW136 := zS (pB3 HB.out GE133.out GE134.out GE135.out) hg; have GE136 := zS (pB3 HB.out GE133.out GE134.out GE135.out) hg; have NB133_136 := zL BK133 hg; have NB136_133 := zM BK133 hg; have NB134_136 := zL BK134 hg; have NB136_134 := zM BK134 hg; have NB135_136 := zL BK135 hg; have NB136_135 := zM BK135 hg; replace BK133 := zK BK133 hb; replace BK134 := zK BK134 hb; replace BK135 := zK BK135 hb; replace HB := zW (pB3 HB.out GE133.out GE134.out GE135.out) hb; clear hb hbox hg; have hnb74 := NB133_134.out; have hnc74 := NB134_133.out; have hnb75 := NB133_135.out; have hnc75 := NB135_133.out; have hnb76 := NB133_136.out; have hnc76 := NB136_133.out; obtain ⟨hcz77_0, hfz77_0, hcz77_1, hfz77_1⟩ := zw2 BK133; have hnb78 := NB134_135.out; have hnc78 := NB135_134.out; have hnb79 := NB134_136.out; have hnc79 := NB136_134.out; obtain ⟨hcz80_0, hfz80_0, hcz80_1, hfz80_1⟩ := zw2 BK134; have hnb81 := NB135_136.out; have hnc81 := NB136_135.out; obtain ⟨hcz82_0, hfz82_0, hcz82_1, hfz82_1⟩ := zw2 BK135; obtain ⟨hcz83_0, hfz83_0, hcz83_1, hfz83_1⟩ := zw2 BK136) | ((with_reducible refine gate_callee (f := 126) rfl ?_); refine goesL_ (some 13) rfl rfl Try.func126 (by kernel_rfl) rfl #[.agg #[.int .i64 a0_0, .int .i64 a0_1], .agg #[.int .i64 a1_0, .int .i64 a1_1], .agg #[.int .i64 a2_0, .int .i64 a2_1], .agg #[.int .i64 a3_0, .int .i64 a3_1]] rfl pA ?_; (with_reducible refine (spec_l02Crosses.calls a0_0 a0_1 a1_0 a1_1 a2_0 a2_1 a3_0 a3_1 false _ A5.out).mono ?_); rintro e w84 ⟨rfl, hb⟩; refine ⟨_, rfl, ?_⟩; replace BK133 := zK BK133 hb; replace BK134 := zK BK134 hb; replace BK135 := zK BK135 hb; replace BK136 := zK BK136 hb; replace HB := zW (pB4 HB.out GE133.out GE134.out GE135.out GE136.out) hb; (try clear hb); (try clear hb2); (try clear hk); (try clear hi); obtain ⟨hcz85_0, hfz85_0, hcz85_1, hfz85_1⟩ := zw2 BK133; obtain ⟨hcz86_0, hfz86_0, hcz86_1, hfz86_1⟩ := zw2 BK134; obtain ⟨hcz87_0, hfz87_0, hcz87_1, hfz87_1⟩ := zw2 BK135) | (go_at_call 88; (with_reducible refine (spec_l02On.calls a0_0 a0_1 a1_0 a1_1 a2_0 a2_1 false _ A22.out).mono ?_); rintro e w88 ⟨rfl, hb⟩; replace BK133 := zK BK133 hb; replace BK134 := zK BK134 hb; replace BK135 := zK BK135 hb; replace BK136 := zK BK136 hb; replace HB := zW (pB4 HB.out GE133.out GE134.out GE135.out GE136.out) hb; (try clear hb); (try clear hb2); (try clear hk); (try clear hi); obtain ⟨hcz89_0, hfz89_0, hcz89_1, hfz89_1⟩ := zw2 BK133; obtain ⟨hcz90_0, hfz90_0, hcz90_1, hfz90_1⟩ := zw2 BK134; obtain ⟨hcz91_0, hfz91_0, hcz91_1, hfz91_1⟩ := zw2 BK136) | (go_at_call 88; (with_reducible refine (spec_l02On.calls a0_0 a0_1 a1_0 a1_1 a3_0 a3_1 false _ A43.out).mono ?_); rintro e w92 ⟨rfl, hb⟩; replace BK133 := zK BK133 hb; replace BK134 := zK BK134 hb; replace BK135 := zK BK135 hb; replace BK136 := zK BK136 hb; replace HB := zW (pB4 HB.out GE133.out GE134.out GE135.out GE136.out) hb; (try clear hb); (try clear hb2); (try clear hk); (try clear hi); obtain ⟨hcz93_0, hfz93_0, hcz93_1, hfz93_1⟩ := zw2 BK135; obtain ⟨hcz94_0, hfz94_0, hcz94_1, hfz94_1⟩ := zw2 BK136; obtain ⟨hcz95_0, hfz95_0, hcz95_1, hfz95_1⟩ := zw2 BK133) | (go_at_call 88; (with_reducible refine (spec_l02On.calls a2_0 a2_1 a3_0 a3_1 a0_0 a0_1 true _ A68.out).mono ?_); rintro e w96 ⟨rfl, hb⟩; replace BK133 := zK BK133 hb; replace BK134 := zK BK134 hb; replace BK135 := zK BK135 hb; replace BK136 := zK BK136 hb; replace HB := zW (pB4 HB.out GE133.out GE134.out GE135.out GE136.out) hb; (try clear hb); (try clear hb2); (try clear hk); (try clear hi)))
   go_ret
   exact ⟨zE, pB4 HB.out GE133.out GE134.out GE135.out GE136.out⟩
 replace c69 := Bool.eq_false_iff.mpr c69
 subst c69
 have H1 : ((spec_l02On.f a2_0 a2_1 a3_0 a3_1 a1_0 a1_1).bind fun t141 => (some t141)) = some r := by rw [if_neg (show ¬ (false = true) by decide)] at H; exact H
 clear H
 have H := H1
 clear H1
 replace H := Option.bind_eq_some_iff.mp H
 obtain ⟨t141, A970, H⟩ := H
 have A97 := Aside0.mk A970
 clear A970
 obtain rfl := Option.some.inj H
 go_enter Try.func89, Try.ntmps89
 go_wp2_with (first | ((with_reducible refine gate_dst (N := 4) rfl ?_); refine zB 4 #[.int .i64 a0_0, .int .i64 a0_1] 91 ?_; intro gb133 hg w98 hbox hb; have BK133 := Aside0.mk (hbox); have GW133 := zS (pB0 HB.out) hg; have GE133 := zS (pB0 HB.out) hg; replace HB := zW (pB0 HB.out) hb; clear hb hbox hg) | ((with_reducible refine gate_dst (N := 5) rfl ?_); refine zB 5 #[.int .i64 a1_0, .int .i64 a1_1] 91 ?_; intro gb134 hg w99 hbox hb; have BK134 := Aside0.mk (hbox); have GW134 := zS (pB1 HB.out GE133.out) hg; have GE134 := zS (pB1 HB.out GE133.out) hg; have NB133_134 := zL BK133 hg; have NB134_133 := zM BK133 hg; replace BK133 := zK BK133 hb; replace HB := zW (pB1 HB.out GE133.out) hb; clear hb hbox hg) | ((with_reducible refine gate_dst (N := 6) rfl ?_); refine zB 6 #[.int .i64 a2_0, .int .i64 a2_1] 91 ?_; intro gb135 hg w100 hbox hb; have BK135 := Aside0.mk (hbox); have GW135 := zS (pB2 HB.out GE133.out GE134.out) hg; have GE135 := zS (pB2 HB.out GE133.out GE134.out) hg; have NB133_135 := zL BK133 hg; have NB135_133 := zM BK133 hg; have NB134_135 := zL BK134 hg; have NB135_134 := zM BK134 hg; replace BK133 := zK BK133 hb; replace BK134 := zK BK134 hb; replace HB := zW (pB2 HB.out GE133.out GE134.out) hb; clear hb hbox hg) | ((with_reducible refine gate_dst (N := 7) rfl ?_); refine zB 7 #[.int .i64 a3_0, .int .i64 a3_1] 91 ?_; intro gb136 hg w101 hbox hb; have BK136 := Aside0.mk (hbox); have GW136 := zS (pB3 HB.out GE133.out GE134.out GE135.out) hg; have GE136 := zS (pB3 HB.out GE133.out GE134.out GE135.out) hg; have NB133_136 := zL BK133 hg; have NB136_133 := zM BK133 hg; have NB134_136 := zL BK134 hg; have NB136_134 := zM BK134 hg; have NB135_136 := zL BK135 hg; have NB136_135 := zM BK135 hg; replace BK133 := zK BK133 hb; replace BK134 := zK BK134 hb; replace BK135 := zK BK135 hb; replace HB := zW (pB3 HB.out GE133.out GE134.out GE135.out) hb; clear hb hbox hg; have hnb102 := NB133_134.out; have hnc102 := NB134_133.out; have hnb103 := NB133_135.out; have hnc103 := NB135_133.out; have hnb104 := NB133_136.out; have hnc104 := NB136_133.out; obtain ⟨hcz105_0, hfz105_0, hcz105_1, hfz105_1⟩ := zw2 BK133; have hnb106 := NB134_135.out; have hnc106 := NB135_134.out; have hnb107 := NB134_136.out; have hnc107 := NB136_134.out; obtain ⟨hcz108_0, hfz108_0, hcz108_1, hfz108_1⟩ := zw2 BK134; have hnb109 := NB135_136.out; have hnc109 := NB136_135.out; obtain ⟨hcz110_0, hfz110_0, hcz110_1, hfz110_1⟩ := zw2 BK135; obtain ⟨hcz111_0, hfz111_0, hcz111_1, hfz111_1⟩ := zw2 BK136) | ((with_reducible refine gate_callee (f := 126) rfl ?_); refine goesL_ (some 13) rfl rfl Try.func126 (by kernel_rfl) rfl #[.agg #[.int .i64 a0_0, .int .i64 a0_1], .agg #[.int .i64 a1_0, .int .i64 a1_1], .agg #[.int .i64 a2_0, .int .i64 a2_1], .agg #[.int .i64 a3_0, .int .i64 a3_1]] rfl pA ?_; (with_reducible refine (spec_l02Crosses.calls a0_0 a0_1 a1_0 a1_1 a2_0 a2_1 a3_0 a3_1 false _ A5.out).mono ?_); rintro e w112 ⟨rfl, hb⟩; refine ⟨_, rfl, ?_⟩; replace BK133 := zK BK133 hb; replace BK134 := zK BK134 hb; replace BK135 := zK BK135 hb; replace BK136 := zK BK136 hb; replace HB := zW (pB4 HB.out GE133.out GE134.out GE135.out GE136.out) hb; (try clear hb); (try clear hb2); (try clear hk); (try clear hi); obtain ⟨hcz113_0, hfz113_0, hcz113_1, hfz113_1⟩ := zw2 BK133; obtain ⟨hcz114_0, hfz114_0, hcz114_1, hfz114_1⟩ := zw2 BK134; obtain ⟨hcz115_0, hfz115_0, hcz115_1, hfz115_1⟩ := zw2 BK135) | (go_at_call 88; (with_reducible refine (spec_l02On.calls a0_0 a0_1 a1_0 a1_1 a2_0 a2_1 false _ A22.out).mono ?_); rintro e w116 ⟨rfl, hb⟩; replace BK133 := zK BK133 hb; replace BK134 := zK BK134 hb; replace BK135 := zK BK135 hb; replace BK136 := zK BK136 hb; replace HB := zW (pB4 HB.out GE133.out GE134.out GE135.out GE136.out) hb; (try clear hb); (try clear hb2); (try clear hk); (try clear hi); obtain ⟨hcz117_0, hfz117_0, hcz117_1, hfz117_1⟩ := zw2 BK133; obtain ⟨hcz118_0, hfz118_0, hcz118_1, hfz118_1⟩ := zw2 BK134; obtain ⟨hcz119_0, hfz119_0, hcz119_1, hfz119_1⟩ := zw2 BK136) | (go_at_call 88; (with_reducible refine (spec_l02On.calls a0_0 a0_1 a1_0 a1_1 a3_0 a3_1 false _ A43.out).mono ?_); rintro e w120 ⟨rfl, hb⟩; replace BK133 := zK BK133 hb; replace BK134 := zK BK134 hb; replace BK135 := zK BK135 hb; replace BK136 := zK BK136 hb; replace HB := zW (pB4 HB.out GE133.out GE134.out GE135.out GE136.out) hb; (try clear hb); (try clear hb2); (try clear hk); (try clear hi); obtain ⟨hcz121_0, hfz121_0, hcz121_1, hfz121_1⟩ := zw2 BK135; obtain ⟨hcz122_0, hfz122_0, hcz122_1, hfz122_1⟩ := zw2 BK136; obtain ⟨hcz123_0, hfz123_0, hcz123_1, hfz123_1⟩ := zw2 BK133) | (go_at_call 88; (with_reducible refine (spec_l02On.calls a2_0 a2_1 a3_0 a3_1 a0_0 a0_1 false _ A68.out).mono ?_); rintro e w124 ⟨rfl, hb⟩; replace BK133 := zK BK133 hb; replace BK134 := zK BK134 hb; replace BK135 := zK BK135 hb; replace BK136 := zK BK136 hb; replace HB := zW (pB4 HB.out GE133.out GE134.out GE135.out GE136.out) hb; (try clear hb); (try clear hb2); (try clear hk); (try clear hi); obtain ⟨hcz125_0, hfz125_0, hcz125_1, hfz125_1⟩ := zw2 BK135; obtain ⟨hcz126_0, hfz126_0, hcz126_1, hfz126_1⟩ := zw2 BK136; obtain ⟨hcz127_0, hfz127_0, hcz127_1, hfz127_1⟩ := zw2 BK134) | (go_at_call 88; (with_reducible refine (spec_l02On.calls a2_0 a2_1 a3_0 a3_1 a1_0 a1_1 t141 _ A97.out).mono ?_); rintro e w128 ⟨rfl, hb⟩; replace BK133 := zK BK133 hb; replace BK134 := zK BK134 hb; replace BK135 := zK BK135 hb; replace BK136 := zK BK136 hb; replace HB := zW (pB4 HB.out GE133.out GE134.out GE135.out GE136.out) hb; (try clear hb); (try clear hb2); (try clear hk); (try clear hi)))
 go_ret
 exact ⟨zE, pB4 HB.out GE133.out GE134.out GE135.out GE136.out⟩
def spec_l03Area.l0 : Nat → List (S91) → Int → Int → Option (Int)
 | 0, _, _, _ => none
 | k + 1, x0, x3, x4 => if x4 < (x0.length : Int) then (if (x0.length : Int) = 0 then (none) else (if 0 ≤ (Int.tmod (wrap64 (x4 + 1)) (x0.length : Int)) then (if (Int.tmod (wrap64 (x4 + 1)) (x0.length : Int)) < (x0.length : Int) then (if 0 ≤ x4 then (spec_l03Area.l0 k x0 (wrap64 (x3 + (wrap64 ((wrap64 (((rd_T91 x0 x4).f0) * ((rd_T91 x0 (Int.tmod (wrap64 (x4 + 1)) (x0.length : Int))).f1))) - (wrap64 (((rd_T91 x0 x4).f1) * ((rd_T91 x0 (Int.tmod (wrap64 (x4 + 1)) (x0.length : Int))).f0))))))) (wrap64 (x4 + 1))) else (none)) else (none)) else (none))) else (some x3)
def spec_l03Area.f (k : Nat) (l0 : List (S91)) : Option (Int) := spec_l03Area.l0 k l0 0 0
theorem spec_l03Area.mono_l : ∀ k, (∀ y0 y1 y2, LeO (spec_l03Area.l0 k y0 y1 y2) (spec_l03Area.l0 (k + 1) y0 y1 y2))
 | 0 => fun _ _ _ r h => by simp [spec_l03Area.l0] at h
 | k + 1 => by
   have ih0 := spec_l03Area.mono_l k
   · intro y0 y1 y2
     unfold spec_l03Area.l0
     repeat' first
     | (with_reducible exact ih0 _ _ _)
     | (with_reducible exact LeO.refl _)
     | (with_reducible exact LeO.none _)
     | (with_reducible refine LeO.ite ?_ ?_)
     | (with_reducible refine LeO.bind ?_ (fun _ => ?_))
     | exact ih0 _ _ _
     | exact LeO.none _
     | refine LeO.ite ?_ ?_
     | refine LeO.bind ?_ (fun _ => ?_)
theorem spec_l03Area.mono : ∀ a0 k, LeO (spec_l03Area.f k a0) (spec_l03Area.f (k + 1) a0) := by
 intro a0 k
 have ih0 := spec_l03Area.mono_l k
 unfold spec_l03Area.f
 repeat' first
  | (with_reducible exact ih0 _ _ _)
  | (with_reducible exact LeO.refl _)
  | (with_reducible exact LeO.none _)
  | (with_reducible refine LeO.ite ?_ ?_)
  | (with_reducible refine LeO.bind ?_ (fun _ => ?_))
  | exact ih0 _ _ _
  | exact LeO.none _
  | refine LeO.ite ?_ ?_
  | refine LeO.bind ?_ (fun _ => ?_)
set_option maxHeartbeats 8000000 in
set_option maxRecDepth 100000 in
theorem spec_l03Area.calls (k : Nat) (A0 : Option Addr) (c0 : Nat) (l0 : List (S91)) (r : Int) (w : World) (hr0 : Kd.C k91 w A0 l0.length l0) (hc0 : l0.length ≤ c0) (h : spec_l03Area.f k l0 = some r) :
 Calls Try.prog 90 #[.slice A0 l0.length c0] w fun e w' => e = .returned (.int .i64 r) ∧ Below w.heap.size w w' := by
 have hu91 := Try.underlying91
 have HR0 := Aside0.mk hr0
 have HC0 := Aside0.mk hc0
 clear hr0 hc0
 have HB := Aside0.mk (Below.refl w.heap.size w)
 have H : (spec_l03Area.l0 k l0 0 0) = some r := h
 clear h
 have H' := Aside0.mk H
 clear H
 go_enter Try.func90, Try.ntmps90
 go_wp2
 repeat (go_quiet (fail); try go_wp2)
 go_loopg [3, 4] k (fun kq v3 v4 w' => ∃ (x3_1 : Int) (x4_1 : Int), v3 = .int .i64 x3_1 ∧ v4 = .int .i64 x4_1 ∧ Aside0 (spec_l03Area.l0 kq l0 x3_1 x4_1 = some r) ∧ Aside0 (kq ≤ k) ∧ Aside0 (Below w.heap.size w w'))
 case atStart => exact ⟨(0), (0), zR, zR, H', ⟨Nat.le_refl _⟩, ⟨pB0 HB.out⟩⟩
 case round =>
  clear H'
  obtain ⟨x3_1, x4_1, rfl, rfl, HA, HK1, HB⟩ := hrel
  cases gk with
  | zero => exact absurd HA.out (by simp [spec_l03Area.l0])
  | succ k1 =>
    have H := HA.out
    clear HA
    simp only [spec_l03Area.l0] at H
    by_cases c2 : x4_1 < (l0.length : Int)
    rotate_left
    · rw [if_neg c2] at H
      have c2b0 : decide (x4_1 < (l0.length : Int)) = false := decide_eq_false c2
      clear c2
      obtain rfl := Option.some.inj H
      go_wp2
      repeat (go_quiet (fail); try go_wp2)
      go_ret
      exact ⟨zE, pB0 HB.out⟩
    rw [if_pos c2] at H
    have c2b0 := decide_eq_true c2
    clear c2
    by_cases c3 : (l0.length : Int) = 0
    · rw [if_pos c3] at H
      exact absurd H (by simp)
    rw [if_neg c3] at H
    have c3b0 : ((l0.length : Int) == 0) = false := beq_eq_false_iff_ne.mpr c3
    have c3b1 : ((l0.length : Int) != 0) = true := bne_iff_ne.mpr c3
    have c3b2 : ¬ (l0 = []) := fun h_ => c3 (by rw [h_]; rfl)
    obtain ⟨ji4, hji4⟩ : ∃ j_ : Int, (Int.tmod (wrap64 (x4_1 + 1)) (l0.length : Int)) = j_ := ⟨_, rfl⟩
    replace H : (if 0 ≤ (ji4) then (if (ji4) < (l0.length : Int) then (if 0 ≤ x4_1 then (spec_l03Area.l0 k1 l0 (wrap64 (x3_1 + (wrap64 ((wrap64 (((rd_T91 l0 x4_1).f0) * ((rd_T91 l0 (ji4)).f1))) - (wrap64 (((rd_T91 l0 x4_1).f1) * ((rd_T91 l0 (ji4)).f0))))))) (wrap64 (x4_1 + 1))) else (none)) else (none)) else (none)) = some r := by first | (rw [hji4] at H; exact H) | (simp only [hji4] at H ⊢; exact H)
    by_cases c5 : 0 ≤ (ji4)
    rotate_left
    · rw [if_neg c5] at H
      exact absurd H (by simp)
    rw [if_pos c5] at H
    have c5b0 := decide_eq_true c5
    clear c5
    by_cases c6 : (ji4) < (l0.length : Int)
    rotate_left
    · rw [if_neg c6] at H
      exact absurd H (by simp)
    rw [if_pos c6] at H
    have c6b0 := decide_eq_true c6
    clear c6
    by_cases c7 : 0 ≤ x4_1
    rotate_left
    · rw [if_neg c7] at H
      exact absurd H (by simp)
    rw [if_pos c7] at H
    have c7b0 := decide_eq_true c7
    clear c7
    have H' := Aside0.mk H
    clear H
    have p142 : 0 ≤ ((ji4) : Int) := zD
    have q142 : (ji4) < (l0.length : Int) := zD
    obtain ⟨ad142, e142, hx142_0, hx142_1⟩ := at_T91 HR0.out (ji4) p142 q142
    cases e142
    try replace hx142_0 := zH HB hx142_0
    try replace hx142_1 := zH HB hx142_1
    replace p142 := eq_true p142
    replace q142 := eq_true q142
    go_wp2_with (first | ((with_reducible refine gate_dst (N := 5) rfl ?_); refine zB 5 #[.int .i64 0, .int .i64 0] 91 ?_; intro gb143 hg w8 hbox hb; have BK143 := Aside0.mk (hbox); have GW143 := zS (pB0 HB.out) hg; have GE143 := zS (pB0 HB.out) hg; replace HB := zW (pB0 HB.out) hb; clear hb hbox hg; obtain ⟨hcz9_0, hfz9_0, hcz9_1, hfz9_1⟩ := zw2 BK143; have p144 : 0 ≤ (x4_1 : Int) := zD; have q144 : x4_1 < (l0.length : Int) := zD; obtain ⟨ad144, e144, hx144_0, hx144_1⟩ := at_T91 HR0.out x4_1 p144 q144; obtain rfl : ad142 = ad144 := (by injection e144); have hn144_0 : ad142.block ≠ gb143 := Nat.ne_of_lt (Nat.lt_of_lt_of_le (by have := World.block_lt_of_cell? _ _ hx144_0; first | rwa [add_block] at this | exact this) GW143.out); have hn144_1 : ad142.block ≠ gb143 := Nat.ne_of_lt (Nat.lt_of_lt_of_le (by have := World.block_lt_of_cell? _ _ hx144_0; first | rwa [add_block] at this | exact this) GW143.out); try replace hx144_0 := zH HB hx144_0; try replace hx144_1 := zH HB hx144_1; replace hx144_0 := (cell_far (p := ⟨gb143, 0, none⟩) (by first | (rw [add_block]; exact hn144_0) | (show (Addr.add _ _).block ≠ _; rw [add_block]; exact hn144_0) | exact hn144_0) (.int .i64 ((rd_T91 l0 (ji4)).f0))).trans hx144_0; replace hx144_1 := (cell_far (p := ⟨gb143, 0, none⟩) (by first | (rw [add_block]; exact hn144_0) | (show (Addr.add _ _).block ≠ _; rw [add_block]; exact hn144_0) | exact hn144_0) (.int .i64 ((rd_T91 l0 (ji4)).f0))).trans hx144_1; replace hx144_0 := (cell_far (p := ⟨gb143, 1, none⟩) (by first | (rw [add_block]; exact hn144_1) | (show (Addr.add _ _).block ≠ _; rw [add_block]; exact hn144_1) | exact hn144_1) (.int .i64 ((rd_T91 l0 (ji4)).f1))).trans hx144_0; replace hx144_1 := (cell_far (p := ⟨gb143, 1, none⟩) (by first | (rw [add_block]; exact hn144_1) | (show (Addr.add _ _).block ≠ _; rw [add_block]; exact hn144_1) | exact hn144_1) (.int .i64 ((rd_T91 l0 (ji4)).f1))).trans hx144_1; (try have hy144_0 := fun (n_ : Nat) => (show ((((w8.drewN n_).setCell ⟨gb143, 0, none⟩ (.int .i64 ((rd_T91 l0 (ji4)).f0))).setCell ⟨gb143, 1, none⟩ (.int .i64 ((rd_T91 l0 (ji4)).f1)))).cell? _ = some _ from hx144_0)); (try have hy144_1 := fun (n_ : Nat) => (show ((((w8.drewN n_).setCell ⟨gb143, 0, none⟩ (.int .i64 ((rd_T91 l0 (ji4)).f0))).setCell ⟨gb143, 1, none⟩ (.int .i64 ((rd_T91 l0 (ji4)).f1)))).cell? _ = some _ from hx144_1)); clear hn144_0; clear hn144_1; replace p144 := eq_true p144; replace q144 := eq_true q144; have p145 : 0 ≤ (x4_1 : Int) := zD; have q145 : x4_1 < (l0.length : Int) := zD; obtain ⟨ad145, e145, hx145_0, hx145_1⟩ := at_T91 HR0.out x4_1 p145 q145; obtain rfl : ad142 = ad145 := (by injection e145); have hn145_0 : ad142.block ≠ gb143 := Nat.ne_of_lt (Nat.lt_of_lt_of_le (by have := World.block_lt_of_cell? _ _ hx145_0; first | rwa [add_block] at this | exact this) GW143.out); have hn145_1 : ad142.block ≠ gb143 := Nat.ne_of_lt (Nat.lt_of_lt_of_le (by have := World.block_lt_of_cell? _ _ hx145_0; first | rwa [add_block] at this | exact this) GW143.out); try replace hx145_0 := zH HB hx145_0; try replace hx145_1 := zH HB hx145_1; replace hx145_0 := (cell_far (p := ⟨gb143, 0, none⟩) (by first | (rw [add_block]; exact hn145_0) | (show (Addr.add _ _).block ≠ _; rw [add_block]; exact hn145_0) | exact hn145_0) (.int .i64 ((rd_T91 l0 (ji4)).f0))).trans hx145_0; replace hx145_1 := (cell_far (p := ⟨gb143, 0, none⟩) (by first | (rw [add_block]; exact hn145_0) | (show (Addr.add _ _).block ≠ _; rw [add_block]; exact hn145_0) | exact hn145_0) (.int .i64 ((rd_T91 l0 (ji4)).f0))).trans hx145_1; replace hx145_0 := (cell_far (p := ⟨gb143, 1, none⟩) (by first | (rw [add_block]; exact hn145_1) | (show (Addr.add _ _).block ≠ _; rw [add_block]; exact hn145_1) | exact hn145_1) (.int .i64 ((rd_T91 l0 (ji4)).f1))).trans hx145_0; replace hx145_1 := (cell_far (p := ⟨gb143, 1, none⟩) (by first | (rw [add_block]; exact hn145_1) | (show (Addr.add _ _).block ≠ _; rw [add_block]; exact hn145_1) | exact hn145_1) (.int .i64 ((rd_T91 l0 (ji4)).f1))).trans hx145_1; (try have hy145_0 := fun (n_ : Nat) => (show ((((w8.drewN n_).setCell ⟨gb143, 0, none⟩ (.int .i64 ((rd_T91 l0 (ji4)).f0))).setCell ⟨gb143, 1, none⟩ (.int .i64 ((rd_T91 l0 (ji4)).f1)))).cell? _ = some _ from hx145_0)); (try have hy145_1 := fun (n_ : Nat) => (show ((((w8.drewN n_).setCell ⟨gb143, 0, none⟩ (.int .i64 ((rd_T91 l0 (ji4)).f0))).setCell ⟨gb143, 1, none⟩ (.int .i64 ((rd_T91 l0 (ji4)).f1)))).cell? _ = some _ from hx145_1)); clear hn145_0; clear hn145_1; replace p145 := eq_true p145; replace q145 := eq_true q145))
    repeat (go_quiet (first | ((with_reducible refine gate_dst (N := 5) rfl ?_); refine zB 5 #[.int .i64 0, .int .i64 0] 91 ?_; intro gb143 hg w8 hbox hb; have BK143 := Aside0.mk (hbox); have GW143 := zS (pB0 HB.out) hg; have GE143 := zS (pB0 HB.out) hg; replace HB := zW (pB0 HB.out) hb; clear hb hbox hg; obtain ⟨hcz9_0, hfz9_0, hcz9_1, hfz9_1⟩ := zw2 BK143; have p144 : 0 ≤ (x4_1 : Int) := zD; have q144 : x4_1 < (l0.length : Int) := zD; obtain ⟨ad144, e144, hx144_0, hx144_1⟩ := at_T91 HR0.out x4_1 p144 q144; obtain rfl : ad142 = ad144 := (by injection e144); have hn144_0 : ad142.block ≠ gb143 := Nat.ne_of_lt (Nat.lt_of_lt_of_le (by have := World.block_lt_of_cell? _ _ hx144_0; first | rwa [add_block] at this | exact this) GW143.out); have hn144_1 : ad142.block ≠ gb143 := Nat.ne_of_lt (Nat.lt_of_lt_of_le (by have := World.block_lt_of_cell? _ _ hx144_0; first | rwa [add_block] at this | exact this) GW143.out); try replace hx144_0 := zH HB hx144_0; try replace hx144_1 := zH HB hx144_1; replace hx144_0 := (cell_far (p := ⟨gb143, 0, none⟩) (by first | (rw [add_block]; exact hn144_0) | (show (Addr.add _ _).block ≠ _; rw [add_block]; exact hn144_0) | exact hn144_0) (.int .i64 ((rd_T91 l0 (ji4)).f0))).trans hx144_0; replace hx144_1 := (cell_far (p := ⟨gb143, 0, none⟩) (by first | (rw [add_block]; exact hn144_0) | (show (Addr.add _ _).block ≠ _; rw [add_block]; exact hn144_0) | exact hn144_0) (.int .i64 ((rd_T91 l0 (ji4)).f0))).trans hx144_1; replace hx144_0 := (cell_far (p := ⟨gb143, 1, none⟩) (by first | (rw [add_block]; exact hn144_1) | (show (Addr.add _ _).block ≠ _; rw [add_block]; exact hn144_1) | exact hn144_1) (.int .i64 ((rd_T91 l0 (ji4)).f1))).trans hx144_0; replace hx144_1 := (cell_far (p := ⟨gb143, 1, none⟩) (by first | (rw [add_block]; exact hn144_1) | (show (Addr.add _ _).block ≠ _; rw [add_block]; exact hn144_1) | exact hn144_1) (.int .i64 ((rd_T91 l0 (ji4)).f1))).trans hx144_1; (try have hy144_0 := fun (n_ : Nat) => (show ((((w8.drewN n_).setCell ⟨gb143, 0, none⟩ (.int .i64 ((rd_T91 l0 (ji4)).f0))).setCell ⟨gb143, 1, none⟩ (.int .i64 ((rd_T91 l0 (ji4)).f1)))).cell? _ = some _ from hx144_0)); (try have hy144_1 := fun (n_ : Nat) => (show ((((w8.drewN n_).setCell ⟨gb143, 0, none⟩ (.int .i64 ((rd_T91 l0 (ji4)).f0))).setCell ⟨gb143, 1, none⟩ (.int .i64 ((rd_T91 l0 (ji4)).f1)))).cell? _ = some _ from hx144_1)); clear hn144_0; clear hn144_1; replace p144 := eq_true p144; replace q144 := eq_true q144; have p145 : 0 ≤ (x4_1 : Int) := zD; have q145 : x4_1 < (l0.length : Int) := zD; obtain ⟨ad145, e145, hx145_0, hx145_1⟩ := at_T91 HR0.out x4_1 p145 q145; obtain rfl : ad142 = ad145 := (by injection e145); have hn145_0 : ad142.block ≠ gb143 := Nat.ne_of_lt (Nat.lt_of_lt_of_le (by have := World.block_lt_of_cell? _ _ hx145_0; first | rwa [add_block] at this | exact this) GW143.out); have hn145_1 : ad142.block ≠ gb143 := Nat.ne_of_lt (Nat.lt_of_lt_of_le (by have := World.block_lt_of_cell? _ _ hx145_0; first | rwa [add_block] at this | exact this) GW143.out); try replace hx145_0 := zH HB hx145_0; try replace hx145_1 := zH HB hx145_1; replace hx145_0 := (cell_far (p := ⟨gb143, 0, none⟩) (by first | (rw [add_block]; exact hn145_0) | (show (Addr.add _ _).block ≠ _; rw [add_block]; exact hn145_0) | exact hn145_0) (.int .i64 ((rd_T91 l0 (ji4)).f0))).trans hx145_0; replace hx145_1 := (cell_far (p := ⟨gb143, 0, none⟩) (by first | (rw [add_block]; exact hn145_0) | (show (Addr.add _ _).block ≠ _; rw [add_block]; exact hn145_0) | exact hn145_0) (.int .i64 ((rd_T91 l0 (ji4)).f0))).trans hx145_1; replace hx145_0 := (cell_far (p := ⟨gb143, 1, none⟩) (by first | (rw [add_block]; exact hn145_1) | (show (Addr.add _ _).block ≠ _; rw [add_block]; exact hn145_1) | exact hn145_1) (.int .i64 ((rd_T91 l0 (ji4)).f1))).trans hx145_0; replace hx145_1 := (cell_far (p := ⟨gb143, 1, none⟩) (by first | (rw [add_block]; exact hn145_1) | (show (Addr.add _ _).block ≠ _; rw [add_block]; exact hn145_1) | exact hn145_1) (.int .i64 ((rd_T91 l0 (ji4)).f1))).trans hx145_1; (try have hy145_0 := fun (n_ : Nat) => (show ((((w8.drewN n_).setCell ⟨gb143, 0, none⟩ (.int .i64 ((rd_T91 l0 (ji4)).f0))).setCell ⟨gb143, 1, none⟩ (.int .i64 ((rd_T91 l0 (ji4)).f1)))).cell? _ = some _ from hx145_0)); (try have hy145_1 := fun (n_ : Nat) => (show ((((w8.drewN n_).setCell ⟨gb143, 0, none⟩ (.int .i64 ((rd_T91 l0 (ji4)).f0))).setCell ⟨gb143, 1, none⟩ (.int .i64 ((rd_T91 l0 (ji4)).f1)))).cell? _ = some _ from hx145_1)); clear hn145_0; clear hn145_1; replace p145 := eq_true p145; replace q145 := eq_true q145)); try go_wp2_with (first | ((with_reducible refine gate_dst (N := 5) rfl ?_); refine zB 5 #[.int .i64 0, .int .i64 0] 91 ?_; intro gb143 hg w8 hbox hb; have BK143 := Aside0.mk (hbox); have GW143 := zS (pB0 HB.out) hg; have GE143 := zS (pB0 HB.out) hg; replace HB := zW (pB0 HB.out) hb; clear hb hbox hg; obtain ⟨hcz9_0, hfz9_0, hcz9_1, hfz9_1⟩ := zw2 BK143; have p144 : 0 ≤ (x4_1 : Int) := zD; have q144 : x4_1 < (l0.length : Int) := zD; obtain ⟨ad144, e144, hx144_0, hx144_1⟩ := at_T91 HR0.out x4_1 p144 q144; obtain rfl : ad142 = ad144 := (by injection e144); have hn144_0 : ad142.block ≠ gb143 := Nat.ne_of_lt (Nat.lt_of_lt_of_le (by have := World.block_lt_of_cell? _ _ hx144_0; first | rwa [add_block] at this | exact this) GW143.out); have hn144_1 : ad142.block ≠ gb143 := Nat.ne_of_lt (Nat.lt_of_lt_of_le (by have := World.block_lt_of_cell? _ _ hx144_0; first | rwa [add_block] at this | exact this) GW143.out); try replace hx144_0 := zH HB hx144_0; try replace hx144_1 := zH HB hx144_1; replace hx144_0 := (cell_far (p := ⟨gb143, 0, none⟩) (by first | (rw [add_block]; exact hn144_0) | (show (Addr.add _ _).block ≠ _; rw [add_block]; exact hn144_0) | exact hn144_0) (.int .i64 ((rd_T91 l0 (ji4)).f0))).trans hx144_0; replace hx144_1 := (cell_far (p := ⟨gb143, 0, none⟩) (by first | (rw [add_block]; exact hn144_0) | (show (Addr.add _ _).block ≠ _; rw [add_block]; exact hn144_0) | exact hn144_0) (.int .i64 ((rd_T91 l0 (ji4)).f0))).trans hx144_1; replace hx144_0 := (cell_far (p := ⟨gb143, 1, none⟩) (by first | (rw [add_block]; exact hn144_1) | (show (Addr.add _ _).block ≠ _; rw [add_block]; exact hn144_1) | exact hn144_1) (.int .i64 ((rd_T91 l0 (ji4)).f1))).trans hx144_0; replace hx144_1 := (cell_far (p := ⟨gb143, 1, none⟩) (by first | (rw [add_block]; exact hn144_1) | (show (Addr.add _ _).block ≠ _; rw [add_block]; exact hn144_1) | exact hn144_1) (.int .i64 ((rd_T91 l0 (ji4)).f1))).trans hx144_1; (try have hy144_0 := fun (n_ : Nat) => (show ((((w8.drewN n_).setCell ⟨gb143, 0, none⟩ (.int .i64 ((rd_T91 l0 (ji4)).f0))).setCell ⟨gb143, 1, none⟩ (.int .i64 ((rd_T91 l0 (ji4)).f1)))).cell? _ = some _ from hx144_0)); (try have hy144_1 := fun (n_ : Nat) => (show ((((w8.drewN n_).setCell ⟨gb143, 0, none⟩ (.int .i64 ((rd_T91 l0 (ji4)).f0))).setCell ⟨gb143, 1, none⟩ (.int .i64 ((rd_T91 l0 (ji4)).f1)))).cell? _ = some _ from hx144_1)); clear hn144_0; clear hn144_1; replace p144 := eq_true p144; replace q144 := eq_true q144; have p145 : 0 ≤ (x4_1 : Int) := zD; have q145 : x4_1 < (l0.length : Int) := zD; obtain ⟨ad145, e145, hx145_0, hx145_1⟩ := at_T91 HR0.out x4_1 p145 q145; obtain rfl : ad142 = ad145 := (by injection e145); have hn145_0 : ad142.block ≠ gb143 := Nat.ne_of_lt (Nat.lt_of_lt_of_le (by have := World.block_lt_of_cell? _ _ hx145_0; first | rwa [add_block] at this | exact this) GW143.out); have hn145_1 : ad142.block ≠ gb143 := Nat.ne_of_lt (Nat.lt_of_lt_of_le (by have := World.block_lt_of_cell? _ _ hx145_0; first | rwa [add_block] at this | exact this) GW143.out); try replace hx145_0 := zH HB hx145_0; try replace hx145_1 := zH HB hx145_1; replace hx145_0 := (cell_far (p := ⟨gb143, 0, none⟩) (by first | (rw [add_block]; exact hn145_0) | (show (Addr.add _ _).block ≠ _; rw [add_block]; exact hn145_0) | exact hn145_0) (.int .i64 ((rd_T91 l0 (ji4)).f0))).trans hx145_0; replace hx145_1 := (cell_far (p := ⟨gb143, 0, none⟩) (by first | (rw [add_block]; exact hn145_0) | (show (Addr.add _ _).block ≠ _; rw [add_block]; exact hn145_0) | exact hn145_0) (.int .i64 ((rd_T91 l0 (ji4)).f0))).trans hx145_1; replace hx145_0 := (cell_far (p := ⟨gb143, 1, none⟩) (by first | (rw [add_block]; exact hn145_1) | (show (Addr.add _ _).block ≠ _; rw [add_block]; exact hn145_1) | exact hn145_1) (.int .i64 ((rd_T91 l0 (ji4)).f1))).trans hx145_0; replace hx145_1 := (cell_far (p := ⟨gb143, 1, none⟩) (by first | (rw [add_block]; exact hn145_1) | (show (Addr.add _ _).block ≠ _; rw [add_block]; exact hn145_1) | exact hn145_1) (.int .i64 ((rd_T91 l0 (ji4)).f1))).trans hx145_1; (try have hy145_0 := fun (n_ : Nat) => (show ((((w8.drewN n_).setCell ⟨gb143, 0, none⟩ (.int .i64 ((rd_T91 l0 (ji4)).f0))).setCell ⟨gb143, 1, none⟩ (.int .i64 ((rd_T91 l0 (ji4)).f1)))).cell? _ = some _ from hx145_0)); (try have hy145_1 := fun (n_ : Nat) => (show ((((w8.drewN n_).setCell ⟨gb143, 0, none⟩ (.int .i64 ((rd_T91 l0 (ji4)).f0))).setCell ⟨gb143, 1, none⟩ (.int .i64 ((rd_T91 l0 (ji4)).f1)))).cell? _ = some _ from hx145_1)); clear hn145_0; clear hn145_1; replace p145 := eq_true p145; replace q145 := eq_true q145)))
    go_roundg k1
    case measure => have := HK1.out; omega
    case rel => exact ⟨(wrap64 (x3_1 + (wrap64 ((wrap64 (((rd_T91 l0 x4_1).f0) * ((rd_T91 l0 (ji4)).f1))) - (wrap64 (((rd_T91 l0 x4_1).f1) * ((rd_T91 l0 (ji4)).f0))))))), (wrap64 (x4_1 + 1)), (by first | rfl | (simp; done) | (simp only [← hji4] <;> (first | rfl | simp)) | (simp [*]; done)), zR, H', ⟨by have := HK1.out; omega⟩, ⟨pB1 HB.out GE143.out⟩⟩
end Go.Proofs.Ytfiiakhpdkdebaa.PFnExactFitsLeaf

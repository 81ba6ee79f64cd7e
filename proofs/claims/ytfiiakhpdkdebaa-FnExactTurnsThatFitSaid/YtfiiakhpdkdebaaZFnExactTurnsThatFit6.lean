/- What each function that a law reaches comes to, and the proof that its walk comes to it; laid by a program of this session. No condition. -/
import Derived.Test.YtfiiakhpdkdebaaZFnExactTurnsThatFit0
import Derived.Test.YtfiiakhpdkdebaaZFnExactTurnsThatFit4
import Derived.Test.YtfiiakhpdkdebaaZFnExactTurnsThatFit5
namespace Go.Proofs.Ytfiiakhpdkdebaa.PFnExactTurnsThatFit
open Go.RowKit Go.Proofs.YtfiiakhpdkdebaaW.PrintWords Go.Proofs.YtfiiakhpdkdebaaW.PrintLast Go.Proofs.YtfiiakhpdkdebaaW.PrintMore
attribute [local go_sem] max2_int min2_int max_two min_two max_three min_three max_four min_four
set_option linter.unusedVariables false
set_option linter.unusedSimpArgs false
def spec_l02Crosses.f (a0_0 : Int) (a0_1 : Int) (a1_0 : Int) (a1_1 : Int) (a2_0 : Int) (a2_1 : Int) (a3_0 : Int) (a3_1 : Int) : Option (Bool) := (spec_l02Side.f a0_0 a0_1 a1_0 a1_1 a2_0 a2_1).bind fun t179 => ((spec_l02Side.f a0_0 a0_1 a1_0 a1_1 a3_0 a3_1).bind fun t180 => (if (wrap64 (t179 * t180)) < 0 then ((spec_l02Side.f a2_0 a2_1 a3_0 a3_1 a0_0 a0_1).bind fun t181 => ((spec_l02Side.f a2_0 a2_1 a3_0 a3_1 a1_0 a1_1).bind fun t182 => (some (decide ((wrap64 (t181 * t182)) < 0))))) else (some false)))
def spec_l02Crosses.T1 : Bool × List (List Nat × List Nat) := (true, [([], []), ([], []), ([], []), ([0, 1, 2], [0, 1, 2]), ([], []), ([], []), ([], []), ([4, 5, 6, 3], [4, 5, 6]), ([3, 7], [3, 7]), ([8], [8]), ([9, 7], [9]), ([10], [10]), ([10], [10]), ([10], [10]), ([11, 12, 13, 10, 10], [10, 11, 12, 13]), ([10], [10]), ([10], [10]), ([10], [10]), ([15, 16, 17, 14, 10], [10, 15, 16, 17]), ([14, 18, 10], [10, 14, 18]), ([19, 10], [10, 19]), ([10, 20], [10, 20]), ([21, 18, 0, 1, 2, 3, 4, 5, 6, 7, 8, 9, 10, 11, 12, 13, 14, 15, 16, 17, 18, 19, 20, 21], [21])])
def spec_l02Crosses.B1 : List Nat := [0, 0, 0, 7, 0, 0, 0, 127, 255, 511, 1023, 2047, 2047, 2047, 16383, 2047, 2047, 2047, 262143, 524287, 1048575, 2097151, 4194303]
theorem spec_l02Crosses.tab1 : rtab .any (opsOf Try.f126 1) = spec_l02Crosses.T1 := by kernel_rfl
theorem spec_l02Crosses.bits1 : waitsOk spec_l02Crosses.T1.2 spec_l02Crosses.B1 = true := by kernel_rfl
set_option maxHeartbeats 8000000 in
set_option maxRecDepth 100000 in
theorem spec_l02Crosses.calls (a0_0 : Int) (a0_1 : Int) (a1_0 : Int) (a1_1 : Int) (a2_0 : Int) (a2_1 : Int) (a3_0 : Int) (a3_1 : Int) (r : Bool) (w : World) (h : spec_l02Crosses.f a0_0 a0_1 a1_0 a1_1 a2_0 a2_1 a3_0 a3_1 = some r) :
 Calls Try.prog 126 #[.agg #[.int .i64 a0_0, .int .i64 a0_1], .agg #[.int .i64 a1_0, .int .i64 a1_1], .agg #[.int .i64 a2_0, .int .i64 a2_1], .agg #[.int .i64 a3_0, .int .i64 a3_1]] w fun e w' => e = .returned (.bool r) ∧ Below w.heap.size w w' := by
 have hu91 := Try.underlying91
 have HB := Aside0.mk (Below.refl w.heap.size w)
 have H : ((spec_l02Side.f a0_0 a0_1 a1_0 a1_1 a2_0 a2_1).bind fun t179 => ((spec_l02Side.f a0_0 a0_1 a1_0 a1_1 a3_0 a3_1).bind fun t180 => (if (wrap64 (t179 * t180)) < 0 then ((spec_l02Side.f a2_0 a2_1 a3_0 a3_1 a0_0 a0_1).bind fun t181 => ((spec_l02Side.f a2_0 a2_1 a3_0 a3_1 a1_0 a1_1).bind fun t182 => (some (decide ((wrap64 (t181 * t182)) < 0))))) else (some false)))) = some r := h
 clear h
 replace H := Option.bind_eq_some_iff.mp H
 obtain ⟨t179, A50, H⟩ := H
 have A5 := Aside0.mk A50
 clear A50
 replace H := Option.bind_eq_some_iff.mp H
 obtain ⟨t180, A60, H⟩ := H
 have A6 := Aside0.mk A60
 clear A60
 by_cases c7 : (wrap64 (t179 * t180)) < 0
 rotate_left
 · rw [if_neg c7] at H
   have c7b0 : decide ((wrap64 (t179 * t180)) < 0) = false := decide_eq_false c7
   clear c7
   obtain rfl := Option.some.inj H
   go_enter Try.func126, Try.ntmps126
   try go_wp2_with (first | ((with_reducible refine gate_dst (N := 4) rfl ?_); refine zB 4 #[.int .i64 a0_0, .int .i64 a0_1] 91 ?_; intro gb175 hg w19 hbox hb; have BK175 := Aside0.mk (hbox); have GW175 := zS (pB0 HB.out) hg; have GE175 := zS (pB0 HB.out) hg; replace HB := zW (pB0 HB.out) hb; clear hb hbox hg) | ((with_reducible refine gate_dst (N := 5) rfl ?_); refine zB 5 #[.int .i64 a1_0, .int .i64 a1_1] 91 ?_; intro gb176 hg w20 hbox hb; have BK176 := Aside0.mk (hbox); have GW176 := zS (pB1 HB.out GE175.out) hg; have GE176 := zS (pB1 HB.out GE175.out) hg; have NB175_176 := zL BK175 hg; have NB176_175 := zM BK175 hg; replace BK175 := zK BK175 hb; replace HB := zW (pB1 HB.out GE175.out) hb; clear hb hbox hg) | ((with_reducible refine gate_dst (N := 6) rfl ?_); refine zB 6 #[.int .i64 a2_0, .int .i64 a2_1] 91 ?_; intro gb177 hg w21 hbox hb; have BK177 := Aside0.mk (hbox); have GW177 := zS (pB2 HB.out GE175.out GE176.out) hg; have GE177 := zS (pB2 HB.out GE175.out GE176.out) hg; have NB175_177 := zL BK175 hg; have NB177_175 := zM BK175 hg; have NB176_177 := zL BK176 hg; have NB177_176 := zM BK176 hg; replace BK175 := zK BK175 hb; replace BK176 := zK BK176 hb; replace HB := zW (pB2 HB.out GE175.out GE176.out) hb; clear hb hbox hg) | ((with_reducible refine gate_dst (N := 7) rfl ?_); refine zB 7 #[.int .i64 a3_0, .int .i64 a3_1] 91 ?_; intro gb178 hg w22 hbox hb; have BK178 := Aside0.mk (hbox); have GW178 := zS (pB3 HB.out GE175.out GE176.out GE177.out) hg; have GE178 := zS (pB3 HB.out GE175.out GE176.out GE177.out) hg; have NB175_178 := zL BK175 hg; have NB178_175 := zM BK175 hg; have NB176_178 := zL BK176 hg; have NB178_176 := zM BK176 hg; have NB177_178 := zL BK177 hg; have NB178_177 := zM BK177 hg; replace BK175 := zK BK175 hb; replace BK176 := zK BK176 hb; replace BK177 := zK BK177 hb; replace HB := zW (pB3 HB.out GE175.out GE176.out GE177.out) hb; clear hb hbox hg))
   replace BK175 := Aside0.mk (blk_drew BK175.out)
   replace BK176 := Aside0.mk (blk_drew BK176.out)
   replace BK177 := Aside0.mk (blk_drew BK177.out)
   replace BK178 := Aside0.mk (blk_drew BK178.out)
   replace HB := Aside0.mk (below_drew1 HB.out)
   refine start_ (n := 23) (S := fun w' => w'.cell? ⟨gb175, 0, none⟩ = some (.int .i64 a0_0) ∧ w'.cell? ⟨gb175, 1, none⟩ = some (.int .i64 a0_1) ∧ w'.cell? ⟨gb176, 0, none⟩ = some (.int .i64 a1_0) ∧ w'.cell? ⟨gb176, 1, none⟩ = some (.int .i64 a1_1) ∧ w'.cell? ⟨gb177, 0, none⟩ = some (.int .i64 a2_0) ∧ w'.cell? ⟨gb177, 1, none⟩ = some (.int .i64 a2_1) ∧ w'.cell? ⟨gb178, 0, none⟩ = some (.int .i64 a3_0) ∧ w'.cell? ⟨gb178, 1, none⟩ = some (.int .i64 a3_1)) (ds := []) (Array.replicate 23 false) (by kernel_rfl) rfl rfl ⟨zQ BK175 0, zQ BK175 1, zQ BK176 0, zQ BK176 1, zQ BK177 0, zQ BK177 1, zQ BK178 0, zQ BK178 1⟩ (fun hHeld => ?_); refine with_tabW spec_l02Crosses.tab1 spec_l02Crosses.bits1 (fun HT_ HW_ => ?_)
   generalize w22.drew = w23 at BK175 BK176 BK177 BK178 HB hHeld ⊢
   refine zT8 0 (some 9) (zb 23 1) HT_ HW_ hHeld ?_
   refine zT8 1 (some 10) (zb 23 3) HT_ HW_ hHeld ?_
   refine zT8 2 (some 11) (zb 23 7) HT_ HW_ hHeld ?_
   refine zT8 4 (some 13) (zb 23 23) HT_ HW_ hHeld ?_
   refine zT8 5 (some 14) (zb 23 55) HT_ HW_ hHeld ?_
   refine zT8 6 (some 15) (zb 23 119) HT_ HW_ hHeld ?_
   refine one_ (i := 3) (N := some 12) (zb 23 127) rfl rfl (one_of HT_.out (by kernel_rfl)) (by decide) (fun K hK => ?_)
   refine goes_ Try.func125 (by kernel_rfl) rfl #[.agg #[.int .i64 a0_0, .int .i64 a0_1], .agg #[.int .i64 a1_0, .int .i64 a1_1], .agg #[.int .i64 a2_0, .int .i64 a2_1]] (by rfl) rfl rfl pA ?_
   with_reducible refine (spec_l02Side.calls a0_0 a0_1 a1_0 a1_1 a2_0 a2_1 t179 _ A5.out).mono ?_
   rintro e w24 ⟨rfl, hb⟩
   refine ⟨_, rfl, ?_⟩
   replace BK175 := zK BK175 hb
   replace BK176 := zK BK176 hb
   replace BK177 := zK BK177 hb
   replace BK178 := zK BK178 hb
   replace HB := zW (pB4 HB.out GE175.out GE176.out GE177.out GE178.out) hb
   (try clear hb)
   (try clear hb2)
   (try clear hk)
   (try clear hi)
   refine hK.out _ _ ⟨zQ BK175 0, zQ BK175 1, zQ BK176 0, zQ BK176 1, zQ BK177 0, zQ BK177 1, zQ BK178 0, zQ BK178 1⟩ (fun hHeld => ?_)
   clear hK K
   refine zN ?_
   refine one_ (i := 7) (N := some 16) (zb 23 255) rfl rfl (one_of HT_.out (by kernel_rfl)) (by decide) (fun K hK => ?_)
   refine goes_ Try.func125 (by kernel_rfl) rfl #[.agg #[.int .i64 a0_0, .int .i64 a0_1], .agg #[.int .i64 a1_0, .int .i64 a1_1], .agg #[.int .i64 a3_0, .int .i64 a3_1]] (by rfl) rfl rfl pA ?_
   with_reducible refine (spec_l02Side.calls a0_0 a0_1 a1_0 a1_1 a3_0 a3_1 t180 _ A6.out).mono ?_
   rintro e w25 ⟨rfl, hb⟩
   refine ⟨_, rfl, ?_⟩
   replace BK175 := zK BK175 hb
   replace BK176 := zK BK176 hb
   replace BK177 := zK BK177 hb
   replace BK178 := zK BK178 hb
   replace HB := zW (pB4 HB.out GE175.out GE176.out GE177.out GE178.out) hb
   (try clear hb)
   (try clear hb2)
   (try clear hk)
   (try clear hi)
   refine hK.out _ _ ⟨zQ BK175 0, zQ BK175 1, zQ BK176 0, zQ BK176 1, zQ BK177 0, zQ BK177 1, zQ BK178 0, zQ BK178 1⟩ (fun hHeld => ?_)
   clear hK K
   refine zN ?_
   refine zP 8 (some 17) (zb 23 511) HT_ ?_
   refine zP 9 (some 18) (zb 23 1023) HT_ ?_
   refine zP 10 (some 19) (zb 23 2047) HT_ ?_
   refine zU 11 (some 20) (zb 23 4095) HT_ ?_
   refine zU 12 (some 21) (zb 23 8191) HT_ ?_
   refine zU 13 (some 22) (zb 23 16383) HT_ ?_
   refine zU 14 (some 23) (zb 23 32767) HT_ ?_
   refine zU 15 (some 24) (zb 23 65535) HT_ ?_
   refine zU 16 (some 25) (zb 23 131071) HT_ ?_
   refine zU 17 (some 26) (zb 23 262143) HT_ ?_
   refine zU 18 (some 27) (zb 23 524287) HT_ ?_
   refine zU 19 (some 28) (zb 23 1048575) HT_ ?_
   refine zU 20 (some 29) (zb 23 2097151) HT_ ?_
   refine zP 21 (some 30) (zb 23 4194303) HT_ ?_
   refine zP 22 (some 8) (zb 23 8388607) HT_ ?_
   refine done_ (done_of HT_.out (by kernel_rfl)) ?_
   try go_wp2
   go_ret
   exact ⟨zE, pB4 HB.out GE175.out GE176.out GE177.out GE178.out⟩
 rw [if_pos c7] at H
 have c7b0 := decide_eq_true c7
 clear c7
 replace H := Option.bind_eq_some_iff.mp H
 obtain ⟨t181, A80, H⟩ := H
 have A8 := Aside0.mk A80
 clear A80
 replace H := Option.bind_eq_some_iff.mp H
 obtain ⟨t182, A90, H⟩ := H
 have A9 := Aside0.mk A90
 clear A90
 obtain rfl := Option.some.inj H
 go_enter Try.func126, Try.ntmps126
 try go_wp2_with (first | ((with_reducible refine gate_dst (N := 4) rfl ?_); refine zB 4 #[.int .i64 a0_0, .int .i64 a0_1] 91 ?_; intro gb175 hg w10 hbox hb; have BK175 := Aside0.mk (hbox); have GW175 := zS (pB0 HB.out) hg; have GE175 := zS (pB0 HB.out) hg; replace HB := zW (pB0 HB.out) hb; clear hb hbox hg) | ((with_reducible refine gate_dst (N := 5) rfl ?_); refine zB 5 #[.int .i64 a1_0, .int .i64 a1_1] 91 ?_; intro gb176 hg w11 hbox hb; have BK176 := Aside0.mk (hbox); have GW176 := zS (pB1 HB.out GE175.out) hg; have GE176 := zS (pB1 HB.out GE175.out) hg; have NB175_176 := zL BK175 hg; have NB176_175 := zM BK175 hg; replace BK175 := zK BK175 hb; replace HB := zW (pB1 HB.out GE175.out) hb; clear hb hbox hg) | ((with_reducible refine gate_dst (N := 6) rfl ?_); refine zB 6 #[.int .i64 a2_0, .int .i64 a2_1] 91 ?_; intro gb177 hg w12 hbox hb; have BK177 := Aside0.mk (hbox); have GW177 := zS (pB2 HB.out GE175.out GE176.out) hg; have GE177 := zS (pB2 HB.out GE175.out GE176.out) hg; have NB175_177 := zL BK175 hg; have NB177_175 := zM BK175 hg; have NB176_177 := zL BK176 hg; have NB177_176 := zM BK176 hg; replace BK175 := zK BK175 hb; replace BK176 := zK BK176 hb; replace HB := zW (pB2 HB.out GE175.out GE176.out) hb; clear hb hbox hg) | ((with_reducible refine gate_dst (N := 7) rfl ?_); refine zB 7 #[.int .i64 a3_0, .int .i64 a3_1] 91 ?_; intro gb178 hg w13 hbox hb; have BK178 := Aside0.mk (hbox); have GW178 := zS (pB3 HB.out GE175.out GE176.out GE177.out) hg; have GE178 := zS (pB3 HB.out GE175.out GE176.out GE177.out) hg; have NB175_178 := zL BK175 hg; have NB178_175 := zM BK175 hg; have NB176_178 := zL BK176 hg; have NB178_176 := zM BK176 hg; have NB177_178 := zL BK177 hg; have NB178_177 := zM BK177 hg; replace BK175 := zK BK175 hb; replace BK176 := zK BK176 hb; replace BK177 := zK BK177 hb; replace HB := zW (pB3 HB.out GE175.out GE176.out GE177.out) hb; clear hb hbox hg))
 replace BK175 := Aside0.mk (blk_drew BK175.out)
 replace BK176 := Aside0.mk (blk_drew BK176.out)
 replace BK177 := Aside0.mk (blk_drew BK177.out)
 replace BK178 := Aside0.mk (blk_drew BK178.out)
 replace HB := Aside0.mk (below_drew1 HB.out)
 refine start_ (n := 23) (S := fun w' => w'.cell? ⟨gb175, 0, none⟩ = some (.int .i64 a0_0) ∧ w'.cell? ⟨gb175, 1, none⟩ = some (.int .i64 a0_1) ∧ w'.cell? ⟨gb176, 0, none⟩ = some (.int .i64 a1_0) ∧ w'.cell? ⟨gb176, 1, none⟩ = some (.int .i64 a1_1) ∧ w'.cell? ⟨gb177, 0, none⟩ = some (.int .i64 a2_0) ∧ w'.cell? ⟨gb177, 1, none⟩ = some (.int .i64 a2_1) ∧ w'.cell? ⟨gb178, 0, none⟩ = some (.int .i64 a3_0) ∧ w'.cell? ⟨gb178, 1, none⟩ = some (.int .i64 a3_1)) (ds := []) (Array.replicate 23 false) (by kernel_rfl) rfl rfl ⟨zQ BK175 0, zQ BK175 1, zQ BK176 0, zQ BK176 1, zQ BK177 0, zQ BK177 1, zQ BK178 0, zQ BK178 1⟩ (fun hHeld => ?_); refine with_tabW spec_l02Crosses.tab1 spec_l02Crosses.bits1 (fun HT_ HW_ => ?_)
 generalize w13.drew = w14 at BK175 BK176 BK177 BK178 HB hHeld ⊢
 refine zT8 0 (some 9) (zb 23 1) HT_ HW_ hHeld ?_
 refine zT8 1 (some 10) (zb 23 3) HT_ HW_ hHeld ?_
 refine zT8 2 (some 11) (zb 23 7) HT_ HW_ hHeld ?_
 refine zT8 4 (some 13) (zb 23 23) HT_ HW_ hHeld ?_
 refine zT8 5 (some 14) (zb 23 55) HT_ HW_ hHeld ?_
 refine zT8 6 (some 15) (zb 23 119) HT_ HW_ hHeld ?_
 refine one_ (i := 3) (N := some 12) (zb 23 127) rfl rfl (one_of HT_.out (by kernel_rfl)) (by decide) (fun K hK => ?_)
 refine goes_ Try.func125 (by kernel_rfl) rfl #[.agg #[.int .i64 a0_0, .int .i64 a0_1], .agg #[.int .i64 a1_0, .int .i64 a1_1], .agg #[.int .i64 a2_0, .int .i64 a2_1]] (by rfl) rfl rfl pA ?_
 with_reducible refine (spec_l02Side.calls a0_0 a0_1 a1_0 a1_1 a2_0 a2_1 t179 _ A5.out).mono ?_
 rintro e w15 ⟨rfl, hb⟩
 refine ⟨_, rfl, ?_⟩
 replace BK175 := zK BK175 hb
 replace BK176 := zK BK176 hb
 replace BK177 := zK BK177 hb
 replace BK178 := zK BK178 hb
 replace HB := zW (pB4 HB.out GE175.out GE176.out GE177.out GE178.out) hb
 (try clear hb)
 (try clear hb2)
 (try clear hk)
 (try clear hi)
 refine hK.out _ _ ⟨zQ BK175 0, zQ BK175 1, zQ BK176 0, zQ BK176 1, zQ BK177 0, zQ BK177 1, zQ BK178 0, zQ BK178 1⟩ (fun hHeld => ?_)
 clear hK K
 refine zN ?_
 refine one_ (i := 7) (N := some 16) (zb 23 255) rfl rfl (one_of HT_.out (by kernel_rfl)) (by decide) (fun K hK => ?_)
 refine goes_ Try.func125 (by kernel_rfl) rfl #[.agg #[.int .i64 a0_0, .int .i64 a0_1], .agg #[.int .i64 a1_0, .int .i64 a1_1], .agg #[.int .i64 a3_0, .int .i64 a3_1]] (by rfl) rfl rfl pA ?_
 with_reducible refine (spec_l02Side.calls a0_0 a0_1 a1_0 a1_1 a3_0 a3_1 t180 _ A6.out).mono ?_
 rintro e w16 ⟨rfl, hb⟩
 refine ⟨_, rfl, ?_⟩
 replace BK175 := zK BK175 hb
 replace BK176 := zK BK176 hb
 replace BK177 := zK BK177 hb
 replace BK178 := zK BK178 hb
 replace HB := zW (pB4 HB.out GE175.out GE176.out GE177.out GE178.out) hb
 (try clear hb)
 (try clear hb2)
 (try clear hk)
 (try clear hi)
 refine hK.out _ _ ⟨zQ BK175 0, zQ BK175 1, zQ BK176 0, zQ BK176 1, zQ BK177 0, zQ BK177 1, zQ BK178 0, zQ BK178 1⟩ (fun hHeld => ?_)
 clear hK K
 refine zN ?_
 refine zP 8 (some 17) (zb 23 511) HT_ ?_
 refine zP 9 (some 18) (zb 23 1023) HT_ ?_
 refine zP 10 (some 19) (zb 23 2047) HT_ ?_
 refine zT8 11 (some 20) (zb 23 4095) HT_ HW_ hHeld ?_
 refine zT8 12 (some 21) (zb 23 8191) HT_ HW_ hHeld ?_
 refine zT8 13 (some 22) (zb 23 16383) HT_ HW_ hHeld ?_
 refine zT8 15 (some 24) (zb 23 49151) HT_ HW_ hHeld ?_
 refine zT8 16 (some 25) (zb 23 114687) HT_ HW_ hHeld ?_
 refine zT8 17 (some 26) (zb 23 245759) HT_ HW_ hHeld ?_
 refine one_ (i := 14) (N := some 23) (zb 23 262143) rfl rfl (one_of HT_.out (by kernel_rfl)) (by decide) (fun K hK => ?_)
 refine goes_ Try.func125 (by kernel_rfl) rfl #[.agg #[.int .i64 a2_0, .int .i64 a2_1], .agg #[.int .i64 a3_0, .int .i64 a3_1], .agg #[.int .i64 a0_0, .int .i64 a0_1]] (by rfl) rfl rfl pA ?_
 with_reducible refine (spec_l02Side.calls a2_0 a2_1 a3_0 a3_1 a0_0 a0_1 t181 _ A8.out).mono ?_
 rintro e w17 ⟨rfl, hb⟩
 refine ⟨_, rfl, ?_⟩
 replace BK175 := zK BK175 hb
 replace BK176 := zK BK176 hb
 replace BK177 := zK BK177 hb
 replace BK178 := zK BK178 hb
 replace HB := zW (pB4 HB.out GE175.out GE176.out GE177.out GE178.out) hb
 (try clear hb)
 (try clear hb2)
 (try clear hk)
 (try clear hi)
 refine hK.out _ _ ⟨zQ BK175 0, zQ BK175 1, zQ BK176 0, zQ BK176 1, zQ BK177 0, zQ BK177 1, zQ BK178 0, zQ BK178 1⟩ (fun hHeld => ?_)
 clear hK K
 refine zN ?_
 refine one_ (i := 18) (N := some 27) (zb 23 524287) rfl rfl (one_of HT_.out (by kernel_rfl)) (by decide) (fun K hK => ?_)
 refine goes_ Try.func125 (by kernel_rfl) rfl #[.agg #[.int .i64 a2_0, .int .i64 a2_1], .agg #[.int .i64 a3_0, .int .i64 a3_1], .agg #[.int .i64 a1_0, .int .i64 a1_1]] (by rfl) rfl rfl pA ?_
 with_reducible refine (spec_l02Side.calls a2_0 a2_1 a3_0 a3_1 a1_0 a1_1 t182 _ A9.out).mono ?_
 rintro e w18 ⟨rfl, hb⟩
 refine ⟨_, rfl, ?_⟩
 replace BK175 := zK BK175 hb
 replace BK176 := zK BK176 hb
 replace BK177 := zK BK177 hb
 replace BK178 := zK BK178 hb
 replace HB := zW (pB4 HB.out GE175.out GE176.out GE177.out GE178.out) hb
 (try clear hb)
 (try clear hb2)
 (try clear hk)
 (try clear hi)
 refine hK.out _ _ ⟨zQ BK175 0, zQ BK175 1, zQ BK176 0, zQ BK176 1, zQ BK177 0, zQ BK177 1, zQ BK178 0, zQ BK178 1⟩ (fun hHeld => ?_)
 clear hK K
 refine zN ?_
 refine zP 19 (some 28) (zb 23 1048575) HT_ ?_
 refine zP 20 (some 29) (zb 23 2097151) HT_ ?_
 refine zP 21 (some 30) (zb 23 4194303) HT_ ?_
 refine zP 22 (some 8) (zb 23 8388607) HT_ ?_
 refine done_ (done_of HT_.out (by kernel_rfl)) ?_
 try go_wp2
 go_ret
 exact ⟨zE, pB4 HB.out GE175.out GE176.out GE177.out GE178.out⟩
def spec_l03Meet.f (a0_0 : Int) (a0_1 : Int) (a1_0 : Int) (a1_1 : Int) (a2_0 : Int) (a2_1 : Int) (a3_0 : Int) (a3_1 : Int) : Option (Bool) := (spec_l02Crosses.f a0_0 a0_1 a1_0 a1_1 a2_0 a2_1 a3_0 a3_1).bind fun t187 => (if t187 = true then (some true) else ((spec_l02On.f a0_0 a0_1 a1_0 a1_1 a2_0 a2_1).bind fun t188 => (if t188 = true then (some true) else ((spec_l02On.f a0_0 a0_1 a1_0 a1_1 a3_0 a3_1).bind fun t189 => (if t189 = true then (some true) else ((spec_l02On.f a2_0 a2_1 a3_0 a3_1 a0_0 a0_1).bind fun t190 => (if t190 = true then (some true) else ((spec_l02On.f a2_0 a2_1 a3_0 a3_1 a1_0 a1_1).bind fun t191 => (some t191)))))))))
set_option maxHeartbeats 8000000 in
set_option maxRecDepth 100000 in
theorem spec_l03Meet.calls (a0_0 : Int) (a0_1 : Int) (a1_0 : Int) (a1_1 : Int) (a2_0 : Int) (a2_1 : Int) (a3_0 : Int) (a3_1 : Int) (r : Bool) (w : World) (h : spec_l03Meet.f a0_0 a0_1 a1_0 a1_1 a2_0 a2_1 a3_0 a3_1 = some r) :
 Calls Try.prog 89 #[.agg #[.int .i64 a0_0, .int .i64 a0_1], .agg #[.int .i64 a1_0, .int .i64 a1_1], .agg #[.int .i64 a2_0, .int .i64 a2_1], .agg #[.int .i64 a3_0, .int .i64 a3_1]] w fun e w' => e = .returned (.bool r) ∧ Below w.heap.size w w' := by
 have hu91 := Try.underlying91
 have HB := Aside0.mk (Below.refl w.heap.size w)
 have H : ((spec_l02Crosses.f a0_0 a0_1 a1_0 a1_1 a2_0 a2_1 a3_0 a3_1).bind fun t187 => (if t187 = true then (some true) else ((spec_l02On.f a0_0 a0_1 a1_0 a1_1 a2_0 a2_1).bind fun t188 => (if t188 = true then (some true) else ((spec_l02On.f a0_0 a0_1 a1_0 a1_1 a3_0 a3_1).bind fun t189 => (if t189 = true then (some true) else ((spec_l02On.f a2_0 a2_1 a3_0 a3_1 a0_0 a0_1).bind fun t190 => (if t190 = true then (some true) else ((spec_l02On.f a2_0 a2_1 a3_0 a3_1 a1_0 a1_1).bind fun t191 => (some t191)))))))))) = some r := h
 clear h
 replace H := Option.bind_eq_some_iff.mp H
 obtain ⟨t187, A50, H⟩ := H
 have A5 := Aside0.mk A50
 clear A50
 by_cases c6 : t187 = true
 · subst c6
   have H1 : (some true) = some r := by rw [if_pos rfl] at H; exact H
   clear H
   have H := H1
   clear H1
   obtain rfl := Option.some.inj H
   go_enter Try.func89, Try.ntmps89
   go_wp2_with (first | ((with_reducible refine gate_dst (N := 4) rfl ?_); refine zB 4 #[.int .i64 a0_0, .int .i64 a0_1] 91 ?_; intro gb183 hg w7 hbox hb; have BK183 := Aside0.mk (hbox); have GW183 := zS (pB0 HB.out) hg; have GE183 := zS (pB0 HB.out) hg; replace HB := zW (pB0 HB.out) hb; clear hb hbox hg) | ((with_reducible refine gate_dst (N := 5) rfl ?_); refine zB 5 #[.int .i64 a1_0, .int .i64 a1_1] 91 ?_; intro gb184 hg w8 hbox hb; have BK184 := Aside0.mk (hbox); have GW184 := zS (pB1 HB.out GE183.out) hg; have GE184 := zS (pB1 HB.out GE183.out) hg; have NB183_184 := zL BK183 hg; have NB184_183 := zM BK183 hg; replace BK183 := zK BK183 hb; replace HB := zW (pB1 HB.out GE183.out) hb; clear hb hbox hg) | ((with_reducible refine gate_dst (N := 6) rfl ?_); refine zB 6 #[.int .i64 a2_0, .int .i64 a2_1] 91 ?_; intro gb185 hg w9 hbox hb; have BK185 := Aside0.mk (hbox); have GW185 := zS (pB2 HB.out GE183.out GE184.out) hg; have GE185 := zS (pB2 HB.out GE183.out GE184.out) hg; have NB183_185 := zL BK183 hg; have NB185_183 := zM BK183 hg; have NB184_185 := zL BK184 hg; have NB185_184 := zM BK184 hg; replace BK183 := zK BK183 hb; replace BK184 := zK BK184 hb; replace HB := zW (pB2 HB.out GE183.out GE184.out) hb; clear hb hbox hg) | ((with_reducible refine gate_dst (N := 7) rfl ?_); refine zB 7 #[.int .i64 a3_0, .int .i64 a3_1] 91 ?_; intro gb186 hg w10 hbox hb; have BK186 := Aside0.mk (hbox); have GW186 := zS (pB3 HB.out GE183.out GE184.out GE185.out) hg; have GE186 := zS (pB3 HB.out GE183.out GE184.out GE185.out) hg; have NB183_186 := zL BK183 hg; have NB186_183 := zM BK183 hg; have NB184_186 := zL BK184 hg; have NB186_184 := zM BK184 hg; have NB185_186 := zL BK185 hg; have NB186_185 := zM BK185 hg; replace BK183 := zK BK183 hb; replace BK184 := zK BK184 hb; replace BK185 := zK BK185 hb; replace HB := zW (pB3 HB.out GE183.out GE184.out GE185.out) hb; clear hb hbox hg; have hnb11 := NB183_184.out; have hnc11 := NB184_183.out; have hnb12 := NB183_185.out; have hnc12 := NB185_183.out; have hnb13 := NB183_186.out; have hnc13 := NB186_183.out; obtain ⟨hcz14_0, hfz14_0, hcz14_1, hfz14_1⟩ := zw2 BK183; have hnb15 := NB184_185.out; have hnc15 := NB185_184.out; have hnb16 := NB184_186.out; have hnc16 := NB186_184.out; obtain ⟨hcz17_0, hfz17_0, hcz17_1, hfz17_1⟩ := zw2 BK184; have hnb18 := NB185_186.out; have hnc18 := NB186_185.out; obtain ⟨hcz19_0, hfz19_0, hcz19_1, hfz19_1⟩ := zw2 BK185; obtain ⟨hcz20_0, hfz20_0, hcz20_1, hfz20_1⟩ := zw2 BK186) | ((with_reducible refine gate_callee (f := 126) rfl ?_); refine goesL_ (some 13) rfl rfl Try.func126 (by kernel_rfl) rfl #[.agg #[.int .i64 a0_0, .int .i64 a0_1], .agg #[.int .i64 a1_0, .int .i64 a1_1], .agg #[.int .i64 a2_0, .int .i64 a2_1], .agg #[.int .i64 a3_0, .int .i64 a3_1]] rfl pA ?_; (with_reducible refine (spec_l02Crosses.calls a0_0 a0_1 a1_0 a1_1 a2_0 a2_1 a3_0 a3_1 true _ A5.out).mono ?_); rintro e w21 ⟨rfl, hb⟩; refine ⟨_, rfl, ?_⟩; replace BK183 := zK BK183 hb; replace BK184 := zK BK184 hb; replace BK185 := zK BK185 hb; replace BK186 := zK BK186 hb; replace HB := zW (pB4 HB.out GE183.out GE184.out GE185.out GE186.out) hb; (try clear hb); (try clear hb2); (try clear hk); (try clear hi)))
   go_ret
   exact ⟨zE, pB4 HB.out GE183.out GE184.out GE185.out GE186.out⟩
 replace c6 := Bool.eq_false_iff.mpr c6
 subst c6
 have H1 : ((spec_l02On.f a0_0 a0_1 a1_0 a1_1 a2_0 a2_1).bind fun t188 => (if t188 = true then (some true) else ((spec_l02On.f a0_0 a0_1 a1_0 a1_1 a3_0 a3_1).bind fun t189 => (if t189 = true then (some true) else ((spec_l02On.f a2_0 a2_1 a3_0 a3_1 a0_0 a0_1).bind fun t190 => (if t190 = true then (some true) else ((spec_l02On.f a2_0 a2_1 a3_0 a3_1 a1_0 a1_1).bind fun t191 => (some t191)))))))) = some r := by rw [if_neg (show ¬ (false = true) by decide)] at H; exact H
 clear H
 have H := H1
 clear H1
 replace H := Option.bind_eq_some_iff.mp H
 obtain ⟨t188, A220, H⟩ := H
 have A22 := Aside0.mk A220
 clear A220
 by_cases c23 : t188 = true
 · subst c23
   have H1 : (some true) = some r := by rw [if_pos rfl] at H; exact H
   clear H
   have H := H1
   clear H1
   obtain rfl := Option.some.inj H
   go_enter Try.func89, Try.ntmps89
   go_wp2_with (first | ((with_reducible refine gate_dst (N := 4) rfl ?_); refine zB 4 #[.int .i64 a0_0, .int .i64 a0_1] 91 ?_; intro gb183 hg w24 hbox hb; have BK183 := Aside0.mk (hbox); have GW183 := zS (pB0 HB.out) hg; have GE183 := zS (pB0 HB.out) hg; replace HB := zW (pB0 HB.out) hb; clear hb hbox hg) | ((with_reducible refine gate_dst (N := 5) rfl ?_); refine zB 5 #[.int .i64 a1_0, .int .i64 a1_1] 91 ?_; intro gb184 hg w25 hbox hb; have BK184 := Aside0.mk (hbox); have GW184 := zS (pB1 HB.out GE183.out) hg; have GE184 := zS (pB1 HB.out GE183.out) hg; have NB183_184 := zL BK183 hg; have NB184_183 := zM BK183 hg; replace BK183 := zK BK183 hb; replace HB := zW (pB1 HB.out GE183.out) hb; clear hb hbox hg) | ((with_reducible refine gate_dst (N := 6) rfl ?_); refine zB 6 #[.int .i64 a2_0, .int .i64 a2_1] 91 ?_; intro gb185 hg w26 hbox hb; have BK185 := Aside0.mk (hbox); have GW185 := zS (pB2 HB.out GE183.out GE184.out) hg; have GE185 := zS (pB2 HB.out GE183.out GE184.out) hg; have NB183_185 := zL BK183 hg; have NB185_183 := zM BK183 hg; have NB184_185 := zL BK184 hg; have NB185_184 := zM BK184 hg; replace BK183 := zK BK183 hb; replace BK184 := zK BK184 hb; replace HB := zW (pB2 HB.out GE183.out GE184.out) hb; clear hb hbox hg) | ((with_reducible refine gate_dst (N := 7) rfl ?_); refine zB 7 #[.int .i64 a3_0, .int .i64 a3_1] 91 ?_; intro gb186 hg w27 hbox hb; have BK186 := Aside0.mk (hbox); have GW186 := zS (pB3 HB.out GE183.out GE184.out GE185.out) hg; have GE186 := zS (pB3 HB.out GE183.out GE184.out GE185.out) hg; have NB183_186 := zL BK183 hg; have NB186_183 := zM BK183 hg; have NB184_186 := zL BK184 hg; have NB186_184 := zM BK184 hg; have NB185_186 := zL BK185 hg; have NB186_185 := zM BK185 hg; replace BK183 := zK BK183 hb; replace BK184 := zK BK184 hb; replace BK185 := zK BK185 hb; replace HB := zW (pB3 HB.out GE183.out GE184.out GE185.out) hb; clear hb hbox hg; have hnb28 := NB183_184.out; have hnc28 := NB184_183.out; have hnb29 := NB183_185.out; have hnc29 := NB185_183.out; have hnb30 := NB183_186.out; have hnc30 := NB186_183.out; obtain ⟨hcz31_0, hfz31_0, hcz31_1, hfz31_1⟩ := zw2 BK183; have hnb32 := NB184_185.out; have hnc32 := NB185_184.out; have hnb33 := NB184_186.out; have hnc33 := NB186_184.out; obtain ⟨hcz34_0, hfz34_0, hcz34_1, hfz34_1⟩ := zw2 BK184; have hnb35 := NB185_186.out; have hnc35 := NB186_185.out; obtain ⟨hcz36_0, hfz36_0, hcz36_1, hfz36_1⟩ := zw2 BK185; obtain ⟨hcz37_0, hfz37_0, hcz37_1, hfz37_1⟩ := zw2 BK186) | ((with_reducible refine gate_callee (f := 126) rfl ?_); refine goesL_ (some 13) rfl rfl Try.func126 (by kernel_rfl) rfl #[.agg #[.int .i64 a0_0, .int .i64 a0_1], .agg #[.int .i64 a1_0, .int .i64 a1_1], .agg #[.int .i64 a2_0, .int .i64 a2_1], .agg #[.int .i64 a3_0, .int .i64 a3_1]] rfl pA ?_; (with_reducible refine (spec_l02Crosses.calls a0_0 a0_1 a1_0 a1_1 a2_0 a2_1 a3_0 a3_1 false _ A5.out).mono ?_); rintro e w38 ⟨rfl, hb⟩; refine ⟨_, rfl, ?_⟩; replace BK183 := zK BK183 hb; replace BK184 := zK BK184 hb; replace BK185 := zK BK185 hb; replace BK186 := zK BK186 hb; replace HB := zW (pB4 HB.out GE183.out GE184.out GE185.out GE186.out) hb; (try clear hb); (try clear hb2); (try clear hk); (try clear hi); obtain ⟨hcz39_0, hfz39_0, hcz39_1, hfz39_1⟩ := zw2 BK183; obtain ⟨hcz40_0, hfz40_0, hcz40_1, hfz40_1⟩ := zw2 BK184; obtain ⟨hcz41_0, hfz41_0, hcz41_1, hfz41_1⟩ := zw2 BK185) | (go_at_call 88; (with_reducible refine (spec_l02On.calls a0_0 a0_1 a1_0 a1_1 a2_0 a2_1 true _ A22.out).mono ?_); rintro e w42 ⟨rfl, hb⟩; replace BK183 := zK BK183 hb; replace BK184 := zK BK184 hb; replace BK185 := zK BK185 hb; replace BK186 := zK BK186 hb; replace HB := zW (pB4 HB.out GE183.out GE184.out GE185.out GE186.out) hb; (try clear hb); (try clear hb2); (try clear hk); (try clear hi)))
   go_ret
   exact ⟨zE, pB4 HB.out GE183.out GE184.out GE185.out GE186.out⟩
 replace c23 := Bool.eq_false_iff.mpr c23
 subst c23
 have H1 : ((spec_l02On.f a0_0 a0_1 a1_0 a1_1 a3_0 a3_1).bind fun t189 => (if t189 = true then (some true) else ((spec_l02On.f a2_0 a2_1 a3_0 a3_1 a0_0 a0_1).bind fun t190 => (if t190 = true then (some true) else ((spec_l02On.f a2_0 a2_1 a3_0 a3_1 a1_0 a1_1).bind fun t191 => (some t191)))))) = some r := by rw [if_neg (show ¬ (false = true) by decide)] at H; exact H
 clear H
 have H := H1
 clear H1
 replace H := Option.bind_eq_some_iff.mp H
 obtain ⟨t189, A430, H⟩ := H
 have A43 := Aside0.mk A430
 clear A430
 by_cases c44 : t189 = true
 · subst c44
   have H1 : (some true) = some r := by rw [if_pos rfl] at H; exact H
   clear H
   have H := H1
   clear H1
   obtain rfl := Option.some.inj H
   go_enter Try.func89, Try.ntmps89
   go_wp2_with (first | ((with_reducible refine gate_dst (N := 4) rfl ?_); refine zB 4 #[.int .i64 a0_0, .int .i64 a0_1] 91 ?_; intro gb183 hg w45 hbox hb; have BK183 := Aside0.mk (hbox); have GW183 := zS (pB0 HB.out) hg; have GE183 := zS (pB0 HB.out) hg; replace HB := zW (pB0 HB.out) hb; clear hb hbox hg) | ((with_reducible refine gate_dst (N := 5) rfl ?_); refine zB 5 #[.int .i64 a1_0, .int .i64 a1_1] 91 ?_; intro gb184 hg w46 hbox hb; have BK184 := Aside0.mk (hbox); have GW184 := zS (pB1 HB.out GE183.out) hg; have GE184 := zS (pB1 HB.out GE183.out) hg; have NB183_184 := zL BK183 hg; have NB184_183 := zM BK183 hg; replace BK183 := zK BK183 hb; replace HB := zW (pB1 HB.out GE183.out) hb; clear hb hbox hg) | ((with_reducible refine gate_dst (N := 6) rfl ?_); refine zB 6 #[.int .i64 a2_0, .int .i64 a2_1] 91 ?_; intro gb185 hg w47 hbox hb; have BK185 := Aside0.mk (hbox); have GW185 := zS (pB2 HB.out GE183.out GE184.out) hg; have GE185 := zS (pB2 HB.out GE183.out GE184.out) hg; have NB183_185 := zL BK183 hg; have NB185_183 := zM BK183 hg; have NB184_185 := zL BK184 hg; have NB185_184 := zM BK184 hg; replace BK183 := zK BK183 hb; replace BK184 := zK BK184 hb; replace HB := zW (pB2 HB.out GE183.out GE184.out) hb; clear hb hbox hg) | ((with_reducible refine gate_dst (N := 7) rfl ?_); refine zB 7 #[.int .i64 a3_0, .int .i64 a3_1] 91 ?_; intro gb186 hg w48 hbox hb; have BK186 := Aside0.mk (hbox); have GW186 := zS (pB3 HB.out GE183.out GE184.out GE185.out) hg; have GE186 := zS (pB3 HB.out GE183.out GE184.out GE185.out) hg; have NB183_186 := zL BK183 hg; have NB186_183 := zM BK183 hg; have NB184_186 := zL BK184 hg; have NB186_184 := zM BK184 hg; have NB185_186 := zL BK185 hg; have NB186_185 := zM BK185 hg; replace BK183 := zK BK183 hb; replace BK184 := zK BK184 hb; replace BK185 := zK BK185 hb; replace HB := zW (pB3 HB.out GE183.out GE184.out GE185.out) hb; clear hb hbox hg; have hnb49 := NB183_184.out; have hnc49 := NB184_183.out; have hnb50 := NB183_185.out; have hnc50 := NB185_183.out; have hnb51 := NB183_186.out; have hnc51 := NB186_183.out; obtain ⟨hcz52_0, hfz52_0, hcz52_1, hfz52_1⟩ := zw2 BK183; have hnb53 := NB184_185.out; have hnc53 := NB185_184.out; have hnb54 := NB184_186.out; have hnc54 := NB186_184.out; obtain ⟨hcz55_0, hfz55_0, hcz55_1, hfz55_1⟩ := zw2 BK184; have hnb56 := NB185_186.out; have hnc56 := NB186_185.out; obtain ⟨hcz57_0, hfz57_0, hcz57_1, hfz57_1⟩ := zw2 BK185; obtain ⟨hcz58_0, hfz58_0, hcz58_1, hfz58_1⟩ := zw2 BK186) | ((with_reducible refine gate_callee (f := 126) rfl ?_); refine goesL_ (some 13) rfl rfl Try.func126 (by kernel_rfl) rfl #[.agg #[.int .i64 a0_0, .int .i64 a0_1], .agg #[.int .i64 a1_0, .int .i64 a1_1], .agg #[.int .i64 a2_0, .int .i64 a2_1], .agg #[.int .i64 a3_0, .int .i64 a3_1]] rfl pA ?_; (with_reducible refine (spec_l02Crosses.calls a0_0 a0_1 a1_0 a1_1 a2_0 a2_1 a3_0 a3_1 false _ A5.out).mono ?_); rintro e w59 ⟨rfl, hb⟩; refine ⟨_, rfl, ?_⟩; replace BK183 := zK BK183 hb; replace BK184 := zK BK184 hb; replace BK185 := zK BK185 hb; replace BK186 := zK BK186 hb; replace HB := zW (pB4 HB.out GE183.out GE184.out GE185.out GE186.out) hb; (try clear hb); (try clear hb2); (try clear hk); (try clear hi); obtain ⟨hcz60_0, hfz60_0, hcz60_1, hfz60_1⟩ := zw2 BK183; obtain ⟨hcz61_0, hfz61_0, hcz61_1, hfz61_1⟩ := zw2 BK184; obtain ⟨hcz62_0, hfz62_0, hcz62_1, hfz62_1⟩ := zw2 BK185) | (go_at_call 88; (with_reducible refine (spec_l02On.calls a0_0 a0_1 a1_0 a1_1 a2_0 a2_1 false _ A22.out).mono ?_); rintro e w63 ⟨rfl, hb⟩; replace BK183 := zK BK183 hb; replace BK184 := zK BK184 hb; replace BK185 := zK BK185 hb; replace BK186 := zK BK186 hb; replace HB := zW (pB4 HB.out GE183.out GE184.out GE185.out GE186.out) hb; (try clear hb); (try clear hb2); (try clear hk); (try clear hi); obtain ⟨hcz64_0, hfz64_0, hcz64_1, hfz64_1⟩ := zw2 BK183; obtain ⟨hcz65_0, hfz65_0, hcz65_1, hfz65_1⟩ := zw2 BK184; obtain ⟨hcz66_0, hfz66_0, hcz66_1, hfz66_1⟩ := zw2 BK186) | (go_at_call 88; (with_reducible refine (spec_l02On.calls a0_0 a0_1 a1_0 a1_1 a3_0 a3_1 true _ A43.out).mono ?_); rintro e w67 ⟨rfl, hb⟩; replace BK183 := zK BK183 hb; replace BK184 := zK BK184 hb; replace BK185 := zK BK185 hb; replace BK186 := zK BK186 hb; replace HB := zW (pB4 HB.out GE183.out GE184.out GE185.out GE186.out) hb; (try clear hb); (try clear hb2); (try clear hk); (try clear hi)))
   go_ret
   exact ⟨zE, pB4 HB.out GE183.out GE184.out GE185.out GE186.out⟩
 replace c44 := Bool.eq_false_iff.mpr c44
 subst c44
 have H1 : ((spec_l02On.f a2_0 a2_1 a3_0 a3_1 a0_0 a0_1).bind fun t190 => (if t190 = true then (some true) else ((spec_l02On.f a2_0 a2_1 a3_0 a3_1 a1_0 a1_1).bind fun t191 => (some t191)))) = some r := by rw [if_neg (show ¬ (false = true) by decide)] at H; exact H
 clear H
 have H := H1
 clear H1
 replace H := Option.bind_eq_some_iff.mp H
 obtain ⟨t190, A680, H⟩ := H
 have A68 := Aside0.mk A680
 clear A680
 by_cases c69 : t190 = true
 · subst c69
   have H1 : (some true) = some r := by rw [if_pos rfl] at H; exact H
   clear H
   have H := H1
   clear H1
   obtain rfl := Option.some.inj H
   go_enter Try.func89, Try.ntmps89
   go_wp2_with (first | ((with_reducible refine gate_dst (N := 4) rfl ?_); refine zB 4 #[.int .i64 a0_0, .int .i64 a0_1] 91 ?_; intro gb183 hg w70 hbox hb; have BK183 := Aside0.mk (hbox); have GW183 := zS (pB0 HB.out) hg; have GE183 := zS (pB0 HB.out) hg; replace HB := zW (pB0 HB.out) hb; clear hb hbox hg) | ((with_reducible refine gate_dst (N := 5) rfl ?_); refine zB 5 #[.int .i64 a1_0, .int .i64 a1_1] 91 ?_; intro gb184 hg w71 hbox hb; have BK184 := Aside0.mk (hbox); have GW184 := zS (pB1 HB.out GE183.out) hg; have GE184 := zS (pB1 HB.out GE183.out) hg; have NB183_184 := zL BK183 hg; have NB184_183 := zM BK183 hg; replace BK183 := zK BK183 hb; replace HB := zW (pB1 HB.out GE183.out) hb; clear hb hbox hg) | ((with_reducible refine gate_dst (N := 6) rfl ?_); refine zB 6 #[.int .i64 a2_0, .int .i64 a2_1] 91 ?_; intro gb185 hg w72 hbox hb; have BK185 := Aside0.mk (hbox); have GW185 := zS (pB2 HB.out GE183.out GE184.out) hg; have GE185 := zS (pB2 HB.out GE183.out GE184.out) hg; have NB183_185 := zL BK183 hg; have NB185_183 := zM BK183 hg; have NB184_185 := zL BK184 hg; have NB185_184 := zM BK184 hg; replace BK183 := zK BK183 hb; replace BK184 := zK BK184 hb; replace HB := zW (pB2 HB.out GE183.out GE184.out) hb; clear hb hbox hg) | ((with_reducible refine gate_dst (N := 7) rfl ?_); refine zB 7 #[.int .i64 a3_0, .int .i64 a3_1] 91 ?_; intro gb186 hg w73 hbox hb; have BK186 := Aside0.mk (hbox); have GW186 := zS (pB3 HB.out GE183.out GE184.out GE185.out) hg; have GE186 := zS (pB3 HB.out GE183.out GE184.out GE185.out) hg; have NB183_186 := zL BK183 hg; have NB186_183 := zM BK183 hg; have NB184_186 := zL BK184 hg; have NB186_184 := zM BK184 hg; have NB185_186 := zL BK185 hg; have NB186_185 := zM BK185 hg; replace BK183 := zK BK183 hb; replace BK184 := zK BK184 hb; replace BK185 := zK BK185 hb; replace HB := zW (pB3 HB.out GE183.out GE184.out GE185.out) hb; clear hb hbox hg; have hnb74 := NB183_184.out; have hnc74 := NB184_183.out; have hnb75 := NB183_185.out; have hnc75 := NB185_183.out; have hnb76 := NB183_186.out; have hnc76 := NB186_183.out; obtain ⟨hcz77_0, hfz77_0, hcz77_1, hfz77_1⟩ := zw2 BK183; have hnb78 := NB184_185.out; have hnc78 := NB185_184.out; have hnb79 := NB184_186.out; have hnc79 := NB186_184.out; obtain ⟨hcz80_0, hfz80_0, hcz80_1, hfz80_1⟩ := zw2 BK184; have hnb81 := NB185_186.out; have hnc81 := NB186_185.out; obtain ⟨hcz82_0, hfz82_0, hcz82_1, hfz82_1⟩ := zw2 BK185; obtain ⟨hcz83_0, hfz83_0, hcz83_1, hfz83_1⟩ := zw2 BK186) | ((with_reducible refine gate_callee (f := 126) rfl ?_); refine goesL_ (some 13) rfl rfl Try.func126 (by kernel_rfl) rfl #[.agg #[.int .i64 a0_0, .int .i64 a0_1], .agg #[.int .i64 a1_0, .int .i64 a1_1], .agg #[.int .i64 a2_0, .int .i64 a2_1], .agg #[.int .i64 a3_0, .int .i64 a3_1]] rfl pA ?_; (with_reducible refine (spec_l02Crosses.calls a0_0 a0_1 a1_0 a1_1 a2_0 a2_1 a3_0 a3_1 false _ A5.out).mono ?_); rintro e w84 ⟨rfl, hb⟩; refine ⟨_, rfl, ?_⟩; replace BK183 := zK BK183 hb; replace BK184 := zK BK184 hb; replace BK185 := zK BK185 hb; replace BK186 := zK BK186 hb; replace HB := zW (pB4 HB.out GE183.out GE184.out GE185.out GE186.out) hb; (try clear hb); (try clear hb2); (try clear hk); (try clear hi); obtain ⟨hcz85_0, hfz85_0, hcz85_1, hfz85_1⟩ := zw2 BK183; obtain ⟨hcz86_0, hfz86_0, hcz86_1, hfz86_1⟩ := zw2 BK184; obtain ⟨hcz87_0, hfz87_0, hcz87_1, hfz87_1⟩ := zw2 BK185) | (go_at_call 88; (with_reducible refine (spec_l02On.calls a0_0 a0_1 a1_0 a1_1 a2_0 a2_1 false _ A22.out).mono ?_); rintro e w88 ⟨rfl, hb⟩; replace BK183 := zK BK183 hb; replace BK184 := zK BK184 hb; replace BK185 := zK BK185 hb; replace BK186 := zK BK186 hb; replace HB := zW (pB4 HB.out GE183.out GE184.out GE185.out GE186.out) hb; (try clear hb); (try clear hb2); (try clear hk); (try clear hi); obtain ⟨hcz89_0, hfz89_0, hcz89_1, hfz89_1⟩ := zw2 BK183; obtain ⟨hcz90_0, hfz90_0, hcz90_1, hfz90_1⟩ := zw2 BK184; obtain ⟨hcz91_0, hfz91_0, hcz91_1, hfz91_1⟩ := zw2 BK186) | (go_at_call 88; (with_reducible refine (spec_l02On.calls a0_0 a0_1 a1_0 a1_1 a3_0 a3_1 false _ A43.out).mono ?_); rintro e w92 ⟨rfl, hb⟩; replace BK183 := zK BK183 hb; replace BK184 := zK BK184 hb; replace BK185 := zK BK185 hb; replace BK186 := zK BK186 hb; replace HB := zW (pB4 HB.out GE183.out GE184.out GE185.out GE186.out) hb; (try clear hb); (try clear hb2); (try clear hk); (try clear hi); obtain ⟨hcz93_0, hfz93_0, hcz93_1, hfz93_1⟩ := zw2 BK185; obtain ⟨hcz94_0, hfz94_0, hcz94_1, hfz94_1⟩ := zw2 BK186; obtain ⟨hcz95_0, hfz95_0, hcz95_1, hfz95_1⟩ := zw2 BK183) | (go_at_call 88; (with_reducible refine (spec_l02On.calls a2_0 a2_1 a3_0 a3_1 a0_0 a0_1 true _ A68.out).mono ?_); rintro e w96 ⟨rfl, hb⟩; replace BK183 := zK BK183 hb; replace BK184 := zK BK184 hb; replace BK185 := zK BK185 hb; replace BK186 := zK BK186 hb; replace HB := zW (pB4 HB.out GE183.out GE184.out GE185.out GE186.out) hb; (try clear hb); (try clear hb2); (try clear hk); (try clear hi)))
   go_ret
   exact ⟨zE, pB4 HB.out GE183.out GE184.out GE185.out GE186.out⟩
 replace c69 := Bool.eq_false_iff.mpr c69
 subst c69
 have H1 : ((spec_l02On.f a2_0 a2_1 a3_0 a3_1 a1_0 a1_1).bind fun t191 => (some t191)) = some r := by rw [if_neg (show ¬ (false = true) by decide)] at H; exact H
 clear H
 have H := H1
 clear H1
 replace H := Option.bind_eq_some_iff.mp H
 obtain ⟨t191, A970, H⟩ := H
 have A97 := Aside0.mk A970
 clear A970
 obtain rfl := Option.some.inj H
 go_enter Try.func89, Try.ntmps89
 go_wp2_with (first | ((with_reducible refine gate_dst (N := 4) rfl ?_); refine zB 4 #[.int .i64 a0_0, .int .i64 a0_1] 91 ?_; intro gb183 hg w98 hbox hb; have BK183 := Aside0.mk (hbox); have GW183 := zS (pB0 HB.out) hg; have GE183 := zS (pB0 HB.out) hg; replace HB := zW (pB0 HB.out) hb; clear hb hbox hg) | ((with_reducible refine gate_dst (N := 5) rfl ?_); refine zB 5 #[.int .i64 a1_0, .int .i64 a1_1] 91 ?_; intro gb184 hg w99 hbox hb; have BK184 := Aside0.mk (hbox); have GW184 := zS (pB1 HB.out GE183.out) hg; have GE184 := zS (pB1 HB.out GE183.out) hg; have NB183_184 := zL BK183 hg; have NB184_183 := zM BK183 hg; replace BK183 := zK BK183 hb; replace HB := zW (pB1 HB.out GE183.out) hb; clear hb hbox hg) | ((with_reducible refine gate_dst (N := 6) rfl ?_); refine zB 6 #[.int .i64 a2_0, .int .i64 a2_1] 91 ?_; intro gb185 hg w100 hbox hb; have BK185 := Aside0.mk (hbox); have GW185 := zS (pB2 HB.out GE183.out GE184.out) hg; have GE185 := zS (pB2 HB.out GE183.out GE184.out) hg; have NB183_185 := zL BK183 hg; have NB185_183 := zM BK183 hg; have NB184_185 := zL BK184 hg; have NB185_184 := zM BK184 hg; replace BK183 := zK BK183 hb; replace BK184 := zK BK184 hb; replace HB := zW (pB2 HB.out GE183.out GE184.out) hb; clear hb hbox hg) | ((with_reducible refine gate_dst (N := 7) rfl ?_); refine zB 7 #[.int .i64 a3_0, .int .i64 a3_1] 91 ?_; intro gb186 hg w101 hbox hb; have BK186 := Aside0.mk (hbox); have GW186 := zS (pB3 HB.out GE183.out GE184.out GE185.out) hg; have GE186 := zS (pB3 HB.out GE183.out GE184.out GE185.out) hg; have NB183_186 := zL BK183 hg; have NB186_183 := zM BK183 hg; have NB184_186 := zL BK184 hg; have NB186_184 := zM BK184 hg; have NB185_186 := zL BK185 hg; have NB186_185 := zM BK185 hg; replace BK183 := zK BK183 hb; replace BK184 := zK BK184 hb; replace BK185 := zK BK185 hb; replace HB := zW (pB3 HB.out GE183.out GE184.out GE185.out) hb; clear hb hbox hg; have hnb102 := NB183_184.out; have hnc102 := NB184_183.out; have hnb103 := NB183_185.out; have hnc103 := NB185_183.out; have hnb104 := NB183_186.out; have hnc104 := NB186_183.out; obtain ⟨hcz105_0, hfz105_0, hcz105_1, hfz105_1⟩ := zw2 BK183; have hnb106 := NB184_185.out; have hnc106 := NB185_184.out; have hnb107 := NB184_186.out; have hnc107 := NB186_184.out; obtain ⟨hcz108_0, hfz108_0, hcz108_1, hfz108_1⟩ := zw2 BK184; have hnb109 := NB185_186.out; have hnc109 := NB186_185.out; obtain ⟨hcz110_0, hfz110_0, hcz110_1, hfz110_1⟩ := zw2 BK185; obtain ⟨hcz111_0, hfz111_0, hcz111_1, hfz111_1⟩ := zw2 BK186) | ((with_reducible refine gate_callee (f := 126) rfl ?_); refine goesL_ (some 13) rfl rfl Try.func126 (by kernel_rfl) rfl #[.agg #[.int .i64 a0_0, .int .i64 a0_1], .agg #[.int .i64 a1_0, .int .i64 a1_1], .agg #[.int .i64 a2_0, .int .i64 a2_1], .agg #[.int .i64 a3_0, .int .i64 a3_1]] rfl pA ?_; (with_reducible refine (spec_l02Crosses.calls a0_0 a0_1 a1_0 a1_1 a2_0 a2_1 a3_0 a3_1 false _ A5.out).mono ?_); rintro e w112 ⟨rfl, hb⟩; refine ⟨_, rfl, ?_⟩; replace BK183 := zK BK183 hb; replace BK184 := zK BK184 hb; replace BK185 := zK BK185 hb; replace BK186 := zK BK186 hb; replace HB := zW (pB4 HB.out GE183.out GE184.out GE185.out GE186.out) hb; (try clear hb); (try clear hb2); (try clear hk); (try clear hi); obtain ⟨hcz113_0, hfz113_0, hcz113_1, hfz113_1⟩ := zw2 BK183; obtain ⟨hcz114_0, hfz114_0, hcz114_1, hfz114_1⟩ := zw2 BK184; obtain ⟨hcz115_0, hfz115_0, hcz115_1, hfz115_1⟩ := zw2 BK185) | (go_at_call 88; (with_reducible refine (spec_l02On.calls a0_0 a0_1 a1_0 a1_1 a2_0 a2_1 false _ A22.out).mono ?_); rintro e w116 ⟨rfl, hb⟩; replace BK183 := zK BK183 hb; replace BK184 := zK BK184 hb; replace BK185 := zK BK185 hb; replace BK186 := zK BK186 hb; replace HB := zW (pB4 HB.out GE183.out GE184.out GE185.out GE186.out) hb; (try clear hb); (try clear hb2); (try clear hk); (try clear hi); obtain ⟨hcz117_0, hfz117_0, hcz117_1, hfz117_1⟩ := zw2 BK183; obtain ⟨hcz118_0, hfz118_0, hcz118_1, hfz118_1⟩ := zw2 BK184; obtain ⟨hcz119_0, hfz119_0, hcz119_1, hfz119_1⟩ := zw2 BK186) | (go_at_call 88; (with_reducible refine (spec_l02On.calls a0_0 a0_1 a1_0 a1_1 a3_0 a3_1 false _ A43.out).mono ?_); rintro e w120 ⟨rfl, hb⟩; replace BK183 := zK BK183 hb; replace BK184 := zK BK184 hb; replace BK185 := zK BK185 hb; replace BK186 := zK BK186 hb; replace HB := zW (pB4 HB.out GE183.out GE184.out GE185.out GE186.out) hb; (try clear hb); (try clear hb2); (try clear hk); (try clear hi); obtain ⟨hcz121_0, hfz121_0, hcz121_1, hfz121_1⟩ := zw2 BK185; obtain ⟨hcz122_0, hfz122_0, hcz122_1, hfz122_1⟩ := zw2 BK186; obtain ⟨hcz123_0, hfz123_0, hcz123_1, hfz123_1⟩ := zw2 BK183) | (go_at_call 88; (with_reducible refine (spec_l02On.calls a2_0 a2_1 a3_0 a3_1 a0_0 a0_1 false _ A68.out).mono ?_); rintro e w124 ⟨rfl, hb⟩; replace BK183 := zK BK183 hb; replace BK184 := zK BK184 hb; replace BK185 := zK BK185 hb; replace BK186 := zK BK186 hb; replace HB := zW (pB4 HB.out GE183.out GE184.out GE185.out GE186.out) hb; (try clear hb); (try clear hb2); (try clear hk); (try clear hi); obtain ⟨hcz125_0, hfz125_0, hcz125_1, hfz125_1⟩ := zw2 BK185; obtain ⟨hcz126_0, hfz126_0, hcz126_1, hfz126_1⟩ := zw2 BK186; obtain ⟨hcz127_0, hfz127_0, hcz127_1, hfz127_1⟩ := zw2 BK184) | (go_at_call 88; (with_reducible refine (spec_l02On.calls a2_0 a2_1 a3_0 a3_1 a1_0 a1_1 t191 _ A97.out).mono ?_); rintro e w128 ⟨rfl, hb⟩; replace BK183 := zK BK183 hb; replace BK184 := zK BK184 hb; replace BK185 := zK BK185 hb; replace BK186 := zK BK186 hb; replace HB := zW (pB4 HB.out GE183.out GE184.out GE185.out GE186.out) hb; (try clear hb); (try clear hb2); (try clear hk); (try clear hi)))
 go_ret
 exact ⟨zE, pB4 HB.out GE183.out GE184.out GE185.out GE186.out⟩
def spec_l03Area.l0 : Nat → List (S91) → Int → Int → Option (Int)
 | 0, _, _, _ => none
 | k + 1, x0, x3, x4 => if x4 < (x0.length : Int) then (if (x0.length : Int) = 0 then (none) else (if 0 ≤ (Int.tmod (wrap64 (x4 + 1)) (x0.length : Int)) then (if (Int.tmod (wrap64 (x4 + 1)) (x0.length : Int)) < (x0.length : Int) then (if 0 ≤ x4 then (spec_l03Area.l0 k x0 (wrap64 (x3 + (wrap64 ((wrap64 (((rd_T91 x0 x4).f0) * ((rd_T91 x0 (Int.tmod (wrap64 (x4 + 1)) (x0.length : Int))).f1))) - (wrap64 (((rd_T91 x0 x4).f1) * ((rd_T91 x0 (Int.tmod (wrap64 (x4 + 1)) (x0.length : Int))).f0))))))) (wrap64 (x4 + 1))) else (none)) else (none)) else (none))) else (some x3)
def spec_l03Area.f (k : Nat) (l0 : List (S91)) : Option (Int) := spec_l03Area.l0 k l0 0 0
theorem spec_l03Area.mono_l : ∀ k, (∀ y0 y1 y2, LeO (spec_l03Area.l0 k y0 y1 y2) (spec_l03Area.l0 (k + 1) y0 y1 y2))
 | 0 => fun _ _ _ r h => by simp [spec_l03Area.l0] at h
 | k + 1 => by
   have ih0 := spec_l03Area.mono_l k
   · intro y0 y1 y2
     unfold spec_l03Area.l0
     repeat' first
     | (with_reducible exact ih0 _ _ _)
     | (with_reducible exact LeO.refl _)
     | (with_reducible exact LeO.none _)
     | (with_reducible refine LeO.ite ?_ ?_)
     | (with_reducible refine LeO.bind ?_ (fun _ => ?_))
     | exact ih0 _ _ _
     | exact LeO.none _
     | refine LeO.ite ?_ ?_
     | refine LeO.bind ?_ (fun _ => ?_)
theorem spec_l03Area.mono : ∀ a0 k, LeO (spec_l03Area.f k a0) (spec_l03Area.f (k + 1) a0) := by
 intro a0 k
 have ih0 := spec_l03Area.mono_l k
 unfold spec_l03Area.f
 repeat' first
  | (with_reducible exact ih0 _ _ _)
  | (with_reducible exact LeO.refl _)
  | (with_reducible exact LeO.none _)
  | (with_reducible refine LeO.ite ?_ ?_)
  | (with_reducible refine LeO.bind ?_ (fun _ => ?_))
  | exact ih0 _ _ _
  | exact LeO.none _
  | refine LeO.ite ?_ ?_
  | refine LeO.bind ?_ (fun _ => ?_)
set_option maxHeartbeats 8000000 in
set_option maxRecDepth 100000 in
theorem spec_l03Area.calls (k : Nat) (A0 : Option Addr) (c0 : Nat) (l0 : List (S91)) (r : Int) (w : World) (hr0 : Kd.C k91 w A0 l0.length l0) (hc0 : l0.length ≤ c0) (h : spec_l03Area.f k l0 = some r) :
 Calls Try.prog 90 #[.slice A0 l0.length c0] w fun e w' => e = .returned (.int .i64 r) ∧ Below w.heap.size w w' := by
 have hu91 := Try.underlying91
 have HR0 := Aside0.mk hr0
 have HC0 := Aside0.mk hc0
 clear hr0 hc0
 have HB := Aside0.mk (Below.refl w.heap.size w)
 have H : (spec_l03Area.l0 k l0 0 0) = some r := h
 clear h
 have H' := Aside0.mk H
 clear H
 go_enter Try.func90, Try.ntmps90
 go_wp2
 repeat (go_quiet (fail); try go_wp2)
 go_loopg [3, 4] k (fun kq v3 v4 w' => ∃ (x3_1 : Int) (x4_1 : Int), v3 = .int .i64 x3_1 ∧ v4 = .int .i64 x4_1 ∧ Aside0 (spec_l03Area.l0 kq l0 x3_1 x4_1 = some r) ∧ Aside0 (kq ≤ k) ∧ Aside0 (Below w.heap.size w w'))
 case atStart => exact ⟨(0), (0), zR, zR, H', ⟨Nat.le_refl _⟩, ⟨pB0 HB.out⟩⟩
 case round =>
  clear H'
  obtain ⟨x3_1, x4_1, rfl, rfl, HA, HK1, HB⟩ := hrel
  cases gk with
  | zero => exact absurd HA.out (by simp [spec_l03Area.l0])
  | succ k1 =>
    have H := HA.out
    clear HA
    simp only [spec_l03Area.l0] at H
    by_cases c2 : x4_1 < (l0.length : Int)
    rotate_left
    · rw [if_neg c2] at H
      have c2b0 : decide (x4_1 < (l0.length : Int)) = false := decide_eq_false c2
      clear c2
      obtain rfl := Option.some.inj H
      go_wp2
      repeat (go_quiet (fail); try go_wp2)
      go_ret
      exact ⟨zE, pB0 HB.out⟩
    rw [if_pos c2] at H
    have c2b0 := decide_eq_true c2
    clear c2
    by_cases c3 : (l0.length : Int) = 0
    · rw [if_pos c3] at H
      exact absurd H (by simp)
    rw [if_neg c3] at H
    have c3b0 : ((l0.length : Int) == 0) = false := beq_eq_false_iff_ne.mpr c3
    have c3b1 : ((l0.length : Int) != 0) = true := bne_iff_ne.mpr c3
    have c3b2 : ¬ (l0 = []) := fun h_ => c3 (by rw [h_]; rfl)
    obtain ⟨ji4, hji4⟩ : ∃ j_ : Int, (Int.tmod (wrap64 (x4_1 + 1)) (l0.length : Int)) = j_ := ⟨_, rfl⟩
    replace H : (if 0 ≤ (ji4) then (if (ji4) < (l0.length : Int) then (if 0 ≤ x4_1 then (spec_l03Area.l0 k1 l0 (wrap64 (x3_1 + (wrap64 ((wrap64 (((rd_T91 l0 x4_1).f0) * ((rd_T91 l0 (ji4)).f1))) - (wrap64 (((rd_T91 l0 x4_1).f1) * ((rd_T91 l0 (ji4)).f0))))))) (wrap64 (x4_1 + 1))) else (none)) else (none)) else (none)) = some r := by first | (rw [hji4] at H; exact H) | (simp only [hji4] at H ⊢; exact H)
    by_cases c5 : 0 ≤ (ji4)
    rotate_left
    · rw [if_neg c5] at H
      exact absurd H (by simp)
    rw [if_pos c5] at H
    have c5b0 := decide_eq_true c5
    clear c5
    by_cases c6 : (ji4) < (l0.length : Int)
    rotate_left
    · rw [if_neg c6] at H
      exact absurd H (by simp)
    rw [if_pos c6] at H
    have c6b0 := decide_eq_true c6
    clear c6
    by_cases c7 : 0 ≤ x4_1
    rotate_left
    · rw [if_neg c7] at H
      exact absurd H (by simp)
    rw [if_pos c7] at H
    have c7b0 := decide_eq_true c7
    clear c7
    have H' := Aside0.mk H
    clear H
    have p192 : 0 ≤ ((ji4) : Int) := zD
    have q192 : (ji4) < (l0.length : Int) := zD
    obtain ⟨ad192, e192, hx192_0, hx192_1⟩ := at_T91 HR0.out (ji4) p192 q192
    cases e192
    try replace hx192_0 := zH HB hx192_0
    try replace hx192_1 := zH HB hx192_1
    replace p192 := eq_true p192
    replace q192 := eq_true q192
    go_wp2_with (first | ((with_reducible refine gate_dst (N := 5) rfl ?_); refine zB 5 #[.int .i64 0, .int .i64 0] 91 ?_; intro gb193 hg w8 hbox hb; have BK193 := Aside0.mk (hbox); have GW193 := zS (pB0 HB.out) hg; have GE193 := zS (pB0 HB.out) hg; replace HB := zW (pB0 HB.out) hb; clear hb hbox hg; obtain ⟨hcz9_0, hfz9_0, hcz9_1, hfz9_1⟩ := zw2 BK193; have p194 : 0 ≤ (x4_1 : Int) := zD; have q194 : x4_1 < (l0.length : Int) := zD; obtain ⟨ad194, e194, hx194_0, hx194_1⟩ := at_T91 HR0.out x4_1 p194 q194; obtain rfl : ad192 = ad194 := (by injection e194); have hn194_0 : ad192.block ≠ gb193 := Nat.ne_of_lt (Nat.lt_of_lt_of_le (by have := World.block_lt_of_cell? _ _ hx194_0; first | rwa [add_block] at this | exact this) GW193.out); have hn194_1 : ad192.block ≠ gb193 := Nat.ne_of_lt (Nat.lt_of_lt_of_le (by have := World.block_lt_of_cell? _ _ hx194_0; first | rwa [add_block] at this | exact this) GW193.out); try replace hx194_0 := zH HB hx194_0; try replace hx194_1 := zH HB hx194_1; replace hx194_0 := (cell_far (p := ⟨gb193, 0, none⟩) (by first | (rw [add_block]; exact hn194_0) | (show (Addr.add _ _).block ≠ _; rw [add_block]; exact hn194_0) | exact hn194_0) (.int .i64 ((rd_T91 l0 (ji4)).f0))).trans hx194_0; replace hx194_1 := (cell_far (p := ⟨gb193, 0, none⟩) (by first | (rw [add_block]; exact hn194_0) | (show (Addr.add _ _).block ≠ _; rw [add_block]; exact hn194_0) | exact hn194_0) (.int .i64 ((rd_T91 l0 (ji4)).f0))).trans hx194_1; replace hx194_0 := (cell_far (p := ⟨gb193, 1, none⟩) (by first | (rw [add_block]; exact hn194_1) | (show (Addr.add _ _).block ≠ _; rw [add_block]; exact hn194_1) | exact hn194_1) (.int .i64 ((rd_T91 l0 (ji4)).f1))).trans hx194_0; replace hx194_1 := (cell_far (p := ⟨gb193, 1, none⟩) (by first | (rw [add_block]; exact hn194_1) | (show (Addr.add _ _).block ≠ _; rw [add_block]; exact hn194_1) | exact hn194_1) (.int .i64 ((rd_T91 l0 (ji4)).f1))).trans hx194_1; (try have hy194_0 := fun (n_ : Nat) => (show ((((w8.drewN n_).setCell ⟨gb193, 0, none⟩ (.int .i64 ((rd_T91 l0 (ji4)).f0))).setCell ⟨gb193, 1, none⟩ (.int .i64 ((rd_T91 l0 (ji4)).f1)))).cell? _ = some _ from hx194_0)); (try have hy194_1 := fun (n_ : Nat) => (show ((((w8.drewN n_).setCell ⟨gb193, 0, none⟩ (.int .i64 ((rd_T91 l0 (ji4)).f0))).setCell ⟨gb193, 1, none⟩ (.int .i64 ((rd_T91 l0 (ji4)).f1)))).cell? _ = some _ from hx194_1)); clear hn194_0; clear hn194_1; replace p194 := eq_true p194; replace q194 := eq_true q194; have p195 : 0 ≤ (x4_1 : Int) := zD; have q195 : x4_1 < (l0.length : Int) := zD; obtain ⟨ad195, e195, hx195_0, hx195_1⟩ := at_T91 HR0.out x4_1 p195 q195; obtain rfl : ad192 = ad195 := (by injection e195); have hn195_0 : ad192.block ≠ gb193 := Nat.ne_of_lt (Nat.lt_of_lt_of_le (by have := World.block_lt_of_cell? _ _ hx195_0; first | rwa [add_block] at this | exact this) GW193.out); have hn195_1 : ad192.block ≠ gb193 := Nat.ne_of_lt (Nat.lt_of_lt_of_le (by have := World.block_lt_of_cell? _ _ hx195_0; first | rwa [add_block] at this | exact this) GW193.out); try replace hx195_0 := zH HB hx195_0; try replace hx195_1 := zH HB hx195_1; replace hx195_0 := (cell_far (p := ⟨gb193, 0, none⟩) (by first | (rw [add_block]; exact hn195_0) | (show (Addr.add _ _).block ≠ _; rw [add_block]; exact hn195_0) | exact hn195_0) (.int .i64 ((rd_T91 l0 (ji4)).f0))).trans hx195_0; replace hx195_1 := (cell_far (p := ⟨gb193, 0, none⟩) (by first | (rw [add_block]; exact hn195_0) | (show (Addr.add _ _).block ≠ _; rw [add_block]; exact hn195_0) | exact hn195_0) (.int .i64 ((rd_T91 l0 (ji4)).f0))).trans hx195_1; replace hx195_0 := (cell_far (p := ⟨gb193, 1, none⟩) (by first | (rw [add_block]; exact hn195_1) | (show (Addr.add _ _).block ≠ _; rw [add_block]; exact hn195_1) | exact hn195_1) (.int .i64 ((rd_T91 l0 (ji4)).f1))).trans hx195_0; replace hx195_1 := (cell_far (p := ⟨gb193, 1, none⟩) (by first | (rw [add_block]; exact hn195_1) | (show (Addr.add _ _).block ≠ _; rw [add_block]; exact hn195_1) | exact hn195_1) (.int .i64 ((rd_T91 l0 (ji4)).f1))).trans hx195_1; (try have hy195_0 := fun (n_ : Nat) => (show ((((w8.drewN n_).setCell ⟨gb193, 0, none⟩ (.int .i64 ((rd_T91 l0 (ji4)).f0))).setCell ⟨gb193, 1, none⟩ (.int .i64 ((rd_T91 l0 (ji4)).f1)))).cell? _ = some _ from hx195_0)); (try have hy195_1 := fun (n_ : Nat) => (show ((((w8.drewN n_).setCell ⟨gb193, 0, none⟩ (.int .i64 ((rd_T91 l0 (ji4)).f0))).setCell ⟨gb193, 1, none⟩ (.int .i64 ((rd_T91 l0 (ji4)).f1)))).cell? _ = some _ from hx195_1)); clear hn195_0; clear hn195_1; replace p195 := eq_true p195; replace q195 := eq_true q195))
    repeat (go_quiet (first | ((with_reducible refine gate_dst (N := 5) rfl ?_); refine zB 5 #[.int .i64 0, .int .i64 0] 91 ?_; intro gb193 hg w8 hbox hb; have BK193 := Aside0.mk (hbox); have GW193 := zS (pB0 HB.out) hg; have GE193 := zS (pB0 HB.out) hg; replace HB := zW (pB0 HB.out) hb; clear hb hbox hg; obtain ⟨hcz9_0, hfz9_0, hcz9_1, hfz9_1⟩ := zw2 BK193; have p194 : 0 ≤ (x4_1 : Int) := zD; have q194 : x4_1 < (l0.length : Int) := zD; obtain ⟨ad194, e194, hx194_0, hx194_1⟩ := at_T91 HR0.out x4_1 p194 q194; obtain rfl : ad192 = ad194 := (by injection e194); have hn194_0 : ad192.block ≠ gb193 := Nat.ne_of_lt (Nat.lt_of_lt_of_le (by have := World.block_lt_of_cell? _ _ hx194_0; first | rwa [add_block] at this | exact this) GW193.out); have hn194_1 : ad192.block ≠ gb193 := Nat.ne_of_lt (Nat.lt_of_lt_of_le (by have := World.block_lt_of_cell? _ _ hx194_0; first | rwa [add_block] at this | exact this) GW193.out); try replace hx194_0 := zH HB hx194_0; try replace hx194_1 := zH HB hx194_1; replace hx194_0 := (cell_far (p := ⟨gb193, 0, none⟩) (by first | (rw [add_block]; exact hn194_0) | (show (Addr.add _ _).block ≠ _; rw [add_block]; exact hn194_0) | exact hn194_0) (.int .i64 ((rd_T91 l0 (ji4)).f0))).trans hx194_0; replace hx194_1 := (cell_far (p := ⟨gb193, 0, none⟩) (by first | (rw [add_block]; exact hn194_0) | (show (Addr.add _ _).block ≠ _; rw [add_block]; exact hn194_0) | exact hn194_0) (.int .i64 ((rd_T91 l0 (ji4)).f0))).trans hx194_1; replace hx194_0 := (cell_far (p := ⟨gb193, 1, none⟩) (by first | (rw [add_block]; exact hn194_1) | (show (Addr.add _ _).block ≠ _; rw [add_block]; exact hn194_1) | exact hn194_1) (.int .i64 ((rd_T91 l0 (ji4)).f1))).trans hx194_0; replace hx194_1 := (cell_far (p := ⟨gb193, 1, none⟩) (by first | (rw [add_block]; exact hn194_1) | (show (Addr.add _ _).block ≠ _; rw [add_block]; exact hn194_1) | exact hn194_1) (.int .i64 ((rd_T91 l0 (ji4)).f1))).trans hx194_1; (try have hy194_0 := fun (n_ : Nat) => (show ((((w8.drewN n_).setCell ⟨gb193, 0, none⟩ (.int .i64 ((rd_T91 l0 (ji4)).f0))).setCell ⟨gb193, 1, none⟩ (.int .i64 ((rd_T91 l0 (ji4)).f1)))).cell? _ = some _ from hx194_0)); (try have hy194_1 := fun (n_ : Nat) => (show ((((w8.drewN n_).setCell ⟨gb193, 0, none⟩ (.int .i64 ((rd_T91 l0 (ji4)).f0))).setCell ⟨gb193, 1, none⟩ (.int .i64 ((rd_T91 l0 (ji4)).f1)))).cell? _ = some _ from hx194_1)); clear hn194_0; clear hn194_1; replace p194 := eq_true p194; replace q194 := eq_true q194; have p195 : 0 ≤ (x4_1 : Int) := zD; have q195 : x4_1 < (l0.length : Int) := zD; obtain ⟨ad195, e195, hx195_0, hx195_1⟩ := at_T91 HR0.out x4_1 p195 q195; obtain rfl : ad192 = ad195 := (by injection e195); have hn195_0 : ad192.block ≠ gb193 := Nat.ne_of_lt (Nat.lt_of_lt_of_le (by have := World.block_lt_of_cell? _ _ hx195_0; first | rwa [add_block] at this | exact this) GW193.out); have hn195_1 : ad192.block ≠ gb193 := Nat.ne_of_lt (Nat.lt_of_lt_of_le (by have := World.block_lt_of_cell? _ _ hx195_0; first | rwa [add_block] at this | exact this) GW193.out); try replace hx195_0 := zH HB hx195_0; try replace hx195_1 := zH HB hx195_1; replace hx195_0 := (cell_far (p := ⟨gb193, 0, none⟩) (by first | (rw [add_block]; exact hn195_0) | (show (Addr.add _ _).block ≠ _; rw [add_block]; exact hn195_0) | exact hn195_0) (.int .i64 ((rd_T91 l0 (ji4)).f0))).trans hx195_0; replace hx195_1 := (cell_far (p := ⟨gb193, 0, none⟩) (by first | (rw [add_block]; exact hn195_0) | (show (Addr.add _ _).block ≠ _; rw [add_block]; exact hn195_0) | exact hn195_0) (.int .i64 ((rd_T91 l0 (ji4)).f0))).trans hx195_1; replace hx195_0 := (cell_far (p := ⟨gb193, 1, none⟩) (by first | (rw [add_block]; exact hn195_1) | (show (Addr.add _ _).block ≠ _; rw [add_block]; exact hn195_1) | exact hn195_1) (.int .i64 ((rd_T91 l0 (ji4)).f1))).trans hx195_0; replace hx195_1 := (cell_far (p := ⟨gb193, 1, none⟩) (by first | (rw [add_block]; exact hn195_1) | (show (Addr.add _ _).block ≠ _; rw [add_block]; exact hn195_1) | exact hn195_1) (.int .i64 ((rd_T91 l0 (ji4)).f1))).trans hx195_1; (try have hy195_0 := fun (n_ : Nat) => (show ((((w8.drewN n_).setCell ⟨gb193, 0, none⟩ (.int .i64 ((rd_T91 l0 (ji4)).f0))).setCell ⟨gb193, 1, none⟩ (.int .i64 ((rd_T91 l0 (ji4)).f1)))).cell? _ = some _ from hx195_0)); (try have hy195_1 := fun (n_ : Nat) => (show ((((w8.drewN n_).setCell ⟨gb193, 0, none⟩ (.int .i64 ((rd_T91 l0 (ji4)).f0))).setCell ⟨gb193, 1, none⟩ (.int .i64 ((rd_T91 l0 (ji4)).f1)))).cell? _ = some _ from hx195_1)); clear hn195_0; clear hn195_1; replace p195 := eq_true p195; replace q195 := eq_true q195)); try go_wp2_with (first | ((with_reducible refine gate_dst (N := 5) rfl ?_); refine zB 5 #[.int .i64 0, .int .i64 0] 91 ?_; intro gb193 hg w8 hbox hb; have BK193 := Aside0.mk (hbox); have GW193 := zS (pB0 HB.out) hg; have GE193 := zS (pB0 HB.out) hg; replace HB := zW (pB0 HB.out) hb; clear hb hbox hg; obtain ⟨hcz9_0, hfz9_0, hcz9_1, hfz9_1⟩ := zw2 BK193; have p194 : 0 ≤ (x4_1 : Int) := zD; have q194 : x4_1 < (l0.length : Int) := zD; obtain ⟨ad194, e194, hx194_0, hx194_1⟩ := at_T91 HR0.out x4_1 p194 q194; obtain rfl : ad192 = ad194 := (by injection e194); have hn194_0 : ad192.block ≠ gb193 := Nat.ne_of_lt (Nat.lt_of_lt_of_le (by have := World.block_lt_of_cell? _ _ hx194_0; first | rwa [add_block] at this | exact this) GW193.out); have hn194_1 : ad192.block ≠ gb193 := Nat.ne_of_lt (Nat.lt_of_lt_of_le (by have := World.block_lt_of_cell? _ _ hx194_0; first | rwa [add_block] at this | exact this) GW193.out); try replace hx194_0 := zH HB hx194_0; try replace hx194_1 := zH HB hx194_1; replace hx194_0 := (cell_far (p := ⟨gb193, 0, none⟩) (by first | (rw [add_block]; exact hn194_0) | (show (Addr.add _ _).block ≠ _; rw [add_block]; exact hn194_0) | exact hn194_0) (.int .i64 ((rd_T91 l0 (ji4)).f0))).trans hx194_0; replace hx194_1 := (cell_far (p := ⟨gb193, 0, none⟩) (by first | (rw [add_block]; exact hn194_0) | (show (Addr.add _ _).block ≠ _; rw [add_block]; exact hn194_0) | exact hn194_0) (.int .i64 ((rd_T91 l0 (ji4)).f0))).trans hx194_1; replace hx194_0 := (cell_far (p := ⟨gb193, 1, none⟩) (by first | (rw [add_block]; exact hn194_1) | (show (Addr.add _ _).block ≠ _; rw [add_block]; exact hn194_1) | exact hn194_1) (.int .i64 ((rd_T91 l0 (ji4)).f1))).trans hx194_0; replace hx194_1 := (cell_far (p := ⟨gb193, 1, none⟩) (by first | (rw [add_block]; exact hn194_1) | (show (Addr.add _ _).block ≠ _; rw [add_block]; exact hn194_1) | exact hn194_1) (.int .i64 ((rd_T91 l0 (ji4)).f1))).trans hx194_1; (try have hy194_0 := fun (n_ : Nat) => (show ((((w8.drewN n_).setCell ⟨gb193, 0, none⟩ (.int .i64 ((rd_T91 l0 (ji4)).f0))).setCell ⟨gb193, 1, none⟩ (.int .i64 ((rd_T91 l0 (ji4)).f1)))).cell? _ = some _ from hx194_0)); (try have hy194_1 := fun (n_ : Nat) => (show ((((w8.drewN n_).setCell ⟨gb193, 0, none⟩ (.int .i64 ((rd_T91 l0 (ji4)).f0))).setCell ⟨gb193, 1, none⟩ (.int .i64 ((rd_T91 l0 (ji4)).f1)))).cell? _ = some _ from hx194_1)); clear hn194_0; clear hn194_1; replace p194 := eq_true p194; replace q194 := eq_true q194; have p195 : 0 ≤ (x4_1 : Int) := zD; have q195 : x4_1 < (l0.length : Int) := zD; obtain ⟨ad195, e195, hx195_0, hx195_1⟩ := at_T91 HR0.out x4_1 p195 q195; obtain rfl : ad192 = ad195 := (by injection e195); have hn195_0 : ad192.block ≠ gb193 := Nat.ne_of_lt (Nat.lt_of_lt_of_le (by have := World.block_lt_of_cell? _ _ hx195_0; first | rwa [add_block] at this | exact this) GW193.out); have hn195_1 : ad192.block ≠ gb193 := Nat.ne_of_lt (Nat.lt_of_lt_of_le (by have := World.block_lt_of_cell? _ _ hx195_0; first | rwa [add_block] at this | exact this) GW193.out); try replace hx195_0 := zH HB hx195_0; try replace hx195_1 := zH HB hx195_1; replace hx195_0 := (cell_far (p := ⟨gb193, 0, none⟩) (by first | (rw [add_block]; exact hn195_0) | (show (Addr.add _ _).block ≠ _; rw [add_block]; exact hn195_0) | exact hn195_0) (.int .i64 ((rd_T91 l0 (ji4)).f0))).trans hx195_0; replace hx195_1 := (cell_far (p := ⟨gb193, 0, none⟩) (by first | (rw [add_block]; exact hn195_0) | (show (Addr.add _ _).block ≠ _; rw [add_block]; exact hn195_0) | exact hn195_0) (.int .i64 ((rd_T91 l0 (ji4)).f0))).trans hx195_1; replace hx195_0 := (cell_far (p := ⟨gb193, 1, none⟩) (by first | (rw [add_block]; exact hn195_1) | (show (Addr.add _ _).block ≠ _; rw [add_block]; exact hn195_1) | exact hn195_1) (.int .i64 ((rd_T91 l0 (ji4)).f1))).trans hx195_0; replace hx195_1 := (cell_far (p := ⟨gb193, 1, none⟩) (by first | (rw [add_block]; exact hn195_1) | (show (Addr.add _ _).block ≠ _; rw [add_block]; exact hn195_1) | exact hn195_1) (.int .i64 ((rd_T91 l0 (ji4)).f1))).trans hx195_1; (try have hy195_0 := fun (n_ : Nat) => (show ((((w8.drewN n_).setCell ⟨gb193, 0, none⟩ (.int .i64 ((rd_T91 l0 (ji4)).f0))).setCell ⟨gb193, 1, none⟩ (.int .i64 ((rd_T91 l0 (ji4)).f1)))).cell? _ = some _ from hx195_0)); (try have hy195_1 := fun (n_ : Nat) => (show ((((w8.drewN n_).setCell ⟨gb193, 0, none⟩ (.int .i64 ((rd_T91 l0 (ji4)).f0))).setCell ⟨gb193, 1, none⟩ (.int .i64 ((rd_T91 l0 (ji4)).f1)))).cell? _ = some _ from hx195_1)); clear hn195_0; clear hn195_1; replace p195 := eq_true p195; replace q195 := eq_true q195)))
    go_roundg k1
    case measure => have := HK1.out; omega
    case rel => exact ⟨(wrap64 (x3_1 + (wrap64 ((wrap64 (((rd_T91 l0 x4_1).f0) * ((rd_T91 l0 (ji4)).f1))) - (wrap64 (((rd_T91 l0 x4_1).f1) * ((rd_T91 l0 (ji4)).f0))))))), (wrap64 (x4_1 + 1)), (by first | rfl | (simp; done) | (simp only [← hji4] <;> (first | rfl | simp)) | (simp [*]; done)), zR, H', ⟨by have := HK1.out; omega⟩, ⟨pB1 HB.out GE193.out⟩⟩
end Go.Proofs.Ytfiiakhpdkdebaa.PFnExactTurnsThatFit

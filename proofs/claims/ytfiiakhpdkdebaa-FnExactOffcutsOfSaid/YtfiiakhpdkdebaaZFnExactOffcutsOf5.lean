/- What each function that a law reaches comes to, and the proof that its walk comes to it; laid by a program of this session. No condition. -/
import Derived.Test.YtfiiakhpdkdebaaZFnExactOffcutsOf0
import Derived.Test.YtfiiakhpdkdebaaZFnExactOffcutsOf4
namespace Go.Proofs.Ytfiiakhpdkdebaa.PFnExactOffcutsOf
open Go.RowKit Go.Proofs.YtfiiakhpdkdebaaW.PrintWords Go.Proofs.YtfiiakhpdkdebaaW.PrintLast Go.Proofs.YtfiiakhpdkdebaaW.PrintMore
attribute [local go_sem] max2_int min2_int max_two min_two max_three min_three max_four min_four
set_option linter.unusedVariables false
set_option linter.unusedSimpArgs false
def spec_l02On.f (a0_0 : Int) (a0_1 : Int) (a1_0 : Int) (a1_1 : Int) (a2_0 : Int) (a2_1 : Int) : Option (Bool) := (spec_l02Side.f a0_0 a0_1 a1_0 a1_1 a2_0 a2_1).bind fun t177 => (if t177 = 0 then ((spec_l00Min.f a0_0 a1_0).bind fun t178 => ((spec_l00Max.f a0_0 a1_0).bind fun t179 => ((spec_l00In.f a2_0 t178 t179).bind fun t180 => (if t180 = true then ((spec_l00Min.f a0_1 a1_1).bind fun t181 => ((spec_l00Max.f a0_1 a1_1).bind fun t182 => ((spec_l00In.f a2_1 t181 t182).bind fun t183 => (some t183)))) else (some false))))) else (some false))
def spec_l02On.T1 : Bool × List (List Nat × List Nat) := (true, [([], []), ([], []), ([], []), ([0, 1, 2], [0, 1, 2]), ([3], [3]), ([4, 3], [4]), ([5], [5]), ([6, 5], [5, 6]), ([5], [5]), ([8, 5], [5, 8]), ([5], [5]), ([10, 5], [5, 10]), ([9, 11, 5, 5], [5, 9, 11]), ([5], [5]), ([13, 5], [5, 13]), ([5], [5]), ([15, 5], [5, 15]), ([14, 16, 12, 5], [5, 14, 16]), ([7, 12, 17, 17, 5], [5, 7, 12, 17]), ([5, 18], [5, 18]), ([19, 18], [19]), ([20], [20]), ([21, 20], [20, 21]), ([20], [20]), ([23, 20], [20, 23]), ([20], [20]), ([25, 20], [20, 25]), ([24, 26, 20, 20], [20, 24, 26]), ([20], [20]), ([28, 20], [20, 28]), ([20], [20]), ([30, 20], [20, 30]), ([29, 31, 27, 20], [20, 29, 31]), ([22, 27, 32, 32, 20], [20, 22, 27, 32]), ([20, 33], [20, 33]), ([34, 33, 0, 1, 2, 3, 4, 5, 6, 7, 8, 9, 10, 11, 12, 13, 14, 15, 16, 17, 18, 19, 20, 21, 22, 23, 24, 25, 26, 27, 28, 29, 30, 31, 32, 33, 34], [34])])
def spec_l02On.B1 : List Nat := [0, 0, 0, 7, 15, 31, 63, 127, 63, 319, 63, 1087, 3903, 63, 8255, 63, 32831, 130879, 262143, 524287, 1048575, 2097151, 4194303, 2097151, 10485759, 2097151, 35651583, 127926271, 2097151, 270532607, 2097151, 1075838975, 4288675839, 8589934591, 17179869183, 34359738367]
theorem spec_l02On.tab1 : rtab .any (opsOf Try.f88 1) = spec_l02On.T1 := by kernel_rfl
theorem spec_l02On.bits1 : waitsOk spec_l02On.T1.2 spec_l02On.B1 = true := by kernel_rfl
set_option maxHeartbeats 8000000 in
set_option maxRecDepth 100000 in
theorem spec_l02On.calls (a0_0 : Int) (a0_1 : Int) (a1_0 : Int) (a1_1 : Int) (a2_0 : Int) (a2_1 : Int) (r : Bool) (w : World) (h : spec_l02On.f a0_0 a0_1 a1_0 a1_1 a2_0 a2_1 = some r) :
 Calls Try.prog 88 #[.agg #[.int .i64 a0_0, .int .i64 a0_1], .agg #[.int .i64 a1_0, .int .i64 a1_1], .agg #[.int .i64 a2_0, .int .i64 a2_1]] w fun e w' => e = .returned (.bool r) ∧ Below w.heap.size w w' := by
 have hu91 := Try.underlying91; have HB := Aside0.mk (Below.refl w.heap.size w)
 have H : ((spec_l02Side.f a0_0 a0_1 a1_0 a1_1 a2_0 a2_1).bind fun t177 => (if t177 = 0 then ((spec_l00Min.f a0_0 a1_0).bind fun t178 => ((spec_l00Max.f a0_0 a1_0).bind fun t179 => ((spec_l00In.f a2_0 t178 t179).bind fun t180 => (if t180 = true then ((spec_l00Min.f a0_1 a1_1).bind fun t181 => ((spec_l00Max.f a0_1 a1_1).bind fun t182 => ((spec_l00In.f a2_1 t181 t182).bind fun t183 => (some t183)))) else (some false))))) else (some false))) = some r := h
 clear h; replace H := Option.bind_eq_some_iff.mp H; obtain ⟨t177, A40, H⟩ := H; have A4 := Aside0.mk A40; clear A40
 by_cases c5 : t177 = 0
 rotate_left
 · rw [if_neg c5] at H
   have c5b0 : (t177 == 0) = false := beq_eq_false_iff_ne.mpr c5; have c5b1 : (t177 != 0) = true := bne_iff_ne.mpr c5; obtain rfl := Option.some.inj H
   go_enter Try.func88, Try.ntmps88
   try go_wp2_with (first | ((with_reducible refine zI 3 rfl ?_); refine zB 3 #[.int .i64 a0_0, .int .i64 a0_1] 91 ?_; intro gb174 hg w23 hbox hb; have BK174 := Aside0.mk (hbox); have GW174 := zS (pB0 HB.out) hg; have GE174 := GW174; replace HB := zW (pB0 HB.out) hb; clear hb hbox hg) | ((with_reducible refine zI 4 rfl ?_); refine zB 4 #[.int .i64 a1_0, .int .i64 a1_1] 91 ?_; intro gb175 hg w24 hbox hb; have BK175 := Aside0.mk (hbox); have GW175 := zS (pB1 HB.out GE174.out) hg; have GE175 := GW175; have NB174_175 := zL BK174 hg; have NB175_174 := zM BK174 hg; replace BK174 := zK BK174 hb; replace HB := zW (pB1 HB.out GE174.out) hb; clear hb hbox hg) | ((with_reducible refine zI 5 rfl ?_); refine zB 5 #[.int .i64 a2_0, .int .i64 a2_1] 91 ?_; intro gb176 hg w25 hbox hb; have BK176 := Aside0.mk (hbox); have GW176 := zS (pB2 HB.out GE174.out GE175.out) hg; have GE176 := GW176; have NB174_176 := zL BK174 hg; have NB176_174 := zM BK174 hg; have NB175_176 := zL BK175 hg; have NB176_175 := zM BK175 hg; replace BK174 := zK BK174 hb; replace BK175 := zK BK175 hb; replace HB := zW (pB2 HB.out GE174.out GE175.out) hb; clear hb hbox hg))
   replace BK174 := Aside0.mk (blk_drew BK174.out); replace BK175 := Aside0.mk (blk_drew BK175.out); replace BK176 := Aside0.mk (blk_drew BK176.out); replace HB := Aside0.mk (below_drew1 HB.out)
   refine start_ (n := 36) (S := fun w' => w'.cell? ⟨gb174, 0, none⟩ = some (.int .i64 a0_0) ∧ w'.cell? ⟨gb174, 1, none⟩ = some (.int .i64 a0_1) ∧ w'.cell? ⟨gb175, 0, none⟩ = some (.int .i64 a1_0) ∧ w'.cell? ⟨gb175, 1, none⟩ = some (.int .i64 a1_1) ∧ w'.cell? ⟨gb176, 0, none⟩ = some (.int .i64 a2_0) ∧ w'.cell? ⟨gb176, 1, none⟩ = some (.int .i64 a2_1)) (ds := []) (Array.replicate 36 false) (by kernel_rfl) rfl rfl ⟨zQ BK174 0, zQ BK174 1, zQ BK175 0, zQ BK175 1, zQ BK176 0, zQ BK176 1⟩ (fun hHeld => ?_); refine with_tabW spec_l02On.tab1 spec_l02On.bits1 (fun HT_ HW_ => ?_)
   generalize w25.drew = w26 at BK174 BK175 BK176 HB hHeld ⊢
   refine zT6 0 (some 7) (zb 36 1) HT_ HW_ hHeld ?_; refine zT6 1 (some 8) (zb 36 3) HT_ HW_ hHeld ?_; refine zT6 2 (some 9) (zb 36 7) HT_ HW_ hHeld ?_
   refine one_ (i := 3) (N := some 10) (zb 36 15) rfl rfl (one_of HT_.out (by kernel_rfl)) (by decide) (fun K hK => ?_)
   refine goes_ Try.func125 (by kernel_rfl) rfl #[.agg #[.int .i64 a0_0, .int .i64 a0_1], .agg #[.int .i64 a1_0, .int .i64 a1_1], .agg #[.int .i64 a2_0, .int .i64 a2_1]] (by rfl) rfl rfl pA ?_
   with_reducible refine (spec_l02Side.calls a0_0 a0_1 a1_0 a1_1 a2_0 a2_1 t177 _ A4.out).mono ?_; rintro e w27 ⟨rfl, hb⟩; refine ⟨_, rfl, ?_⟩; replace BK174 := zK BK174 hb; replace BK175 := zK BK175 hb; replace BK176 := zK BK176 hb; replace HB := zW (pB3 HB.out GE174.out GE175.out GE176.out) hb; (try clear hb); (try clear hb2); (try clear hk); (try clear hi)
   refine hK.out _ _ ⟨zQ BK174 0, zQ BK174 1, zQ BK175 0, zQ BK175 1, zQ BK176 0, zQ BK176 1⟩ (fun hHeld => ?_)
   clear hK K; refine zN ?_; refine zP 4 (some 11) (zb 36 31) HT_ ?_; refine zP 5 (some 12) (zb 36 63) HT_ ?_; refine zU 6 (some 13) (zb 36 127) HT_ ?_; refine zU 7 (some 14) (zb 36 255) HT_ ?_; refine zU 8 (some 15) (zb 36 511) HT_ ?_; refine zU 9 (some 16) (zb 36 1023) HT_ ?_; refine zU 10 (some 17) (zb 36 2047) HT_ ?_; refine zU 11 (some 18) (zb 36 4095) HT_ ?_; refine zU 12 (some 19) (zb 36 8191) HT_ ?_; refine zU 13 (some 20) (zb 36 16383) HT_ ?_; refine zU 14 (some 21) (zb 36 32767) HT_ ?_; refine zU 15 (some 22) (zb 36 65535) HT_ ?_; refine zU 16 (some 23) (zb 36 131071) HT_ ?_; refine zU 17 (some 24) (zb 36 262143) HT_ ?_; refine zU 18 (some 25) (zb 36 524287) HT_ ?_; refine zP 19 (some 26) (zb 36 1048575) HT_ ?_; refine zP 20 (some 27) (zb 36 2097151) HT_ ?_; refine zU 21 (some 28) (zb 36 4194303) HT_ ?_; refine zU 22 (some 29) (zb 36 8388607) HT_ ?_; refine zU 23 (some 30) (zb 36 16777215) HT_ ?_; refine zU 24 (some 31) (zb 36 33554431) HT_ ?_; refine zU 25 (some 32) (zb 36 67108863) HT_ ?_; refine zU 26 (some 33) (zb 36 134217727) HT_ ?_; refine zU 27 (some 34) (zb 36 268435455) HT_ ?_; refine zU 28 (some 35) (zb 36 536870911) HT_ ?_; refine zU 29 (some 36) (zb 36 1073741823) HT_ ?_; refine zU 30 (some 37) (zb 36 2147483647) HT_ ?_; refine zU 31 (some 38) (zb 36 4294967295) HT_ ?_; refine zU 32 (some 39) (zb 36 8589934591) HT_ ?_; refine zU 33 (some 40) (zb 36 17179869183) HT_ ?_; refine zP 34 (some 41) (zb 36 34359738367) HT_ ?_; refine zP 35 (some 6) (zb 36 68719476735) HT_ ?_
   refine done_ (done_of HT_.out (by kernel_rfl)) ?_
   try go_wp2
   go_ret
   exact ⟨zE, pB3 HB.out GE174.out GE175.out GE176.out⟩
 rw [if_pos c5] at H; have c5b0 : (t177 == 0) = true := beq_iff_eq.mpr c5; have c5b1 : (t177 != 0) = false := bne_eq_false_iff_eq.mpr c5; clear c5; replace H := Option.bind_eq_some_iff.mp H; obtain ⟨t178, A60, H⟩ := H; have A6 := Aside0.mk A60; clear A60; replace H := Option.bind_eq_some_iff.mp H; obtain ⟨t179, A70, H⟩ := H; have A7 := Aside0.mk A70; clear A70; replace H := Option.bind_eq_some_iff.mp H; obtain ⟨t180, A80, H⟩ := H; have A8 := Aside0.mk A80; clear A80
 by_cases c9 : t180 = true
 rotate_left
 · replace c9 := Bool.eq_false_iff.mpr c9
   subst c9
   rw [if_neg (show ¬ (false = true) by decide)] at H
   obtain rfl := Option.some.inj H
   go_enter Try.func88, Try.ntmps88
   try go_wp2_with (first | ((with_reducible refine zI 3 rfl ?_); refine zB 3 #[.int .i64 a0_0, .int .i64 a0_1] 91 ?_; intro gb174 hg w18 hbox hb; have BK174 := Aside0.mk (hbox); have GW174 := zS (pB0 HB.out) hg; have GE174 := GW174; replace HB := zW (pB0 HB.out) hb; clear hb hbox hg) | ((with_reducible refine zI 4 rfl ?_); refine zB 4 #[.int .i64 a1_0, .int .i64 a1_1] 91 ?_; intro gb175 hg w19 hbox hb; have BK175 := Aside0.mk (hbox); have GW175 := zS (pB1 HB.out GE174.out) hg; have GE175 := GW175; have NB174_175 := zL BK174 hg; have NB175_174 := zM BK174 hg; replace BK174 := zK BK174 hb; replace HB := zW (pB1 HB.out GE174.out) hb; clear hb hbox hg) | ((with_reducible refine zI 5 rfl ?_); refine zB 5 #[.int .i64 a2_0, .int .i64 a2_1] 91 ?_; intro gb176 hg w20 hbox hb; have BK176 := Aside0.mk (hbox); have GW176 := zS (pB2 HB.out GE174.out GE175.out) hg; have GE176 := GW176; have NB174_176 := zL BK174 hg; have NB176_174 := zM BK174 hg; have NB175_176 := zL BK175 hg; have NB176_175 := zM BK175 hg; replace BK174 := zK BK174 hb; replace BK175 := zK BK175 hb; replace HB := zW (pB2 HB.out GE174.out GE175.out) hb; clear hb hbox hg))
   replace BK174 := Aside0.mk (blk_drew BK174.out); replace BK175 := Aside0.mk (blk_drew BK175.out); replace BK176 := Aside0.mk (blk_drew BK176.out); replace HB := Aside0.mk (below_drew1 HB.out)
   refine start_ (n := 36) (S := fun w' => w'.cell? ⟨gb174, 0, none⟩ = some (.int .i64 a0_0) ∧ w'.cell? ⟨gb174, 1, none⟩ = some (.int .i64 a0_1) ∧ w'.cell? ⟨gb175, 0, none⟩ = some (.int .i64 a1_0) ∧ w'.cell? ⟨gb175, 1, none⟩ = some (.int .i64 a1_1) ∧ w'.cell? ⟨gb176, 0, none⟩ = some (.int .i64 a2_0) ∧ w'.cell? ⟨gb176, 1, none⟩ = some (.int .i64 a2_1)) (ds := []) (Array.replicate 36 false) (by kernel_rfl) rfl rfl ⟨zQ BK174 0, zQ BK174 1, zQ BK175 0, zQ BK175 1, zQ BK176 0, zQ BK176 1⟩ (fun hHeld => ?_); refine with_tabW spec_l02On.tab1 spec_l02On.bits1 (fun HT_ HW_ => ?_)
   generalize w20.drew = w21 at BK174 BK175 BK176 HB hHeld ⊢
   refine zT6 0 (some 7) (zb 36 1) HT_ HW_ hHeld ?_; refine zT6 1 (some 8) (zb 36 3) HT_ HW_ hHeld ?_; refine zT6 2 (some 9) (zb 36 7) HT_ HW_ hHeld ?_
   refine one_ (i := 3) (N := some 10) (zb 36 15) rfl rfl (one_of HT_.out (by kernel_rfl)) (by decide) (fun K hK => ?_)
   refine goes_ Try.func125 (by kernel_rfl) rfl #[.agg #[.int .i64 a0_0, .int .i64 a0_1], .agg #[.int .i64 a1_0, .int .i64 a1_1], .agg #[.int .i64 a2_0, .int .i64 a2_1]] (by rfl) rfl rfl pA ?_
   with_reducible refine (spec_l02Side.calls a0_0 a0_1 a1_0 a1_1 a2_0 a2_1 t177 _ A4.out).mono ?_; rintro e w22 ⟨rfl, hb⟩; refine ⟨_, rfl, ?_⟩; replace BK174 := zK BK174 hb; replace BK175 := zK BK175 hb; replace BK176 := zK BK176 hb; replace HB := zW (pB3 HB.out GE174.out GE175.out GE176.out) hb; (try clear hb); (try clear hb2); (try clear hk); (try clear hi)
   refine hK.out _ _ ⟨zQ BK174 0, zQ BK174 1, zQ BK175 0, zQ BK175 1, zQ BK176 0, zQ BK176 1⟩ (fun hHeld => ?_)
   clear hK K; refine zN ?_; refine zP 4 (some 11) (zb 36 31) HT_ ?_; refine zP 5 (some 12) (zb 36 63) HT_ ?_; refine zP 6 (some 13) (zb 36 127) HT_ ?_; refine zP 8 (some 15) (zb 36 383) HT_ ?_; refine zP 10 (some 17) (zb 36 1407) HT_ ?_; refine zP 13 (some 20) (zb 36 9599) HT_ ?_; refine zP 15 (some 22) (zb 36 42367) HT_ ?_; refine zT6 7 (some 14) (zb 36 42495) HT_ HW_ hHeld ?_; refine zT6 9 (some 16) (zb 36 43007) HT_ HW_ hHeld ?_; refine zT6 11 (some 18) (zb 36 45055) HT_ HW_ hHeld ?_; refine zT6 14 (some 21) (zb 36 61439) HT_ HW_ hHeld ?_; refine zT6 16 (some 23) (zb 36 126975) HT_ HW_ hHeld ?_
   refine one_ (i := 12) (N := some 19) (zb 36 131071) rfl rfl (one_of HT_.out (by kernel_rfl)) (by decide) (fun K hK => ?_)
   refine goes_ Try.func104 (by kernel_rfl) rfl #[.int .i64 a0_0, .int .i64 a1_0] (by rfl) rfl rfl pA ?_
   with_reducible refine (spec_l00Min.calls a0_0 a1_0 t178 _ A6.out).mono ?_; rintro e w' ⟨rfl, ⟨nd, rfl⟩⟩; refine ⟨_, rfl, ?_⟩
   refine hK.out _ _ ⟨zQ BK174 0, zQ BK174 1, zQ BK175 0, zQ BK175 1, zQ BK176 0, zQ BK176 1⟩ (fun hHeld => ?_)
   clear hK K; refine zN ?_
   refine one_ (i := 17) (N := some 24) (zb 36 262143) rfl rfl (one_of HT_.out (by kernel_rfl)) (by decide) (fun K hK => ?_)
   refine goes_ Try.func105 (by kernel_rfl) rfl #[.int .i64 a0_0, .int .i64 a1_0] (by rfl) rfl rfl pA ?_
   with_reducible refine (spec_l00Max.calls a0_0 a1_0 t179 _ A7.out).mono ?_; rintro e w' ⟨rfl, ⟨nd, rfl⟩⟩; refine ⟨_, rfl, ?_⟩
   refine hK.out _ _ ⟨zQ BK174 0, zQ BK174 1, zQ BK175 0, zQ BK175 1, zQ BK176 0, zQ BK176 1⟩ (fun hHeld => ?_)
   clear hK K; refine zN ?_
   refine one_ (i := 18) (N := some 25) (zb 36 524287) rfl rfl (one_of HT_.out (by kernel_rfl)) (by decide) (fun K hK => ?_)
   refine goes_ Try.func81 (by kernel_rfl) rfl #[.int .i64 a2_0, .int .i64 t178, .int .i64 t179] (by rfl) rfl rfl pA ?_
   with_reducible refine (spec_l00In.calls a2_0 t178 t179 false _ A8.out).mono ?_; rintro e w' ⟨rfl, ⟨nd, rfl⟩⟩; refine ⟨_, rfl, ?_⟩
   refine hK.out _ _ ⟨zQ BK174 0, zQ BK174 1, zQ BK175 0, zQ BK175 1, zQ BK176 0, zQ BK176 1⟩ (fun hHeld => ?_)
   clear hK K; refine zN ?_; refine zP 19 (some 26) (zb 36 1048575) HT_ ?_; refine zP 20 (some 27) (zb 36 2097151) HT_ ?_; refine zU 21 (some 28) (zb 36 4194303) HT_ ?_; refine zU 22 (some 29) (zb 36 8388607) HT_ ?_; refine zU 23 (some 30) (zb 36 16777215) HT_ ?_; refine zU 24 (some 31) (zb 36 33554431) HT_ ?_; refine zU 25 (some 32) (zb 36 67108863) HT_ ?_; refine zU 26 (some 33) (zb 36 134217727) HT_ ?_; refine zU 27 (some 34) (zb 36 268435455) HT_ ?_; refine zU 28 (some 35) (zb 36 536870911) HT_ ?_; refine zU 29 (some 36) (zb 36 1073741823) HT_ ?_; refine zU 30 (some 37) (zb 36 2147483647) HT_ ?_; refine zU 31 (some 38) (zb 36 4294967295) HT_ ?_; refine zU 32 (some 39) (zb 36 8589934591) HT_ ?_; refine zU 33 (some 40) (zb 36 17179869183) HT_ ?_; refine zP 34 (some 41) (zb 36 34359738367) HT_ ?_; refine zP 35 (some 6) (zb 36 68719476735) HT_ ?_
   refine done_ (done_of HT_.out (by kernel_rfl)) ?_
   try go_wp2
   go_ret
   exact ⟨zE, pB3 HB.out GE174.out GE175.out GE176.out⟩
 subst c9; rw [if_pos rfl] at H; replace H := Option.bind_eq_some_iff.mp H; obtain ⟨t181, A100, H⟩ := H; have A10 := Aside0.mk A100; clear A100; replace H := Option.bind_eq_some_iff.mp H; obtain ⟨t182, A110, H⟩ := H; have A11 := Aside0.mk A110; clear A110; replace H := Option.bind_eq_some_iff.mp H; obtain ⟨t183, A120, H⟩ := H; have A12 := Aside0.mk A120; clear A120; obtain rfl := Option.some.inj H
 go_enter Try.func88, Try.ntmps88
 try go_wp2_with (first | ((with_reducible refine zI 3 rfl ?_); refine zB 3 #[.int .i64 a0_0, .int .i64 a0_1] 91 ?_; intro gb174 hg w13 hbox hb; have BK174 := Aside0.mk (hbox); have GW174 := zS (pB0 HB.out) hg; have GE174 := GW174; replace HB := zW (pB0 HB.out) hb; clear hb hbox hg) | ((with_reducible refine zI 4 rfl ?_); refine zB 4 #[.int .i64 a1_0, .int .i64 a1_1] 91 ?_; intro gb175 hg w14 hbox hb; have BK175 := Aside0.mk (hbox); have GW175 := zS (pB1 HB.out GE174.out) hg; have GE175 := GW175; have NB174_175 := zL BK174 hg; have NB175_174 := zM BK174 hg; replace BK174 := zK BK174 hb; replace HB := zW (pB1 HB.out GE174.out) hb; clear hb hbox hg) | ((with_reducible refine zI 5 rfl ?_); refine zB 5 #[.int .i64 a2_0, .int .i64 a2_1] 91 ?_; intro gb176 hg w15 hbox hb; have BK176 := Aside0.mk (hbox); have GW176 := zS (pB2 HB.out GE174.out GE175.out) hg; have GE176 := GW176; have NB174_176 := zL BK174 hg; have NB176_174 := zM BK174 hg; have NB175_176 := zL BK175 hg; have NB176_175 := zM BK175 hg; replace BK174 := zK BK174 hb; replace BK175 := zK BK175 hb; replace HB := zW (pB2 HB.out GE174.out GE175.out) hb; clear hb hbox hg))
 replace BK174 := Aside0.mk (blk_drew BK174.out); replace BK175 := Aside0.mk (blk_drew BK175.out); replace BK176 := Aside0.mk (blk_drew BK176.out); replace HB := Aside0.mk (below_drew1 HB.out)
 refine start_ (n := 36) (S := fun w' => w'.cell? ⟨gb174, 0, none⟩ = some (.int .i64 a0_0) ∧ w'.cell? ⟨gb174, 1, none⟩ = some (.int .i64 a0_1) ∧ w'.cell? ⟨gb175, 0, none⟩ = some (.int .i64 a1_0) ∧ w'.cell? ⟨gb175, 1, none⟩ = some (.int .i64 a1_1) ∧ w'.cell? ⟨gb176, 0, none⟩ = some (.int .i64 a2_0) ∧ w'.cell? ⟨gb176, 1, none⟩ = some (.int .i64 a2_1)) (ds := []) (Array.replicate 36 false) (by kernel_rfl) rfl rfl ⟨zQ BK174 0, zQ BK174 1, zQ BK175 0, zQ BK175 1, zQ BK176 0, zQ BK176 1⟩ (fun hHeld => ?_); refine with_tabW spec_l02On.tab1 spec_l02On.bits1 (fun HT_ HW_ => ?_)
 generalize w15.drew = w16 at BK174 BK175 BK176 HB hHeld ⊢
 refine zT6 0 (some 7) (zb 36 1) HT_ HW_ hHeld ?_; refine zT6 1 (some 8) (zb 36 3) HT_ HW_ hHeld ?_; refine zT6 2 (some 9) (zb 36 7) HT_ HW_ hHeld ?_
 refine one_ (i := 3) (N := some 10) (zb 36 15) rfl rfl (one_of HT_.out (by kernel_rfl)) (by decide) (fun K hK => ?_)
 refine goes_ Try.func125 (by kernel_rfl) rfl #[.agg #[.int .i64 a0_0, .int .i64 a0_1], .agg #[.int .i64 a1_0, .int .i64 a1_1], .agg #[.int .i64 a2_0, .int .i64 a2_1]] (by rfl) rfl rfl pA ?_
 with_reducible refine (spec_l02Side.calls a0_0 a0_1 a1_0 a1_1 a2_0 a2_1 t177 _ A4.out).mono ?_; rintro e w17 ⟨rfl, hb⟩; refine ⟨_, rfl, ?_⟩; replace BK174 := zK BK174 hb; replace BK175 := zK BK175 hb; replace BK176 := zK BK176 hb; replace HB := zW (pB3 HB.out GE174.out GE175.out GE176.out) hb; (try clear hb); (try clear hb2); (try clear hk); (try clear hi)
 refine hK.out _ _ ⟨zQ BK174 0, zQ BK174 1, zQ BK175 0, zQ BK175 1, zQ BK176 0, zQ BK176 1⟩ (fun hHeld => ?_)
 clear hK K; refine zN ?_; refine zP 4 (some 11) (zb 36 31) HT_ ?_; refine zP 5 (some 12) (zb 36 63) HT_ ?_; refine zP 6 (some 13) (zb 36 127) HT_ ?_; refine zP 8 (some 15) (zb 36 383) HT_ ?_; refine zP 10 (some 17) (zb 36 1407) HT_ ?_; refine zP 13 (some 20) (zb 36 9599) HT_ ?_; refine zP 15 (some 22) (zb 36 42367) HT_ ?_; refine zT6 7 (some 14) (zb 36 42495) HT_ HW_ hHeld ?_; refine zT6 9 (some 16) (zb 36 43007) HT_ HW_ hHeld ?_; refine zT6 11 (some 18) (zb 36 45055) HT_ HW_ hHeld ?_; refine zT6 14 (some 21) (zb 36 61439) HT_ HW_ hHeld ?_; refine zT6 16 (some 23) (zb 36 126975) HT_ HW_ hHeld ?_
 refine one_ (i := 12) (N := some 19) (zb 36 131071) rfl rfl (one_of HT_.out (by kernel_rfl)) (by decide) (fun K hK => ?_)
 refine goes_ Try.func104 (by kernel_rfl) rfl #[.int .i64 a0_0, .int .i64 a1_0] (by rfl) rfl rfl pA ?_
 with_reducible refine (spec_l00Min.calls a0_0 a1_0 t178 _ A6.out).mono ?_; rintro e w' ⟨rfl, ⟨nd, rfl⟩⟩; refine ⟨_, rfl, ?_⟩
 refine hK.out _ _ ⟨zQ BK174 0, zQ BK174 1, zQ BK175 0, zQ BK175 1, zQ BK176 0, zQ BK176 1⟩ (fun hHeld => ?_)
 clear hK K; refine zN ?_
 refine one_ (i := 17) (N := some 24) (zb 36 262143) rfl rfl (one_of HT_.out (by kernel_rfl)) (by decide) (fun K hK => ?_)
 refine goes_ Try.func105 (by kernel_rfl) rfl #[.int .i64 a0_0, .int .i64 a1_0] (by rfl) rfl rfl pA ?_
 with_reducible refine (spec_l00Max.calls a0_0 a1_0 t179 _ A7.out).mono ?_; rintro e w' ⟨rfl, ⟨nd, rfl⟩⟩; refine ⟨_, rfl, ?_⟩
 refine hK.out _ _ ⟨zQ BK174 0, zQ BK174 1, zQ BK175 0, zQ BK175 1, zQ BK176 0, zQ BK176 1⟩ (fun hHeld => ?_)
 clear hK K; refine zN ?_
 refine one_ (i := 18) (N := some 25) (zb 36 524287) rfl rfl (one_of HT_.out (by kernel_rfl)) (by decide) (fun K hK => ?_)
 refine goes_ Try.func81 (by kernel_rfl) rfl #[.int .i64 a2_0, .int .i64 t178, .int .i64 t179] (by rfl) rfl rfl pA ?_
 with_reducible refine (spec_l00In.calls a2_0 t178 t179 true _ A8.out).mono ?_; rintro e w' ⟨rfl, ⟨nd, rfl⟩⟩; refine ⟨_, rfl, ?_⟩
 refine hK.out _ _ ⟨zQ BK174 0, zQ BK174 1, zQ BK175 0, zQ BK175 1, zQ BK176 0, zQ BK176 1⟩ (fun hHeld => ?_)
 clear hK K; refine zN ?_; refine zP 19 (some 26) (zb 36 1048575) HT_ ?_; refine zP 20 (some 27) (zb 36 2097151) HT_ ?_; refine zP 21 (some 28) (zb 36 4194303) HT_ ?_; refine zP 23 (some 30) (zb 36 12582911) HT_ ?_; refine zP 25 (some 32) (zb 36 46137343) HT_ ?_; refine zP 28 (some 35) (zb 36 314572799) HT_ ?_; refine zP 30 (some 37) (zb 36 1388314623) HT_ ?_; refine zT6 22 (some 29) (zb 36 1392508927) HT_ HW_ hHeld ?_; refine zT6 24 (some 31) (zb 36 1409286143) HT_ HW_ hHeld ?_; refine zT6 26 (some 33) (zb 36 1476395007) HT_ HW_ hHeld ?_; refine zT6 29 (some 36) (zb 36 2013265919) HT_ HW_ hHeld ?_; refine zT6 31 (some 38) (zb 36 4160749567) HT_ HW_ hHeld ?_
 refine one_ (i := 27) (N := some 34) (zb 36 4294967295) rfl rfl (one_of HT_.out (by kernel_rfl)) (by decide) (fun K hK => ?_)
 refine goes_ Try.func104 (by kernel_rfl) rfl #[.int .i64 a0_1, .int .i64 a1_1] (by rfl) rfl rfl pA ?_
 with_reducible refine (spec_l00Min.calls a0_1 a1_1 t181 _ A10.out).mono ?_; rintro e w' ⟨rfl, ⟨nd, rfl⟩⟩; refine ⟨_, rfl, ?_⟩
 refine hK.out _ _ ⟨zQ BK174 0, zQ BK174 1, zQ BK175 0, zQ BK175 1, zQ BK176 0, zQ BK176 1⟩ (fun hHeld => ?_)
 clear hK K; refine zN ?_
 refine one_ (i := 32) (N := some 39) (zb 36 8589934591) rfl rfl (one_of HT_.out (by kernel_rfl)) (by decide) (fun K hK => ?_)
 refine goes_ Try.func105 (by kernel_rfl) rfl #[.int .i64 a0_1, .int .i64 a1_1] (by rfl) rfl rfl pA ?_
 with_reducible refine (spec_l00Max.calls a0_1 a1_1 t182 _ A11.out).mono ?_; rintro e w' ⟨rfl, ⟨nd, rfl⟩⟩; refine ⟨_, rfl, ?_⟩
 refine hK.out _ _ ⟨zQ BK174 0, zQ BK174 1, zQ BK175 0, zQ BK175 1, zQ BK176 0, zQ BK176 1⟩ (fun hHeld => ?_)
 clear hK K; refine zN ?_
 refine one_ (i := 33) (N := some 40) (zb 36 17179869183) rfl rfl (one_of HT_.out (by kernel_rfl)) (by decide) (fun K hK => ?_)
 refine goes_ Try.func81 (by kernel_rfl) rfl #[.int .i64 a2_1, .int .i64 t181, .int .i64 t182] (by rfl) rfl rfl pA ?_
 with_reducible refine (spec_l00In.calls a2_1 t181 t182 t183 _ A12.out).mono ?_; rintro e w' ⟨rfl, ⟨nd, rfl⟩⟩; refine ⟨_, rfl, ?_⟩
 refine hK.out _ _ ⟨zQ BK174 0, zQ BK174 1, zQ BK175 0, zQ BK175 1, zQ BK176 0, zQ BK176 1⟩ (fun hHeld => ?_)
 clear hK K; refine zN ?_; refine zP 34 (some 41) (zb 36 34359738367) HT_ ?_; refine zP 35 (some 6) (zb 36 68719476735) HT_ ?_
 refine done_ (done_of HT_.out (by kernel_rfl)) ?_
 try go_wp2
 go_ret
 exact ⟨zE, pB3 HB.out GE174.out GE175.out GE176.out⟩
end Go.Proofs.Ytfiiakhpdkdebaa.PFnExactOffcutsOf

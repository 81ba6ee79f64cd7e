/- What each function that a law reaches comes to, and the proof that its walk comes to it; laid by a program of this session. No condition. -/
import Derived.Test.YtfiiakhpdkdebaaZFnExactOffcutsOf0
import Derived.Test.YtfiiakhpdkdebaaZFnExactOffcutsOf4
namespace Go.Proofs.Ytfiiakhpdkdebaa.PFnExactOffcutsOf
open Go.RowKit Go.Proofs.YtfiiakhpdkdebaaW.PrintWords Go.Proofs.YtfiiakhpdkdebaaW.PrintLast Go.Proofs.YtfiiakhpdkdebaaW.PrintMore
attribute [local go_sem] max2_int min2_int max_two min_two max_three min_three max_four min_four
set_option linter.unusedVariables false
set_option linter.unusedSimpArgs false
def spec_l09Box.f (l0 : List (S103)) (a1 : Int) (a2 : Int) : Option (Bool) := if 0 < (l0.length : Int) then ((spec_l00In.f ((rd_T103 l0 0).f0) 0 a1).bind fun t276 => (if t276 = true then ((spec_l00In.f ((rd_T103 l0 0).f1) 0 a2).bind fun t277 => (if t277 = true then ((spec_l00In.f ((rd_T103 l0 0).f2) 1 (wrap64 (a1 - ((rd_T103 l0 0).f0)))).bind fun t278 => (if t278 = true then ((spec_l00In.f ((rd_T103 l0 0).f3) 1 (wrap64 (a2 - ((rd_T103 l0 0).f1)))).bind fun t279 => (some t279)) else (some false))) else (some false))) else (some false))) else (none)
def spec_l09Box.T1 : Bool × List (List Nat × List Nat) := (true, [([], []), ([0], [0]), ([1], [1]), ([2], [2]), ([], []), ([3, 4], [3, 4]), ([5, 5], [5]), ([6], [6]), ([7, 6], [6, 7]), ([8, 6], [6, 8]), ([9, 6], [6, 9]), ([6], [6]), ([10, 11, 6, 6], [6, 10, 11]), ([6, 12], [6, 12]), ([13, 12], [13]), ([14], [14]), ([15, 14], [14, 15]), ([16, 14], [14, 16]), ([17, 14], [14, 17]), ([14], [14]), ([14], [14]), ([20, 14], [14, 20]), ([21, 14], [14, 21]), ([22, 14], [14, 22]), ([19, 23, 14], [14, 19, 23]), ([18, 24, 14, 14], [14, 18, 24]), ([14, 25], [14, 25]), ([26, 25], [26]), ([27], [27]), ([28, 27], [27, 28]), ([29, 27], [27, 29]), ([30, 27], [27, 30]), ([27], [27]), ([27], [27]), ([33, 27], [27, 33]), ([34, 27], [27, 34]), ([35, 27], [27, 35]), ([32, 36, 27], [27, 32, 36]), ([31, 37, 27, 27], [27, 31, 37]), ([27, 38], [27, 38]), ([39, 38, 0, 1, 2, 3, 4, 5, 6, 7, 8, 9, 10, 11, 12, 13, 14, 15, 16, 17, 18, 19, 20, 21, 22, 23, 24, 25, 26, 27, 28, 29, 30, 31, 32, 33, 34, 35, 36, 37, 38, 39], [39])])
def spec_l09Box.B1 : List Nat := [0, 1, 3, 7, 0, 31, 63, 127, 255, 511, 1023, 127, 4095, 8191, 16383, 32767, 65535, 131071, 262143, 32767, 32767, 1081343, 3178495, 7372799, 16285695, 33554431, 67108863, 134217727, 268435455, 536870911, 1073741823, 2147483647, 268435455, 268435455, 8858370047, 26038239231, 60397977599, 133412421631, 274877906943, 549755813887, 1099511627775]
theorem spec_l09Box.tab1 : rtab .any (opsOf Try.f93 1) = spec_l09Box.T1 := by kernel_rfl
theorem spec_l09Box.bits1 : waitsOk spec_l09Box.T1.2 spec_l09Box.B1 = true := by kernel_rfl
set_option maxHeartbeats 8000000 in
set_option maxRecDepth 100000 in
theorem spec_l09Box.calls (A0 : Option Addr) (c0 : Nat) (l0 : List (S103)) (a1 : Int) (a2 : Int) (r : Bool) (w : World) (hr0 : Kd.C k103 w A0 l0.length l0) (hc0 : l0.length ≤ c0) (h : spec_l09Box.f l0 a1 a2 = some r) :
 Calls Try.prog 93 #[.pointer A0, .int .i64 a1, .int .i64 a2] w fun e w' => e = .returned (.bool r) ∧ Below w.heap.size w w' := by
 have HR0 := Aside0.mk hr0; have HC0 := Aside0.mk hc0; clear hr0 hc0; have HB := Aside0.mk (Below.refl w.heap.size w)
 have H : (if 0 < (l0.length : Int) then ((spec_l00In.f ((rd_T103 l0 0).f0) 0 a1).bind fun t276 => (if t276 = true then ((spec_l00In.f ((rd_T103 l0 0).f1) 0 a2).bind fun t277 => (if t277 = true then ((spec_l00In.f ((rd_T103 l0 0).f2) 1 (wrap64 (a1 - ((rd_T103 l0 0).f0)))).bind fun t278 => (if t278 = true then ((spec_l00In.f ((rd_T103 l0 0).f3) 1 (wrap64 (a2 - ((rd_T103 l0 0).f1)))).bind fun t279 => (some t279)) else (some false))) else (some false))) else (some false))) else (none)) = some r := h
 clear h
 by_cases c4 : 0 < (l0.length : Int)
 rotate_left
 · rw [if_neg c4] at H
   exact absurd H (by simp)
 rw [if_pos c4] at H; have c4b0 := decide_eq_true c4
 have c4b1 : decide (0 < l0.length) = true := decide_eq_true (by omega)
 clear c4; replace H := Option.bind_eq_some_iff.mp H; obtain ⟨t276, A50, H⟩ := H; have A5 := Aside0.mk A50; clear A50
 by_cases c6 : t276 = true
 rotate_left
 · replace c6 := Bool.eq_false_iff.mpr c6
   subst c6
   rw [if_neg (show ¬ (false = true) by decide)] at H
   obtain rfl := Option.some.inj H
   go_enter Try.func93, Try.ntmps93
   try go_wp2
   replace HB := Aside0.mk (below_drew1 HB.out)
   have p275 : 0 ≤ (0 : Int) := (by omega)
   have q275 : 0 < (l0.length : Int) := zD; obtain ⟨ad275, e275, hx275_0, hx275_1, hx275_2, hx275_3⟩ := at_T103 HR0.out 0 p275 q275; have hw275_3 := hx275_3; (try rw [z0, Nat.zero_mul, Addr.add_zero'] at hw275_3); have hw275_2 := hx275_2; (try rw [z0, Nat.zero_mul, Addr.add_zero'] at hw275_2); have hw275_1 := hx275_1; (try rw [z0, Nat.zero_mul, Addr.add_zero'] at hw275_1); have hw275_0 := hx275_0; (try rw [z0, Nat.zero_mul, Addr.add_zero'] at hw275_0); cases e275
   have qi275 : (0 < l0.length) = True := eq_true (by omega)
   (try rw [z0, Nat.zero_mul, Addr.add_zero'] at hx275_0); (try rw [z0, Nat.zero_mul, Addr.add_zero'] at hx275_1); (try rw [z0, Nat.zero_mul, Addr.add_zero'] at hx275_2); (try rw [z0, Nat.zero_mul, Addr.add_zero'] at hx275_3)
   try replace hx275_0 := zH HB hx275_0
   try replace hx275_1 := zH HB hx275_1
   try replace hx275_2 := zH HB hx275_2
   try replace hx275_3 := zH HB hx275_3
   replace p275 := eq_true p275; replace q275 := eq_true q275
   refine start_ (n := 41) (S := fun w' => w'.cell? ad275 = some (.int .i64 ((rd_T103 l0 0).f0)) ∧ w'.cell? ⟨ad275.block, ad275.off + 1, none⟩ = some (.int .i64 ((rd_T103 l0 0).f1)) ∧ w'.cell? ⟨ad275.block, ad275.off + 2, none⟩ = some (.int .i64 ((rd_T103 l0 0).f2)) ∧ w'.cell? ⟨ad275.block, ad275.off + 3, none⟩ = some (.int .i64 ((rd_T103 l0 0).f3))) (ds := []) (Array.replicate 41 false) (by kernel_rfl) rfl rfl ⟨(zH HB hw275_0), (zH HB hw275_1), (zH HB hw275_2), (zH HB hw275_3)⟩ (fun hHeld => ?_); refine with_tabW spec_l09Box.tab1 spec_l09Box.bits1 (fun HT_ HW_ => ?_)
   generalize w.drew = w15 at HB hx275_0 hx275_1 hx275_2 hx275_3 hHeld ⊢
   refine zP 0 (some 7) (zb 41 1) HT_ ?_; refine zP 1 (some 8) (zb 41 3) HT_ ?_; refine zP 2 (some 9) (zb 41 7) HT_ ?_; refine zP 4 (some 11) (zb 41 23) HT_ ?_; refine zT4 3 (some 10) (zb 41 31) HT_ HW_ hHeld ?_
   refine one_ (i := 5) (N := some 12) (zb 41 63) rfl rfl (one_of HT_.out (by kernel_rfl)) (by decide) (fun K hK => ?_)
   refine goes_ Try.func81 (by kernel_rfl) rfl #[.int .i64 ((rd_T103 l0 0).f0), .int .i64 0, .int .i64 a1] (by rfl) rfl rfl pA ?_
   with_reducible refine (spec_l00In.calls ((rd_T103 l0 0).f0) 0 a1 false _ A5.out).mono ?_; rintro e w' ⟨rfl, ⟨nd, rfl⟩⟩; refine ⟨_, rfl, ?_⟩
   refine hK.out _ _ ⟨(zH HB hw275_0), (zH HB hw275_1), (zH HB hw275_2), (zH HB hw275_3)⟩ (fun hHeld => ?_)
   clear hK K; refine zN ?_; refine zP 6 (some 13) (zb 41 127) HT_ ?_; refine zU 7 (some 14) (zb 41 255) HT_ ?_; refine zU 8 (some 15) (zb 41 511) HT_ ?_; refine zU 9 (some 16) (zb 41 1023) HT_ ?_; refine zU 10 (some 17) (zb 41 2047) HT_ ?_; refine zU 11 (some 18) (zb 41 4095) HT_ ?_; refine zU 12 (some 19) (zb 41 8191) HT_ ?_; refine zP 13 (some 20) (zb 41 16383) HT_ ?_; refine zP 14 (some 21) (zb 41 32767) HT_ ?_; refine zU 15 (some 22) (zb 41 65535) HT_ ?_; refine zU 16 (some 23) (zb 41 131071) HT_ ?_; refine zU 17 (some 24) (zb 41 262143) HT_ ?_; refine zU 18 (some 25) (zb 41 524287) HT_ ?_; refine zU 19 (some 26) (zb 41 1048575) HT_ ?_; refine zU 20 (some 27) (zb 41 2097151) HT_ ?_; refine zU 21 (some 28) (zb 41 4194303) HT_ ?_; refine zU 22 (some 29) (zb 41 8388607) HT_ ?_; refine zU 23 (some 30) (zb 41 16777215) HT_ ?_; refine zU 24 (some 31) (zb 41 33554431) HT_ ?_; refine zU 25 (some 32) (zb 41 67108863) HT_ ?_; refine zP 26 (some 33) (zb 41 134217727) HT_ ?_; refine zP 27 (some 34) (zb 41 268435455) HT_ ?_; refine zU 28 (some 35) (zb 41 536870911) HT_ ?_; refine zU 29 (some 36) (zb 41 1073741823) HT_ ?_; refine zU 30 (some 37) (zb 41 2147483647) HT_ ?_; refine zU 31 (some 38) (zb 41 4294967295) HT_ ?_; refine zU 32 (some 39) (zb 41 8589934591) HT_ ?_; refine zU 33 (some 40) (zb 41 17179869183) HT_ ?_; refine zU 34 (some 41) (zb 41 34359738367) HT_ ?_; refine zU 35 (some 42) (zb 41 68719476735) HT_ ?_; refine zU 36 (some 43) (zb 41 137438953471) HT_ ?_; refine zU 37 (some 44) (zb 41 274877906943) HT_ ?_; refine zU 38 (some 45) (zb 41 549755813887) HT_ ?_; refine zP 39 (some 46) (zb 41 1099511627775) HT_ ?_; refine zP 40 (some 6) (zb 41 2199023255551) HT_ ?_
   refine done_ (done_of HT_.out (by kernel_rfl)) ?_
   try go_wp2
   go_ret
   exact ⟨zE, pB0 HB.out⟩
 subst c6; rw [if_pos rfl] at H; replace H := Option.bind_eq_some_iff.mp H; obtain ⟨t277, A70, H⟩ := H; have A7 := Aside0.mk A70; clear A70
 by_cases c8 : t277 = true
 rotate_left
 · replace c8 := Bool.eq_false_iff.mpr c8
   subst c8
   rw [if_neg (show ¬ (false = true) by decide)] at H
   obtain rfl := Option.some.inj H
   go_enter Try.func93, Try.ntmps93
   try go_wp2
   replace HB := Aside0.mk (below_drew1 HB.out)
   have p275 : 0 ≤ (0 : Int) := (by omega)
   have q275 : 0 < (l0.length : Int) := zD; obtain ⟨ad275, e275, hx275_0, hx275_1, hx275_2, hx275_3⟩ := at_T103 HR0.out 0 p275 q275; have hw275_3 := hx275_3; (try rw [z0, Nat.zero_mul, Addr.add_zero'] at hw275_3); have hw275_2 := hx275_2; (try rw [z0, Nat.zero_mul, Addr.add_zero'] at hw275_2); have hw275_1 := hx275_1; (try rw [z0, Nat.zero_mul, Addr.add_zero'] at hw275_1); have hw275_0 := hx275_0; (try rw [z0, Nat.zero_mul, Addr.add_zero'] at hw275_0); cases e275
   have qi275 : (0 < l0.length) = True := eq_true (by omega)
   (try rw [z0, Nat.zero_mul, Addr.add_zero'] at hx275_0); (try rw [z0, Nat.zero_mul, Addr.add_zero'] at hx275_1); (try rw [z0, Nat.zero_mul, Addr.add_zero'] at hx275_2); (try rw [z0, Nat.zero_mul, Addr.add_zero'] at hx275_3)
   try replace hx275_0 := zH HB hx275_0
   try replace hx275_1 := zH HB hx275_1
   try replace hx275_2 := zH HB hx275_2
   try replace hx275_3 := zH HB hx275_3
   replace p275 := eq_true p275; replace q275 := eq_true q275
   refine start_ (n := 41) (S := fun w' => w'.cell? ad275 = some (.int .i64 ((rd_T103 l0 0).f0)) ∧ w'.cell? ⟨ad275.block, ad275.off + 1, none⟩ = some (.int .i64 ((rd_T103 l0 0).f1)) ∧ w'.cell? ⟨ad275.block, ad275.off + 2, none⟩ = some (.int .i64 ((rd_T103 l0 0).f2)) ∧ w'.cell? ⟨ad275.block, ad275.off + 3, none⟩ = some (.int .i64 ((rd_T103 l0 0).f3))) (ds := []) (Array.replicate 41 false) (by kernel_rfl) rfl rfl ⟨(zH HB hw275_0), (zH HB hw275_1), (zH HB hw275_2), (zH HB hw275_3)⟩ (fun hHeld => ?_); refine with_tabW spec_l09Box.tab1 spec_l09Box.bits1 (fun HT_ HW_ => ?_)
   generalize w.drew = w14 at HB hx275_0 hx275_1 hx275_2 hx275_3 hHeld ⊢
   refine zP 0 (some 7) (zb 41 1) HT_ ?_; refine zP 1 (some 8) (zb 41 3) HT_ ?_; refine zP 2 (some 9) (zb 41 7) HT_ ?_; refine zP 4 (some 11) (zb 41 23) HT_ ?_; refine zT4 3 (some 10) (zb 41 31) HT_ HW_ hHeld ?_
   refine one_ (i := 5) (N := some 12) (zb 41 63) rfl rfl (one_of HT_.out (by kernel_rfl)) (by decide) (fun K hK => ?_)
   refine goes_ Try.func81 (by kernel_rfl) rfl #[.int .i64 ((rd_T103 l0 0).f0), .int .i64 0, .int .i64 a1] (by rfl) rfl rfl pA ?_
   with_reducible refine (spec_l00In.calls ((rd_T103 l0 0).f0) 0 a1 true _ A5.out).mono ?_; rintro e w' ⟨rfl, ⟨nd, rfl⟩⟩; refine ⟨_, rfl, ?_⟩
   refine hK.out _ _ ⟨(zH HB hw275_0), (zH HB hw275_1), (zH HB hw275_2), (zH HB hw275_3)⟩ (fun hHeld => ?_)
   clear hK K; refine zN ?_; refine zP 6 (some 13) (zb 41 127) HT_ ?_; refine zP 7 (some 14) (zb 41 255) HT_ ?_; refine zP 8 (some 15) (zb 41 511) HT_ ?_; refine zP 9 (some 16) (zb 41 1023) HT_ ?_; refine zP 11 (some 18) (zb 41 3071) HT_ ?_; refine zT4 10 (some 17) (zb 41 4095) HT_ HW_ hHeld ?_
   refine one_ (i := 12) (N := some 19) (zb 41 8191) rfl rfl (one_of HT_.out (by kernel_rfl)) (by decide) (fun K hK => ?_)
   refine goes_ Try.func81 (by kernel_rfl) rfl #[.int .i64 ((rd_T103 l0 0).f1), .int .i64 0, .int .i64 a2] (by rfl) rfl rfl pA ?_
   with_reducible refine (spec_l00In.calls ((rd_T103 l0 0).f1) 0 a2 false _ A7.out).mono ?_; rintro e w' ⟨rfl, ⟨nd, rfl⟩⟩; refine ⟨_, rfl, ?_⟩
   refine hK.out _ _ ⟨(zH HB hw275_0), (zH HB hw275_1), (zH HB hw275_2), (zH HB hw275_3)⟩ (fun hHeld => ?_)
   clear hK K; refine zN ?_; refine zP 13 (some 20) (zb 41 16383) HT_ ?_; refine zP 14 (some 21) (zb 41 32767) HT_ ?_; refine zU 15 (some 22) (zb 41 65535) HT_ ?_; refine zU 16 (some 23) (zb 41 131071) HT_ ?_; refine zU 17 (some 24) (zb 41 262143) HT_ ?_; refine zU 18 (some 25) (zb 41 524287) HT_ ?_; refine zU 19 (some 26) (zb 41 1048575) HT_ ?_; refine zU 20 (some 27) (zb 41 2097151) HT_ ?_; refine zU 21 (some 28) (zb 41 4194303) HT_ ?_; refine zU 22 (some 29) (zb 41 8388607) HT_ ?_; refine zU 23 (some 30) (zb 41 16777215) HT_ ?_; refine zU 24 (some 31) (zb 41 33554431) HT_ ?_; refine zU 25 (some 32) (zb 41 67108863) HT_ ?_; refine zP 26 (some 33) (zb 41 134217727) HT_ ?_; refine zP 27 (some 34) (zb 41 268435455) HT_ ?_; refine zU 28 (some 35) (zb 41 536870911) HT_ ?_; refine zU 29 (some 36) (zb 41 1073741823) HT_ ?_; refine zU 30 (some 37) (zb 41 2147483647) HT_ ?_; refine zU 31 (some 38) (zb 41 4294967295) HT_ ?_; refine zU 32 (some 39) (zb 41 8589934591) HT_ ?_; refine zU 33 (some 40) (zb 41 17179869183) HT_ ?_; refine zU 34 (some 41) (zb 41 34359738367) HT_ ?_; refine zU 35 (some 42) (zb 41 68719476735) HT_ ?_; refine zU 36 (some 43) (zb 41 137438953471) HT_ ?_; refine zU 37 (some 44) (zb 41 274877906943) HT_ ?_; refine zU 38 (some 45) (zb 41 549755813887) HT_ ?_; refine zP 39 (some 46) (zb 41 1099511627775) HT_ ?_; refine zP 40 (some 6) (zb 41 2199023255551) HT_ ?_
   refine done_ (done_of HT_.out (by kernel_rfl)) ?_
   try go_wp2
   go_ret
   exact ⟨zE, pB0 HB.out⟩
 subst c8; rw [if_pos rfl] at H; replace H := Option.bind_eq_some_iff.mp H; obtain ⟨t278, A90, H⟩ := H; have A9 := Aside0.mk A90; clear A90
 by_cases c10 : t278 = true
 rotate_left
 · replace c10 := Bool.eq_false_iff.mpr c10
   subst c10
   rw [if_neg (show ¬ (false = true) by decide)] at H
   obtain rfl := Option.some.inj H
   go_enter Try.func93, Try.ntmps93
   try go_wp2
   replace HB := Aside0.mk (below_drew1 HB.out)
   have p275 : 0 ≤ (0 : Int) := (by omega)
   have q275 : 0 < (l0.length : Int) := zD; obtain ⟨ad275, e275, hx275_0, hx275_1, hx275_2, hx275_3⟩ := at_T103 HR0.out 0 p275 q275; have hw275_3 := hx275_3; (try rw [z0, Nat.zero_mul, Addr.add_zero'] at hw275_3); have hw275_2 := hx275_2; (try rw [z0, Nat.zero_mul, Addr.add_zero'] at hw275_2); have hw275_1 := hx275_1; (try rw [z0, Nat.zero_mul, Addr.add_zero'] at hw275_1); have hw275_0 := hx275_0; (try rw [z0, Nat.zero_mul, Addr.add_zero'] at hw275_0); cases e275
   have qi275 : (0 < l0.length) = True := eq_true (by omega)
   (try rw [z0, Nat.zero_mul, Addr.add_zero'] at hx275_0); (try rw [z0, Nat.zero_mul, Addr.add_zero'] at hx275_1); (try rw [z0, Nat.zero_mul, Addr.add_zero'] at hx275_2); (try rw [z0, Nat.zero_mul, Addr.add_zero'] at hx275_3)
   try replace hx275_0 := zH HB hx275_0
   try replace hx275_1 := zH HB hx275_1
   try replace hx275_2 := zH HB hx275_2
   try replace hx275_3 := zH HB hx275_3
   replace p275 := eq_true p275; replace q275 := eq_true q275
   refine start_ (n := 41) (S := fun w' => w'.cell? ad275 = some (.int .i64 ((rd_T103 l0 0).f0)) ∧ w'.cell? ⟨ad275.block, ad275.off + 1, none⟩ = some (.int .i64 ((rd_T103 l0 0).f1)) ∧ w'.cell? ⟨ad275.block, ad275.off + 2, none⟩ = some (.int .i64 ((rd_T103 l0 0).f2)) ∧ w'.cell? ⟨ad275.block, ad275.off + 3, none⟩ = some (.int .i64 ((rd_T103 l0 0).f3))) (ds := []) (Array.replicate 41 false) (by kernel_rfl) rfl rfl ⟨(zH HB hw275_0), (zH HB hw275_1), (zH HB hw275_2), (zH HB hw275_3)⟩ (fun hHeld => ?_); refine with_tabW spec_l09Box.tab1 spec_l09Box.bits1 (fun HT_ HW_ => ?_)
   generalize w.drew = w13 at HB hx275_0 hx275_1 hx275_2 hx275_3 hHeld ⊢
   refine zP 0 (some 7) (zb 41 1) HT_ ?_; refine zP 1 (some 8) (zb 41 3) HT_ ?_; refine zP 2 (some 9) (zb 41 7) HT_ ?_; refine zP 4 (some 11) (zb 41 23) HT_ ?_; refine zT4 3 (some 10) (zb 41 31) HT_ HW_ hHeld ?_
   refine one_ (i := 5) (N := some 12) (zb 41 63) rfl rfl (one_of HT_.out (by kernel_rfl)) (by decide) (fun K hK => ?_)
   refine goes_ Try.func81 (by kernel_rfl) rfl #[.int .i64 ((rd_T103 l0 0).f0), .int .i64 0, .int .i64 a1] (by rfl) rfl rfl pA ?_
   with_reducible refine (spec_l00In.calls ((rd_T103 l0 0).f0) 0 a1 true _ A5.out).mono ?_; rintro e w' ⟨rfl, ⟨nd, rfl⟩⟩; refine ⟨_, rfl, ?_⟩
   refine hK.out _ _ ⟨(zH HB hw275_0), (zH HB hw275_1), (zH HB hw275_2), (zH HB hw275_3)⟩ (fun hHeld => ?_)
   clear hK K; refine zN ?_; refine zP 6 (some 13) (zb 41 127) HT_ ?_; refine zP 7 (some 14) (zb 41 255) HT_ ?_; refine zP 8 (some 15) (zb 41 511) HT_ ?_; refine zP 9 (some 16) (zb 41 1023) HT_ ?_; refine zP 11 (some 18) (zb 41 3071) HT_ ?_; refine zT4 10 (some 17) (zb 41 4095) HT_ HW_ hHeld ?_
   refine one_ (i := 12) (N := some 19) (zb 41 8191) rfl rfl (one_of HT_.out (by kernel_rfl)) (by decide) (fun K hK => ?_)
   refine goes_ Try.func81 (by kernel_rfl) rfl #[.int .i64 ((rd_T103 l0 0).f1), .int .i64 0, .int .i64 a2] (by rfl) rfl rfl pA ?_
   with_reducible refine (spec_l00In.calls ((rd_T103 l0 0).f1) 0 a2 true _ A7.out).mono ?_; rintro e w' ⟨rfl, ⟨nd, rfl⟩⟩; refine ⟨_, rfl, ?_⟩
   refine hK.out _ _ ⟨(zH HB hw275_0), (zH HB hw275_1), (zH HB hw275_2), (zH HB hw275_3)⟩ (fun hHeld => ?_)
   clear hK K; refine zN ?_; refine zP 13 (some 20) (zb 41 16383) HT_ ?_; refine zP 14 (some 21) (zb 41 32767) HT_ ?_; refine zP 15 (some 22) (zb 41 65535) HT_ ?_; refine zP 16 (some 23) (zb 41 131071) HT_ ?_; refine zP 17 (some 24) (zb 41 262143) HT_ ?_; refine zP 19 (some 26) (zb 41 786431) HT_ ?_; refine zP 20 (some 27) (zb 41 1835007) HT_ ?_; refine zP 21 (some 28) (zb 41 3932159) HT_ ?_; refine zP 22 (some 29) (zb 41 8126463) HT_ ?_; refine zT4 18 (some 25) (zb 41 8388607) HT_ HW_ hHeld ?_; refine zT4 23 (some 30) (zb 41 16777215) HT_ HW_ hHeld ?_; refine zP 24 (some 31) (zb 41 33554431) HT_ ?_
   refine one_ (i := 25) (N := some 32) (zb 41 67108863) rfl rfl (one_of HT_.out (by kernel_rfl)) (by decide) (fun K hK => ?_)
   refine goes_ Try.func81 (by kernel_rfl) rfl #[.int .i64 ((rd_T103 l0 0).f2), .int .i64 1, .int .i64 (wrap64 (a1 - ((rd_T103 l0 0).f0)))] (by rfl) rfl rfl pA ?_
   with_reducible refine (spec_l00In.calls ((rd_T103 l0 0).f2) 1 (wrap64 (a1 - ((rd_T103 l0 0).f0))) false _ A9.out).mono ?_; rintro e w' ⟨rfl, ⟨nd, rfl⟩⟩; refine ⟨_, rfl, ?_⟩
   refine hK.out _ _ ⟨(zH HB hw275_0), (zH HB hw275_1), (zH HB hw275_2), (zH HB hw275_3)⟩ (fun hHeld => ?_)
   clear hK K; refine zN ?_; refine zP 26 (some 33) (zb 41 134217727) HT_ ?_; refine zP 27 (some 34) (zb 41 268435455) HT_ ?_; refine zU 28 (some 35) (zb 41 536870911) HT_ ?_; refine zU 29 (some 36) (zb 41 1073741823) HT_ ?_; refine zU 30 (some 37) (zb 41 2147483647) HT_ ?_; refine zU 31 (some 38) (zb 41 4294967295) HT_ ?_; refine zU 32 (some 39) (zb 41 8589934591) HT_ ?_; refine zU 33 (some 40) (zb 41 17179869183) HT_ ?_; refine zU 34 (some 41) (zb 41 34359738367) HT_ ?_; refine zU 35 (some 42) (zb 41 68719476735) HT_ ?_; refine zU 36 (some 43) (zb 41 137438953471) HT_ ?_; refine zU 37 (some 44) (zb 41 274877906943) HT_ ?_; refine zU 38 (some 45) (zb 41 549755813887) HT_ ?_; refine zP 39 (some 46) (zb 41 1099511627775) HT_ ?_; refine zP 40 (some 6) (zb 41 2199023255551) HT_ ?_
   refine done_ (done_of HT_.out (by kernel_rfl)) ?_
   try go_wp2
   go_ret
   exact ⟨zE, pB0 HB.out⟩
 subst c10; rw [if_pos rfl] at H; replace H := Option.bind_eq_some_iff.mp H; obtain ⟨t279, A110, H⟩ := H; have A11 := Aside0.mk A110; clear A110; obtain rfl := Option.some.inj H
 go_enter Try.func93, Try.ntmps93
 try go_wp2
 replace HB := Aside0.mk (below_drew1 HB.out)
 have p275 : 0 ≤ (0 : Int) := (by omega)
 have q275 : 0 < (l0.length : Int) := zD; obtain ⟨ad275, e275, hx275_0, hx275_1, hx275_2, hx275_3⟩ := at_T103 HR0.out 0 p275 q275; have hw275_3 := hx275_3; (try rw [z0, Nat.zero_mul, Addr.add_zero'] at hw275_3); have hw275_2 := hx275_2; (try rw [z0, Nat.zero_mul, Addr.add_zero'] at hw275_2); have hw275_1 := hx275_1; (try rw [z0, Nat.zero_mul, Addr.add_zero'] at hw275_1); have hw275_0 := hx275_0; (try rw [z0, Nat.zero_mul, Addr.add_zero'] at hw275_0); cases e275
 have qi275 : (0 < l0.length) = True := eq_true (by omega)
 (try rw [z0, Nat.zero_mul, Addr.add_zero'] at hx275_0); (try rw [z0, Nat.zero_mul, Addr.add_zero'] at hx275_1); (try rw [z0, Nat.zero_mul, Addr.add_zero'] at hx275_2); (try rw [z0, Nat.zero_mul, Addr.add_zero'] at hx275_3)
 try replace hx275_0 := zH HB hx275_0
 try replace hx275_1 := zH HB hx275_1
 try replace hx275_2 := zH HB hx275_2
 try replace hx275_3 := zH HB hx275_3
 replace p275 := eq_true p275; replace q275 := eq_true q275
 refine start_ (n := 41) (S := fun w' => w'.cell? ad275 = some (.int .i64 ((rd_T103 l0 0).f0)) ∧ w'.cell? ⟨ad275.block, ad275.off + 1, none⟩ = some (.int .i64 ((rd_T103 l0 0).f1)) ∧ w'.cell? ⟨ad275.block, ad275.off + 2, none⟩ = some (.int .i64 ((rd_T103 l0 0).f2)) ∧ w'.cell? ⟨ad275.block, ad275.off + 3, none⟩ = some (.int .i64 ((rd_T103 l0 0).f3))) (ds := []) (Array.replicate 41 false) (by kernel_rfl) rfl rfl ⟨(zH HB hw275_0), (zH HB hw275_1), (zH HB hw275_2), (zH HB hw275_3)⟩ (fun hHeld => ?_); refine with_tabW spec_l09Box.tab1 spec_l09Box.bits1 (fun HT_ HW_ => ?_)
 generalize w.drew = w12 at HB hx275_0 hx275_1 hx275_2 hx275_3 hHeld ⊢
 refine zP 0 (some 7) (zb 41 1) HT_ ?_; refine zP 1 (some 8) (zb 41 3) HT_ ?_; refine zP 2 (some 9) (zb 41 7) HT_ ?_; refine zP 4 (some 11) (zb 41 23) HT_ ?_; refine zT4 3 (some 10) (zb 41 31) HT_ HW_ hHeld ?_
 refine one_ (i := 5) (N := some 12) (zb 41 63) rfl rfl (one_of HT_.out (by kernel_rfl)) (by decide) (fun K hK => ?_)
 refine goes_ Try.func81 (by kernel_rfl) rfl #[.int .i64 ((rd_T103 l0 0).f0), .int .i64 0, .int .i64 a1] (by rfl) rfl rfl pA ?_
 with_reducible refine (spec_l00In.calls ((rd_T103 l0 0).f0) 0 a1 true _ A5.out).mono ?_; rintro e w' ⟨rfl, ⟨nd, rfl⟩⟩; refine ⟨_, rfl, ?_⟩
 refine hK.out _ _ ⟨(zH HB hw275_0), (zH HB hw275_1), (zH HB hw275_2), (zH HB hw275_3)⟩ (fun hHeld => ?_)
 clear hK K; refine zN ?_; refine zP 6 (some 13) (zb 41 127) HT_ ?_; refine zP 7 (some 14) (zb 41 255) HT_ ?_; refine zP 8 (some 15) (zb 41 511) HT_ ?_; refine zP 9 (some 16) (zb 41 1023) HT_ ?_; refine zP 11 (some 18) (zb 41 3071) HT_ ?_; refine zT4 10 (some 17) (zb 41 4095) HT_ HW_ hHeld ?_
 refine one_ (i := 12) (N := some 19) (zb 41 8191) rfl rfl (one_of HT_.out (by kernel_rfl)) (by decide) (fun K hK => ?_)
 refine goes_ Try.func81 (by kernel_rfl) rfl #[.int .i64 ((rd_T103 l0 0).f1), .int .i64 0, .int .i64 a2] (by rfl) rfl rfl pA ?_
 with_reducible refine (spec_l00In.calls ((rd_T103 l0 0).f1) 0 a2 true _ A7.out).mono ?_; rintro e w' ⟨rfl, ⟨nd, rfl⟩⟩; refine ⟨_, rfl, ?_⟩
 refine hK.out _ _ ⟨(zH HB hw275_0), (zH HB hw275_1), (zH HB hw275_2), (zH HB hw275_3)⟩ (fun hHeld => ?_)
 clear hK K; refine zN ?_; refine zP 13 (some 20) (zb 41 16383) HT_ ?_; refine zP 14 (some 21) (zb 41 32767) HT_ ?_; refine zP 15 (some 22) (zb 41 65535) HT_ ?_; refine zP 16 (some 23) (zb 41 131071) HT_ ?_; refine zP 17 (some 24) (zb 41 262143) HT_ ?_; refine zP 19 (some 26) (zb 41 786431) HT_ ?_; refine zP 20 (some 27) (zb 41 1835007) HT_ ?_; refine zP 21 (some 28) (zb 41 3932159) HT_ ?_; refine zP 22 (some 29) (zb 41 8126463) HT_ ?_; refine zT4 18 (some 25) (zb 41 8388607) HT_ HW_ hHeld ?_; refine zT4 23 (some 30) (zb 41 16777215) HT_ HW_ hHeld ?_; refine zP 24 (some 31) (zb 41 33554431) HT_ ?_
 refine one_ (i := 25) (N := some 32) (zb 41 67108863) rfl rfl (one_of HT_.out (by kernel_rfl)) (by decide) (fun K hK => ?_)
 refine goes_ Try.func81 (by kernel_rfl) rfl #[.int .i64 ((rd_T103 l0 0).f2), .int .i64 1, .int .i64 (wrap64 (a1 - ((rd_T103 l0 0).f0)))] (by rfl) rfl rfl pA ?_
 with_reducible refine (spec_l00In.calls ((rd_T103 l0 0).f2) 1 (wrap64 (a1 - ((rd_T103 l0 0).f0))) true _ A9.out).mono ?_; rintro e w' ⟨rfl, ⟨nd, rfl⟩⟩; refine ⟨_, rfl, ?_⟩
 refine hK.out _ _ ⟨(zH HB hw275_0), (zH HB hw275_1), (zH HB hw275_2), (zH HB hw275_3)⟩ (fun hHeld => ?_)
 clear hK K; refine zN ?_; refine zP 26 (some 33) (zb 41 134217727) HT_ ?_; refine zP 27 (some 34) (zb 41 268435455) HT_ ?_; refine zP 28 (some 35) (zb 41 536870911) HT_ ?_; refine zP 29 (some 36) (zb 41 1073741823) HT_ ?_; refine zP 30 (some 37) (zb 41 2147483647) HT_ ?_; refine zP 32 (some 39) (zb 41 6442450943) HT_ ?_; refine zP 33 (some 40) (zb 41 15032385535) HT_ ?_; refine zP 34 (some 41) (zb 41 32212254719) HT_ ?_; refine zP 35 (some 42) (zb 41 66571993087) HT_ ?_; refine zT4 31 (some 38) (zb 41 68719476735) HT_ HW_ hHeld ?_; refine zT4 36 (some 43) (zb 41 137438953471) HT_ HW_ hHeld ?_; refine zP 37 (some 44) (zb 41 274877906943) HT_ ?_
 refine one_ (i := 38) (N := some 45) (zb 41 549755813887) rfl rfl (one_of HT_.out (by kernel_rfl)) (by decide) (fun K hK => ?_)
 refine goes_ Try.func81 (by kernel_rfl) rfl #[.int .i64 ((rd_T103 l0 0).f3), .int .i64 1, .int .i64 (wrap64 (a2 - ((rd_T103 l0 0).f1)))] (by rfl) rfl rfl pA ?_
 with_reducible refine (spec_l00In.calls ((rd_T103 l0 0).f3) 1 (wrap64 (a2 - ((rd_T103 l0 0).f1))) t279 _ A11.out).mono ?_; rintro e w' ⟨rfl, ⟨nd, rfl⟩⟩; refine ⟨_, rfl, ?_⟩
 refine hK.out _ _ ⟨(zH HB hw275_0), (zH HB hw275_1), (zH HB hw275_2), (zH HB hw275_3)⟩ (fun hHeld => ?_)
 clear hK K; refine zN ?_; refine zP 39 (some 46) (zb 41 1099511627775) HT_ ?_; refine zP 40 (some 6) (zb 41 2199023255551) HT_ ?_
 refine done_ (done_of HT_.out (by kernel_rfl)) ?_
 try go_wp2
 go_ret
 exact ⟨zE, pB0 HB.out⟩
end Go.Proofs.Ytfiiakhpdkdebaa.PFnExactOffcutsOf

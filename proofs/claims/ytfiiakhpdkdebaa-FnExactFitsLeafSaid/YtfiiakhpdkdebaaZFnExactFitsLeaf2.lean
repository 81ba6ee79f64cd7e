/- What each function that a law reaches comes to, and the proof that its walk comes to it; laid by a program of this session. No condition. -/
import Derived.Test.YtfiiakhpdkdebaaZFnExactFitsLeaf0
namespace Go.Proofs.Ytfiiakhpdkdebaa.PFnExactFitsLeaf
open Go.RowKit Go.Proofs.YtfiiakhpdkdebaaW.PrintWords Go.Proofs.YtfiiakhpdkdebaaW.PrintLast Go.Proofs.YtfiiakhpdkdebaaW.PrintMore
attribute [local go_sem] max2_int min2_int max_two min_two max_three min_three max_four min_four
set_option linter.unusedVariables false
set_option linter.unusedSimpArgs false
def laws_szPointS.f (l0 : List (S93)) (a1 : Int) : Option (Int) := if (wrap64 (a1 - (l0.length : Int))) < 0 then (some (-1)) else (some (wrap64 (a1 - (l0.length : Int))))
set_option maxHeartbeats 8000000 in
set_option maxRecDepth 100000 in
theorem laws_szPointS.calls (A0 : Option Addr) (c0 : Nat) (l0 : List (S93)) (a1 : Int) (r : Int) (w : World) (hr0 : Kd.C k93 w A0 l0.length l0) (hc0 : l0.length ≤ c0) (h : laws_szPointS.f l0 a1 = some r) :
 Calls Try.prog 9 #[.slice A0 l0.length c0, .int .i64 a1] w fun e w' => e = .returned (.int .i64 r) ∧ Drawn0 w w' := by
 have HR0 := Aside0.mk hr0
 have HC0 := Aside0.mk hc0
 clear hr0 hc0
 have H : (if (wrap64 (a1 - (l0.length : Int))) < 0 then (some (-1)) else (some (wrap64 (a1 - (l0.length : Int))))) = some r := h
 clear h
 by_cases c3 : (wrap64 (a1 - (l0.length : Int))) < 0
 · rw [if_pos c3] at H
   have c3b0 := decide_eq_true c3
   clear c3
   obtain rfl := Option.some.inj H
   go_enter Try.func9, Try.ntmps9
   go_wp2
   go_ret
   exact ⟨by first | rfl | (simp; done) | (simp [*]; done), by repeat (first | exact Drawn0.refl _ | apply Drawn0.step)⟩
 rw [if_neg c3] at H
 have c3b0 : decide ((wrap64 (a1 - (l0.length : Int))) < 0) = false := decide_eq_false c3
 clear c3
 obtain rfl := Option.some.inj H
 go_enter Try.func9, Try.ntmps9
 go_wp2
 go_ret
 exact ⟨by first | rfl | (simp; done) | (simp [*]; done), by repeat (first | exact Drawn0.refl _ | apply Drawn0.step)⟩
def laws_szVeneer.f (a0_0 : ByteArray) (a0_1 : Int) (a0_2 : Int) (a1 : Int) : Option (Int) := if (wrap64 (a1 - (a0_0.size : Int))) < 0 then (some (-1)) else (some (wrap64 (a1 - (a0_0.size : Int))))
set_option maxHeartbeats 8000000 in
set_option maxRecDepth 100000 in
theorem laws_szVeneer.calls (a0_0 : ByteArray) (a0_1 : Int) (a0_2 : Int) (a1 : Int) (r : Int) (w : World) (h : laws_szVeneer.f a0_0 a0_1 a0_2 a1 = some r) :
 Calls Try.prog 47 #[.agg #[.string a0_0, .int .i64 a0_1, .int .i64 a0_2], .int .i64 a1] w fun e w' => e = .returned (.int .i64 r) ∧ Below w.heap.size w w' := by
 have hu24 := Try.underlying24
 have HB := Aside0.mk (Below.refl w.heap.size w)
 have H : (if (wrap64 (a1 - (a0_0.size : Int))) < 0 then (some (-1)) else (some (wrap64 (a1 - (a0_0.size : Int))))) = some r := h
 clear h
 by_cases c3 : (wrap64 (a1 - (a0_0.size : Int))) < 0
 · rw [if_pos c3] at H
   have c3b0 := decide_eq_true c3
   clear c3
   obtain rfl := Option.some.inj H
   go_enter Try.func47, Try.ntmps47
   go_wp2_with (first | ((with_reducible refine gate_dst (N := 2) rfl ?_); refine zB 2 #[.string a0_0, .int .i64 a0_1, .int .i64 a0_2] 24 ?_; intro gb101 hg w4 hbox hb; have BK101 := Aside0.mk (hbox); have GW101 := zS (pB0 HB.out) hg; have GE101 := zS (pB0 HB.out) hg; replace HB := zW (pB0 HB.out) hb; clear hb hbox hg; obtain ⟨hcz5_0, hfz5_0, hcz5_1, hfz5_1, hcz5_2, hfz5_2⟩ := zw3 BK101))
   go_ret
   exact ⟨zE, pB1 HB.out GE101.out⟩
 rw [if_neg c3] at H
 have c3b0 : decide ((wrap64 (a1 - (a0_0.size : Int))) < 0) = false := decide_eq_false c3
 clear c3
 obtain rfl := Option.some.inj H
 go_enter Try.func47, Try.ntmps47
 go_wp2_with (first | ((with_reducible refine gate_dst (N := 2) rfl ?_); refine zB 2 #[.string a0_0, .int .i64 a0_1, .int .i64 a0_2] 24 ?_; intro gb101 hg w6 hbox hb; have BK101 := Aside0.mk (hbox); have GW101 := zS (pB0 HB.out) hg; have GE101 := zS (pB0 HB.out) hg; replace HB := zW (pB0 HB.out) hb; clear hb hbox hg; obtain ⟨hcz7_0, hfz7_0, hcz7_1, hfz7_1, hcz7_2, hfz7_2⟩ := zw3 BK101))
 go_ret
 exact ⟨zE, pB1 HB.out GE101.out⟩
def laws_szBoxS.f (l0 : List (S136)) (a1 : Int) : Option (Int) := if (wrap64 (a1 - (l0.length : Int))) < 0 then (some (-1)) else (some (wrap64 (a1 - (l0.length : Int))))
set_option maxHeartbeats 8000000 in
set_option maxRecDepth 100000 in
theorem laws_szBoxS.calls (A0 : Option Addr) (c0 : Nat) (l0 : List (S136)) (a1 : Int) (r : Int) (w : World) (hr0 : Kd.C k136 w A0 l0.length l0) (hc0 : l0.length ≤ c0) (h : laws_szBoxS.f l0 a1 = some r) :
 Calls Try.prog 48 #[.slice A0 l0.length c0, .int .i64 a1] w fun e w' => e = .returned (.int .i64 r) ∧ Drawn0 w w' := by
 have HR0 := Aside0.mk hr0
 have HC0 := Aside0.mk hc0
 clear hr0 hc0
 have H : (if (wrap64 (a1 - (l0.length : Int))) < 0 then (some (-1)) else (some (wrap64 (a1 - (l0.length : Int))))) = some r := h
 clear h
 by_cases c3 : (wrap64 (a1 - (l0.length : Int))) < 0
 · rw [if_pos c3] at H
   have c3b0 := decide_eq_true c3
   clear c3
   obtain rfl := Option.some.inj H
   go_enter Try.func48, Try.ntmps48
   go_wp2
   go_ret
   exact ⟨by first | rfl | (simp; done) | (simp [*]; done), by repeat (first | exact Drawn0.refl _ | apply Drawn0.step)⟩
 rw [if_neg c3] at H
 have c3b0 : decide ((wrap64 (a1 - (l0.length : Int))) < 0) = false := decide_eq_false c3
 clear c3
 obtain rfl := Option.some.inj H
 go_enter Try.func48, Try.ntmps48
 go_wp2
 go_ret
 exact ⟨by first | rfl | (simp; done) | (simp [*]; done), by repeat (first | exact Drawn0.refl _ | apply Drawn0.step)⟩
def laws_szLeaf.f (a0_0 : ByteArray) (a0_1 : ByteArray) (a0_2 : Int) (a0_3 : ByteArray) (a0_4 : Int) (a0_5 : Int) (a0_6 : Int) (a0_7 : Int) (l0_8 : List (S136)) (a1 : Int) : Option (Int) := if (wrap64 (a1 - (a0_0.size : Int))) < 0 then (some (-1)) else (if (wrap64 ((wrap64 (a1 - (a0_0.size : Int))) - (a0_1.size : Int))) < 0 then (some (-1)) else ((laws_szVeneer.f a0_3 a0_4 a0_5 (wrap64 ((wrap64 (a1 - (a0_0.size : Int))) - (a0_1.size : Int)))).bind fun t103 => (if t103 < 0 then (some (-1)) else ((laws_szBoxS.f l0_8 t103).bind fun t104 => (if t104 < 0 then (some (-1)) else (some t104))))))
set_option maxHeartbeats 8000000 in
set_option maxRecDepth 100000 in
theorem laws_szLeaf.calls (a0_0 : ByteArray) (a0_1 : ByteArray) (a0_2 : Int) (a0_3 : ByteArray) (a0_4 : Int) (a0_5 : Int) (a0_6 : Int) (a0_7 : Int) (A0_8 : Option Addr) (c0_8 : Nat) (l0_8 : List (S136)) (a1 : Int) (r : Int) (w : World) (hr0_8 : Kd.C k136 w A0_8 l0_8.length l0_8) (hc0_8 : l0_8.length ≤ c0_8) (h : laws_szLeaf.f a0_0 a0_1 a0_2 a0_3 a0_4 a0_5 a0_6 a0_7 l0_8 a1 = some r) :
 Calls Try.prog 10 #[.agg #[.string a0_0, .string a0_1, .int .i64 a0_2, .string a0_3, .int .i64 a0_4, .int .i64 a0_5, .int .i64 a0_6, .int .i64 a0_7, .slice A0_8 l0_8.length c0_8], .int .i64 a1] w fun e w' => e = .returned (.int .i64 r) ∧ Below w.heap.size w w' := by
 have hu27 := Try.underlying27
 have hu24 := Try.underlying24
 have HR0_8 := Aside0.mk hr0_8
 have HC0_8 := Aside0.mk hc0_8
 clear hr0_8 hc0_8
 have HB := Aside0.mk (Below.refl w.heap.size w)
 have H : (if (wrap64 (a1 - (a0_0.size : Int))) < 0 then (some (-1)) else (if (wrap64 ((wrap64 (a1 - (a0_0.size : Int))) - (a0_1.size : Int))) < 0 then (some (-1)) else ((laws_szVeneer.f a0_3 a0_4 a0_5 (wrap64 ((wrap64 (a1 - (a0_0.size : Int))) - (a0_1.size : Int)))).bind fun t103 => (if t103 < 0 then (some (-1)) else ((laws_szBoxS.f l0_8 t103).bind fun t104 => (if t104 < 0 then (some (-1)) else (some t104))))))) = some r := h
 clear h
 by_cases c3 : (wrap64 (a1 - (a0_0.size : Int))) < 0
 · rw [if_pos c3] at H
   have c3b0 := decide_eq_true c3
   clear c3
   obtain rfl := Option.some.inj H
   go_enter Try.func10, Try.ntmps10
   go_wp2_with (first | ((with_reducible refine gate_dst (N := 2) rfl ?_); refine zB 2 #[.string a0_0, .string a0_1, .int .i64 a0_2, .string a0_3, .int .i64 a0_4, .int .i64 a0_5, .int .i64 a0_6, .int .i64 a0_7, .slice A0_8 l0_8.length c0_8] 27 ?_; intro gb102 hg w4 hbox hb; have BK102 := Aside0.mk (hbox); have GW102 := zS (pB0 HB.out) hg; have GE102 := zS (pB0 HB.out) hg; replace HB := zW (pB0 HB.out) hb; clear hb hbox hg; obtain ⟨hcz5_0, hfz5_0, hcz5_1, hfz5_1, hcz5_2, hfz5_2, hcz5_3, hfz5_3, hcz5_4, hfz5_4, hcz5_5, hfz5_5, hcz5_6, hfz5_6, hcz5_7, hfz5_7, hcz5_8, hfz5_8⟩ := zw9 BK102))
   go_ret
   exact ⟨zE, pB1 HB.out GE102.out⟩
 rw [if_neg c3] at H
 have c3b0 : decide ((wrap64 (a1 - (a0_0.size : Int))) < 0) = false := decide_eq_false c3
 clear c3
 by_cases c6 : (wrap64 ((wrap64 (a1 - (a0_0.size : Int))) - (a0_1.size : Int))) < 0
 · rw [if_pos c6] at H
   have c6b0 := decide_eq_true c6
   clear c6
   obtain rfl := Option.some.inj H
   go_enter Try.func10, Try.ntmps10
   go_wp2_with (first | ((with_reducible refine gate_dst (N := 2) rfl ?_); refine zB 2 #[.string a0_0, .string a0_1, .int .i64 a0_2, .string a0_3, .int .i64 a0_4, .int .i64 a0_5, .int .i64 a0_6, .int .i64 a0_7, .slice A0_8 l0_8.length c0_8] 27 ?_; intro gb102 hg w7 hbox hb; have BK102 := Aside0.mk (hbox); have GW102 := zS (pB0 HB.out) hg; have GE102 := zS (pB0 HB.out) hg; replace HB := zW (pB0 HB.out) hb; clear hb hbox hg; obtain ⟨hcz8_0, hfz8_0, hcz8_1, hfz8_1, hcz8_2, hfz8_2, hcz8_3, hfz8_3, hcz8_4, hfz8_4, hcz8_5, hfz8_5, hcz8_6, hfz8_6, hcz8_7, hfz8_7, hcz8_8, hfz8_8⟩ := zw9 BK102))
   go_ret
   exact ⟨zE, pB1 HB.out GE102.out⟩
 rw [if_neg c6] at H
 have c6b0 : decide ((wrap64 ((wrap64 (a1 - (a0_0.size : Int))) - (a0_1.size : Int))) < 0) = false := decide_eq_false c6
 clear c6
 replace H := Option.bind_eq_some_iff.mp H
 obtain ⟨t103, A90, H⟩ := H
 have A9 := Aside0.mk A90
 clear A90
 by_cases c10 : t103 < 0
 · rw [if_pos c10] at H
   have c10b0 := decide_eq_true c10
   clear c10
   obtain rfl := Option.some.inj H
   go_enter Try.func10, Try.ntmps10
   go_wp2_with (first | ((with_reducible refine gate_dst (N := 2) rfl ?_); refine zB 2 #[.string a0_0, .string a0_1, .int .i64 a0_2, .string a0_3, .int .i64 a0_4, .int .i64 a0_5, .int .i64 a0_6, .int .i64 a0_7, .slice A0_8 l0_8.length c0_8] 27 ?_; intro gb102 hg w11 hbox hb; have BK102 := Aside0.mk (hbox); have GW102 := zS (pB0 HB.out) hg; have GE102 := zS (pB0 HB.out) hg; replace HB := zW (pB0 HB.out) hb; clear hb hbox hg; obtain ⟨hcz12_0, hfz12_0, hcz12_1, hfz12_1, hcz12_2, hfz12_2, hcz12_3, hfz12_3, hcz12_4, hfz12_4, hcz12_5, hfz12_5, hcz12_6, hfz12_6, hcz12_7, hfz12_7, hcz12_8, hfz12_8⟩ := zw9 BK102) | ((with_reducible refine gate_callee (f := 47) rfl ?_); refine goesL_ (some 22) rfl rfl Try.func47 (by kernel_rfl) rfl #[.agg #[.string a0_3, .int .i64 a0_4, .int .i64 a0_5], .int .i64 (wrap64 ((wrap64 (a1 - (a0_0.size : Int))) - (a0_1.size : Int)))] rfl pA ?_; (with_reducible refine (laws_szVeneer.calls a0_3 a0_4 a0_5 (wrap64 ((wrap64 (a1 - (a0_0.size : Int))) - (a0_1.size : Int))) t103 _ A9.out).mono ?_); rintro e w13 ⟨rfl, hb⟩; refine ⟨_, rfl, ?_⟩; replace BK102 := zK BK102 hb; replace HB := zW (pB1 HB.out GE102.out) hb; (try clear hb); (try clear hb2); (try clear hk); (try clear hi)))
   go_ret
   exact ⟨zE, pB1 HB.out GE102.out⟩
 rw [if_neg c10] at H
 have c10b0 : decide (t103 < 0) = false := decide_eq_false c10
 clear c10
 replace H := Option.bind_eq_some_iff.mp H
 obtain ⟨t104, A140, H⟩ := H
 have A14 := Aside0.mk A140
 clear A140
 by_cases c15 : t104 < 0
 · rw [if_pos c15] at H
   have c15b0 := decide_eq_true c15
   clear c15
   obtain rfl := Option.some.inj H
   go_enter Try.func10, Try.ntmps10
   go_wp2_with (first | ((with_reducible refine gate_dst (N := 2) rfl ?_); refine zB 2 #[.string a0_0, .string a0_1, .int .i64 a0_2, .string a0_3, .int .i64 a0_4, .int .i64 a0_5, .int .i64 a0_6, .int .i64 a0_7, .slice A0_8 l0_8.length c0_8] 27 ?_; intro gb102 hg w16 hbox hb; have BK102 := Aside0.mk (hbox); have GW102 := zS (pB0 HB.out) hg; have GE102 := zS (pB0 HB.out) hg; replace HB := zW (pB0 HB.out) hb; clear hb hbox hg; obtain ⟨hcz17_0, hfz17_0, hcz17_1, hfz17_1, hcz17_2, hfz17_2, hcz17_3, hfz17_3, hcz17_4, hfz17_4, hcz17_5, hfz17_5, hcz17_6, hfz17_6, hcz17_7, hfz17_7, hcz17_8, hfz17_8⟩ := zw9 BK102) | ((with_reducible refine gate_callee (f := 47) rfl ?_); refine goesL_ (some 22) rfl rfl Try.func47 (by kernel_rfl) rfl #[.agg #[.string a0_3, .int .i64 a0_4, .int .i64 a0_5], .int .i64 (wrap64 ((wrap64 (a1 - (a0_0.size : Int))) - (a0_1.size : Int)))] rfl pA ?_; (with_reducible refine (laws_szVeneer.calls a0_3 a0_4 a0_5 (wrap64 ((wrap64 (a1 - (a0_0.size : Int))) - (a0_1.size : Int))) t103 _ A9.out).mono ?_); rintro e w18 ⟨rfl, hb⟩; refine ⟨_, rfl, ?_⟩; replace BK102 := zK BK102 hb; replace HB := zW (pB1 HB.out GE102.out) hb; (try clear hb); (try clear hb2); (try clear hk); (try clear hi); obtain ⟨hcz19_0, hfz19_0, hcz19_1, hfz19_1, hcz19_2, hfz19_2, hcz19_3, hfz19_3, hcz19_4, hfz19_4, hcz19_5, hfz19_5, hcz19_6, hfz19_6, hcz19_7, hfz19_7, hcz19_8, hfz19_8⟩ := zw9 BK102) | ((with_reducible refine gate_callee (f := 48) rfl ?_); refine goesL_ (some 28) rfl rfl Try.func48 (by kernel_rfl) rfl #[.slice A0_8 l0_8.length c0_8, .int .i64 t103] rfl pA ?_; (with_reducible refine (laws_szBoxS.calls _ _ l0_8 t103 t104 _ ?side1 ?side2 A14.out).mono ?_); (case side1 => exact pC (Kd.C_below HR0_8.out HB.out)); (case side2 => exact HC0_8.out); rintro e w' ⟨rfl, ⟨nd, rfl⟩⟩; refine ⟨_, rfl, ?_⟩))
   go_ret
   exact ⟨zE, pB1 HB.out GE102.out⟩
 rw [if_neg c15] at H
 have c15b0 : decide (t104 < 0) = false := decide_eq_false c15
 clear c15
 obtain rfl := Option.some.inj H
 go_enter Try.func10, Try.ntmps10
 go_wp2_with (first | ((with_reducible refine gate_dst (N := 2) rfl ?_); refine zB 2 #[.string a0_0, .string a0_1, .int .i64 a0_2, .string a0_3, .int .i64 a0_4, .int .i64 a0_5, .int .i64 a0_6, .int .i64 a0_7, .slice A0_8 l0_8.length c0_8] 27 ?_; intro gb102 hg w20 hbox hb; have BK102 := Aside0.mk (hbox); have GW102 := zS (pB0 HB.out) hg; have GE102 := zS (pB0 HB.out) hg; replace HB := zW (pB0 HB.out) hb; clear hb hbox hg; obtain ⟨hcz21_0, hfz21_0, hcz21_1, hfz21_1, hcz21_2, hfz21_2, hcz21_3, hfz21_3, hcz21_4, hfz21_4, hcz21_5, hfz21_5, hcz21_6, hfz21_6, hcz21_7, hfz21_7, hcz21_8, hfz21_8⟩ := zw9 BK102) | ((with_reducible refine gate_callee (f := 47) rfl ?_); refine goesL_ (some 22) rfl rfl Try.func47 (by kernel_rfl) rfl #[.agg #[.string a0_3, .int .i64 a0_4, .int .i64 a0_5], .int .i64 (wrap64 ((wrap64 (a1 - (a0_0.size : Int))) - (a0_1.size : Int)))] rfl pA ?_; (with_reducible refine (laws_szVeneer.calls a0_3 a0_4 a0_5 (wrap64 ((wrap64 (a1 - (a0_0.size : Int))) - (a0_1.size : Int))) t103 _ A9.out).mono ?_); rintro e w22 ⟨rfl, hb⟩; refine ⟨_, rfl, ?_⟩; replace BK102 := zK BK102 hb; replace HB := zW (pB1 HB.out GE102.out) hb; (try clear hb); (try clear hb2); (try clear hk); (try clear hi); obtain ⟨hcz23_0, hfz23_0, hcz23_1, hfz23_1, hcz23_2, hfz23_2, hcz23_3, hfz23_3, hcz23_4, hfz23_4, hcz23_5, hfz23_5, hcz23_6, hfz23_6, hcz23_7, hfz23_7, hcz23_8, hfz23_8⟩ := zw9 BK102) | ((with_reducible refine gate_callee (f := 48) rfl ?_); refine goesL_ (some 28) rfl rfl Try.func48 (by kernel_rfl) rfl #[.slice A0_8 l0_8.length c0_8, .int .i64 t103] rfl pA ?_; (with_reducible refine (laws_szBoxS.calls _ _ l0_8 t103 t104 _ ?side1 ?side2 A14.out).mono ?_); (case side1 => exact pC (Kd.C_below HR0_8.out HB.out)); (case side2 => exact HC0_8.out); rintro e w' ⟨rfl, ⟨nd, rfl⟩⟩; refine ⟨_, rfl, ?_⟩))
 go_ret
 exact ⟨zE, pB1 HB.out GE102.out⟩
def spec_l00In.f (a0 : Int) (a1 : Int) (a2 : Int) : Option (Bool) := if a0 ≥ a1 then (some (decide (a0 ≤ a2))) else (some false)
set_option maxHeartbeats 8000000 in
set_option maxRecDepth 100000 in
theorem spec_l00In.calls (a0 : Int) (a1 : Int) (a2 : Int) (r : Bool) (w : World) (h : spec_l00In.f a0 a1 a2 = some r) :
 Calls Try.prog 81 #[.int .i64 a0, .int .i64 a1, .int .i64 a2] w fun e w' => e = .returned (.bool r) ∧ Drawn0 w w' := by
 have H : (if a0 ≥ a1 then (some (decide (a0 ≤ a2))) else (some false)) = some r := h
 clear h
 by_cases c4 : a0 ≥ a1
 · rw [if_pos c4] at H
   have c4b0 := decide_eq_true c4
   clear c4
   obtain rfl := Option.some.inj H
   go_enter Try.func81, Try.ntmps81
   go_wp2
   go_ret
   exact ⟨by first | rfl | (simp; done) | (simp [*]; done), by repeat (first | exact Drawn0.refl _ | apply Drawn0.step)⟩
 rw [if_neg c4] at H
 have c4b0 : decide (a1 ≤ a0) = false := decide_eq_false c4
 clear c4
 obtain rfl := Option.some.inj H
 go_enter Try.func81, Try.ntmps81
 go_wp2
 go_ret
 exact ⟨by first | rfl | (simp; done) | (simp [*]; done), by repeat (first | exact Drawn0.refl _ | apply Drawn0.step)⟩
def spec_l02Ok.f (a0_0 : Int) (a0_1 : Int) : Option (Bool) := (spec_l00In.f a0_0 0 20000).bind fun t106 => (if t106 = true then ((spec_l00In.f a0_1 0 20000).bind fun t107 => (some t107)) else (some false))
set_option maxHeartbeats 8000000 in
set_option maxRecDepth 100000 in
theorem spec_l02Ok.calls (a0_0 : Int) (a0_1 : Int) (r : Bool) (w : World) (h : spec_l02Ok.f a0_0 a0_1 = some r) :
 Calls Try.prog 87 #[.agg #[.int .i64 a0_0, .int .i64 a0_1]] w fun e w' => e = .returned (.bool r) ∧ Below w.heap.size w w' := by
 have hu91 := Try.underlying91
 have HB := Aside0.mk (Below.refl w.heap.size w)
 have H : ((spec_l00In.f a0_0 0 20000).bind fun t106 => (if t106 = true then ((spec_l00In.f a0_1 0 20000).bind fun t107 => (some t107)) else (some false))) = some r := h
 clear h
 replace H := Option.bind_eq_some_iff.mp H
 obtain ⟨t106, A20, H⟩ := H
 have A2 := Aside0.mk A20
 clear A20
 by_cases c3 : t106 = true
 rotate_left
 · replace c3 := Bool.eq_false_iff.mpr c3
   subst c3
   have H1 : (some false) = some r := by rw [if_neg (show ¬ (false = true) by decide)] at H; exact H
   clear H
   have H := H1
   clear H1
   obtain rfl := Option.some.inj H
   go_enter Try.func87, Try.ntmps87
   go_wp2_with (first | ((with_reducible refine gate_dst (N := 1) rfl ?_); refine zB 1 #[.int .i64 a0_0, .int .i64 a0_1] 91 ?_; intro gb105 hg w7 hbox hb; have BK105 := Aside0.mk (hbox); have GW105 := zS (pB0 HB.out) hg; have GE105 := zS (pB0 HB.out) hg; replace HB := zW (pB0 HB.out) hb; clear hb hbox hg; obtain ⟨hcz8_0, hfz8_0, hcz8_1, hfz8_1⟩ := zw2 BK105) | ((with_reducible refine gate_callee (f := 81) rfl ?_); refine goesL_ (some 5) rfl rfl Try.func81 (by kernel_rfl) rfl #[.int .i64 a0_0, .int .i64 0, .int .i64 20000] rfl pA ?_; (with_reducible refine (spec_l00In.calls a0_0 0 20000 false _ A2.out).mono ?_); rintro e w' ⟨rfl, ⟨nd, rfl⟩⟩; refine ⟨_, rfl, ?_⟩))
   go_ret
   exact ⟨zE, pB1 HB.out GE105.out⟩
 subst c3
 have H1 : ((spec_l00In.f a0_1 0 20000).bind fun t107 => (some t107)) = some r := by rw [if_pos rfl] at H; exact H
 clear H
 have H := H1
 clear H1
 replace H := Option.bind_eq_some_iff.mp H
 obtain ⟨t107, A40, H⟩ := H
 have A4 := Aside0.mk A40
 clear A40
 obtain rfl := Option.some.inj H
 go_enter Try.func87, Try.ntmps87
 go_wp2_with (first | ((with_reducible refine gate_dst (N := 1) rfl ?_); refine zB 1 #[.int .i64 a0_0, .int .i64 a0_1] 91 ?_; intro gb105 hg w5 hbox hb; have BK105 := Aside0.mk (hbox); have GW105 := zS (pB0 HB.out) hg; have GE105 := zS (pB0 HB.out) hg; replace HB := zW (pB0 HB.out) hb; clear hb hbox hg; obtain ⟨hcz6_0, hfz6_0, hcz6_1, hfz6_1⟩ := zw2 BK105) | ((with_reducible refine gate_callee (f := 81) rfl ?_); refine goesL_ (some 5) rfl rfl Try.func81 (by kernel_rfl) rfl #[.int .i64 a0_0, .int .i64 0, .int .i64 20000] rfl pA ?_; (with_reducible refine (spec_l00In.calls a0_0 0 20000 true _ A2.out).mono ?_); rintro e w' ⟨rfl, ⟨nd, rfl⟩⟩; refine ⟨_, rfl, ?_⟩) | (go_at_call 81; (with_reducible refine (spec_l00In.calls a0_1 0 20000 t107 _ A4.out).mono ?_); rintro e w' ⟨rfl, ⟨nd, rfl⟩⟩))
 go_ret
 exact ⟨zE, pB1 HB.out GE105.out⟩
def spec_l00Min.f (a0 : Int) (a1 : Int) : Option (Int) := if a0 < a1 then (some a0) else (some a1)
set_option maxHeartbeats 8000000 in
set_option maxRecDepth 100000 in
theorem spec_l00Min.calls (a0 : Int) (a1 : Int) (r : Int) (w : World) (h : spec_l00Min.f a0 a1 = some r) :
 Calls Try.prog 104 #[.int .i64 a0, .int .i64 a1] w fun e w' => e = .returned (.int .i64 r) ∧ Drawn0 w w' := by
 have H : (if a0 < a1 then (some a0) else (some a1)) = some r := h
 clear h
 by_cases c3 : a0 < a1
 · rw [if_pos c3] at H
   have c3b0 := decide_eq_true c3
   clear c3
   obtain rfl := Option.some.inj H
   go_enter Try.func104, Try.ntmps104
   go_wp2
   go_ret
   exact ⟨by first | rfl | (simp; done) | (simp [*]; done), by repeat (first | exact Drawn0.refl _ | apply Drawn0.step)⟩
 rw [if_neg c3] at H
 have c3b0 : decide (a0 < a1) = false := decide_eq_false c3
 clear c3
 obtain rfl := Option.some.inj H
 go_enter Try.func104, Try.ntmps104
 go_wp2
 go_ret
 exact ⟨by first | rfl | (simp; done) | (simp [*]; done), by repeat (first | exact Drawn0.refl _ | apply Drawn0.step)⟩
def spec_l00Max.f (a0 : Int) (a1 : Int) : Option (Int) := if a0 > a1 then (some a0) else (some a1)
set_option maxHeartbeats 8000000 in
set_option maxRecDepth 100000 in
theorem spec_l00Max.calls (a0 : Int) (a1 : Int) (r : Int) (w : World) (h : spec_l00Max.f a0 a1 = some r) :
 Calls Try.prog 105 #[.int .i64 a0, .int .i64 a1] w fun e w' => e = .returned (.int .i64 r) ∧ Drawn0 w w' := by
 have H : (if a0 > a1 then (some a0) else (some a1)) = some r := h
 clear h
 by_cases c3 : a0 > a1
 · rw [if_pos c3] at H
   have c3b0 := decide_eq_true c3
   clear c3
   obtain rfl := Option.some.inj H
   go_enter Try.func105, Try.ntmps105
   go_wp2
   go_ret
   exact ⟨by first | rfl | (simp; done) | (simp [*]; done), by repeat (first | exact Drawn0.refl _ | apply Drawn0.step)⟩
 rw [if_neg c3] at H
 have c3b0 : decide (a1 < a0) = false := decide_eq_false c3
 clear c3
 obtain rfl := Option.some.inj H
 go_enter Try.func105, Try.ntmps105
 go_wp2
 go_ret
 exact ⟨by first | rfl | (simp; done) | (simp [*]; done), by repeat (first | exact Drawn0.refl _ | apply Drawn0.step)⟩
def spec_l02Cross.f (a0_0 : Int) (a0_1 : Int) (a1_0 : Int) (a1_1 : Int) (a2_0 : Int) (a2_1 : Int) : Option (Int) := some (wrap64 ((wrap64 ((wrap64 (a1_0 - a0_0)) * (wrap64 (a2_1 - a0_1)))) - (wrap64 ((wrap64 (a1_1 - a0_1)) * (wrap64 (a2_0 - a0_0))))))
set_option maxHeartbeats 8000000 in
set_option maxRecDepth 100000 in
theorem spec_l02Cross.calls (a0_0 : Int) (a0_1 : Int) (a1_0 : Int) (a1_1 : Int) (a2_0 : Int) (a2_1 : Int) (r : Int) (w : World) (h : spec_l02Cross.f a0_0 a0_1 a1_0 a1_1 a2_0 a2_1 = some r) :
 Calls Try.prog 140 #[.agg #[.int .i64 a0_0, .int .i64 a0_1], .agg #[.int .i64 a1_0, .int .i64 a1_1], .agg #[.int .i64 a2_0, .int .i64 a2_1]] w fun e w' => e = .returned (.int .i64 r) ∧ Below w.heap.size w w' := by
 have hu91 := Try.underlying91
 have HB := Aside0.mk (Below.refl w.heap.size w)
 have H : (some (wrap64 ((wrap64 ((wrap64 (a1_0 - a0_0)) * (wrap64 (a2_1 - a0_1)))) - (wrap64 ((wrap64 (a1_1 - a0_1)) * (wrap64 (a2_0 - a0_0))))))) = some r := h
 clear h
 obtain rfl := Option.some.inj H
 go_enter Try.func140, Try.ntmps140
 go_wp2_with (first | ((with_reducible refine gate_dst (N := 3) rfl ?_); refine zB 3 #[.int .i64 a0_0, .int .i64 a0_1] 91 ?_; intro gb108 hg w4 hbox hb; have BK108 := Aside0.mk (hbox); have GW108 := zS (pB0 HB.out) hg; have GE108 := zS (pB0 HB.out) hg; replace HB := zW (pB0 HB.out) hb; clear hb hbox hg) | ((with_reducible refine gate_dst (N := 4) rfl ?_); refine zB 4 #[.int .i64 a1_0, .int .i64 a1_1] 91 ?_; intro gb109 hg w5 hbox hb; have BK109 := Aside0.mk (hbox); have GW109 := zS (pB1 HB.out GE108.out) hg; have GE109 := zS (pB1 HB.out GE108.out) hg; have NB108_109 := zL BK108 hg; have NB109_108 := zM BK108 hg; replace BK108 := zK BK108 hb; replace HB := zW (pB1 HB.out GE108.out) hb; clear hb hbox hg) | ((with_reducible refine gate_dst (N := 5) rfl ?_); refine zB 5 #[.int .i64 a2_0, .int .i64 a2_1] 91 ?_; intro gb110 hg w6 hbox hb; have BK110 := Aside0.mk (hbox); have GW110 := zS (pB2 HB.out GE108.out GE109.out) hg; have GE110 := zS (pB2 HB.out GE108.out GE109.out) hg; have NB108_110 := zL BK108 hg; have NB110_108 := zM BK108 hg; have NB109_110 := zL BK109 hg; have NB110_109 := zM BK109 hg; replace BK108 := zK BK108 hb; replace BK109 := zK BK109 hb; replace HB := zW (pB2 HB.out GE108.out GE109.out) hb; clear hb hbox hg; have hnb7 := NB109_108.out; have hnc7 := NB108_109.out; have hnb8 := NB109_110.out; have hnc8 := NB110_109.out; obtain ⟨hcz9_0, hfz9_0, hcz9_1, hfz9_1⟩ := zw2 BK109; have hnb10 := NB108_110.out; have hnc10 := NB110_108.out; obtain ⟨hcz11_0, hfz11_0, hcz11_1, hfz11_1⟩ := zw2 BK108; obtain ⟨hcz12_0, hfz12_0, hcz12_1, hfz12_1⟩ := zw2 BK110))
 go_ret
 exact ⟨zE, pB3 HB.out GE108.out GE109.out GE110.out⟩
def spec_l02Side.f (a0_0 : Int) (a0_1 : Int) (a1_0 : Int) (a1_1 : Int) (a2_0 : Int) (a2_1 : Int) : Option (Int) := (spec_l02Cross.f a0_0 a0_1 a1_0 a1_1 a2_0 a2_1).bind fun t114 => (if t114 > 0 then (some 1) else (if t114 < 0 then (some (-1)) else (some 0)))
set_option maxHeartbeats 8000000 in
set_option maxRecDepth 100000 in
theorem spec_l02Side.calls (a0_0 : Int) (a0_1 : Int) (a1_0 : Int) (a1_1 : Int) (a2_0 : Int) (a2_1 : Int) (r : Int) (w : World) (h : spec_l02Side.f a0_0 a0_1 a1_0 a1_1 a2_0 a2_1 = some r) :
 Calls Try.prog 125 #[.agg #[.int .i64 a0_0, .int .i64 a0_1], .agg #[.int .i64 a1_0, .int .i64 a1_1], .agg #[.int .i64 a2_0, .int .i64 a2_1]] w fun e w' => e = .returned (.int .i64 r) ∧ Below w.heap.size w w' := by
 have hu91 := Try.underlying91
 have HB := Aside0.mk (Below.refl w.heap.size w)
 have H : ((spec_l02Cross.f a0_0 a0_1 a1_0 a1_1 a2_0 a2_1).bind fun t114 => (if t114 > 0 then (some 1) else (if t114 < 0 then (some (-1)) else (some 0)))) = some r := h
 clear h
 replace H := Option.bind_eq_some_iff.mp H
 obtain ⟨t114, A40, H⟩ := H
 have A4 := Aside0.mk A40
 clear A40
 by_cases c5 : t114 > 0
 · rw [if_pos c5] at H
   have c5b0 := decide_eq_true c5
   clear c5
   obtain rfl := Option.some.inj H
   go_enter Try.func125, Try.ntmps125
   go_wp2_with (first | ((with_reducible refine gate_dst (N := 3) rfl ?_); refine zB 3 #[.int .i64 a0_0, .int .i64 a0_1] 91 ?_; intro gb111 hg w6 hbox hb; have BK111 := Aside0.mk (hbox); have GW111 := zS (pB0 HB.out) hg; have GE111 := zS (pB0 HB.out) hg; replace HB := zW (pB0 HB.out) hb; clear hb hbox hg) | ((with_reducible refine gate_dst (N := 4) rfl ?_); refine zB 4 #[.int .i64 a1_0, .int .i64 a1_1] 91 ?_; intro gb112 hg w7 hbox hb; have BK112 := Aside0.mk (hbox); have GW112 := zS (pB1 HB.out GE111.out) hg; have GE112 := zS (pB1 HB.out GE111.out) hg; have NB111_112 := zL BK111 hg; have NB112_111 := zM BK111 hg; replace BK111 := zK BK111 hb; replace HB := zW (pB1 HB.out GE111.out) hb; clear hb hbox hg) | ((with_reducible refine gate_dst (N := 5) rfl ?_); refine zB 5 #[.int .i64 a2_0, .int .i64 a2_1] 91 ?_; intro gb113 hg w8 hbox hb; have BK113 := Aside0.mk (hbox); have GW113 := zS (pB2 HB.out GE111.out GE112.out) hg; have GE113 := zS (pB2 HB.out GE111.out GE112.out) hg; have NB111_113 := zL BK111 hg; have NB113_111 := zM BK111 hg; have NB112_113 := zL BK112 hg; have NB113_112 := zM BK112 hg; replace BK111 := zK BK111 hb; replace BK112 := zK BK112 hb; replace HB := zW (pB2 HB.out GE111.out GE112.out) hb; clear hb hbox hg; have hnb9 := NB111_112.out; have hnc9 := NB112_111.out; have hnb10 := NB111_113.out; have hnc10 := NB113_111.out; obtain ⟨hcz11_0, hfz11_0, hcz11_1, hfz11_1⟩ := zw2 BK111; have hnb12 := NB112_113.out; have hnc12 := NB113_112.out; obtain ⟨hcz13_0, hfz13_0, hcz13_1, hfz13_1⟩ := zw2 BK112; obtain ⟨hcz14_0, hfz14_0, hcz14_1, hfz14_1⟩ := zw2 BK113) | ((with_reducible refine gate_callee (f := 140) rfl ?_); refine goesL_ (some 11) rfl rfl Try.func140 (by kernel_rfl) rfl #[.agg #[.int .i64 a0_0, .int .i64 a0_1], .agg #[.int .i64 a1_0, .int .i64 a1_1], .agg #[.int .i64 a2_0, .int .i64 a2_1]] rfl pA ?_; (with_reducible refine (spec_l02Cross.calls a0_0 a0_1 a1_0 a1_1 a2_0 a2_1 t114 _ A4.out).mono ?_); rintro e w15 ⟨rfl, hb⟩; refine ⟨_, rfl, ?_⟩; replace BK111 := zK BK111 hb; replace BK112 := zK BK112 hb; replace BK113 := zK BK113 hb; replace HB := zW (pB3 HB.out GE111.out GE112.out GE113.out) hb; (try clear hb); (try clear hb2); (try clear hk); (try clear hi)))
   go_ret
   exact ⟨zE, pB3 HB.out GE111.out GE112.out GE113.out⟩
 rw [if_neg c5] at H
 have c5b0 : decide (0 < t114) = false := decide_eq_false c5
 clear c5
 by_cases c16 : t114 < 0
 · rw [if_pos c16] at H
   have c16b0 := decide_eq_true c16
   clear c16
   obtain rfl := Option.some.inj H
   go_enter Try.func125, Try.ntmps125
   go_wp2_with (first | ((with_reducible refine gate_dst (N := 3) rfl ?_); refine zB 3 #[.int .i64 a0_0, .int .i64 a0_1] 91 ?_; intro gb111 hg w17 hbox hb; have BK111 := Aside0.mk (hbox); have GW111 := zS (pB0 HB.out) hg; have GE111 := zS (pB0 HB.out) hg; replace HB := zW (pB0 HB.out) hb; clear hb hbox hg) | ((with_reducible refine gate_dst (N := 4) rfl ?_); refine zB 4 #[.int .i64 a1_0, .int .i64 a1_1] 91 ?_; intro gb112 hg w18 hbox hb; have BK112 := Aside0.mk (hbox); have GW112 := zS (pB1 HB.out GE111.out) hg; have GE112 := zS (pB1 HB.out GE111.out) hg; have NB111_112 := zL BK111 hg; have NB112_111 := zM BK111 hg; replace BK111 := zK BK111 hb; replace HB := zW (pB1 HB.out GE111.out) hb; clear hb hbox hg) | ((with_reducible refine gate_dst (N := 5) rfl ?_); refine zB 5 #[.int .i64 a2_0, .int .i64 a2_1] 91 ?_; intro gb113 hg w19 hbox hb; have BK113 := Aside0.mk (hbox); have GW113 := zS (pB2 HB.out GE111.out GE112.out) hg; have GE113 := zS (pB2 HB.out GE111.out GE112.out) hg; have NB111_113 := zL BK111 hg; have NB113_111 := zM BK111 hg; have NB112_113 := zL BK112 hg; have NB113_112 := zM BK112 hg; replace BK111 := zK BK111 hb; replace BK112 := zK BK112 hb; replace HB := zW (pB2 HB.out GE111.out GE112.out) hb; clear hb hbox hg; have hnb20 := NB111_112.out; have hnc20 := NB112_111.out; have hnb21 := NB111_113.out; have hnc21 := NB113_111.out; obtain ⟨hcz22_0, hfz22_0, hcz22_1, hfz22_1⟩ := zw2 BK111; have hnb23 := NB112_113.out; have hnc23 := NB113_112.out; obtain ⟨hcz24_0, hfz24_0, hcz24_1, hfz24_1⟩ := zw2 BK112; obtain ⟨hcz25_0, hfz25_0, hcz25_1, hfz25_1⟩ := zw2 BK113) | ((with_reducible refine gate_callee (f := 140) rfl ?_); refine goesL_ (some 11) rfl rfl Try.func140 (by kernel_rfl) rfl #[.agg #[.int .i64 a0_0, .int .i64 a0_1], .agg #[.int .i64 a1_0, .int .i64 a1_1], .agg #[.int .i64 a2_0, .int .i64 a2_1]] rfl pA ?_; (with_reducible refine (spec_l02Cross.calls a0_0 a0_1 a1_0 a1_1 a2_0 a2_1 t114 _ A4.out).mono ?_); rintro e w26 ⟨rfl, hb⟩; refine ⟨_, rfl, ?_⟩; replace BK111 := zK BK111 hb; replace BK112 := zK BK112 hb; replace BK113 := zK BK113 hb; replace HB := zW (pB3 HB.out GE111.out GE112.out GE113.out) hb; (try clear hb); (try clear hb2); (try clear hk); (try clear hi)))
   go_ret
   exact ⟨zE, pB3 HB.out GE111.out GE112.out GE113.out⟩
 rw [if_neg c16] at H
 have c16b0 : decide (t114 < 0) = false := decide_eq_false c16
 clear c16
 obtain rfl := Option.some.inj H
 go_enter Try.func125, Try.ntmps125
 go_wp2_with (first | ((with_reducible refine gate_dst (N := 3) rfl ?_); refine zB 3 #[.int .i64 a0_0, .int .i64 a0_1] 91 ?_; intro gb111 hg w27 hbox hb; have BK111 := Aside0.mk (hbox); have GW111 := zS (pB0 HB.out) hg; have GE111 := zS (pB0 HB.out) hg; replace HB := zW (pB0 HB.out) hb; clear hb hbox hg) | ((with_reducible refine gate_dst (N := 4) rfl ?_); refine zB 4 #[.int .i64 a1_0, .int .i64 a1_1] 91 ?_; intro gb112 hg w28 hbox hb; have BK112 := Aside0.mk (hbox); have GW112 := zS (pB1 HB.out GE111.out) hg; have GE112 := zS (pB1 HB.out GE111.out) hg; have NB111_112 := zL BK111 hg; have NB112_111 := zM BK111 hg; replace BK111 := zK BK111 hb; replace HB := zW (pB1 HB.out GE111.out) hb; clear hb hbox hg) | ((with_reducible refine gate_dst (N := 5) rfl ?_); refine zB 5 #[.int .i64 a2_0, .int .i64 a2_1] 91 ?_; intro gb113 hg w29 hbox hb; have BK113 := Aside0.mk (hbox); have GW113 := zS (pB2 HB.out GE111.out GE112.out) hg; have GE113 := zS (pB2 HB.out GE111.out GE112.out) hg; have NB111_113 := zL BK111 hg; have NB113_111 := zM BK111 hg; have NB112_113 := zL BK112 hg; have NB113_112 := zM BK112 hg; replace BK111 := zK BK111 hb; replace BK112 := zK BK112 hb; replace HB := zW (pB2 HB.out GE111.out GE112.out) hb; clear hb hbox hg; have hnb30 := NB111_112.out; have hnc30 := NB112_111.out; have hnb31 := NB111_113.out; have hnc31 := NB113_111.out; obtain ⟨hcz32_0, hfz32_0, hcz32_1, hfz32_1⟩ := zw2 BK111; have hnb33 := NB112_113.out; have hnc33 := NB113_112.out; obtain ⟨hcz34_0, hfz34_0, hcz34_1, hfz34_1⟩ := zw2 BK112; obtain ⟨hcz35_0, hfz35_0, hcz35_1, hfz35_1⟩ := zw2 BK113) | ((with_reducible refine gate_callee (f := 140) rfl ?_); refine goesL_ (some 11) rfl rfl Try.func140 (by kernel_rfl) rfl #[.agg #[.int .i64 a0_0, .int .i64 a0_1], .agg #[.int .i64 a1_0, .int .i64 a1_1], .agg #[.int .i64 a2_0, .int .i64 a2_1]] rfl pA ?_; (with_reducible refine (spec_l02Cross.calls a0_0 a0_1 a1_0 a1_1 a2_0 a2_1 t114 _ A4.out).mono ?_); rintro e w36 ⟨rfl, hb⟩; refine ⟨_, rfl, ?_⟩; replace BK111 := zK BK111 hb; replace BK112 := zK BK112 hb; replace BK113 := zK BK113 hb; replace HB := zW (pB3 HB.out GE111.out GE112.out GE113.out) hb; (try clear hb); (try clear hb2); (try clear hk); (try clear hi)))
 go_ret
 exact ⟨zE, pB3 HB.out GE111.out GE112.out GE113.out⟩
end Go.Proofs.Ytfiiakhpdkdebaa.PFnExactFitsLeaf

/- What each function that a law reaches comes to, and the proof that its walk comes to it; laid by a program of this session. No condition. -/
import Derived.Test.YtfiiakhpdkdebaaZFnExactOffcutsOf0
namespace Go.Proofs.Ytfiiakhpdkdebaa.PFnExactOffcutsOf
open Go.RowKit Go.Proofs.YtfiiakhpdkdebaaW.PrintWords Go.Proofs.YtfiiakhpdkdebaaW.PrintLast Go.Proofs.YtfiiakhpdkdebaaW.PrintMore
attribute [local go_sem] max2_int min2_int max_two min_two max_three min_three max_four min_four
set_option linter.unusedVariables false
set_option linter.unusedSimpArgs false
def laws_szPointS.f (l0 : List (S93)) (a1 : Int) : Option (Int) := if (wrap64 (a1 - (l0.length : Int))) < 0 then (some (-1)) else (some (wrap64 (a1 - (l0.length : Int))))
set_option maxHeartbeats 8000000 in
set_option maxRecDepth 100000 in
theorem laws_szPointS.calls (A0 : Option Addr) (c0 : Nat) (l0 : List (S93)) (a1 : Int) (r : Int) (w : World) (hr0 : Kd.C k93 w A0 l0.length l0) (hc0 : l0.length ≤ c0) (h : laws_szPointS.f l0 a1 = some r) :
 Calls Try.prog 9 #[.slice A0 l0.length c0, .int .i64 a1] w fun e w' => e = .returned (.int .i64 r) ∧ Drawn0 w w' := by
 have HR0 := Aside0.mk hr0; have HC0 := Aside0.mk hc0; clear hr0 hc0; have H : (if (wrap64 (a1 - (l0.length : Int))) < 0 then (some (-1)) else (some (wrap64 (a1 - (l0.length : Int))))) = some r := h; clear h
 by_cases c3 : (wrap64 (a1 - (l0.length : Int))) < 0
 · rw [if_pos c3] at H
   have c3b0 := decide_eq_true c3; clear c3; obtain rfl := Option.some.inj H
   go_enter Try.func9, Try.ntmps9
   go_wp2
   go_ret
   exact ⟨by first | rfl | (simp; done) | (simp [*]; done), zV⟩
 rw [if_neg c3] at H; have c3b0 := decide_eq_false c3; clear c3; obtain rfl := Option.some.inj H
 go_enter Try.func9, Try.ntmps9
 go_wp2
 go_ret
 exact ⟨by first | rfl | (simp; done) | (simp [*]; done), zV⟩
def laws_szVeneer.f (a0_0 : ByteArray) (a0_1 : Int) (a0_2 : Int) (a1 : Int) : Option (Int) := if (wrap64 (a1 - (a0_0.size : Int))) < 0 then (some (-1)) else (some (wrap64 (a1 - (a0_0.size : Int))))
set_option maxHeartbeats 8000000 in
set_option maxRecDepth 100000 in
theorem laws_szVeneer.calls (a0_0 : ByteArray) (a0_1 : Int) (a0_2 : Int) (a1 : Int) (r : Int) (w : World) (h : laws_szVeneer.f a0_0 a0_1 a0_2 a1 = some r) :
 Calls Try.prog 47 #[.agg #[.string a0_0, .int .i64 a0_1, .int .i64 a0_2], .int .i64 a1] w fun e w' => e = .returned (.int .i64 r) ∧ Below w.heap.size w w' := by
 have hu24 := Try.underlying24; have HB := Aside0.mk (Below.refl w.heap.size w); have H : (if (wrap64 (a1 - (a0_0.size : Int))) < 0 then (some (-1)) else (some (wrap64 (a1 - (a0_0.size : Int))))) = some r := h; clear h
 by_cases c3 : (wrap64 (a1 - (a0_0.size : Int))) < 0
 · rw [if_pos c3] at H
   have c3b0 := decide_eq_true c3; clear c3; obtain rfl := Option.some.inj H
   go_enter Try.func47, Try.ntmps47
   go_wp2_with (first | ((with_reducible refine zI 2 rfl ?_); refine zB 2 #[.string a0_0, .int .i64 a0_1, .int .i64 a0_2] 24 ?_; intro gb101 hg w4 hbox hb; have BK101 := Aside0.mk (hbox); have GW101 := zS (pB0 HB.out) hg; have GE101 := GW101; replace HB := zW (pB0 HB.out) hb; clear hb hbox hg; obtain ⟨Y5_0, X5_0, Y5_1, X5_1, Y5_2, X5_2⟩ := zw3 BK101))
   go_ret
   exact ⟨zE, pB1 HB.out GE101.out⟩
 rw [if_neg c3] at H; have c3b0 := decide_eq_false c3; clear c3; obtain rfl := Option.some.inj H
 go_enter Try.func47, Try.ntmps47
 go_wp2_with (first | ((with_reducible refine zI 2 rfl ?_); refine zB 2 #[.string a0_0, .int .i64 a0_1, .int .i64 a0_2] 24 ?_; intro gb101 hg w6 hbox hb; have BK101 := Aside0.mk (hbox); have GW101 := zS (pB0 HB.out) hg; have GE101 := GW101; replace HB := zW (pB0 HB.out) hb; clear hb hbox hg; obtain ⟨Y7_0, X7_0, Y7_1, X7_1, Y7_2, X7_2⟩ := zw3 BK101))
 go_ret
 exact ⟨zE, pB1 HB.out GE101.out⟩
def laws_szBoxS.f (l0 : List (S136)) (a1 : Int) : Option (Int) := if (wrap64 (a1 - (l0.length : Int))) < 0 then (some (-1)) else (some (wrap64 (a1 - (l0.length : Int))))
set_option maxHeartbeats 8000000 in
set_option maxRecDepth 100000 in
theorem laws_szBoxS.calls (A0 : Option Addr) (c0 : Nat) (l0 : List (S136)) (a1 : Int) (r : Int) (w : World) (hr0 : Kd.C k136 w A0 l0.length l0) (hc0 : l0.length ≤ c0) (h : laws_szBoxS.f l0 a1 = some r) :
 Calls Try.prog 48 #[.slice A0 l0.length c0, .int .i64 a1] w fun e w' => e = .returned (.int .i64 r) ∧ Drawn0 w w' := by
 have HR0 := Aside0.mk hr0; have HC0 := Aside0.mk hc0; clear hr0 hc0; have H : (if (wrap64 (a1 - (l0.length : Int))) < 0 then (some (-1)) else (some (wrap64 (a1 - (l0.length : Int))))) = some r := h; clear h
 by_cases c3 : (wrap64 (a1 - (l0.length : Int))) < 0
 · rw [if_pos c3] at H
   have c3b0 := decide_eq_true c3; clear c3; obtain rfl := Option.some.inj H
   go_enter Try.func48, Try.ntmps48
   go_wp2
   go_ret
   exact ⟨by first | rfl | (simp; done) | (simp [*]; done), zV⟩
 rw [if_neg c3] at H; have c3b0 := decide_eq_false c3; clear c3; obtain rfl := Option.some.inj H
 go_enter Try.func48, Try.ntmps48
 go_wp2
 go_ret
 exact ⟨by first | rfl | (simp; done) | (simp [*]; done), zV⟩
def laws_szLeaf.f (a0_0 : ByteArray) (a0_1 : ByteArray) (a0_2 : Int) (a0_3 : ByteArray) (a0_4 : Int) (a0_5 : Int) (a0_6 : Int) (a0_7 : Int) (l0_8 : List (S136)) (a1 : Int) : Option (Int) := if (wrap64 (a1 - (a0_0.size : Int))) < 0 then (some (-1)) else (if (wrap64 ((wrap64 (a1 - (a0_0.size : Int))) - (a0_1.size : Int))) < 0 then (some (-1)) else ((laws_szVeneer.f a0_3 a0_4 a0_5 (wrap64 ((wrap64 (a1 - (a0_0.size : Int))) - (a0_1.size : Int)))).bind fun t103 => (if t103 < 0 then (some (-1)) else ((laws_szBoxS.f l0_8 t103).bind fun t104 => (if t104 < 0 then (some (-1)) else (some t104))))))
set_option maxHeartbeats 8000000 in
set_option maxRecDepth 100000 in
theorem laws_szLeaf.calls (a0_0 : ByteArray) (a0_1 : ByteArray) (a0_2 : Int) (a0_3 : ByteArray) (a0_4 : Int) (a0_5 : Int) (a0_6 : Int) (a0_7 : Int) (A0_8 : Option Addr) (c0_8 : Nat) (l0_8 : List (S136)) (a1 : Int) (r : Int) (w : World) (hr0_8 : Kd.C k136 w A0_8 l0_8.length l0_8) (hc0_8 : l0_8.length ≤ c0_8) (h : laws_szLeaf.f a0_0 a0_1 a0_2 a0_3 a0_4 a0_5 a0_6 a0_7 l0_8 a1 = some r) :
 Calls Try.prog 10 #[.agg #[.string a0_0, .string a0_1, .int .i64 a0_2, .string a0_3, .int .i64 a0_4, .int .i64 a0_5, .int .i64 a0_6, .int .i64 a0_7, .slice A0_8 l0_8.length c0_8], .int .i64 a1] w fun e w' => e = .returned (.int .i64 r) ∧ Below w.heap.size w w' := by
 have hu27 := Try.underlying27; have hu24 := Try.underlying24; have HR0_8 := Aside0.mk hr0_8; have HC0_8 := Aside0.mk hc0_8; clear hr0_8 hc0_8; have HB := Aside0.mk (Below.refl w.heap.size w)
 have H : (if (wrap64 (a1 - (a0_0.size : Int))) < 0 then (some (-1)) else (if (wrap64 ((wrap64 (a1 - (a0_0.size : Int))) - (a0_1.size : Int))) < 0 then (some (-1)) else ((laws_szVeneer.f a0_3 a0_4 a0_5 (wrap64 ((wrap64 (a1 - (a0_0.size : Int))) - (a0_1.size : Int)))).bind fun t103 => (if t103 < 0 then (some (-1)) else ((laws_szBoxS.f l0_8 t103).bind fun t104 => (if t104 < 0 then (some (-1)) else (some t104))))))) = some r := h
 clear h
 by_cases c3 : (wrap64 (a1 - (a0_0.size : Int))) < 0
 · rw [if_pos c3] at H
   have c3b0 := decide_eq_true c3; clear c3; obtain rfl := Option.some.inj H
   go_enter Try.func10, Try.ntmps10
   go_wp2_with (first | ((with_reducible refine zI 2 rfl ?_); refine zB 2 #[.string a0_0, .string a0_1, .int .i64 a0_2, .string a0_3, .int .i64 a0_4, .int .i64 a0_5, .int .i64 a0_6, .int .i64 a0_7, .slice A0_8 l0_8.length c0_8] 27 ?_; intro gb102 hg w4 hbox hb; have BK102 := Aside0.mk (hbox); have GW102 := zS (pB0 HB.out) hg; have GE102 := GW102; replace HB := zW (pB0 HB.out) hb; clear hb hbox hg; obtain ⟨Y5_0, X5_0, Y5_1, X5_1, Y5_2, X5_2, Y5_3, X5_3, Y5_4, X5_4, Y5_5, X5_5, Y5_6, X5_6, Y5_7, X5_7, Y5_8, X5_8⟩ := zw9 BK102))
   go_ret
   exact ⟨zE, pB1 HB.out GE102.out⟩
 rw [if_neg c3] at H; have c3b0 := decide_eq_false c3; clear c3
 by_cases c6 : (wrap64 ((wrap64 (a1 - (a0_0.size : Int))) - (a0_1.size : Int))) < 0
 · rw [if_pos c6] at H
   have c6b0 := decide_eq_true c6; clear c6; obtain rfl := Option.some.inj H
   go_enter Try.func10, Try.ntmps10
   go_wp2_with (first | ((with_reducible refine zI 2 rfl ?_); refine zB 2 #[.string a0_0, .string a0_1, .int .i64 a0_2, .string a0_3, .int .i64 a0_4, .int .i64 a0_5, .int .i64 a0_6, .int .i64 a0_7, .slice A0_8 l0_8.length c0_8] 27 ?_; intro gb102 hg w7 hbox hb; have BK102 := Aside0.mk (hbox); have GW102 := zS (pB0 HB.out) hg; have GE102 := GW102; replace HB := zW (pB0 HB.out) hb; clear hb hbox hg; obtain ⟨Y8_0, X8_0, Y8_1, X8_1, Y8_2, X8_2, Y8_3, X8_3, Y8_4, X8_4, Y8_5, X8_5, Y8_6, X8_6, Y8_7, X8_7, Y8_8, X8_8⟩ := zw9 BK102))
   go_ret
   exact ⟨zE, pB1 HB.out GE102.out⟩
 rw [if_neg c6] at H; have c6b0 := decide_eq_false c6; clear c6; replace H := Option.bind_eq_some_iff.mp H; obtain ⟨t103, A90, H⟩ := H; have A9 := Aside0.mk A90; clear A90
 by_cases c10 : t103 < 0
 · rw [if_pos c10] at H
   have c10b0 := decide_eq_true c10; clear c10; obtain rfl := Option.some.inj H
   go_enter Try.func10, Try.ntmps10
   go_wp2_with (first | ((with_reducible refine zI 2 rfl ?_); refine zB 2 #[.string a0_0, .string a0_1, .int .i64 a0_2, .string a0_3, .int .i64 a0_4, .int .i64 a0_5, .int .i64 a0_6, .int .i64 a0_7, .slice A0_8 l0_8.length c0_8] 27 ?_; intro gb102 hg w11 hbox hb; have BK102 := Aside0.mk (hbox); have GW102 := zS (pB0 HB.out) hg; have GE102 := GW102; replace HB := zW (pB0 HB.out) hb; clear hb hbox hg; obtain ⟨Y12_0, X12_0, Y12_1, X12_1, Y12_2, X12_2, Y12_3, X12_3, Y12_4, X12_4, Y12_5, X12_5, Y12_6, X12_6, Y12_7, X12_7, Y12_8, X12_8⟩ := zw9 BK102) | ((with_reducible refine gate_callee (f := 47) rfl ?_); refine zJ (some 22) Try.func47 #[.agg #[.string a0_3, .int .i64 a0_4, .int .i64 a0_5], .int .i64 (wrap64 ((wrap64 (a1 - (a0_0.size : Int))) - (a0_1.size : Int)))] ?_; (with_reducible refine (laws_szVeneer.calls a0_3 a0_4 a0_5 (wrap64 ((wrap64 (a1 - (a0_0.size : Int))) - (a0_1.size : Int))) t103 _ A9.out).mono ?_); rintro e w13 ⟨rfl, hb⟩; refine ⟨_, rfl, ?_⟩; replace BK102 := zK BK102 hb; replace HB := zW (pB1 HB.out GE102.out) hb; (try clear hb); (try clear hb2); (try clear hk); (try clear hi)))
   go_ret
   exact ⟨zE, pB1 HB.out GE102.out⟩
 rw [if_neg c10] at H; have c10b0 := decide_eq_false c10; clear c10; replace H := Option.bind_eq_some_iff.mp H; obtain ⟨t104, A140, H⟩ := H; have A14 := Aside0.mk A140; clear A140
 by_cases c15 : t104 < 0
 · rw [if_pos c15] at H
   have c15b0 := decide_eq_true c15; clear c15; obtain rfl := Option.some.inj H
   go_enter Try.func10, Try.ntmps10
   go_wp2_with (first | ((with_reducible refine zI 2 rfl ?_); refine zB 2 #[.string a0_0, .string a0_1, .int .i64 a0_2, .string a0_3, .int .i64 a0_4, .int .i64 a0_5, .int .i64 a0_6, .int .i64 a0_7, .slice A0_8 l0_8.length c0_8] 27 ?_; intro gb102 hg w16 hbox hb; have BK102 := Aside0.mk (hbox); have GW102 := zS (pB0 HB.out) hg; have GE102 := GW102; replace HB := zW (pB0 HB.out) hb; clear hb hbox hg; obtain ⟨Y17_0, X17_0, Y17_1, X17_1, Y17_2, X17_2, Y17_3, X17_3, Y17_4, X17_4, Y17_5, X17_5, Y17_6, X17_6, Y17_7, X17_7, Y17_8, X17_8⟩ := zw9 BK102) | ((with_reducible refine gate_callee (f := 47) rfl ?_); refine zJ (some 22) Try.func47 #[.agg #[.string a0_3, .int .i64 a0_4, .int .i64 a0_5], .int .i64 (wrap64 ((wrap64 (a1 - (a0_0.size : Int))) - (a0_1.size : Int)))] ?_; (with_reducible refine (laws_szVeneer.calls a0_3 a0_4 a0_5 (wrap64 ((wrap64 (a1 - (a0_0.size : Int))) - (a0_1.size : Int))) t103 _ A9.out).mono ?_); rintro e w18 ⟨rfl, hb⟩; refine ⟨_, rfl, ?_⟩; replace BK102 := zK BK102 hb; replace HB := zW (pB1 HB.out GE102.out) hb; (try clear hb); (try clear hb2); (try clear hk); (try clear hi); obtain ⟨Y19_0, X19_0, Y19_1, X19_1, Y19_2, X19_2, Y19_3, X19_3, Y19_4, X19_4, Y19_5, X19_5, Y19_6, X19_6, Y19_7, X19_7, Y19_8, X19_8⟩ := zw9 BK102) | ((with_reducible refine gate_callee (f := 48) rfl ?_); refine zJ (some 28) Try.func48 #[.slice A0_8 l0_8.length c0_8, .int .i64 t103] ?_; (with_reducible refine (laws_szBoxS.calls _ _ l0_8 t103 t104 _ ?side1 ?side2 A14.out).mono ?_); (case side1 => exact pC (Kd.C_below HR0_8.out HB.out)); (case side2 => exact HC0_8.out); rintro e w' ⟨rfl, ⟨nd, rfl⟩⟩; refine ⟨_, rfl, ?_⟩))
   go_ret
   exact ⟨zE, pB1 HB.out GE102.out⟩
 rw [if_neg c15] at H; have c15b0 := decide_eq_false c15; clear c15; obtain rfl := Option.some.inj H
 go_enter Try.func10, Try.ntmps10
 go_wp2_with (first | ((with_reducible refine zI 2 rfl ?_); refine zB 2 #[.string a0_0, .string a0_1, .int .i64 a0_2, .string a0_3, .int .i64 a0_4, .int .i64 a0_5, .int .i64 a0_6, .int .i64 a0_7, .slice A0_8 l0_8.length c0_8] 27 ?_; intro gb102 hg w20 hbox hb; have BK102 := Aside0.mk (hbox); have GW102 := zS (pB0 HB.out) hg; have GE102 := GW102; replace HB := zW (pB0 HB.out) hb; clear hb hbox hg; obtain ⟨Y21_0, X21_0, Y21_1, X21_1, Y21_2, X21_2, Y21_3, X21_3, Y21_4, X21_4, Y21_5, X21_5, Y21_6, X21_6, Y21_7, X21_7, Y21_8, X21_8⟩ := zw9 BK102) | ((with_reducible refine gate_callee (f := 47) rfl ?_); refine zJ (some 22) Try.func47 #[.agg #[.string a0_3, .int .i64 a0_4, .int .i64 a0_5], .int .i64 (wrap64 ((wrap64 (a1 - (a0_0.size : Int))) - (a0_1.size : Int)))] ?_; (with_reducible refine (laws_szVeneer.calls a0_3 a0_4 a0_5 (wrap64 ((wrap64 (a1 - (a0_0.size : Int))) - (a0_1.size : Int))) t103 _ A9.out).mono ?_); rintro e w22 ⟨rfl, hb⟩; refine ⟨_, rfl, ?_⟩; replace BK102 := zK BK102 hb; replace HB := zW (pB1 HB.out GE102.out) hb; (try clear hb); (try clear hb2); (try clear hk); (try clear hi); obtain ⟨Y23_0, X23_0, Y23_1, X23_1, Y23_2, X23_2, Y23_3, X23_3, Y23_4, X23_4, Y23_5, X23_5, Y23_6, X23_6, Y23_7, X23_7, Y23_8, X23_8⟩ := zw9 BK102) | ((with_reducible refine gate_callee (f := 48) rfl ?_); refine zJ (some 28) Try.func48 #[.slice A0_8 l0_8.length c0_8, .int .i64 t103] ?_; (with_reducible refine (laws_szBoxS.calls _ _ l0_8 t103 t104 _ ?side1 ?side2 A14.out).mono ?_); (case side1 => exact pC (Kd.C_below HR0_8.out HB.out)); (case side2 => exact HC0_8.out); rintro e w' ⟨rfl, ⟨nd, rfl⟩⟩; refine ⟨_, rfl, ?_⟩))
 go_ret
 exact ⟨zE, pB1 HB.out GE102.out⟩
def laws_toPoint.f (a0_0 : Int) (a0_1 : Int) : Option (Int × Int) := some (a0_0, a0_1)
set_option maxHeartbeats 8000000 in
set_option maxRecDepth 100000 in
theorem laws_toPoint.calls (a0_0 : Int) (a0_1 : Int) (r1 : Int) (r2 : Int) (w : World) (h : laws_toPoint.f a0_0 a0_1 = some (r1, r2)) :
 Calls Try.prog 52 #[.agg #[.int .i64 a0_0, .int .i64 a0_1]] w fun e w' => e = .returned (.agg #[.int .i64 r1, .int .i64 r2]) ∧ Below w.heap.size w w' := by
 have hu93 := Try.underlying93; have hu91 := Try.underlying91; have HB := Aside0.mk (Below.refl w.heap.size w); have H : (some (a0_0, a0_1)) = some (r1, r2) := h; clear h; simp only [Option.some.injEq, Prod.mk.injEq] at H; obtain ⟨rfl, rfl⟩ := H
 go_enter Try.func52, Try.ntmps52
 go_wp2_with (first | ((with_reducible refine zI 1 rfl ?_); refine zB 1 #[.int .i64 a0_0, .int .i64 a0_1] 93 ?_; intro gb105 hg w2 hbox hb; have BK105 := Aside0.mk (hbox); have GW105 := zS (pB0 HB.out) hg; have GE105 := GW105; replace HB := zW (pB0 HB.out) hb; clear hb hbox hg) | ((with_reducible refine zI 2 rfl ?_); refine zB 2 #[.int .i64 0, .int .i64 0] 91 ?_; intro gb106 hg w3 hbox hb; have BK106 := Aside0.mk (hbox); have GW106 := zS (pB1 HB.out GE105.out) hg; have GE106 := GW106; have NB105_106 := zL BK105 hg; have NB106_105 := zM BK105 hg; replace BK105 := zK BK105 hb; replace HB := zW (pB1 HB.out GE105.out) hb; clear hb hbox hg) | ((with_reducible refine zI 3 rfl ?_); refine zB 3 #[.int .i64 0, .int .i64 0] 91 ?_; intro gb107 hg w4 hbox hb; have BK107 := Aside0.mk (hbox); have GW107 := zS (pB2 HB.out GE105.out GE106.out) hg; have GE107 := GW107; have NB105_107 := zL BK105 hg; have NB107_105 := zM BK105 hg; have NB106_107 := zL BK106 hg; have NB107_106 := zM BK106 hg; replace BK105 := zK BK105 hb; replace BK106 := zK BK106 hb; replace HB := zW (pB2 HB.out GE105.out GE106.out) hb; clear hb hbox hg; have hnb5 := NB105_106.out; have hnc5 := NB106_105.out; have hnb6 := NB105_107.out; have hnc6 := NB107_105.out; obtain ⟨Y7_0, X7_0, Y7_1, X7_1⟩ := zw2 BK105; have hnb8 := NB107_106.out; have hnc8 := NB106_107.out; obtain ⟨Y9_0, X9_0, Y9_1, X9_1⟩ := zw2 BK107; obtain ⟨Y10_0, X10_0, Y10_1, X10_1⟩ := zw2 BK106))
 refine bodyPost_ret (results_cell_row rfl _ _ gb106 91 #[.int .i64 a0_0, .int .i64 a0_1] (0, 0) _ rfl (by refine zg #[.int .i64 a0_0, .int .i64 0] 1 ?_; refine zg #[.int .i64 0, .int .i64 0] 0 ?_; refine zf ?_ NB106_107; refine zf ?_ NB106_107; exact pK BK106.out) Try.underlying91 rfl (by kernel_rfl)) rfl ?_
 exact ⟨zE, pB3 HB.out GE105.out GE106.out GE107.out⟩
def laws_toPointS.l0 : Nat → List (S93) → List (S91) → Int → Option ((List (S91)))
 | 0, _, _, _ => none
 | k + 1, x0, x3, x4 => if x4 < (x0.length : Int) then (if 0 ≤ x4 then ((laws_toPoint.f ((rd_T93 x0 x4).f0) ((rd_T93 x0 x4).f1)).bind fun bt112 => (if x4 < (x3.length : Int) then (laws_toPointS.l0 k x0 (x3.set (x4 : Int).toNat (⟨bt112.1, bt112.2⟩ : S91)) (wrap64 (x4 + 1))) else (none))) else (none)) else (some x3)
def laws_toPointS.f (k : Nat) (l0 : List (S93)) : Option ((List (S91))) := if 0 ≤ (l0.length : Int) then (if ((l0.length : Int) : Int).toNat ≤ 17592186044416 then (laws_toPointS.l0 k l0 (List.replicate ((l0.length : Int) : Int).toNat z91) 0) else (none)) else (none)
theorem laws_toPointS.mono_l : ∀ k, (∀ y0 y1 y2, LeO (laws_toPointS.l0 k y0 y1 y2) (laws_toPointS.l0 (k + 1) y0 y1 y2))
 | 0 => fun _ _ _ r h => by simp [laws_toPointS.l0] at h
 | k + 1 => by
   have ih0 := laws_toPointS.mono_l k
   · intro y0 y1 y2
     unfold laws_toPointS.l0
     repeat' first
     | (with_reducible exact ih0 _ _ _)
     | (with_reducible exact LeO.refl _)
     | (with_reducible exact LeO.none _)
     | (with_reducible refine LeO.ite ?_ ?_)
     | (with_reducible refine LeO.bind ?_ (fun _ => ?_))
     | exact ih0 _ _ _
     | exact LeO.none _
     | refine LeO.ite ?_ ?_
     | refine LeO.bind ?_ (fun _ => ?_)
theorem laws_toPointS.mono : ∀ a0 k, LeO (laws_toPointS.f k a0) (laws_toPointS.f (k + 1) a0) := by
 intro a0 k; have ih0 := laws_toPointS.mono_l k; unfold laws_toPointS.f
 repeat' first
  | (with_reducible exact ih0 _ _ _)
  | (with_reducible exact LeO.refl _)
  | (with_reducible exact LeO.none _)
  | (with_reducible refine LeO.ite ?_ ?_)
  | (with_reducible refine LeO.bind ?_ (fun _ => ?_))
  | exact ih0 _ _ _
  | exact LeO.none _
  | refine LeO.ite ?_ ?_
  | refine LeO.bind ?_ (fun _ => ?_)
set_option maxHeartbeats 8000000 in
set_option maxRecDepth 100000 in
theorem laws_toPointS.calls (k : Nat) (A0 : Option Addr) (c0 : Nat) (l0 : List (S93)) (r : List (S91)) (w : World) (hr0 : Kd.C k93 w A0 l0.length l0) (hc0 : l0.length ≤ c0) (h : laws_toPointS.f k l0 = some r) :
 Calls Try.prog 12 #[.slice A0 l0.length c0] w fun e w' => ∃ v0_ : Value, e = .returned (v0_) ∧ Kd.R k91 91 w' w.heap.size (fun _ => True) v0_ r ∧ Below w.heap.size w w' := by
 have hu93 := Try.underlying93; have hu91 := Try.underlying91; have HR0 := Aside0.mk hr0; have HC0 := Aside0.mk hc0; clear hr0 hc0; have HB := Aside0.mk (Below.refl w.heap.size w); have H : (if 0 ≤ (l0.length : Int) then (if ((l0.length : Int) : Int).toNat ≤ 17592186044416 then (laws_toPointS.l0 k l0 (List.replicate ((l0.length : Int) : Int).toNat z91) 0) else (none)) else (none)) = some r := h; clear h
 by_cases c2 : 0 ≤ (l0.length : Int)
 rotate_left
 · rw [if_neg c2] at H
   exact absurd H (by simp)
 rw [if_pos c2] at H; have c2b0 := eq_true c2; have c2b1 := decide_eq_true c2; clear c2
 by_cases c3 : ((l0.length : Int) : Int).toNat ≤ 17592186044416
 rotate_left
 · rw [if_neg c3] at H
   exact absurd H (by simp)
 rw [if_pos c3] at H; have c3b0 := eq_true c3; have c3b1 := decide_eq_true c3; clear c3; obtain ⟨y108, hy108⟩ : ∃ y_ : List (S91), y_ = (List.replicate ((l0.length : Int) : Int).toNat z91) := ⟨_, rfl⟩; replace H : (laws_toPointS.l0 k l0 y108 0) = some r := zY hy108 H; have Ny108 := Aside0.mk hy108; clear hy108; have H' := Aside0.mk H; clear H
 go_enter Try.func12, Try.ntmps12
 go_wp2_with (first | ((with_reducible refine zI 7 rfl ?_); refine Kd.R_make k91 _ 91 rfl (N := 7) rfl 31 _ _ rfl (l0.length : Int) rfl rfl Try.underlying31 (.agg #[(.int .i64 0), (.int .i64 0)]) 16 info91 rfl (by decide) (by omega) z91 (ok := fun _ => True) (okp := fun _ => True) (k91_mkM _ _ _ z91 ) (fun _ hk => hk) trivial (zD) (Nat.le_trans (Nat.mul_le_mul_right _ (zD : (l0.length : Int).toNat ≤ 17592186044416)) (by omega)) (Below.refl _ _) (Nat.le_refl _) ?_; intro v109 w4 ho5 hb hg_ hnew_; clear hg_ hnew_; (first | rw [← Ny108.out] at ho5 | (simp only [Int.reduceToNat] at ho5; rw [← Ny108.out] at ho5)); have HO110 := Aside0.mk (Kd.R_lower ho5 (below_size (pB0 HB.out))); replace HB := zW (pB0 HB.out) hb; clear hb ho5))
 go_loopg [4] k (fun kq v4 w' => ∃ (x3_1 : List (S91)) (x4_1 : Int), v4 = .int .i64 x4_1 ∧ Aside0 (laws_toPointS.l0 kq l0 x3_1 x4_1 = some r) ∧ Aside0 (kq ≤ k) ∧ Aside0 (Kd.R k91 91 w' w.heap.size (fun _ => True) v109 x3_1) ∧ Aside0 (Below w.heap.size w w'))
 case atStart => exact ⟨(y108), (0), zR, H', ⟨Nat.le_refl _⟩, ⟨pR HO110.out⟩, ⟨pB0 HB.out⟩⟩
 case round =>
  clear H'; (try clear c1); (try clear c2); (try clear c2b0); (try clear c2b1); (try clear p2); (try clear c3); (try clear c3b0); (try clear c3b1); obtain ⟨x3_1, x4_1, rfl, HA, HK1, HO_3, HB⟩ := hrel
  cases gk with
  | zero => exact absurd HA.out (by simp [laws_toPointS.l0])
  | succ k1 =>
    have H := HA.out; clear HA; simp only [laws_toPointS.l0] at H
    by_cases c6 : x4_1 < (l0.length : Int)
    rotate_left
    · rw [if_neg c6] at H
      have c6b0 := decide_eq_false c6; clear c6; obtain rfl := Option.some.inj H
      go_wp2
      go_ret
      exact ⟨_, zE, by (with_reducible repeat (first | apply Kd.R_alloc | apply Kd.R_drewN | apply Kd.R_drew)); exact HO_3.out, pB0 HB.out⟩
    rw [if_pos c6] at H; have c6b0 := decide_eq_true c6; clear c6
    by_cases c7 : 0 ≤ x4_1
    rotate_left
    · rw [if_neg c7] at H
      exact absurd H (by simp)
    rw [if_pos c7] at H; have c7b0 := decide_eq_true c7; clear c7; replace H := Option.bind_eq_some_iff.mp H; obtain ⟨⟨t112, t113⟩, A80, H⟩ := H; replace H : (if x4_1 < (x3_1.length : Int) then (laws_toPointS.l0 k1 l0 (x3_1.set (x4_1 : Int).toNat (⟨t112, t113⟩ : S91)) (wrap64 (x4_1 + 1))) else (none)) = some r := H; have A8 := Aside0.mk A80; clear A80
    by_cases c9 : x4_1 < (x3_1.length : Int)
    rotate_left
    · rw [if_neg c9] at H
      exact absurd H (by simp)
    rw [if_pos c9] at H; have c9b0 := decide_eq_true c9; clear c9; obtain ⟨y114, hy114⟩ : ∃ y_ : List (S91), y_ = (x3_1.set (x4_1 : Int).toNat (⟨t112, t113⟩ : S91)) := ⟨_, rfl⟩; replace H : (laws_toPointS.l0 k1 l0 y114 (wrap64 (x4_1 + 1))) = some r := zY hy114 H; have Ny114 := Aside0.mk hy114; clear hy114; have H' := Aside0.mk H; clear H; have p111 : 0 ≤ (x4_1 : Int) := zD; have q111 : x4_1 < (l0.length : Int) := zD; obtain ⟨ad111, e111, hx111_0, hx111_1⟩ := at_T93 HR0.out x4_1 p111 q111; cases e111
    try replace hx111_0 := zH HB hx111_0
    try replace hx111_1 := zH HB hx111_1
    replace p111 := eq_true p111; replace q111 := eq_true q111
    go_wp2_with (first | ((with_reducible refine gate_callee (f := 52) rfl ?_); refine zJ (some 20) Try.func52 #[.agg #[.int .i64 ((rd_T93 l0 x4_1).f0), .int .i64 ((rd_T93 l0 x4_1).f1)]] ?_; (with_reducible refine (laws_toPoint.calls ((rd_T93 l0 x4_1).f0) ((rd_T93 l0 x4_1).f1) t112 t113 _ A8.out).mono ?_); rintro e w11 ⟨rfl, hb⟩; refine ⟨_, rfl, ?_⟩; replace HO_3 := Aside0.mk (Kd.R_below (pR HO_3.out) hb); replace HB := zW (pB0 HB.out) hb; (try clear hb); (try clear hb2); (try clear hk); (try clear hi); have p10 : 0 ≤ (x4_1 : Int) := zD; have q10 : (x4_1 : Int) < ((x3_1.length : Int) : Int) := zD; obtain ⟨go10, co10, eo10, gb10, gl10, cl10, HG10⟩ := Kd.R_form HO_3.out (by omega); (first | cases eo10 | (injection eo10 with ea_ en_ ec_; (first | subst ea_ | (injection ea_ with ea_; subst ea_)); subst ec_; clear en_)); have GB10 := Aside0.mk gb10; have GG10 := Aside0.mk HG10; clear gb10 gl10 HG10; obtain ⟨ce10, hcl10, hM10, hcc10, hfr10⟩ := Kd.R_elem HO_3.out z91 (x4_1 : Int) p10 q10; obtain rfl := k91_openM hM10; have hx10_0 : w11.cell? ⟨go10, (x4_1 : Int).toNat * 2, none⟩ = some (.int .i64 ((rd_T91 x3_1 x4_1).f0)) := hcc10 0 _ rfl; have hx10_1 : w11.cell? ⟨go10, (x4_1 : Int).toNat * 2 + 1, none⟩ = some (.int .i64 ((rd_T91 x3_1 x4_1).f1)) := hcc10 1 _ rfl; have hf10_0 : w11.frozen? ⟨go10, (x4_1 : Int).toNat * 2, none⟩ = false := hfr10 0; have hf10_1 : w11.frozen? ⟨go10, (x4_1 : Int).toNat * 2 + 1, none⟩ = false := hfr10 1; clear hcl10 hcc10 hfr10; (try clear hM10); replace p10 := eq_true p10; replace q10 := eq_true q10; have HX12 := Aside0.mk (show Kd.R k91 91 w11 w.heap.size (fun _ => True) (.slice (some ⟨go10, 0, none⟩) x3_1.length co10) x3_1 from (pR HO_3.out)); obtain ⟨ce12, hcl12, hM12, hcc12, hfr12⟩ := Kd.R_elem HX12.out z91 (x4_1 : Int) (zD) (by have h_ : (x4_1 : Int) < ((x3_1.length : Int) : Int) := zD; first | exact h_ | (have e_ := (Kd.R_reads' HO_3.out).1; omega) | simpa using h_); obtain rfl := k91_openM hM12; have HP12 := Kd.R_seg HX12.out (x4_1 : Int) (zD) (by have h_ : (x4_1 : Int) < ((x3_1.length : Int) : Int) := zD; first | exact h_ | (have e_ := (Kd.R_reads' HO_3.out).1; omega) | simpa using h_) (seg := [.int .i64 t112, .int .i64 t113]) (j := 0) hcl12 hcc12 (show 2 ≤ 2 from by decide) (x' := (⟨t112, t113⟩ : S91)) (k91_mkM _ _ _ (⟨t112, t113⟩ : S91) ) (fun _ hk => hk); have hx12_0 := hcc12 0 _ rfl; (try simp only [show (k91).sz = 2 from rfl, Nat.mul_one, Nat.add_zero] at hx12_0); have hf12_0 := hfr12 0; (try simp only [show (k91).sz = 2 from rfl, Nat.mul_one, Nat.add_zero] at hf12_0); have hx12_1 := hcc12 1 _ rfl; (try simp only [show (k91).sz = 2 from rfl, Nat.mul_one, Nat.add_zero] at hx12_1); have hf12_1 := hfr12 1; (try simp only [show (k91).sz = 2 from rfl, Nat.mul_one, Nat.add_zero] at hf12_1); clear hcl12 hcc12 hfr12; (try clear hM12)) | ((with_reducible refine gate_store (t := 91) (p := 21) rfl ?_); refine store_event (t := 91) (p := 21) (v := ?vo_w13) (w1 := ((w11.setCell ⟨go10, (x4_1 : Int).toNat * 2, none⟩ (.int .i64 t112)).setCell ⟨go10, (x4_1 : Int).toNat * 2 + 1, none⟩ (.int .i64 t113))) ?hg ?ho ?hn ?hr ?_; (case ho => rfl); (case hg => rfl); (case hn => rfl); (case hr => first | (go_simp; done) | (go_simp; rfl)); intro w13 hw; have hg : w11.grownBy w13 (some go10) := (by rw [hw]; exact HP12.2); have hp_ : Kd.R k91 91 w13 w.heap.size (fun _ => True) (.slice (some ⟨go10, 0, none⟩) x3_1.length co10) y114 := (by rw [hw, Ny114.out]; exact HP12.1); clear HP12; replace HO_3 := Aside0.mk (hp_); replace HB := Aside0.mk ((by rw [hw]; exact below_set (below_set (HB.out) GB10.out) GB10.out : Below w.heap.size w w13)); clear hg hw hp_))
    go_roundg k1
    case measure => have := HK1.out; omega
    case rel => exact ⟨(y114), (wrap64 (x4_1 + 1)), zR, H', ⟨by have := HK1.out; omega⟩, ⟨pR HO_3.out⟩, ⟨pB0 HB.out⟩⟩
def laws_toVeneer.f (a0_0 : ByteArray) (a0_1 : Int) (a0_2 : Int) : Option (ByteArray × Int × Int) := some (a0_0, a0_1, a0_2)
set_option maxHeartbeats 8000000 in
set_option maxRecDepth 100000 in
theorem laws_toVeneer.calls (a0_0 : ByteArray) (a0_1 : Int) (a0_2 : Int) (r1 : ByteArray) (r2 : Int) (r3 : Int) (w : World) (h : laws_toVeneer.f a0_0 a0_1 a0_2 = some (r1, r2, r3)) :
 Calls Try.prog 53 #[.agg #[.string a0_0, .int .i64 a0_1, .int .i64 a0_2]] w fun e w' => e = .returned (.agg #[.string r1, .int .i64 r2, .int .i64 r3]) ∧ Below w.heap.size w w' := by
 have hu24 := Try.underlying24; have hu33 := Try.underlying33; have HB := Aside0.mk (Below.refl w.heap.size w); have H : (some (a0_0, a0_1, a0_2)) = some (r1, r2, r3) := h; clear h; simp only [Option.some.injEq, Prod.mk.injEq] at H; obtain ⟨rfl, rfl, rfl⟩ := H
 go_enter Try.func53, Try.ntmps53
 go_wp2_with (first | ((with_reducible refine zI 1 rfl ?_); refine zB 1 #[.string a0_0, .int .i64 a0_1, .int .i64 a0_2] 24 ?_; intro gb115 hg w2 hbox hb; have BK115 := Aside0.mk (hbox); have GW115 := zS (pB0 HB.out) hg; have GE115 := GW115; replace HB := zW (pB0 HB.out) hb; clear hb hbox hg) | ((with_reducible refine zI 2 rfl ?_); refine zB 2 #[.string (⟨#[]⟩ : ByteArray), .int .i64 0, .int .i64 0] 33 ?_; intro gb116 hg w3 hbox hb; have BK116 := Aside0.mk (hbox); have GW116 := zS (pB1 HB.out GE115.out) hg; have GE116 := GW116; have NB115_116 := zL BK115 hg; have NB116_115 := zM BK115 hg; replace BK115 := zK BK115 hb; replace HB := zW (pB1 HB.out GE115.out) hb; clear hb hbox hg) | ((with_reducible refine zI 3 rfl ?_); refine zB 3 #[.string (⟨#[]⟩ : ByteArray), .int .i64 0, .int .i64 0] 33 ?_; intro gb117 hg w4 hbox hb; have BK117 := Aside0.mk (hbox); have GW117 := zS (pB2 HB.out GE115.out GE116.out) hg; have GE117 := GW117; have NB115_117 := zL BK115 hg; have NB117_115 := zM BK115 hg; have NB116_117 := zL BK116 hg; have NB117_116 := zM BK116 hg; replace BK115 := zK BK115 hb; replace BK116 := zK BK116 hb; replace HB := zW (pB2 HB.out GE115.out GE116.out) hb; clear hb hbox hg; have hnb5 := NB115_116.out; have hnc5 := NB116_115.out; have hnb6 := NB115_117.out; have hnc6 := NB117_115.out; obtain ⟨Y7_0, X7_0, Y7_1, X7_1, Y7_2, X7_2⟩ := zw3 BK115; have hnb8 := NB117_116.out; have hnc8 := NB116_117.out; obtain ⟨Y9_0, X9_0, Y9_1, X9_1, Y9_2, X9_2⟩ := zw3 BK117; obtain ⟨Y10_0, X10_0, Y10_1, X10_1, Y10_2, X10_2⟩ := zw3 BK116))
 refine bodyPost_ret (results_cell_row rfl _ _ gb116 33 #[.string a0_0, .int .i64 a0_1, .int .i64 a0_2] (0, 0) _ rfl (by refine zg #[.string a0_0, .int .i64 a0_1, .int .i64 0] 2 ?_; refine zg #[.string a0_0, .int .i64 0, .int .i64 0] 1 ?_; refine zg #[.string (⟨#[]⟩ : ByteArray), .int .i64 0, .int .i64 0] 0 ?_; refine zf ?_ NB116_117; refine zf ?_ NB116_117; refine zf ?_ NB116_117; exact pK BK116.out) Try.underlying33 rfl (by kernel_rfl)) rfl ?_
 exact ⟨zE, pB3 HB.out GE115.out GE116.out GE117.out⟩
def laws_toBox.f (a0_0 : Int) (a0_1 : Int) (a0_2 : Int) (a0_3 : Int) : Option (Int × Int × Int × Int) := some (a0_0, a0_1, a0_2, a0_3)
set_option maxHeartbeats 8000000 in
set_option maxRecDepth 100000 in
theorem laws_toBox.calls (a0_0 : Int) (a0_1 : Int) (a0_2 : Int) (a0_3 : Int) (r1 : Int) (r2 : Int) (r3 : Int) (r4 : Int) (w : World) (h : laws_toBox.f a0_0 a0_1 a0_2 a0_3 = some (r1, r2, r3, r4)) :
 Calls Try.prog 94 #[.agg #[.int .i64 a0_0, .int .i64 a0_1, .int .i64 a0_2, .int .i64 a0_3]] w fun e w' => e = .returned (.agg #[.int .i64 r1, .int .i64 r2, .int .i64 r3, .int .i64 r4]) ∧ Below w.heap.size w w' := by
 have hu136 := Try.underlying136; have hu103 := Try.underlying103; have HB := Aside0.mk (Below.refl w.heap.size w); have H : (some (a0_0, a0_1, a0_2, a0_3)) = some (r1, r2, r3, r4) := h; clear h; simp only [Option.some.injEq, Prod.mk.injEq] at H; obtain ⟨rfl, rfl, rfl, rfl⟩ := H
 go_enter Try.func94, Try.ntmps94
 go_wp2_with (first | ((with_reducible refine zI 1 rfl ?_); refine zB 1 #[.int .i64 a0_0, .int .i64 a0_1, .int .i64 a0_2, .int .i64 a0_3] 136 ?_; intro gb118 hg w2 hbox hb; have BK118 := Aside0.mk (hbox); have GW118 := zS (pB0 HB.out) hg; have GE118 := GW118; replace HB := zW (pB0 HB.out) hb; clear hb hbox hg) | ((with_reducible refine zI 2 rfl ?_); refine zB 2 #[.int .i64 0, .int .i64 0, .int .i64 0, .int .i64 0] 103 ?_; intro gb119 hg w3 hbox hb; have BK119 := Aside0.mk (hbox); have GW119 := zS (pB1 HB.out GE118.out) hg; have GE119 := GW119; have NB118_119 := zL BK118 hg; have NB119_118 := zM BK118 hg; replace BK118 := zK BK118 hb; replace HB := zW (pB1 HB.out GE118.out) hb; clear hb hbox hg) | ((with_reducible refine zI 3 rfl ?_); refine zB 3 #[.int .i64 0, .int .i64 0, .int .i64 0, .int .i64 0] 103 ?_; intro gb120 hg w4 hbox hb; have BK120 := Aside0.mk (hbox); have GW120 := zS (pB2 HB.out GE118.out GE119.out) hg; have GE120 := GW120; have NB118_120 := zL BK118 hg; have NB120_118 := zM BK118 hg; have NB119_120 := zL BK119 hg; have NB120_119 := zM BK119 hg; replace BK118 := zK BK118 hb; replace BK119 := zK BK119 hb; replace HB := zW (pB2 HB.out GE118.out GE119.out) hb; clear hb hbox hg; have hnb5 := NB118_119.out; have hnc5 := NB119_118.out; have hnb6 := NB118_120.out; have hnc6 := NB120_118.out; obtain ⟨Y7_0, X7_0, Y7_1, X7_1, Y7_2, X7_2, Y7_3, X7_3⟩ := zw4 BK118; have hnb8 := NB120_119.out; have hnc8 := NB119_120.out; obtain ⟨Y9_0, X9_0, Y9_1, X9_1, Y9_2, X9_2, Y9_3, X9_3⟩ := zw4 BK120; obtain ⟨Y10_0, X10_0, Y10_1, X10_1, Y10_2, X10_2, Y10_3, X10_3⟩ := zw4 BK119))
 refine bodyPost_ret (results_cell_row rfl _ _ gb119 103 #[.int .i64 a0_0, .int .i64 a0_1, .int .i64 a0_2, .int .i64 a0_3] (0, 0) _ rfl (by refine zg #[.int .i64 a0_0, .int .i64 a0_1, .int .i64 a0_2, .int .i64 0] 3 ?_; refine zg #[.int .i64 a0_0, .int .i64 a0_1, .int .i64 0, .int .i64 0] 2 ?_; refine zg #[.int .i64 a0_0, .int .i64 0, .int .i64 0, .int .i64 0] 1 ?_; refine zg #[.int .i64 0, .int .i64 0, .int .i64 0, .int .i64 0] 0 ?_; refine zf ?_ NB119_120; refine zf ?_ NB119_120; refine zf ?_ NB119_120; refine zf ?_ NB119_120; exact pK BK119.out) Try.underlying103 rfl (by kernel_rfl)) rfl ?_
 exact ⟨zE, pB3 HB.out GE118.out GE119.out GE120.out⟩
def laws_toBoxS.l0 : Nat → List (S136) → List (S103) → Int → Option ((List (S103)))
 | 0, _, _, _ => none
 | k + 1, x0, x3, x4 => if x4 < (x0.length : Int) then (if 0 ≤ x4 then ((laws_toBox.f ((rd_T136 x0 x4).f0) ((rd_T136 x0 x4).f1) ((rd_T136 x0 x4).f2) ((rd_T136 x0 x4).f3)).bind fun bt125 => (if x4 < (x3.length : Int) then (laws_toBoxS.l0 k x0 (x3.set (x4 : Int).toNat (⟨bt125.1, bt125.2.1, bt125.2.2.1, bt125.2.2.2⟩ : S103)) (wrap64 (x4 + 1))) else (none))) else (none)) else (some x3)
def laws_toBoxS.f (k : Nat) (l0 : List (S136)) : Option ((List (S103))) := if 0 ≤ (l0.length : Int) then (if ((l0.length : Int) : Int).toNat ≤ 8796093022208 then (laws_toBoxS.l0 k l0 (List.replicate ((l0.length : Int) : Int).toNat z103) 0) else (none)) else (none)
theorem laws_toBoxS.mono_l : ∀ k, (∀ y0 y1 y2, LeO (laws_toBoxS.l0 k y0 y1 y2) (laws_toBoxS.l0 (k + 1) y0 y1 y2))
 | 0 => fun _ _ _ r h => by simp [laws_toBoxS.l0] at h
 | k + 1 => by
   have ih0 := laws_toBoxS.mono_l k
   · intro y0 y1 y2
     unfold laws_toBoxS.l0
     repeat' first
     | (with_reducible exact ih0 _ _ _)
     | (with_reducible exact LeO.refl _)
     | (with_reducible exact LeO.none _)
     | (with_reducible refine LeO.ite ?_ ?_)
     | (with_reducible refine LeO.bind ?_ (fun _ => ?_))
     | exact ih0 _ _ _
     | exact LeO.none _
     | refine LeO.ite ?_ ?_
     | refine LeO.bind ?_ (fun _ => ?_)
theorem laws_toBoxS.mono : ∀ a0 k, LeO (laws_toBoxS.f k a0) (laws_toBoxS.f (k + 1) a0) := by
 intro a0 k; have ih0 := laws_toBoxS.mono_l k; unfold laws_toBoxS.f
 repeat' first
  | (with_reducible exact ih0 _ _ _)
  | (with_reducible exact LeO.refl _)
  | (with_reducible exact LeO.none _)
  | (with_reducible refine LeO.ite ?_ ?_)
  | (with_reducible refine LeO.bind ?_ (fun _ => ?_))
  | exact ih0 _ _ _
  | exact LeO.none _
  | refine LeO.ite ?_ ?_
  | refine LeO.bind ?_ (fun _ => ?_)
set_option maxHeartbeats 8000000 in
set_option maxRecDepth 100000 in
theorem laws_toBoxS.calls (k : Nat) (A0 : Option Addr) (c0 : Nat) (l0 : List (S136)) (r : List (S103)) (w : World) (hr0 : Kd.C k136 w A0 l0.length l0) (hc0 : l0.length ≤ c0) (h : laws_toBoxS.f k l0 = some r) :
 Calls Try.prog 54 #[.slice A0 l0.length c0] w fun e w' => ∃ v0_ : Value, e = .returned (v0_) ∧ Kd.R k103 103 w' w.heap.size (fun _ => True) v0_ r ∧ Below w.heap.size w w' := by
 have hu136 := Try.underlying136; have hu103 := Try.underlying103; have HR0 := Aside0.mk hr0; have HC0 := Aside0.mk hc0; clear hr0 hc0; have HB := Aside0.mk (Below.refl w.heap.size w); have H : (if 0 ≤ (l0.length : Int) then (if ((l0.length : Int) : Int).toNat ≤ 8796093022208 then (laws_toBoxS.l0 k l0 (List.replicate ((l0.length : Int) : Int).toNat z103) 0) else (none)) else (none)) = some r := h; clear h
 by_cases c2 : 0 ≤ (l0.length : Int)
 rotate_left
 · rw [if_neg c2] at H
   exact absurd H (by simp)
 rw [if_pos c2] at H; have c2b0 := eq_true c2; have c2b1 := decide_eq_true c2; clear c2
 by_cases c3 : ((l0.length : Int) : Int).toNat ≤ 8796093022208
 rotate_left
 · rw [if_neg c3] at H
   exact absurd H (by simp)
 rw [if_pos c3] at H; have c3b0 := eq_true c3; have c3b1 := decide_eq_true c3; clear c3; obtain ⟨y121, hy121⟩ : ∃ y_ : List (S103), y_ = (List.replicate ((l0.length : Int) : Int).toNat z103) := ⟨_, rfl⟩; replace H : (laws_toBoxS.l0 k l0 y121 0) = some r := zY hy121 H; have Ny121 := Aside0.mk hy121; clear hy121; have H' := Aside0.mk H; clear H
 go_enter Try.func54, Try.ntmps54
 go_wp2_with (first | ((with_reducible refine zI 7 rfl ?_); refine Kd.R_make k103 _ 103 rfl (N := 7) rfl 34 _ _ rfl (l0.length : Int) rfl rfl Try.underlying34 (.agg #[(.int .i64 0), (.int .i64 0), (.int .i64 0), (.int .i64 0)]) 32 info103 rfl (by decide) (by omega) z103 (ok := fun _ => True) (okp := fun _ => True) (k103_mkM _ _ _ z103 ) (fun _ hk => hk) trivial (zD) (Nat.le_trans (Nat.mul_le_mul_right _ (zD : (l0.length : Int).toNat ≤ 8796093022208)) (by omega)) (Below.refl _ _) (Nat.le_refl _) ?_; intro v122 w4 ho5 hb hg_ hnew_; clear hg_ hnew_; (first | rw [← Ny121.out] at ho5 | (simp only [Int.reduceToNat] at ho5; rw [← Ny121.out] at ho5)); have HO123 := Aside0.mk (Kd.R_lower ho5 (below_size (pB0 HB.out))); replace HB := zW (pB0 HB.out) hb; clear hb ho5))
 go_loopg [4] k (fun kq v4 w' => ∃ (x3_1 : List (S103)) (x4_1 : Int), v4 = .int .i64 x4_1 ∧ Aside0 (laws_toBoxS.l0 kq l0 x3_1 x4_1 = some r) ∧ Aside0 (kq ≤ k) ∧ Aside0 (Kd.R k103 103 w' w.heap.size (fun _ => True) v122 x3_1) ∧ Aside0 (Below w.heap.size w w'))
 case atStart => exact ⟨(y121), (0), zR, H', ⟨Nat.le_refl _⟩, ⟨pR HO123.out⟩, ⟨pB0 HB.out⟩⟩
 case round =>
  clear H'; (try clear c2); (try clear c2b0); (try clear c2b1); (try clear p2); (try clear c3); (try clear c3b0); (try clear c3b1); (try clear c5); obtain ⟨x3_1, x4_1, rfl, HA, HK1, HO_3, HB⟩ := hrel
  cases gk with
  | zero => exact absurd HA.out (by simp [laws_toBoxS.l0])
  | succ k1 =>
    have H := HA.out; clear HA; simp only [laws_toBoxS.l0] at H
    by_cases c6 : x4_1 < (l0.length : Int)
    rotate_left
    · rw [if_neg c6] at H
      have c6b0 := decide_eq_false c6; clear c6; obtain rfl := Option.some.inj H
      go_wp2
      go_ret
      exact ⟨_, zE, by (with_reducible repeat (first | apply Kd.R_alloc | apply Kd.R_drewN | apply Kd.R_drew)); exact HO_3.out, pB0 HB.out⟩
    rw [if_pos c6] at H; have c6b0 := decide_eq_true c6; clear c6
    by_cases c7 : 0 ≤ x4_1
    rotate_left
    · rw [if_neg c7] at H
      exact absurd H (by simp)
    rw [if_pos c7] at H; have c7b0 := decide_eq_true c7; clear c7; replace H := Option.bind_eq_some_iff.mp H; obtain ⟨⟨t125, t126, t127, t128⟩, A80, H⟩ := H; replace H : (if x4_1 < (x3_1.length : Int) then (laws_toBoxS.l0 k1 l0 (x3_1.set (x4_1 : Int).toNat (⟨t125, t126, t127, t128⟩ : S103)) (wrap64 (x4_1 + 1))) else (none)) = some r := H; have A8 := Aside0.mk A80; clear A80
    by_cases c9 : x4_1 < (x3_1.length : Int)
    rotate_left
    · rw [if_neg c9] at H
      exact absurd H (by simp)
    rw [if_pos c9] at H; have c9b0 := decide_eq_true c9; clear c9; obtain ⟨y129, hy129⟩ : ∃ y_ : List (S103), y_ = (x3_1.set (x4_1 : Int).toNat (⟨t125, t126, t127, t128⟩ : S103)) := ⟨_, rfl⟩; replace H : (laws_toBoxS.l0 k1 l0 y129 (wrap64 (x4_1 + 1))) = some r := zY hy129 H; have Ny129 := Aside0.mk hy129; clear hy129; have H' := Aside0.mk H; clear H; have p124 : 0 ≤ (x4_1 : Int) := zD; have q124 : x4_1 < (l0.length : Int) := zD; obtain ⟨ad124, e124, hx124_0, hx124_1, hx124_2, hx124_3⟩ := at_T136 HR0.out x4_1 p124 q124; cases e124
    try replace hx124_0 := zH HB hx124_0
    try replace hx124_1 := zH HB hx124_1
    try replace hx124_2 := zH HB hx124_2
    try replace hx124_3 := zH HB hx124_3
    replace p124 := eq_true p124; replace q124 := eq_true q124
    go_wp2_with (first | ((with_reducible refine gate_callee (f := 94) rfl ?_); refine zJ (some 20) Try.func94 #[.agg #[.int .i64 ((rd_T136 l0 x4_1).f0), .int .i64 ((rd_T136 l0 x4_1).f1), .int .i64 ((rd_T136 l0 x4_1).f2), .int .i64 ((rd_T136 l0 x4_1).f3)]] ?_; (with_reducible refine (laws_toBox.calls ((rd_T136 l0 x4_1).f0) ((rd_T136 l0 x4_1).f1) ((rd_T136 l0 x4_1).f2) ((rd_T136 l0 x4_1).f3) t125 t126 t127 t128 _ A8.out).mono ?_); rintro e w11 ⟨rfl, hb⟩; refine ⟨_, rfl, ?_⟩; replace HO_3 := Aside0.mk (Kd.R_below (pR HO_3.out) hb); replace HB := zW (pB0 HB.out) hb; (try clear hb); (try clear hb2); (try clear hk); (try clear hi); have p10 : 0 ≤ (x4_1 : Int) := zD; have q10 : (x4_1 : Int) < ((x3_1.length : Int) : Int) := zD; obtain ⟨go10, co10, eo10, gb10, gl10, cl10, HG10⟩ := Kd.R_form HO_3.out (by omega); (first | cases eo10 | (injection eo10 with ea_ en_ ec_; (first | subst ea_ | (injection ea_ with ea_; subst ea_)); subst ec_; clear en_)); have GB10 := Aside0.mk gb10; have GG10 := Aside0.mk HG10; clear gb10 gl10 HG10; obtain ⟨ce10, hcl10, hM10, hcc10, hfr10⟩ := Kd.R_elem HO_3.out z103 (x4_1 : Int) p10 q10; obtain rfl := k103_openM hM10; have hx10_0 : w11.cell? ⟨go10, (x4_1 : Int).toNat * 4, none⟩ = some (.int .i64 ((rd_T103 x3_1 x4_1).f0)) := hcc10 0 _ rfl; have hx10_1 : w11.cell? ⟨go10, (x4_1 : Int).toNat * 4 + 1, none⟩ = some (.int .i64 ((rd_T103 x3_1 x4_1).f1)) := hcc10 1 _ rfl; have hx10_2 : w11.cell? ⟨go10, (x4_1 : Int).toNat * 4 + 2, none⟩ = some (.int .i64 ((rd_T103 x3_1 x4_1).f2)) := hcc10 2 _ rfl; have hx10_3 : w11.cell? ⟨go10, (x4_1 : Int).toNat * 4 + 3, none⟩ = some (.int .i64 ((rd_T103 x3_1 x4_1).f3)) := hcc10 3 _ rfl; have hf10_0 : w11.frozen? ⟨go10, (x4_1 : Int).toNat * 4, none⟩ = false := hfr10 0; have hf10_1 : w11.frozen? ⟨go10, (x4_1 : Int).toNat * 4 + 1, none⟩ = false := hfr10 1; have hf10_2 : w11.frozen? ⟨go10, (x4_1 : Int).toNat * 4 + 2, none⟩ = false := hfr10 2; have hf10_3 : w11.frozen? ⟨go10, (x4_1 : Int).toNat * 4 + 3, none⟩ = false := hfr10 3; clear hcl10 hcc10 hfr10; (try clear hM10); replace p10 := eq_true p10; replace q10 := eq_true q10; have HX12 := Aside0.mk (show Kd.R k103 103 w11 w.heap.size (fun _ => True) (.slice (some ⟨go10, 0, none⟩) x3_1.length co10) x3_1 from (pR HO_3.out)); obtain ⟨ce12, hcl12, hM12, hcc12, hfr12⟩ := Kd.R_elem HX12.out z103 (x4_1 : Int) (zD) (by have h_ : (x4_1 : Int) < ((x3_1.length : Int) : Int) := zD; first | exact h_ | (have e_ := (Kd.R_reads' HO_3.out).1; omega) | simpa using h_); obtain rfl := k103_openM hM12; have HP12 := Kd.R_seg HX12.out (x4_1 : Int) (zD) (by have h_ : (x4_1 : Int) < ((x3_1.length : Int) : Int) := zD; first | exact h_ | (have e_ := (Kd.R_reads' HO_3.out).1; omega) | simpa using h_) (seg := [.int .i64 t125, .int .i64 t126, .int .i64 t127, .int .i64 t128]) (j := 0) hcl12 hcc12 (show 4 ≤ 4 from by decide) (x' := (⟨t125, t126, t127, t128⟩ : S103)) (k103_mkM _ _ _ (⟨t125, t126, t127, t128⟩ : S103) ) (fun _ hk => hk); have hx12_0 := hcc12 0 _ rfl; (try simp only [show (k103).sz = 4 from rfl, Nat.mul_one, Nat.add_zero] at hx12_0); have hf12_0 := hfr12 0; (try simp only [show (k103).sz = 4 from rfl, Nat.mul_one, Nat.add_zero] at hf12_0); have hx12_1 := hcc12 1 _ rfl; (try simp only [show (k103).sz = 4 from rfl, Nat.mul_one, Nat.add_zero] at hx12_1); have hf12_1 := hfr12 1; (try simp only [show (k103).sz = 4 from rfl, Nat.mul_one, Nat.add_zero] at hf12_1); have hx12_2 := hcc12 2 _ rfl; (try simp only [show (k103).sz = 4 from rfl, Nat.mul_one, Nat.add_zero] at hx12_2); have hf12_2 := hfr12 2; (try simp only [show (k103).sz = 4 from rfl, Nat.mul_one, Nat.add_zero] at hf12_2); have hx12_3 := hcc12 3 _ rfl; (try simp only [show (k103).sz = 4 from rfl, Nat.mul_one, Nat.add_zero] at hx12_3); have hf12_3 := hfr12 3; (try simp only [show (k103).sz = 4 from rfl, Nat.mul_one, Nat.add_zero] at hf12_3); clear hcl12 hcc12 hfr12; (try clear hM12)) | ((with_reducible refine gate_store (t := 103) (p := 21) rfl ?_); refine store_event (t := 103) (p := 21) (v := ?vo_w13) (w1 := ((((w11.setCell ⟨go10, (x4_1 : Int).toNat * 4, none⟩ (.int .i64 t125)).setCell ⟨go10, (x4_1 : Int).toNat * 4 + 1, none⟩ (.int .i64 t126)).setCell ⟨go10, (x4_1 : Int).toNat * 4 + 2, none⟩ (.int .i64 t127)).setCell ⟨go10, (x4_1 : Int).toNat * 4 + 3, none⟩ (.int .i64 t128))) ?hg ?ho ?hn ?hr ?_; (case ho => rfl); (case hg => rfl); (case hn => rfl); (case hr => first | (go_simp; done) | (go_simp; rfl)); intro w13 hw; have hg : w11.grownBy w13 (some go10) := (by rw [hw]; exact HP12.2); have hp_ : Kd.R k103 103 w13 w.heap.size (fun _ => True) (.slice (some ⟨go10, 0, none⟩) x3_1.length co10) y129 := (by rw [hw, Ny129.out]; exact HP12.1); clear HP12; replace HO_3 := Aside0.mk (hp_); replace HB := Aside0.mk ((by rw [hw]; exact below_set (below_set (below_set (below_set (HB.out) GB10.out) GB10.out) GB10.out) GB10.out : Below w.heap.size w w13)); clear hg hw hp_))
    go_roundg k1
    case measure => have := HK1.out; omega
    case rel => exact ⟨(y129), (wrap64 (x4_1 + 1)), zR, H', ⟨by have := HK1.out; omega⟩, ⟨pR HO_3.out⟩, ⟨pB0 HB.out⟩⟩
def laws_toLeaf.f (k : Nat) (a0_0 : ByteArray) (a0_1 : ByteArray) (a0_2 : Int) (a0_3 : ByteArray) (a0_4 : Int) (a0_5 : Int) (a0_6 : Int) (a0_7 : Int) (l0_8 : List (S136)) : Option (ByteArray × ByteArray × Int × ByteArray × Int × Int × Int × Int × (List (S103))) := (laws_toVeneer.f a0_3 a0_4 a0_5).bind fun bt133 => ((laws_toBoxS.f k l0_8).bind fun t136 => (some (a0_0, a0_1, a0_2, bt133.1, bt133.2.1, bt133.2.2, a0_6, a0_7, t136)))
theorem laws_toLeaf.mono : ∀ a0 a1 a2 a3 a4 a5 a6 a7 a8 k, LeO (laws_toLeaf.f k a0 a1 a2 a3 a4 a5 a6 a7 a8) (laws_toLeaf.f (k + 1) a0 a1 a2 a3 a4 a5 a6 a7 a8) := by
 intro a0 a1 a2 a3 a4 a5 a6 a7 a8 k; unfold laws_toLeaf.f
 repeat' first
  | (with_reducible exact laws_toBoxS.mono _ _)
  | (with_reducible exact LeO.refl _)
  | (with_reducible exact LeO.none _)
  | (with_reducible refine LeO.ite ?_ ?_)
  | (with_reducible refine LeO.bind ?_ (fun _ => ?_))
  | exact laws_toBoxS.mono _ _
  | exact LeO.none _
  | refine LeO.ite ?_ ?_
  | refine LeO.bind ?_ (fun _ => ?_)
set_option maxHeartbeats 8000000 in
set_option maxRecDepth 100000 in
theorem laws_toLeaf.calls (k : Nat) (a0_0 : ByteArray) (a0_1 : ByteArray) (a0_2 : Int) (a0_3 : ByteArray) (a0_4 : Int) (a0_5 : Int) (a0_6 : Int) (a0_7 : Int) (A0_8 : Option Addr) (c0_8 : Nat) (l0_8 : List (S136)) (r1 : ByteArray) (r2 : ByteArray) (r3 : Int) (r4 : ByteArray) (r5 : Int) (r6 : Int) (r7 : Int) (r8 : Int) (r9 : List (S103)) (w : World) (hr0_8 : Kd.C k136 w A0_8 l0_8.length l0_8) (hc0_8 : l0_8.length ≤ c0_8) (h : laws_toLeaf.f k a0_0 a0_1 a0_2 a0_3 a0_4 a0_5 a0_6 a0_7 l0_8 = some (r1, r2, r3, r4, r5, r6, r7, r8, r9)) :
 Calls Try.prog 13 #[.agg #[.string a0_0, .string a0_1, .int .i64 a0_2, .string a0_3, .int .i64 a0_4, .int .i64 a0_5, .int .i64 a0_6, .int .i64 a0_7, .slice A0_8 l0_8.length c0_8]] w fun e w' => ∃ v8_ : Value, e = .returned (.agg #[.string r1, .string r2, .int .i64 r3, .string r4, .int .i64 r5, .int .i64 r6, .int .i64 r7, .int .i64 r8, v8_]) ∧ Kd.R k103 103 w' w.heap.size (fun _ => True) v8_ r9 ∧ Below w.heap.size w w' := by
 have hu27 := Try.underlying27; have hu36 := Try.underlying36; have hu24 := Try.underlying24; have hu33 := Try.underlying33; have HR0_8 := Aside0.mk hr0_8; have HC0_8 := Aside0.mk hc0_8; clear hr0_8 hc0_8; have HB := Aside0.mk (Below.refl w.heap.size w)
 have H : ((laws_toVeneer.f a0_3 a0_4 a0_5).bind fun bt133 => ((laws_toBoxS.f k l0_8).bind fun t136 => (some (a0_0, a0_1, a0_2, bt133.1, bt133.2.1, bt133.2.2, a0_6, a0_7, t136)))) = some (r1, r2, r3, r4, r5, r6, r7, r8, r9) := h
 clear h; replace H := Option.bind_eq_some_iff.mp H; obtain ⟨⟨t133, t134, t135⟩, A20, H⟩ := H
 replace H : ((laws_toBoxS.f k l0_8).bind fun t136 => (some (a0_0, a0_1, a0_2, t133, t134, t135, a0_6, a0_7, t136))) = some (r1, r2, r3, r4, r5, r6, r7, r8, r9) := H
 have A2 := Aside0.mk A20; clear A20; replace H := Option.bind_eq_some_iff.mp H; obtain ⟨t136, A30, H⟩ := H; have A3 := Aside0.mk A30; clear A30; simp only [Option.some.injEq, Prod.mk.injEq] at H; obtain ⟨rfl, rfl, rfl, rfl, rfl, rfl, rfl, rfl, rfl⟩ := H
 go_enter Try.func13, Try.ntmps13
 go_wp2_with (first | ((with_reducible refine zI 1 rfl ?_); refine zB 1 #[.string a0_0, .string a0_1, .int .i64 a0_2, .string a0_3, .int .i64 a0_4, .int .i64 a0_5, .int .i64 a0_6, .int .i64 a0_7, .slice A0_8 l0_8.length c0_8] 27 ?_; intro gb130 hg w4 hbox hb; have BK130 := Aside0.mk (hbox); have GW130 := zS (pB0 HB.out) hg; have GE130 := GW130; replace HB := zW (pB0 HB.out) hb; clear hb hbox hg) | ((with_reducible refine zI 2 rfl ?_); refine zB 2 #[.string (⟨#[]⟩ : ByteArray), .string (⟨#[]⟩ : ByteArray), .int .i64 0, .string (⟨#[]⟩ : ByteArray), .int .i64 0, .int .i64 0, .int .i64 0, .int .i64 0, .slice none 0 0] 36 ?_; intro gb131 hg w5 hbox hb; have BK131 := Aside0.mk (hbox); have GW131 := zS (pB1 HB.out GE130.out) hg; have GE131 := GW131; have NB130_131 := zL BK130 hg; have NB131_130 := zM BK130 hg; replace BK130 := zK BK130 hb; replace HB := zW (pB1 HB.out GE130.out) hb; clear hb hbox hg) | ((with_reducible refine zI 3 rfl ?_); refine zB 3 #[.string (⟨#[]⟩ : ByteArray), .string (⟨#[]⟩ : ByteArray), .int .i64 0, .string (⟨#[]⟩ : ByteArray), .int .i64 0, .int .i64 0, .int .i64 0, .int .i64 0, .slice none 0 0] 36 ?_; intro gb132 hg w6 hbox hb; have BK132 := Aside0.mk (hbox); have GW132 := zS (pB2 HB.out GE130.out GE131.out) hg; have GE132 := GW132; have NB130_132 := zL BK130 hg; have NB132_130 := zM BK130 hg; have NB131_132 := zL BK131 hg; have NB132_131 := zM BK131 hg; replace BK130 := zK BK130 hb; replace BK131 := zK BK131 hb; replace HB := zW (pB2 HB.out GE130.out GE131.out) hb; clear hb hbox hg; have hnb7 := NB130_131.out; have hnc7 := NB131_130.out; have hnb8 := NB130_132.out; have hnc8 := NB132_130.out; obtain ⟨Y9_0, X9_0, Y9_1, X9_1, Y9_2, X9_2, Y9_3, X9_3, Y9_4, X9_4, Y9_5, X9_5, Y9_6, X9_6, Y9_7, X9_7, Y9_8, X9_8⟩ := zw9 BK130; have hnb10 := NB132_131.out; have hnc10 := NB131_132.out; obtain ⟨Y11_0, X11_0, Y11_1, X11_1, Y11_2, X11_2, Y11_3, X11_3, Y11_4, X11_4, Y11_5, X11_5, Y11_6, X11_6, Y11_7, X11_7, Y11_8, X11_8⟩ := zw9 BK132) | ((with_reducible refine gate_callee (f := 53) rfl ?_); refine zJ (some 15) Try.func53 #[.agg #[.string a0_3, .int .i64 a0_4, .int .i64 a0_5]] ?_; (with_reducible refine (laws_toVeneer.calls a0_3 a0_4 a0_5 t133 t134 t135 _ A2.out).mono ?_); rintro e w12 ⟨rfl, hb⟩; refine ⟨_, rfl, ?_⟩; replace BK130 := Aside0.mk (blk_below (g := gb130) (o := .cells #[.string a0_0, .string a0_1, .int .i64 a0_2, .string a0_3, .int .i64 a0_4, .int .i64 a0_5, .int .i64 a0_6, .int .i64 a0_7, .slice A0_8 l0_8.length c0_8] 27 (0, 0)) (by refine zf ?_ NB130_132; refine zf ?_ NB130_132; refine zf ?_ NB130_132; exact pK BK130.out) hb); replace BK131 := Aside0.mk (blk_below (g := gb131) (o := .cells #[.string (⟨#[]⟩ : ByteArray), .string (⟨#[]⟩ : ByteArray), .int .i64 0, .string (⟨#[]⟩ : ByteArray), .int .i64 0, .int .i64 0, .int .i64 0, .int .i64 0, .slice none 0 0] 36 (0, 0)) (by refine zf ?_ NB131_132; refine zf ?_ NB131_132; refine zf ?_ NB131_132; exact pK BK131.out) hb); replace BK132 := Aside0.mk (blk_below (g := gb132) (o := .cells #[.string a0_0, .string a0_1, .int .i64 a0_2, .string (⟨#[]⟩ : ByteArray), .int .i64 0, .int .i64 0, .int .i64 0, .int .i64 0, .slice none 0 0] 36 (0, 0)) (by refine zg #[.string a0_0, .string a0_1, .int .i64 0, .string (⟨#[]⟩ : ByteArray), .int .i64 0, .int .i64 0, .int .i64 0, .int .i64 0, .slice none 0 0] 2 ?_; refine zg #[.string a0_0, .string (⟨#[]⟩ : ByteArray), .int .i64 0, .string (⟨#[]⟩ : ByteArray), .int .i64 0, .int .i64 0, .int .i64 0, .int .i64 0, .slice none 0 0] 1 ?_; refine zg #[.string (⟨#[]⟩ : ByteArray), .string (⟨#[]⟩ : ByteArray), .int .i64 0, .string (⟨#[]⟩ : ByteArray), .int .i64 0, .int .i64 0, .int .i64 0, .int .i64 0, .slice none 0 0] 0 ?_; exact pK BK132.out) hb); replace HB := zW (pB3 HB.out GE130.out GE131.out GE132.out) hb; (try clear hb); (try clear hb2); (try clear hk); (try clear hi); obtain ⟨Y13_0, X13_0, Y13_1, X13_1, Y13_2, X13_2, Y13_3, X13_3, Y13_4, X13_4, Y13_5, X13_5, Y13_6, X13_6, Y13_7, X13_7, Y13_8, X13_8⟩ := zw9 BK132; obtain ⟨Y14_0, X14_0, Y14_1, X14_1, Y14_2, X14_2, Y14_3, X14_3, Y14_4, X14_4, Y14_5, X14_5, Y14_6, X14_6, Y14_7, X14_7, Y14_8, X14_8⟩ := zw9 BK130) | ((with_reducible refine gate_callee (f := 54) rfl ?_); refine zJ (some 25) Try.func54 #[.slice A0_8 l0_8.length c0_8] ?_; (with_reducible refine (laws_toBoxS.calls k _ _ l0_8 t136 _ ?side1 ?side2 A3.out).mono ?_); (case side1 => exact Kd.C_below HR0_8.out (pB3 HB.out GE130.out GE131.out GE132.out)); (case side2 => exact HC0_8.out); rintro e w15 ⟨v137, rfl, ho0, hb⟩; refine ⟨_, rfl, ?_⟩; have HO138 := Aside0.mk (Kd.R_lower ho0 (below_size (pB3 HB.out GE130.out GE131.out GE132.out))); replace BK130 := Aside0.mk (blk_below (g := gb130) (o := .cells #[.string a0_0, .string a0_1, .int .i64 a0_2, .string a0_3, .int .i64 a0_4, .int .i64 a0_5, .int .i64 a0_6, .int .i64 a0_7, .slice A0_8 l0_8.length c0_8] 27 (0, 0)) (by refine zf ?_ NB130_132; refine zf ?_ NB130_132; refine zf ?_ NB130_132; refine zf ?_ NB130_132; refine zf ?_ NB130_132; exact pK BK130.out) hb); replace BK131 := Aside0.mk (blk_below (g := gb131) (o := .cells #[.string (⟨#[]⟩ : ByteArray), .string (⟨#[]⟩ : ByteArray), .int .i64 0, .string (⟨#[]⟩ : ByteArray), .int .i64 0, .int .i64 0, .int .i64 0, .int .i64 0, .slice none 0 0] 36 (0, 0)) (by refine zf ?_ NB131_132; refine zf ?_ NB131_132; refine zf ?_ NB131_132; refine zf ?_ NB131_132; refine zf ?_ NB131_132; exact pK BK131.out) hb); replace BK132 := Aside0.mk (blk_below (g := gb132) (o := .cells #[.string a0_0, .string a0_1, .int .i64 a0_2, .string t133, .int .i64 t134, .int .i64 t135, .int .i64 a0_6, .int .i64 a0_7, .slice none 0 0] 36 (0, 0)) (by refine zg #[.string a0_0, .string a0_1, .int .i64 a0_2, .string t133, .int .i64 t134, .int .i64 t135, .int .i64 a0_6, .int .i64 0, .slice none 0 0] 7 ?_; refine zg #[.string a0_0, .string a0_1, .int .i64 a0_2, .string t133, .int .i64 t134, .int .i64 t135, .int .i64 0, .int .i64 0, .slice none 0 0] 6 ?_; refine zg #[.string a0_0, .string a0_1, .int .i64 a0_2, .string t133, .int .i64 t134, .int .i64 0, .int .i64 0, .int .i64 0, .slice none 0 0] 5 ?_; refine zg #[.string a0_0, .string a0_1, .int .i64 a0_2, .string t133, .int .i64 0, .int .i64 0, .int .i64 0, .int .i64 0, .slice none 0 0] 4 ?_; refine zg #[.string a0_0, .string a0_1, .int .i64 a0_2, .string (⟨#[]⟩ : ByteArray), .int .i64 0, .int .i64 0, .int .i64 0, .int .i64 0, .slice none 0 0] 3 ?_; exact pK BK132.out) hb); replace HB := zW (pB3 HB.out GE130.out GE131.out GE132.out) hb; (try clear hb); (try clear hb2); (try clear hk); (try clear hi); (try clear ho0); obtain ⟨Ao16, co16, eo16⟩ := Kd.R_slice HO138.out; subst eo16; obtain ⟨Y17_0, X17_0, Y17_1, X17_1, Y17_2, X17_2, Y17_3, X17_3, Y17_4, X17_4, Y17_5, X17_5, Y17_6, X17_6, Y17_7, X17_7, Y17_8, X17_8⟩ := zw9 BK132; obtain ⟨Y18_0, X18_0, Y18_1, X18_1, Y18_2, X18_2, Y18_3, X18_3, Y18_4, X18_4, Y18_5, X18_5, Y18_6, X18_6, Y18_7, X18_7, Y18_8, X18_8⟩ := zw9 BK131))
 refine bodyPost_ret (results_cell_row rfl _ _ gb131 36 #[.string a0_0, .string a0_1, .int .i64 a0_2, .string t133, .int .i64 t134, .int .i64 t135, .int .i64 a0_6, .int .i64 a0_7, .slice Ao16 t136.length co16] (0, 0) _ rfl (by refine zg #[.string a0_0, .string a0_1, .int .i64 a0_2, .string t133, .int .i64 t134, .int .i64 t135, .int .i64 a0_6, .int .i64 a0_7, .slice none 0 0] 8 ?_; refine zg #[.string a0_0, .string a0_1, .int .i64 a0_2, .string t133, .int .i64 t134, .int .i64 t135, .int .i64 a0_6, .int .i64 0, .slice none 0 0] 7 ?_; refine zg #[.string a0_0, .string a0_1, .int .i64 a0_2, .string t133, .int .i64 t134, .int .i64 t135, .int .i64 0, .int .i64 0, .slice none 0 0] 6 ?_; refine zg #[.string a0_0, .string a0_1, .int .i64 a0_2, .string t133, .int .i64 t134, .int .i64 0, .int .i64 0, .int .i64 0, .slice none 0 0] 5 ?_; refine zg #[.string a0_0, .string a0_1, .int .i64 a0_2, .string t133, .int .i64 0, .int .i64 0, .int .i64 0, .int .i64 0, .slice none 0 0] 4 ?_; refine zg #[.string a0_0, .string a0_1, .int .i64 a0_2, .string (⟨#[]⟩ : ByteArray), .int .i64 0, .int .i64 0, .int .i64 0, .int .i64 0, .slice none 0 0] 3 ?_; refine zg #[.string a0_0, .string a0_1, .int .i64 0, .string (⟨#[]⟩ : ByteArray), .int .i64 0, .int .i64 0, .int .i64 0, .int .i64 0, .slice none 0 0] 2 ?_; refine zg #[.string a0_0, .string (⟨#[]⟩ : ByteArray), .int .i64 0, .string (⟨#[]⟩ : ByteArray), .int .i64 0, .int .i64 0, .int .i64 0, .int .i64 0, .slice none 0 0] 1 ?_; refine zg #[.string (⟨#[]⟩ : ByteArray), .string (⟨#[]⟩ : ByteArray), .int .i64 0, .string (⟨#[]⟩ : ByteArray), .int .i64 0, .int .i64 0, .int .i64 0, .int .i64 0, .slice none 0 0] 0 ?_; refine zf ?_ NB131_132; exact pK BK131.out) Try.underlying36 rfl (by kernel_rfl)) rfl ?_
 exact ⟨_, zE, by (with_reducible repeat (first | apply Kd.R_alloc | apply Kd.R_drewN | apply Kd.R_drew)); exact Kd.R_mono (Kd.R_far (p := ⟨gb131, 8, none⟩) (Kd.R_far (p := ⟨gb131, 7, none⟩) (Kd.R_far (p := ⟨gb131, 6, none⟩) (Kd.R_far (p := ⟨gb131, 5, none⟩) (Kd.R_far (p := ⟨gb131, 4, none⟩) (Kd.R_far (p := ⟨gb131, 3, none⟩) (Kd.R_far (p := ⟨gb131, 2, none⟩) (Kd.R_far (p := ⟨gb131, 1, none⟩) (Kd.R_far (p := ⟨gb131, 0, none⟩) (Kd.R_far (p := ⟨gb132, 8, none⟩) (Kd.R_types (Kd.R_types HO138.out BK132.out (by decide)) BK131.out (by decide)) (fun _ hk => hk.1.2) (.slice Ao16 t136.length co16)) (fun _ hk => hk.2) (.string a0_0)) (fun _ hk => hk.2) (.string a0_1)) (fun _ hk => hk.2) (.int .i64 a0_2)) (fun _ hk => hk.2) (.string t133)) (fun _ hk => hk.2) (.int .i64 t134)) (fun _ hk => hk.2) (.int .i64 t135)) (fun _ hk => hk.2) (.int .i64 a0_6)) (fun _ hk => hk.2) (.int .i64 a0_7)) (fun _ hk => hk.2) (.slice Ao16 t136.length co16)) (fun _ hk => trivial), pB3 HB.out GE130.out GE131.out GE132.out⟩
def laws_eqPoint.f (a0_0 : Int) (a0_1 : Int) (a1_0 : Int) (a1_1 : Int) : Option (Bool) := if a0_0 = a1_0 then (if a0_1 = a1_1 then (some true) else (some false)) else (some false)
set_option maxHeartbeats 8000000 in
set_option maxRecDepth 100000 in
theorem laws_eqPoint.calls (a0_0 : Int) (a0_1 : Int) (a1_0 : Int) (a1_1 : Int) (r : Bool) (w : World) (h : laws_eqPoint.f a0_0 a0_1 a1_0 a1_1 = some r) :
 Calls Try.prog 58 #[.agg #[.int .i64 a0_0, .int .i64 a0_1], .agg #[.int .i64 a1_0, .int .i64 a1_1]] w fun e w' => e = .returned (.bool r) ∧ Below w.heap.size w w' := by
 have hu91 := Try.underlying91; have HB := Aside0.mk (Below.refl w.heap.size w); have H : (if a0_0 = a1_0 then (if a0_1 = a1_1 then (some true) else (some false)) else (some false)) = some r := h; clear h
 by_cases c3 : a0_0 = a1_0
 rotate_left
 · rw [if_neg c3] at H
   have c3b0 : (a0_0 == a1_0) = false := beq_eq_false_iff_ne.mpr c3; have c3b1 : (a0_0 != a1_0) = true := bne_iff_ne.mpr c3; obtain rfl := Option.some.inj H
   go_enter Try.func58, Try.ntmps58
   go_wp2_with (first | ((with_reducible refine zI 2 rfl ?_); refine zB 2 #[.int .i64 a0_0, .int .i64 a0_1] 91 ?_; intro gb139 hg w15 hbox hb; have BK139 := Aside0.mk (hbox); have GW139 := zS (pB0 HB.out) hg; have GE139 := GW139; replace HB := zW (pB0 HB.out) hb; clear hb hbox hg) | ((with_reducible refine zI 3 rfl ?_); refine zB 3 #[.int .i64 a1_0, .int .i64 a1_1] 91 ?_; intro gb140 hg w16 hbox hb; have BK140 := Aside0.mk (hbox); have GW140 := zS (pB1 HB.out GE139.out) hg; have GE140 := GW140; have NB139_140 := zL BK139 hg; have NB140_139 := zM BK139 hg; replace BK139 := zK BK139 hb; replace HB := zW (pB1 HB.out GE139.out) hb; clear hb hbox hg; have hnb17 := NB139_140.out; have hnc17 := NB140_139.out; obtain ⟨Y18_0, X18_0, Y18_1, X18_1⟩ := zw2 BK139; obtain ⟨Y19_0, X19_0, Y19_1, X19_1⟩ := zw2 BK140))
   go_ret
   exact ⟨zE, pB2 HB.out GE139.out GE140.out⟩
 rw [if_pos c3] at H; have c3b0 : (a0_0 == a1_0) = true := beq_iff_eq.mpr c3; have c3b1 : (a0_0 != a1_0) = false := bne_eq_false_iff_eq.mpr c3; clear c3
 by_cases c4 : a0_1 = a1_1
 rotate_left
 · rw [if_neg c4] at H
   have c4b0 : (a0_1 == a1_1) = false := beq_eq_false_iff_ne.mpr c4; have c4b1 : (a0_1 != a1_1) = true := bne_iff_ne.mpr c4; obtain rfl := Option.some.inj H
   go_enter Try.func58, Try.ntmps58
   go_wp2_with (first | ((with_reducible refine zI 2 rfl ?_); refine zB 2 #[.int .i64 a0_0, .int .i64 a0_1] 91 ?_; intro gb139 hg w10 hbox hb; have BK139 := Aside0.mk (hbox); have GW139 := zS (pB0 HB.out) hg; have GE139 := GW139; replace HB := zW (pB0 HB.out) hb; clear hb hbox hg) | ((with_reducible refine zI 3 rfl ?_); refine zB 3 #[.int .i64 a1_0, .int .i64 a1_1] 91 ?_; intro gb140 hg w11 hbox hb; have BK140 := Aside0.mk (hbox); have GW140 := zS (pB1 HB.out GE139.out) hg; have GE140 := GW140; have NB139_140 := zL BK139 hg; have NB140_139 := zM BK139 hg; replace BK139 := zK BK139 hb; replace HB := zW (pB1 HB.out GE139.out) hb; clear hb hbox hg; have hnb12 := NB139_140.out; have hnc12 := NB140_139.out; obtain ⟨Y13_0, X13_0, Y13_1, X13_1⟩ := zw2 BK139; obtain ⟨Y14_0, X14_0, Y14_1, X14_1⟩ := zw2 BK140))
   go_ret
   exact ⟨zE, pB2 HB.out GE139.out GE140.out⟩
 rw [if_pos c4] at H; have c4b0 : (a0_1 == a1_1) = true := beq_iff_eq.mpr c4; have c4b1 : (a0_1 != a1_1) = false := bne_eq_false_iff_eq.mpr c4; clear c4; obtain rfl := Option.some.inj H
 go_enter Try.func58, Try.ntmps58
 go_wp2_with (first | ((with_reducible refine zI 2 rfl ?_); refine zB 2 #[.int .i64 a0_0, .int .i64 a0_1] 91 ?_; intro gb139 hg w5 hbox hb; have BK139 := Aside0.mk (hbox); have GW139 := zS (pB0 HB.out) hg; have GE139 := GW139; replace HB := zW (pB0 HB.out) hb; clear hb hbox hg) | ((with_reducible refine zI 3 rfl ?_); refine zB 3 #[.int .i64 a1_0, .int .i64 a1_1] 91 ?_; intro gb140 hg w6 hbox hb; have BK140 := Aside0.mk (hbox); have GW140 := zS (pB1 HB.out GE139.out) hg; have GE140 := GW140; have NB139_140 := zL BK139 hg; have NB140_139 := zM BK139 hg; replace BK139 := zK BK139 hb; replace HB := zW (pB1 HB.out GE139.out) hb; clear hb hbox hg; have hnb7 := NB139_140.out; have hnc7 := NB140_139.out; obtain ⟨Y8_0, X8_0, Y8_1, X8_1⟩ := zw2 BK139; obtain ⟨Y9_0, X9_0, Y9_1, X9_1⟩ := zw2 BK140))
 go_ret
 exact ⟨zE, pB2 HB.out GE139.out GE140.out⟩
end Go.Proofs.Ytfiiakhpdkdebaa.PFnExactOffcutsOf

/- What each function that a law reaches comes to, and the proof that its walk comes to it; laid by a program of this session. No condition. -/
import Derived.Test.YtfiiakhpdkdebaaZFnExactRotateSheets0
import Derived.Test.YtfiiakhpdkdebaaZFnExactRotateSheets4
namespace Go.Proofs.Ytfiiakhpdkdebaa.PFnExactRotateSheets
open Go.RowKit Go.Proofs.YtfiiakhpdkdebaaW.PrintWords Go.Proofs.YtfiiakhpdkdebaaW.PrintLast Go.Proofs.YtfiiakhpdkdebaaW.PrintMore
attribute [local go_sem] max2_int min2_int max_two min_two max_three min_three max_four min_four
set_option linter.unusedVariables false
set_option linter.unusedSimpArgs false
def impl_SpeciesData.f (a0 : ByteArray) : Option (Int × Int × Int × Int) := if a0.toList = ([97, 115, 104] : List UInt8) then (some (20, 40, 310, 0)) else (if a0.toList = ([98, 101, 101, 99, 104] : List UInt8) then (some (35, 45, 410, 0)) else (if a0.toList = ([98, 105, 114, 99, 104] : List UInt8) then (some (15, 33, 280, 0)) else (if a0.toList = ([99, 104, 101, 114, 114, 121] : List UInt8) then (some (50, 36, 240, 0)) else (if a0.toList = ([101, 98, 111, 110, 121] : List UInt8) then (some (95, 85, 270, 0)) else (if a0.toList = ([104, 111, 108, 108, 121] : List UInt8) then (some (5, 35, 370, 0)) else (if a0.toList = ([109, 97, 112, 108, 101] : List UInt8) then (some (10, 42, 290, 0)) else (if a0.toList = ([111, 97, 107] : List UInt8) then (some (40, 40, 330, 0)) else (if a0.toList = ([114, 111, 115, 101, 119, 111, 111, 100] : List UInt8) then (some (80, 60, 220, 0)) else (if a0.toList = ([119, 97, 108, 110, 117, 116] : List UInt8) then (some (70, 38, 260, 0)) else (some (0, 0, 0, 3)))))))))))
set_option maxHeartbeats 8000000 in
set_option maxRecDepth 100000 in
theorem impl_SpeciesData.calls (a0 : ByteArray) (r1 : Int) (r2 : Int) (r3 : Int) (r4 : Int) (w : World) (h : impl_SpeciesData.f a0 = some (r1, r2, r3, r4)) :
 Calls Try.prog 142 #[.string a0] w fun e w' => e = .returned (.tuple #[.int .i64 r1, .int .i64 r2, .int .i64 r3, .int .i64 r4]) ∧ Drawn0 w w' := by
 have H : (if a0.toList = ([97, 115, 104] : List UInt8) then (some (20, 40, 310, 0)) else (if a0.toList = ([98, 101, 101, 99, 104] : List UInt8) then (some (35, 45, 410, 0)) else (if a0.toList = ([98, 105, 114, 99, 104] : List UInt8) then (some (15, 33, 280, 0)) else (if a0.toList = ([99, 104, 101, 114, 114, 121] : List UInt8) then (some (50, 36, 240, 0)) else (if a0.toList = ([101, 98, 111, 110, 121] : List UInt8) then (some (95, 85, 270, 0)) else (if a0.toList = ([104, 111, 108, 108, 121] : List UInt8) then (some (5, 35, 370, 0)) else (if a0.toList = ([109, 97, 112, 108, 101] : List UInt8) then (some (10, 42, 290, 0)) else (if a0.toList = ([111, 97, 107] : List UInt8) then (some (40, 40, 330, 0)) else (if a0.toList = ([114, 111, 115, 101, 119, 111, 111, 100] : List UInt8) then (some (80, 60, 220, 0)) else (if a0.toList = ([119, 97, 108, 110, 117, 116] : List UInt8) then (some (70, 38, 260, 0)) else (some (0, 0, 0, 3)))))))))))) = some (r1, r2, r3, r4) := h
 clear h
 by_cases c2 : a0.toList = ([97, 115, 104] : List UInt8)
 · rw [if_pos c2] at H
   have c2b0 : (a0.toList == ([97, 115, 104] : List UInt8)) = true := beq_iff_eq.mpr c2; have c2b1 : (a0.toList != ([97, 115, 104] : List UInt8)) = false := bne_eq_false_iff_eq.mpr c2; clear c2; simp only [Option.some.injEq, Prod.mk.injEq] at H; obtain ⟨rfl, rfl, rfl, rfl⟩ := H
   go_enter Try.func142, Try.ntmps142
   go_wp2
   refine bodyPost_ret (results_list (rs := [.tmp 2, .tmp 3, .tmp 4, .tmp 5]) rfl (by simp) (.tmp (.tmp (.tmp (.tmp .nil))))) rfl ?_
   exact ⟨by first | rfl | (simp; done) | (simp [*]; done), zV⟩
 rw [if_neg c2] at H; have c2b0 : (a0.toList == ([97, 115, 104] : List UInt8)) = false := beq_eq_false_iff_ne.mpr c2; have c2b1 : (a0.toList != ([97, 115, 104] : List UInt8)) = true := bne_iff_ne.mpr c2
 by_cases c3 : a0.toList = ([98, 101, 101, 99, 104] : List UInt8)
 · rw [if_pos c3] at H
   have c3b0 : (a0.toList == ([98, 101, 101, 99, 104] : List UInt8)) = true := beq_iff_eq.mpr c3; have c3b1 : (a0.toList != ([98, 101, 101, 99, 104] : List UInt8)) = false := bne_eq_false_iff_eq.mpr c3; clear c3; simp only [Option.some.injEq, Prod.mk.injEq] at H; obtain ⟨rfl, rfl, rfl, rfl⟩ := H
   go_enter Try.func142, Try.ntmps142
   go_wp2
   refine bodyPost_ret (results_list (rs := [.tmp 2, .tmp 3, .tmp 4, .tmp 5]) rfl (by simp) (.tmp (.tmp (.tmp (.tmp .nil))))) rfl ?_
   exact ⟨by first | rfl | (simp; done) | (simp [*]; done), zV⟩
 rw [if_neg c3] at H; have c3b0 : (a0.toList == ([98, 101, 101, 99, 104] : List UInt8)) = false := beq_eq_false_iff_ne.mpr c3; have c3b1 : (a0.toList != ([98, 101, 101, 99, 104] : List UInt8)) = true := bne_iff_ne.mpr c3
 by_cases c4 : a0.toList = ([98, 105, 114, 99, 104] : List UInt8)
 · rw [if_pos c4] at H
   have c4b0 : (a0.toList == ([98, 105, 114, 99, 104] : List UInt8)) = true := beq_iff_eq.mpr c4; have c4b1 : (a0.toList != ([98, 105, 114, 99, 104] : List UInt8)) = false := bne_eq_false_iff_eq.mpr c4; clear c4; simp only [Option.some.injEq, Prod.mk.injEq] at H; obtain ⟨rfl, rfl, rfl, rfl⟩ := H
   go_enter Try.func142, Try.ntmps142
   go_wp2
   refine bodyPost_ret (results_list (rs := [.tmp 2, .tmp 3, .tmp 4, .tmp 5]) rfl (by simp) (.tmp (.tmp (.tmp (.tmp .nil))))) rfl ?_
   exact ⟨by first | rfl | (simp; done) | (simp [*]; done), zV⟩
 rw [if_neg c4] at H; have c4b0 : (a0.toList == ([98, 105, 114, 99, 104] : List UInt8)) = false := beq_eq_false_iff_ne.mpr c4; have c4b1 : (a0.toList != ([98, 105, 114, 99, 104] : List UInt8)) = true := bne_iff_ne.mpr c4
 by_cases c5 : a0.toList = ([99, 104, 101, 114, 114, 121] : List UInt8)
 · rw [if_pos c5] at H
   have c5b0 : (a0.toList == ([99, 104, 101, 114, 114, 121] : List UInt8)) = true := beq_iff_eq.mpr c5; have c5b1 : (a0.toList != ([99, 104, 101, 114, 114, 121] : List UInt8)) = false := bne_eq_false_iff_eq.mpr c5; clear c5; simp only [Option.some.injEq, Prod.mk.injEq] at H; obtain ⟨rfl, rfl, rfl, rfl⟩ := H
   go_enter Try.func142, Try.ntmps142
   go_wp2
   refine bodyPost_ret (results_list (rs := [.tmp 2, .tmp 3, .tmp 4, .tmp 5]) rfl (by simp) (.tmp (.tmp (.tmp (.tmp .nil))))) rfl ?_
   exact ⟨by first | rfl | (simp; done) | (simp [*]; done), zV⟩
 rw [if_neg c5] at H; have c5b0 : (a0.toList == ([99, 104, 101, 114, 114, 121] : List UInt8)) = false := beq_eq_false_iff_ne.mpr c5; have c5b1 : (a0.toList != ([99, 104, 101, 114, 114, 121] : List UInt8)) = true := bne_iff_ne.mpr c5
 by_cases c6 : a0.toList = ([101, 98, 111, 110, 121] : List UInt8)
 · rw [if_pos c6] at H
   have c6b0 : (a0.toList == ([101, 98, 111, 110, 121] : List UInt8)) = true := beq_iff_eq.mpr c6; have c6b1 : (a0.toList != ([101, 98, 111, 110, 121] : List UInt8)) = false := bne_eq_false_iff_eq.mpr c6; clear c6; simp only [Option.some.injEq, Prod.mk.injEq] at H; obtain ⟨rfl, rfl, rfl, rfl⟩ := H
   go_enter Try.func142, Try.ntmps142
   go_wp2
   refine bodyPost_ret (results_list (rs := [.tmp 2, .tmp 3, .tmp 4, .tmp 5]) rfl (by simp) (.tmp (.tmp (.tmp (.tmp .nil))))) rfl ?_
   exact ⟨by first | rfl | (simp; done) | (simp [*]; done), zV⟩
 rw [if_neg c6] at H; have c6b0 : (a0.toList == ([101, 98, 111, 110, 121] : List UInt8)) = false := beq_eq_false_iff_ne.mpr c6; have c6b1 : (a0.toList != ([101, 98, 111, 110, 121] : List UInt8)) = true := bne_iff_ne.mpr c6
 by_cases c7 : a0.toList = ([104, 111, 108, 108, 121] : List UInt8)
 · rw [if_pos c7] at H
   have c7b0 : (a0.toList == ([104, 111, 108, 108, 121] : List UInt8)) = true := beq_iff_eq.mpr c7; have c7b1 : (a0.toList != ([104, 111, 108, 108, 121] : List UInt8)) = false := bne_eq_false_iff_eq.mpr c7; clear c7; simp only [Option.some.injEq, Prod.mk.injEq] at H; obtain ⟨rfl, rfl, rfl, rfl⟩ := H
   go_enter Try.func142, Try.ntmps142
   go_wp2
   refine bodyPost_ret (results_list (rs := [.tmp 2, .tmp 3, .tmp 4, .tmp 5]) rfl (by simp) (.tmp (.tmp (.tmp (.tmp .nil))))) rfl ?_
   exact ⟨by first | rfl | (simp; done) | (simp [*]; done), zV⟩
 rw [if_neg c7] at H; have c7b0 : (a0.toList == ([104, 111, 108, 108, 121] : List UInt8)) = false := beq_eq_false_iff_ne.mpr c7; have c7b1 : (a0.toList != ([104, 111, 108, 108, 121] : List UInt8)) = true := bne_iff_ne.mpr c7
 by_cases c8 : a0.toList = ([109, 97, 112, 108, 101] : List UInt8)
 · rw [if_pos c8] at H
   have c8b0 : (a0.toList == ([109, 97, 112, 108, 101] : List UInt8)) = true := beq_iff_eq.mpr c8; have c8b1 : (a0.toList != ([109, 97, 112, 108, 101] : List UInt8)) = false := bne_eq_false_iff_eq.mpr c8; clear c8; simp only [Option.some.injEq, Prod.mk.injEq] at H; obtain ⟨rfl, rfl, rfl, rfl⟩ := H
   go_enter Try.func142, Try.ntmps142
   go_wp2
   refine bodyPost_ret (results_list (rs := [.tmp 2, .tmp 3, .tmp 4, .tmp 5]) rfl (by simp) (.tmp (.tmp (.tmp (.tmp .nil))))) rfl ?_
   exact ⟨by first | rfl | (simp; done) | (simp [*]; done), zV⟩
 rw [if_neg c8] at H; have c8b0 : (a0.toList == ([109, 97, 112, 108, 101] : List UInt8)) = false := beq_eq_false_iff_ne.mpr c8; have c8b1 : (a0.toList != ([109, 97, 112, 108, 101] : List UInt8)) = true := bne_iff_ne.mpr c8
 by_cases c9 : a0.toList = ([111, 97, 107] : List UInt8)
 · rw [if_pos c9] at H
   have c9b0 : (a0.toList == ([111, 97, 107] : List UInt8)) = true := beq_iff_eq.mpr c9; have c9b1 : (a0.toList != ([111, 97, 107] : List UInt8)) = false := bne_eq_false_iff_eq.mpr c9; clear c9; simp only [Option.some.injEq, Prod.mk.injEq] at H; obtain ⟨rfl, rfl, rfl, rfl⟩ := H
   go_enter Try.func142, Try.ntmps142
   go_wp2
   refine bodyPost_ret (results_list (rs := [.tmp 2, .tmp 3, .tmp 4, .tmp 5]) rfl (by simp) (.tmp (.tmp (.tmp (.tmp .nil))))) rfl ?_
   exact ⟨by first | rfl | (simp; done) | (simp [*]; done), zV⟩
 rw [if_neg c9] at H; have c9b0 : (a0.toList == ([111, 97, 107] : List UInt8)) = false := beq_eq_false_iff_ne.mpr c9; have c9b1 : (a0.toList != ([111, 97, 107] : List UInt8)) = true := bne_iff_ne.mpr c9
 by_cases c10 : a0.toList = ([114, 111, 115, 101, 119, 111, 111, 100] : List UInt8)
 · rw [if_pos c10] at H
   have c10b0 : (a0.toList == ([114, 111, 115, 101, 119, 111, 111, 100] : List UInt8)) = true := beq_iff_eq.mpr c10; have c10b1 : (a0.toList != ([114, 111, 115, 101, 119, 111, 111, 100] : List UInt8)) = false := bne_eq_false_iff_eq.mpr c10; clear c10; simp only [Option.some.injEq, Prod.mk.injEq] at H; obtain ⟨rfl, rfl, rfl, rfl⟩ := H
   go_enter Try.func142, Try.ntmps142
   go_wp2
   refine bodyPost_ret (results_list (rs := [.tmp 2, .tmp 3, .tmp 4, .tmp 5]) rfl (by simp) (.tmp (.tmp (.tmp (.tmp .nil))))) rfl ?_
   exact ⟨by first | rfl | (simp; done) | (simp [*]; done), zV⟩
 rw [if_neg c10] at H; have c10b0 : (a0.toList == ([114, 111, 115, 101, 119, 111, 111, 100] : List UInt8)) = false := beq_eq_false_iff_ne.mpr c10; have c10b1 : (a0.toList != ([114, 111, 115, 101, 119, 111, 111, 100] : List UInt8)) = true := bne_iff_ne.mpr c10
 by_cases c11 : a0.toList = ([119, 97, 108, 110, 117, 116] : List UInt8)
 rotate_left
 · rw [if_neg c11] at H
   have c11b0 : (a0.toList == ([119, 97, 108, 110, 117, 116] : List UInt8)) = false := beq_eq_false_iff_ne.mpr c11; have c11b1 : (a0.toList != ([119, 97, 108, 110, 117, 116] : List UInt8)) = true := bne_iff_ne.mpr c11; simp only [Option.some.injEq, Prod.mk.injEq] at H; obtain ⟨rfl, rfl, rfl, rfl⟩ := H
   go_enter Try.func142, Try.ntmps142
   go_wp2
   refine bodyPost_ret (results_list (rs := [.tmp 2, .tmp 3, .tmp 4, .tmp 5]) rfl (by simp) (.tmp (.tmp (.tmp (.tmp .nil))))) rfl ?_
   exact ⟨by first | rfl | (simp; done) | (simp [*]; done), zV⟩
 rw [if_pos c11] at H; have c11b0 : (a0.toList == ([119, 97, 108, 110, 117, 116] : List UInt8)) = true := beq_iff_eq.mpr c11; have c11b1 : (a0.toList != ([119, 97, 108, 110, 117, 116] : List UInt8)) = false := bne_eq_false_iff_eq.mpr c11; clear c11; simp only [Option.some.injEq, Prod.mk.injEq] at H; obtain ⟨rfl, rfl, rfl, rfl⟩ := H
 go_enter Try.func142, Try.ntmps142
 go_wp2
 refine bodyPost_ret (results_list (rs := [.tmp 2, .tmp 3, .tmp 4, .tmp 5]) rfl (by simp) (.tmp (.tmp (.tmp (.tmp .nil))))) rfl ?_
 exact ⟨by first | rfl | (simp; done) | (simp [*]; done), zV⟩
def impl_speciesShade.f (a0 : ByteArray) : Option (Int × Bool) := (impl_SpeciesData.f a0).bind fun bt247 => (some (bt247.1, (bt247.2.2.2 == 0)))
set_option maxHeartbeats 8000000 in
set_option maxRecDepth 100000 in
theorem impl_speciesShade.calls (a0 : ByteArray) (r1 : Int) (r2 : Bool) (w : World) (h : impl_speciesShade.f a0 = some (r1, r2)) :
 Calls Try.prog 135 #[.string a0] w fun e w' => e = .returned (.tuple #[.int .i64 r1, .bool r2]) ∧ Drawn0 w w' := by
 have H : ((impl_SpeciesData.f a0).bind fun bt247 => (some (bt247.1, (bt247.2.2.2 == 0)))) = some (r1, r2) := h
 clear h; replace H := Option.bind_eq_some_iff.mp H; obtain ⟨⟨t247, t248, t249, t250⟩, A20, H⟩ := H; replace H : (some (t247, (t250 == 0))) = some (r1, r2) := H; have A2 := Aside0.mk A20; clear A20; simp only [Option.some.injEq, Prod.mk.injEq] at H; obtain ⟨rfl, rfl⟩ := H
 go_enter Try.func135, Try.ntmps135
 go_wp2_with (first | ((with_reducible refine gate_callee (f := 142) rfl ?_); refine zJ (some 10) Try.func142 #[.string a0] ?_; (with_reducible refine (impl_SpeciesData.calls a0 t247 t248 t249 t250 _ A2.out).mono ?_); rintro e w' ⟨rfl, ⟨nd, rfl⟩⟩; refine ⟨_, rfl, ?_⟩))
 go_ret2
 exact ⟨by first | rfl | (simp; done) | (simp [*]; done), zV⟩
def impl_ValidVeneer.f (a0_0 : ByteArray) (a0_1 : Int) (a0_2 : Int) : Option (Bool) := (impl_speciesShade.f a0_0).bind fun bt252 => (if bt252.2 = true then ((impl_within.f a0_1 0 100).bind fun t254 => (if t254 = true then ((impl_within.f (wrap64 (a0_1 - bt252.1)) (-15) 15).bind fun t255 => (if t255 = true then ((impl_within.f a0_2 0 179).bind fun t256 => (some t256)) else (some false))) else (some false))) else (some false))
set_option maxHeartbeats 8000000 in
set_option maxRecDepth 100000 in
theorem impl_ValidVeneer.calls (a0_0 : ByteArray) (a0_1 : Int) (a0_2 : Int) (r : Bool) (w : World) (h : impl_ValidVeneer.f a0_0 a0_1 a0_2 = some r) :
 Calls Try.prog 100 #[.agg #[.string a0_0, .int .i64 a0_1, .int .i64 a0_2]] w fun e w' => e = .returned (.bool r) ∧ Below w.heap.size w w' := by
 have hu33 := Try.underlying33; have HB := Aside0.mk (Below.refl w.heap.size w)
 have H : ((impl_speciesShade.f a0_0).bind fun bt252 => (if bt252.2 = true then ((impl_within.f a0_1 0 100).bind fun t254 => (if t254 = true then ((impl_within.f (wrap64 (a0_1 - bt252.1)) (-15) 15).bind fun t255 => (if t255 = true then ((impl_within.f a0_2 0 179).bind fun t256 => (some t256)) else (some false))) else (some false))) else (some false))) = some r := h
 clear h; replace H := Option.bind_eq_some_iff.mp H; obtain ⟨⟨t252, t253⟩, A20, H⟩ := H
 replace H : (if t253 = true then ((impl_within.f a0_1 0 100).bind fun t254 => (if t254 = true then ((impl_within.f (wrap64 (a0_1 - t252)) (-15) 15).bind fun t255 => (if t255 = true then ((impl_within.f a0_2 0 179).bind fun t256 => (some t256)) else (some false))) else (some false))) else (some false)) = some r := H
 have A2 := Aside0.mk A20; clear A20
 by_cases c3 : t253 = true
 rotate_left
 · replace c3 := Bool.eq_false_iff.mpr c3
   subst c3
   rw [if_neg (show ¬ (false = true) by decide)] at H
   obtain rfl := Option.some.inj H
   go_enter Try.func100, Try.ntmps100
   go_wp2_with (first | ((with_reducible refine zI 1 rfl ?_); refine zB 1 #[.string a0_0, .int .i64 a0_1, .int .i64 a0_2] 33 ?_; intro gb251 hg w15 hbox hb; have BK251 := Aside0.mk (hbox); have GW251 := zS (pB0 HB.out) hg; have GE251 := GW251; replace HB := zW (pB0 HB.out) hb; clear hb hbox hg; obtain ⟨Y16_0, X16_0, Y16_1, X16_1, Y16_2, X16_2⟩ := zw3 BK251) | ((with_reducible refine gate_callee (f := 135) rfl ?_); refine zJ (some 8) Try.func135 #[.string a0_0] ?_; (with_reducible refine (impl_speciesShade.calls a0_0 t252 false _ A2.out).mono ?_); rintro e w' ⟨rfl, ⟨nd, rfl⟩⟩; refine ⟨_, rfl, ?_⟩))
   go_ret
   exact ⟨zE, pB1 HB.out GE251.out⟩
 subst c3; rw [if_pos rfl] at H; replace H := Option.bind_eq_some_iff.mp H; obtain ⟨t254, A40, H⟩ := H; have A4 := Aside0.mk A40; clear A40
 by_cases c5 : t254 = true
 rotate_left
 · replace c5 := Bool.eq_false_iff.mpr c5
   subst c5
   rw [if_neg (show ¬ (false = true) by decide)] at H
   obtain rfl := Option.some.inj H
   go_enter Try.func100, Try.ntmps100
   go_wp2_with (first | ((with_reducible refine zI 1 rfl ?_); refine zB 1 #[.string a0_0, .int .i64 a0_1, .int .i64 a0_2] 33 ?_; intro gb251 hg w13 hbox hb; have BK251 := Aside0.mk (hbox); have GW251 := zS (pB0 HB.out) hg; have GE251 := GW251; replace HB := zW (pB0 HB.out) hb; clear hb hbox hg; obtain ⟨Y14_0, X14_0, Y14_1, X14_1, Y14_2, X14_2⟩ := zw3 BK251) | ((with_reducible refine gate_callee (f := 135) rfl ?_); refine zJ (some 8) Try.func135 #[.string a0_0] ?_; (with_reducible refine (impl_speciesShade.calls a0_0 t252 true _ A2.out).mono ?_); rintro e w' ⟨rfl, ⟨nd, rfl⟩⟩; refine ⟨_, rfl, ?_⟩) | (go_at_call 83; (with_reducible refine (impl_within.calls a0_1 0 100 false _ A4.out).mono ?_); rintro e w' ⟨rfl, ⟨nd, rfl⟩⟩))
   go_ret
   exact ⟨zE, pB1 HB.out GE251.out⟩
 subst c5; rw [if_pos rfl] at H; replace H := Option.bind_eq_some_iff.mp H; obtain ⟨t255, A60, H⟩ := H; have A6 := Aside0.mk A60; clear A60
 by_cases c7 : t255 = true
 rotate_left
 · replace c7 := Bool.eq_false_iff.mpr c7
   subst c7
   rw [if_neg (show ¬ (false = true) by decide)] at H
   obtain rfl := Option.some.inj H
   go_enter Try.func100, Try.ntmps100
   go_wp2_with (first | ((with_reducible refine zI 1 rfl ?_); refine zB 1 #[.string a0_0, .int .i64 a0_1, .int .i64 a0_2] 33 ?_; intro gb251 hg w11 hbox hb; have BK251 := Aside0.mk (hbox); have GW251 := zS (pB0 HB.out) hg; have GE251 := GW251; replace HB := zW (pB0 HB.out) hb; clear hb hbox hg; obtain ⟨Y12_0, X12_0, Y12_1, X12_1, Y12_2, X12_2⟩ := zw3 BK251) | ((with_reducible refine gate_callee (f := 135) rfl ?_); refine zJ (some 8) Try.func135 #[.string a0_0] ?_; (with_reducible refine (impl_speciesShade.calls a0_0 t252 true _ A2.out).mono ?_); rintro e w' ⟨rfl, ⟨nd, rfl⟩⟩; refine ⟨_, rfl, ?_⟩) | (go_at_call 83; (with_reducible refine (impl_within.calls a0_1 0 100 true _ A4.out).mono ?_); rintro e w' ⟨rfl, ⟨nd, rfl⟩⟩) | (go_at_call 83; (with_reducible refine (impl_within.calls (wrap64 (a0_1 - t252)) (-15) 15 false _ A6.out).mono ?_); rintro e w' ⟨rfl, ⟨nd, rfl⟩⟩))
   go_ret
   exact ⟨zE, pB1 HB.out GE251.out⟩
 subst c7; rw [if_pos rfl] at H; replace H := Option.bind_eq_some_iff.mp H; obtain ⟨t256, A80, H⟩ := H; have A8 := Aside0.mk A80; clear A80; obtain rfl := Option.some.inj H
 go_enter Try.func100, Try.ntmps100
 go_wp2_with (first | ((with_reducible refine zI 1 rfl ?_); refine zB 1 #[.string a0_0, .int .i64 a0_1, .int .i64 a0_2] 33 ?_; intro gb251 hg w9 hbox hb; have BK251 := Aside0.mk (hbox); have GW251 := zS (pB0 HB.out) hg; have GE251 := GW251; replace HB := zW (pB0 HB.out) hb; clear hb hbox hg; obtain ⟨Y10_0, X10_0, Y10_1, X10_1, Y10_2, X10_2⟩ := zw3 BK251) | ((with_reducible refine gate_callee (f := 135) rfl ?_); refine zJ (some 8) Try.func135 #[.string a0_0] ?_; (with_reducible refine (impl_speciesShade.calls a0_0 t252 true _ A2.out).mono ?_); rintro e w' ⟨rfl, ⟨nd, rfl⟩⟩; refine ⟨_, rfl, ?_⟩) | (go_at_call 83; (with_reducible refine (impl_within.calls a0_1 0 100 true _ A4.out).mono ?_); rintro e w' ⟨rfl, ⟨nd, rfl⟩⟩) | (go_at_call 83; (with_reducible refine (impl_within.calls (wrap64 (a0_1 - t252)) (-15) 15 true _ A6.out).mono ?_); rintro e w' ⟨rfl, ⟨nd, rfl⟩⟩) | (go_at_call 83; (with_reducible refine (impl_within.calls a0_2 0 179 t256 _ A8.out).mono ?_); rintro e w' ⟨rfl, ⟨nd, rfl⟩⟩))
 go_ret
 exact ⟨zE, pB1 HB.out GE251.out⟩
def impl_validVeneers_1.f (a0_0 : ByteArray) (a0_1 : Int) (a0_2 : Int) : Option (Bool) := (impl_ValidVeneer.f a0_0 a0_1 a0_2).bind fun t258 => (some (!t258))
set_option maxHeartbeats 8000000 in
set_option maxRecDepth 100000 in
theorem impl_validVeneers_1.calls (a0_0 : ByteArray) (a0_1 : Int) (a0_2 : Int) (r : Bool) (w : World) (h : impl_validVeneers_1.f a0_0 a0_1 a0_2 = some r) :
 Calls Try.prog 144 #[.agg #[.string a0_0, .int .i64 a0_1, .int .i64 a0_2]] w fun e w' => e = .returned (.bool r) ∧ Below w.heap.size w w' := by
 have hu33 := Try.underlying33; have HB := Aside0.mk (Below.refl w.heap.size w)
 have H : ((impl_ValidVeneer.f a0_0 a0_1 a0_2).bind fun t258 => (some (!t258))) = some r := h
 clear h; replace H := Option.bind_eq_some_iff.mp H; obtain ⟨t258, A20, H⟩ := H; have A2 := Aside0.mk A20; clear A20; obtain rfl := Option.some.inj H
 go_enter Try.func144, Try.ntmps144
 go_wp2_with (first | ((with_reducible refine zI 1 rfl ?_); refine zB 1 #[.string a0_0, .int .i64 a0_1, .int .i64 a0_2] 33 ?_; intro gb257 hg w3 hbox hb; have BK257 := Aside0.mk (hbox); have GW257 := zS (pB0 HB.out) hg; have GE257 := GW257; replace HB := zW (pB0 HB.out) hb; clear hb hbox hg; obtain ⟨Y4_0, X4_0, Y4_1, X4_1, Y4_2, X4_2⟩ := zw3 BK257) | ((with_reducible refine gate_callee (f := 100) rfl ?_); refine zJ (some 4) Try.func100 #[.agg #[.string a0_0, .int .i64 a0_1, .int .i64 a0_2]] ?_; (with_reducible refine (impl_ValidVeneer.calls a0_0 a0_1 a0_2 t258 _ A2.out).mono ?_); rintro e w5 ⟨rfl, hb⟩; refine ⟨_, rfl, ?_⟩; replace BK257 := zK BK257 hb; replace HB := zW (pB1 HB.out GE257.out) hb; (try clear hb); (try clear hb2); (try clear hk); (try clear hi)))
 go_ret
 exact ⟨zE, pB1 HB.out GE257.out⟩
def slices_IndexFunc_impl_Veneer__impl_validVeneers_1.l0 : Nat → List (S33) → Int → Int → Option (Int)
 | 0, _, _, _ => none
 | k + 1, x0, x7, x8 => if x8 < x7 then (if 0 ≤ x8 then (if x8 < (x0.length : Int) then ((impl_validVeneers_1.f ((rd_T33 x0 x8).f0) ((rd_T33 x0 x8).f1) ((rd_T33 x0 x8).f2)).bind fun t260 => (if t260 = true then (some x8) else (slices_IndexFunc_impl_Veneer__impl_validVeneers_1.l0 k x0 x7 (wrap64 (x8 + 1))))) else (none)) else (none)) else (some (-1))
def slices_IndexFunc_impl_Veneer__impl_validVeneers_1.f (k : Nat) (l0 : List (S33))  : Option (Int) := slices_IndexFunc_impl_Veneer__impl_validVeneers_1.l0 k l0 (l0.length : Int) 0
theorem slices_IndexFunc_impl_Veneer__impl_validVeneers_1.mono_l : ∀ k, (∀ y0 y1 y2, LeO (slices_IndexFunc_impl_Veneer__impl_validVeneers_1.l0 k y0 y1 y2) (slices_IndexFunc_impl_Veneer__impl_validVeneers_1.l0 (k + 1) y0 y1 y2))
 | 0 => fun _ _ _ r h => by simp [slices_IndexFunc_impl_Veneer__impl_validVeneers_1.l0] at h
 | k + 1 => by
   have ih0 := slices_IndexFunc_impl_Veneer__impl_validVeneers_1.mono_l k
   · intro y0 y1 y2
     unfold slices_IndexFunc_impl_Veneer__impl_validVeneers_1.l0
     repeat' first
     | (with_reducible exact ih0 _ _ _)
     | (with_reducible exact LeO.refl _)
     | (with_reducible exact LeO.none _)
     | (with_reducible refine LeO.ite ?_ ?_)
     | (with_reducible refine LeO.bind ?_ (fun _ => ?_))
     | exact ih0 _ _ _
     | exact LeO.none _
     | refine LeO.ite ?_ ?_
     | refine LeO.bind ?_ (fun _ => ?_)
theorem slices_IndexFunc_impl_Veneer__impl_validVeneers_1.mono : ∀ a0 k, LeO (slices_IndexFunc_impl_Veneer__impl_validVeneers_1.f k a0) (slices_IndexFunc_impl_Veneer__impl_validVeneers_1.f (k + 1) a0) := by
 intro a0 k; have ih0 := slices_IndexFunc_impl_Veneer__impl_validVeneers_1.mono_l k; unfold slices_IndexFunc_impl_Veneer__impl_validVeneers_1.f
 repeat' first
  | (with_reducible exact ih0 _ _ _)
  | (with_reducible exact LeO.refl _)
  | (with_reducible exact LeO.none _)
  | (with_reducible refine LeO.ite ?_ ?_)
  | (with_reducible refine LeO.bind ?_ (fun _ => ?_))
  | exact ih0 _ _ _
  | exact LeO.none _
  | refine LeO.ite ?_ ?_
  | refine LeO.bind ?_ (fun _ => ?_)
set_option maxHeartbeats 8000000 in
set_option maxRecDepth 100000 in
theorem slices_IndexFunc_impl_Veneer__impl_validVeneers_1.calls (k : Nat) (A0 : Option Addr) (c0 : Nat) (l0 : List (S33))  (r : Int) (w : World) (hr0 : Kd.C k33 w A0 l0.length l0) (hc0 : l0.length ≤ c0) (h : slices_IndexFunc_impl_Veneer__impl_validVeneers_1.f k l0 = some r) :
 Calls Try.prog 145 #[.slice A0 l0.length c0, .func (.func 144) #[] #[]] w fun e w' => e = .returned (.int .i64 r) ∧ Below w.heap.size w w' := by
 have hu33 := Try.underlying33; have HR0 := Aside0.mk hr0; have HC0 := Aside0.mk hc0; clear hr0 hc0; have HB := Aside0.mk (Below.refl w.heap.size w); have H : (slices_IndexFunc_impl_Veneer__impl_validVeneers_1.l0 k l0 (l0.length : Int) 0) = some r := h; clear h; have H' := Aside0.mk H; clear H
 go_enter Try.func145, Try.ntmps145
 go_wp2
 go_loopg [8] k (fun kq v8 w' => ∃ (x8_1 : Int), v8 = .int .i64 x8_1 ∧ Aside0 (slices_IndexFunc_impl_Veneer__impl_validVeneers_1.l0 kq l0 (l0.length : Int) x8_1 = some r) ∧ Aside0 (kq ≤ k) ∧ Aside0 (Below w.heap.size w w'))
 case atStart => exact ⟨(0), zR, H', ⟨Nat.le_refl _⟩, ⟨pB0 HB.out⟩⟩
 case round =>
  clear H'; (try clear c1); (try clear p2); obtain ⟨x8_1, rfl, HA, HK1, HB⟩ := hrel
  cases gk with
  | zero => exact absurd HA.out (by simp [slices_IndexFunc_impl_Veneer__impl_validVeneers_1.l0])
  | succ k1 =>
    have H := HA.out; clear HA; simp only [slices_IndexFunc_impl_Veneer__impl_validVeneers_1.l0] at H
    by_cases c3 : x8_1 < (l0.length : Int)
    rotate_left
    · rw [if_neg c3] at H
      have c3b0 := decide_eq_false c3; clear c3; obtain rfl := Option.some.inj H
      go_wp2
      go_ret
      exact ⟨zE, pB0 HB.out⟩
    rw [if_pos c3] at H; have c3b0 := decide_eq_true c3; clear c3
    by_cases c4 : 0 ≤ x8_1
    rotate_left
    · rw [if_neg c4] at H
      exact absurd H (by simp)
    rw [if_pos c4] at H; have c4b0 := decide_eq_true c4; clear c4
    by_cases c5 : x8_1 < (l0.length : Int)
    rotate_left
    · rw [if_neg c5] at H
      exact absurd H (by simp)
    rw [if_pos c5] at H; have c5b0 := decide_eq_true c5; clear c5; replace H := Option.bind_eq_some_iff.mp H; obtain ⟨t260, A60, H⟩ := H; have A6 := Aside0.mk A60; clear A60
    by_cases c7 : t260 = true
    · subst c7
      rw [if_pos rfl] at H; obtain rfl := Option.some.inj H; have p259 : 0 ≤ (x8_1 : Int) := zD; have q259 : x8_1 < (l0.length : Int) := zD; obtain ⟨ad259, e259, hx259_0, hx259_1, hx259_2⟩ := at_T33 HR0.out x8_1 p259 q259; cases e259
      try replace hx259_0 := zH HB hx259_0
      try replace hx259_1 := zH HB hx259_1
      try replace hx259_2 := zH HB hx259_2
      replace p259 := eq_true p259; replace q259 := eq_true q259
      go_wp2_with (first | (go_at_call 144; (with_reducible refine (impl_validVeneers_1.calls ((rd_T33 l0 x8_1).f0) ((rd_T33 l0 x8_1).f1) ((rd_T33 l0 x8_1).f2) true _ A6.out).mono ?_); rintro e w8 ⟨rfl, hb⟩; replace HB := zW (pB0 HB.out) hb; (try clear hb); (try clear hb2); (try clear hk); (try clear hi)))
      go_ret
      exact ⟨zE, pB0 HB.out⟩
    replace c7 := Bool.eq_false_iff.mpr c7; subst c7
    rw [if_neg (show ¬ (false = true) by decide)] at H
    have H' := Aside0.mk H; clear H; have p259 : 0 ≤ (x8_1 : Int) := zD; have q259 : x8_1 < (l0.length : Int) := zD; obtain ⟨ad259, e259, hx259_0, hx259_1, hx259_2⟩ := at_T33 HR0.out x8_1 p259 q259; cases e259
    try replace hx259_0 := zH HB hx259_0
    try replace hx259_1 := zH HB hx259_1
    try replace hx259_2 := zH HB hx259_2
    replace p259 := eq_true p259; replace q259 := eq_true q259
    go_wp2_with (first | (go_at_call 144; (with_reducible refine (impl_validVeneers_1.calls ((rd_T33 l0 x8_1).f0) ((rd_T33 l0 x8_1).f1) ((rd_T33 l0 x8_1).f2) false _ A6.out).mono ?_); rintro e w9 ⟨rfl, hb⟩; replace HB := zW (pB0 HB.out) hb; (try clear hb); (try clear hb2); (try clear hk); (try clear hi)))
    go_roundg k1
    case measure => have := HK1.out; omega
    case rel => exact ⟨(wrap64 (x8_1 + 1)), zR, H', ⟨by have := HK1.out; omega⟩, ⟨pB0 HB.out⟩⟩
def slices_ContainsFunc_impl_Veneer__impl_validVeneers_1.f (k : Nat) (l0 : List (S33))  : Option (Bool) := (slices_IndexFunc_impl_Veneer__impl_validVeneers_1.f k l0).bind fun t261 => (some (decide (t261 ≥ 0)))
theorem slices_ContainsFunc_impl_Veneer__impl_validVeneers_1.mono : ∀ a0 k, LeO (slices_ContainsFunc_impl_Veneer__impl_validVeneers_1.f k a0) (slices_ContainsFunc_impl_Veneer__impl_validVeneers_1.f (k + 1) a0) := by
 intro a0 k; unfold slices_ContainsFunc_impl_Veneer__impl_validVeneers_1.f
 repeat' first
  | (with_reducible exact slices_IndexFunc_impl_Veneer__impl_validVeneers_1.mono _ _)
  | (with_reducible exact LeO.refl _)
  | (with_reducible exact LeO.none _)
  | (with_reducible refine LeO.ite ?_ ?_)
  | (with_reducible refine LeO.bind ?_ (fun _ => ?_))
  | exact slices_IndexFunc_impl_Veneer__impl_validVeneers_1.mono _ _
  | exact LeO.none _
  | refine LeO.ite ?_ ?_
  | refine LeO.bind ?_ (fun _ => ?_)
set_option maxHeartbeats 8000000 in
set_option maxRecDepth 100000 in
theorem slices_ContainsFunc_impl_Veneer__impl_validVeneers_1.calls (k : Nat) (A0 : Option Addr) (c0 : Nat) (l0 : List (S33))  (r : Bool) (w : World) (hr0 : Kd.C k33 w A0 l0.length l0) (hc0 : l0.length ≤ c0) (h : slices_ContainsFunc_impl_Veneer__impl_validVeneers_1.f k l0 = some r) :
 Calls Try.prog 143 #[.slice A0 l0.length c0, .func (.func 144) #[] #[]] w fun e w' => e = .returned (.bool r) ∧ Below w.heap.size w w' := by
 have HR0 := Aside0.mk hr0; have HC0 := Aside0.mk hc0; clear hr0 hc0; have HB := Aside0.mk (Below.refl w.heap.size w)
 have H : ((slices_IndexFunc_impl_Veneer__impl_validVeneers_1.f k l0).bind fun t261 => (some (decide (t261 ≥ 0)))) = some r := h
 clear h; replace H := Option.bind_eq_some_iff.mp H; obtain ⟨t261, A30, H⟩ := H; have A3 := Aside0.mk A30; clear A30; obtain rfl := Option.some.inj H
 go_enter Try.func143, Try.ntmps143
 go_wp2_with (first | ((with_reducible refine gate_callee (f := 145) rfl ?_); refine zJ (some 7) Try.func145 #[.slice A0 l0.length c0, .func (.func 144) #[] #[]] ?_; (with_reducible refine (slices_IndexFunc_impl_Veneer__impl_validVeneers_1.calls k _ _ l0  t261 _ ?side1 ?side2 A3.out).mono ?_); (case side1 => exact pC HR0.out); (case side2 => exact HC0.out); rintro e w4 ⟨rfl, hb⟩; refine ⟨_, rfl, ?_⟩; replace HB := zW (pB0 HB.out) hb; (try clear hb); (try clear hb2); (try clear hk); (try clear hi)))
 go_ret
 exact ⟨zE, pB0 HB.out⟩
def impl_validVeneers.f (k : Nat) (l0 : List (S33)) : Option (Bool) := (slices_ContainsFunc_impl_Veneer__impl_validVeneers_1.f k l0).bind fun t262 => (some (!t262))
theorem impl_validVeneers.mono : ∀ a0 k, LeO (impl_validVeneers.f k a0) (impl_validVeneers.f (k + 1) a0) := by
 intro a0 k; unfold impl_validVeneers.f
 repeat' first
  | (with_reducible exact slices_ContainsFunc_impl_Veneer__impl_validVeneers_1.mono _ _)
  | (with_reducible exact LeO.refl _)
  | (with_reducible exact LeO.none _)
  | (with_reducible refine LeO.ite ?_ ?_)
  | (with_reducible refine LeO.bind ?_ (fun _ => ?_))
  | exact slices_ContainsFunc_impl_Veneer__impl_validVeneers_1.mono _ _
  | exact LeO.none _
  | refine LeO.ite ?_ ?_
  | refine LeO.bind ?_ (fun _ => ?_)
set_option maxHeartbeats 8000000 in
set_option maxRecDepth 100000 in
theorem impl_validVeneers.calls (k : Nat) (A0 : Option Addr) (c0 : Nat) (l0 : List (S33)) (r : Bool) (w : World) (hr0 : Kd.C k33 w A0 l0.length l0) (hc0 : l0.length ≤ c0) (h : impl_validVeneers.f k l0 = some r) :
 Calls Try.prog 137 #[.slice A0 l0.length c0] w fun e w' => e = .returned (.bool r) ∧ Below w.heap.size w w' := by
 have HR0 := Aside0.mk hr0; have HC0 := Aside0.mk hc0; clear hr0 hc0; have HB := Aside0.mk (Below.refl w.heap.size w)
 have H : ((slices_ContainsFunc_impl_Veneer__impl_validVeneers_1.f k l0).bind fun t262 => (some (!t262))) = some r := h
 clear h; replace H := Option.bind_eq_some_iff.mp H; obtain ⟨t262, A20, H⟩ := H; have A2 := Aside0.mk A20; clear A20; obtain rfl := Option.some.inj H
 go_enter Try.func137, Try.ntmps137
 go_wp2_with (first | (go_at_call 143; (with_reducible refine (slices_ContainsFunc_impl_Veneer__impl_validVeneers_1.calls k _ _ l0  t262 _ ?side1 ?side2 A2.out).mono ?_); (case side1 => exact pC HR0.out); (case side2 => exact HC0.out); rintro e w3 ⟨rfl, hb⟩; replace HB := zW (pB0 HB.out) hb; (try clear hb); (try clear hb2); (try clear hk); (try clear hi)))
 go_ret
 exact ⟨zE, pB0 HB.out⟩
def impl_validSheets.f (k : Nat) (l0 : List (S33)) : Option (Bool) := (impl_within.f (l0.length : Int) 1 8).bind fun t263 => (if t263 = true then ((impl_validVeneers.f k l0).bind fun t264 => (some t264)) else (some false))
theorem impl_validSheets.mono : ∀ a0 k, LeO (impl_validSheets.f k a0) (impl_validSheets.f (k + 1) a0) := by
 intro a0 k; unfold impl_validSheets.f
 repeat' first
  | (with_reducible exact impl_validVeneers.mono _ _)
  | (with_reducible exact LeO.refl _)
  | (with_reducible exact LeO.none _)
  | (with_reducible refine LeO.ite ?_ ?_)
  | (with_reducible refine LeO.bind ?_ (fun _ => ?_))
  | exact impl_validVeneers.mono _ _
  | exact LeO.none _
  | refine LeO.ite ?_ ?_
  | refine LeO.bind ?_ (fun _ => ?_)
set_option maxHeartbeats 8000000 in
set_option maxRecDepth 100000 in
theorem impl_validSheets.calls (k : Nat) (A0 : Option Addr) (c0 : Nat) (l0 : List (S33)) (r : Bool) (w : World) (hr0 : Kd.C k33 w A0 l0.length l0) (hc0 : l0.length ≤ c0) (h : impl_validSheets.f k l0 = some r) :
 Calls Try.prog 111 #[.slice A0 l0.length c0] w fun e w' => e = .returned (.bool r) ∧ Below w.heap.size w w' := by
 have HR0 := Aside0.mk hr0; have HC0 := Aside0.mk hc0; clear hr0 hc0; have HB := Aside0.mk (Below.refl w.heap.size w)
 have H : ((impl_within.f (l0.length : Int) 1 8).bind fun t263 => (if t263 = true then ((impl_validVeneers.f k l0).bind fun t264 => (some t264)) else (some false))) = some r := h
 clear h; replace H := Option.bind_eq_some_iff.mp H; obtain ⟨t263, A20, H⟩ := H; have A2 := Aside0.mk A20; clear A20
 by_cases c3 : t263 = true
 rotate_left
 · replace c3 := Bool.eq_false_iff.mpr c3
   subst c3
   rw [if_neg (show ¬ (false = true) by decide)] at H
   obtain rfl := Option.some.inj H
   go_enter Try.func111, Try.ntmps111
   go_wp2_with (first | ((with_reducible refine gate_callee (f := 83) rfl ?_); refine zJ (some 5) Try.func83 #[.int .i64 (l0.length : Int), .int .i64 1, .int .i64 8] ?_; (with_reducible refine (impl_within.calls (l0.length : Int) 1 8 false _ A2.out).mono ?_); rintro e w' ⟨rfl, ⟨nd, rfl⟩⟩; refine ⟨_, rfl, ?_⟩))
   go_ret
   exact ⟨zE, pB0 HB.out⟩
 subst c3; rw [if_pos rfl] at H; replace H := Option.bind_eq_some_iff.mp H; obtain ⟨t264, A40, H⟩ := H; have A4 := Aside0.mk A40; clear A40; obtain rfl := Option.some.inj H
 go_enter Try.func111, Try.ntmps111
 go_wp2_with (first | ((with_reducible refine gate_callee (f := 83) rfl ?_); refine zJ (some 5) Try.func83 #[.int .i64 (l0.length : Int), .int .i64 1, .int .i64 8] ?_; (with_reducible refine (impl_within.calls (l0.length : Int) 1 8 true _ A2.out).mono ?_); rintro e w' ⟨rfl, ⟨nd, rfl⟩⟩; refine ⟨_, rfl, ?_⟩) | (go_at_call 137; (with_reducible refine (impl_validVeneers.calls k _ _ l0 t264 _ ?side1 ?side2 A4.out).mono ?_); (case side1 => exact pC HR0.out); (case side2 => exact HC0.out); rintro e w5 ⟨rfl, hb⟩; replace HB := zW (pB0 HB.out) hb; (try clear hb); (try clear hb2); (try clear hk); (try clear hi)))
 go_ret
 exact ⟨zE, pB0 HB.out⟩
def impl_ValidPacket_1.f (a0 : Int) (l1 : List (S62)) : Option (Bool) := if 0 < (l1.length : Int) then ((impl_within.f a0 0 (wrap64 ((((rd_T62 l1 0).f0).length : Int) - 1))).bind fun t266 => (some (!t266))) else (none)
set_option maxHeartbeats 8000000 in
set_option maxRecDepth 100000 in
theorem impl_ValidPacket_1.calls (a0 : Int) (A1 : Option Addr) (c1 : Nat) (l1 : List (S62)) (r : Bool) (w : World) (hr1 : Kd.C k62 w A1 l1.length l1) (hc1 : l1.length ≤ c1) (h : impl_ValidPacket_1.f a0 l1 = some r) :
 Calls Try.prog 113 #[.int .i64 a0, .pointer A1] w fun e w' => e = .returned (.bool r) ∧ Drawn0 w w' := by
 have HR1 := Aside0.mk hr1; have HC1 := Aside0.mk hc1; clear hr1 hc1
 have H : (if 0 < (l1.length : Int) then ((impl_within.f a0 0 (wrap64 ((((rd_T62 l1 0).f0).length : Int) - 1))).bind fun t266 => (some (!t266))) else (none)) = some r := h
 clear h
 by_cases c3 : 0 < (l1.length : Int)
 rotate_left
 · rw [if_neg c3] at H
   exact absurd H (by simp)
 rw [if_pos c3] at H; have c3b0 := decide_eq_true c3
 have c3b1 : decide (0 < l1.length) = true := decide_eq_true (by omega)
 clear c3; replace H := Option.bind_eq_some_iff.mp H; obtain ⟨t266, A40, H⟩ := H; have A4 := Aside0.mk A40; clear A40; obtain rfl := Option.some.inj H
 have p265 : 0 ≤ (0 : Int) := (by omega)
 have q265 : 0 < (l1.length : Int) := zD; obtain ⟨ad265, A265_0, c265_0, A265_1, c265_1, e265, hx265_0, hx265_1, hl265_0, hi265_0, hl265_1, hi265_1⟩ := at_T62 HR1.out 0 p265 q265; cases e265
 have qi265 : (0 < l1.length) = True := eq_true (by omega)
 (try rw [z0, Nat.zero_mul, Addr.add_zero'] at hx265_0); (try rw [z0, Nat.zero_mul, Addr.add_zero'] at hx265_1); have HR265_0 := Aside0.mk hi265_0; have HC265_0 := Aside0.mk hl265_0; clear hi265_0 hl265_0; have HR265_1 := Aside0.mk hi265_1; have HC265_1 := Aside0.mk hl265_1; clear hi265_1 hl265_1; replace p265 := eq_true p265; replace q265 := eq_true q265
 go_enter Try.func113, Try.ntmps113
 go_wp2_with (first | ((with_reducible refine gate_callee (f := 83) rfl ?_); refine zJ (some 9) Try.func83 #[.int .i64 a0, .int .i64 0, .int .i64 (wrap64 ((((rd_T62 l1 0).f0).length : Int) - 1))] ?_; (with_reducible refine (impl_within.calls a0 0 (wrap64 ((((rd_T62 l1 0).f0).length : Int) - 1)) t266 _ A4.out).mono ?_); rintro e w' ⟨rfl, ⟨nd, rfl⟩⟩; refine ⟨_, rfl, ?_⟩))
 go_ret
 exact ⟨by first | rfl | (simp; done) | (simp [*]; done), zV⟩
def slices_IndexFunc_int64_int64__impl_ValidPacket_1.l0 : Nat → List Int → Int → Int → List (S62) → Option (Int)
 | 0, _, _, _, _ => none
 | k + 1, x0, x7, x8, x802 => if x8 < x7 then (if 0 ≤ x8 then (if x8 < (x0.length : Int) then ((impl_ValidPacket_1.f (rd x0 x8) x802).bind fun t268 => (if t268 = true then (some x8) else (slices_IndexFunc_int64_int64__impl_ValidPacket_1.l0 k x0 x7 (wrap64 (x8 + 1)) x802))) else (none)) else (none)) else (some (-1))
def slices_IndexFunc_int64_int64__impl_ValidPacket_1.f (k : Nat) (l0 : List Int)  (l2 : List (S62)) : Option (Int) := slices_IndexFunc_int64_int64__impl_ValidPacket_1.l0 k l0 (l0.length : Int) 0 l2
theorem slices_IndexFunc_int64_int64__impl_ValidPacket_1.mono_l : ∀ k, (∀ y0 y1 y2 y3, LeO (slices_IndexFunc_int64_int64__impl_ValidPacket_1.l0 k y0 y1 y2 y3) (slices_IndexFunc_int64_int64__impl_ValidPacket_1.l0 (k + 1) y0 y1 y2 y3))
 | 0 => fun _ _ _ _ r h => by simp [slices_IndexFunc_int64_int64__impl_ValidPacket_1.l0] at h
 | k + 1 => by
   have ih0 := slices_IndexFunc_int64_int64__impl_ValidPacket_1.mono_l k
   · intro y0 y1 y2 y3
     unfold slices_IndexFunc_int64_int64__impl_ValidPacket_1.l0
     repeat' first
     | (with_reducible exact ih0 _ _ _ _)
     | (with_reducible exact LeO.refl _)
     | (with_reducible exact LeO.none _)
     | (with_reducible refine LeO.ite ?_ ?_)
     | (with_reducible refine LeO.bind ?_ (fun _ => ?_))
     | exact ih0 _ _ _ _
     | exact LeO.none _
     | refine LeO.ite ?_ ?_
     | refine LeO.bind ?_ (fun _ => ?_)
theorem slices_IndexFunc_int64_int64__impl_ValidPacket_1.mono : ∀ a0 a1 k, LeO (slices_IndexFunc_int64_int64__impl_ValidPacket_1.f k a0 a1) (slices_IndexFunc_int64_int64__impl_ValidPacket_1.f (k + 1) a0 a1) := by
 intro a0 a1 k; have ih0 := slices_IndexFunc_int64_int64__impl_ValidPacket_1.mono_l k; unfold slices_IndexFunc_int64_int64__impl_ValidPacket_1.f
 repeat' first
  | (with_reducible exact ih0 _ _ _ _)
  | (with_reducible exact LeO.refl _)
  | (with_reducible exact LeO.none _)
  | (with_reducible refine LeO.ite ?_ ?_)
  | (with_reducible refine LeO.bind ?_ (fun _ => ?_))
  | exact ih0 _ _ _ _
  | exact LeO.none _
  | refine LeO.ite ?_ ?_
  | refine LeO.bind ?_ (fun _ => ?_)
set_option maxHeartbeats 8000000 in
set_option maxRecDepth 100000 in
theorem slices_IndexFunc_int64_int64__impl_ValidPacket_1.calls (k : Nat) (A0 : Option Addr) (c0 : Nat) (l0 : List Int)  (A2 : Option Addr) (c2 : Nat) (l2 : List (S62)) (r : Int) (w : World) (hr0 : Kd.C (Kd.int .i64) w A0 l0.length l0) (hc0 : l0.length ≤ c0) (hr2 : Kd.C k62 w A2 l2.length l2) (hc2 : l2.length ≤ c2) (h : slices_IndexFunc_int64_int64__impl_ValidPacket_1.f k l0 l2 = some r) :
 Calls Try.prog 138 #[.slice A0 l0.length c0, .func (.func 113) #[] #[.pointer A2]] w fun e w' => e = .returned (.int .i64 r) ∧ Drawn0 w w' := by
 have HR0 := Aside0.mk hr0; have HC0 := Aside0.mk hc0; clear hr0 hc0; have HR2 := Aside0.mk hr2; have HC2 := Aside0.mk hc2; clear hr2 hc2; have H : (slices_IndexFunc_int64_int64__impl_ValidPacket_1.l0 k l0 (l0.length : Int) 0 l2) = some r := h; clear h; have H' := Aside0.mk H; clear H
 go_enter Try.func138, Try.ntmps138
 go_wp2
 go_loopg [8] k (fun kq v8 w' => ∃ (x8_1 : Int), v8 = .int .i64 x8_1 ∧ Aside0 (slices_IndexFunc_int64_int64__impl_ValidPacket_1.l0 kq l0 (l0.length : Int) x8_1 l2 = some r) ∧ Aside0 (kq ≤ k) ∧ Drawn0 w w')
 case atStart => exact ⟨(0), zR, H', ⟨Nat.le_refl _⟩, zV⟩
 case round =>
  clear H'; (try clear c1); (try clear c2); (try clear p2); obtain ⟨x8_1, rfl, HA, HK1, ⟨m1, rfl⟩⟩ := hrel
  cases gk with
  | zero => exact absurd HA.out (by simp [slices_IndexFunc_int64_int64__impl_ValidPacket_1.l0])
  | succ k1 =>
    have H := HA.out; clear HA; simp only [slices_IndexFunc_int64_int64__impl_ValidPacket_1.l0] at H
    by_cases c4 : x8_1 < (l0.length : Int)
    rotate_left
    · rw [if_neg c4] at H
      have c4b0 := decide_eq_false c4; clear c4; obtain rfl := Option.some.inj H
      go_wp2
      go_ret
      exact ⟨by first | rfl | (simp; done) | (simp [*]; done), zV⟩
    rw [if_pos c4] at H; have c4b0 := decide_eq_true c4; clear c4
    by_cases c5 : 0 ≤ x8_1
    rotate_left
    · rw [if_neg c5] at H
      exact absurd H (by simp)
    rw [if_pos c5] at H; have c5b0 := decide_eq_true c5; clear c5
    by_cases c6 : x8_1 < (l0.length : Int)
    rotate_left
    · rw [if_neg c6] at H
      exact absurd H (by simp)
    rw [if_pos c6] at H; have c6b0 := decide_eq_true c6; clear c6; replace H := Option.bind_eq_some_iff.mp H; obtain ⟨t268, A70, H⟩ := H; have A7 := Aside0.mk A70; clear A70
    by_cases c8 : t268 = true
    · subst c8
      rw [if_pos rfl] at H; obtain rfl := Option.some.inj H; have p267 : 0 ≤ (x8_1 : Int) := zD; have q267 : x8_1 < (l0.length : Int) := zD; obtain ⟨ad267, e267, hx267_0⟩ := Kd.at_int HR0.out x8_1 p267 q267; cases e267; replace p267 := eq_true p267; replace q267 := eq_true q267
      go_wp2_with (first | (go_at_call 113; (with_reducible refine (impl_ValidPacket_1.calls (rd l0 x8_1) _ c2 l2 true _ ?side1 ?side2 A7.out).mono ?_); (case side1 => exact pC HR2.out); (case side2 => exact HC2.out); rintro e w' ⟨rfl, ⟨nd, rfl⟩⟩))
      go_ret
      exact ⟨by first | rfl | (simp; done) | (simp [*]; done), zV⟩
    replace c8 := Bool.eq_false_iff.mpr c8; subst c8
    rw [if_neg (show ¬ (false = true) by decide)] at H
    have H' := Aside0.mk H; clear H; have p267 : 0 ≤ (x8_1 : Int) := zD; have q267 : x8_1 < (l0.length : Int) := zD; obtain ⟨ad267, e267, hx267_0⟩ := Kd.at_int HR0.out x8_1 p267 q267; cases e267; replace p267 := eq_true p267; replace q267 := eq_true q267
    go_wp2_with (first | (go_at_call 113; (with_reducible refine (impl_ValidPacket_1.calls (rd l0 x8_1) _ c2 l2 false _ ?side1 ?side2 A7.out).mono ?_); (case side1 => exact pC HR2.out); (case side2 => exact HC2.out); rintro e w' ⟨rfl, ⟨nd, rfl⟩⟩))
    go_roundg k1
    case measure => have := HK1.out; omega
    case rel => exact ⟨(wrap64 (x8_1 + 1)), zR, H', ⟨by have := HK1.out; omega⟩, zV⟩
def slices_ContainsFunc_int64_int64__impl_ValidPacket_1.f (k : Nat) (l0 : List Int)  (l2 : List (S62)) : Option (Bool) := (slices_IndexFunc_int64_int64__impl_ValidPacket_1.f k l0 l2).bind fun t269 => (some (decide (t269 ≥ 0)))
theorem slices_ContainsFunc_int64_int64__impl_ValidPacket_1.mono : ∀ a0 a1 k, LeO (slices_ContainsFunc_int64_int64__impl_ValidPacket_1.f k a0 a1) (slices_ContainsFunc_int64_int64__impl_ValidPacket_1.f (k + 1) a0 a1) := by
 intro a0 a1 k; unfold slices_ContainsFunc_int64_int64__impl_ValidPacket_1.f
 repeat' first
  | (with_reducible exact slices_IndexFunc_int64_int64__impl_ValidPacket_1.mono _ _ _)
  | (with_reducible exact LeO.refl _)
  | (with_reducible exact LeO.none _)
  | (with_reducible refine LeO.ite ?_ ?_)
  | (with_reducible refine LeO.bind ?_ (fun _ => ?_))
  | exact slices_IndexFunc_int64_int64__impl_ValidPacket_1.mono _ _ _
  | exact LeO.none _
  | refine LeO.ite ?_ ?_
  | refine LeO.bind ?_ (fun _ => ?_)
set_option maxHeartbeats 8000000 in
set_option maxRecDepth 100000 in
theorem slices_ContainsFunc_int64_int64__impl_ValidPacket_1.calls (k : Nat) (A0 : Option Addr) (c0 : Nat) (l0 : List Int)  (A2 : Option Addr) (c2 : Nat) (l2 : List (S62)) (r : Bool) (w : World) (hr0 : Kd.C (Kd.int .i64) w A0 l0.length l0) (hc0 : l0.length ≤ c0) (hr2 : Kd.C k62 w A2 l2.length l2) (hc2 : l2.length ≤ c2) (h : slices_ContainsFunc_int64_int64__impl_ValidPacket_1.f k l0 l2 = some r) :
 Calls Try.prog 112 #[.slice A0 l0.length c0, .func (.func 113) #[] #[.pointer A2]] w fun e w' => e = .returned (.bool r) ∧ Drawn0 w w' := by
 have HR0 := Aside0.mk hr0; have HC0 := Aside0.mk hc0; clear hr0 hc0; have HR2 := Aside0.mk hr2; have HC2 := Aside0.mk hc2; clear hr2 hc2
 have H : ((slices_IndexFunc_int64_int64__impl_ValidPacket_1.f k l0 l2).bind fun t269 => (some (decide (t269 ≥ 0)))) = some r := h
 clear h; replace H := Option.bind_eq_some_iff.mp H; obtain ⟨t269, A40, H⟩ := H; have A4 := Aside0.mk A40; clear A40; obtain rfl := Option.some.inj H
 go_enter Try.func112, Try.ntmps112
 go_wp2_with (first | ((with_reducible refine gate_callee (f := 138) rfl ?_); refine zJ (some 7) Try.func138 #[.slice A0 l0.length c0, .func (.func 113) #[] #[.pointer A2]] ?_; (with_reducible refine (slices_IndexFunc_int64_int64__impl_ValidPacket_1.calls k _ _ l0  _ c2 l2 t269 _ ?side1 ?side2 ?side3 ?side4 A4.out).mono ?_); (case side1 => exact pC HR0.out); (case side2 => exact HC0.out); (case side3 => exact pC HR2.out); (case side4 => exact HC2.out); rintro e w' ⟨rfl, ⟨nd, rfl⟩⟩; refine ⟨_, rfl, ?_⟩))
 go_ret
 exact ⟨by first | rfl | (simp; done) | (simp [*]; done), zV⟩
def impl_ValidPacket.f (k : Nat) (l0_0 : List (S33)) (l0_1 : List Int) : Option (Bool) := (impl_validSheets.f k l0_0).bind fun t271 => (if t271 = true then (if (l0_1.length : Int) > 24 then (some false) else ((slices_ContainsFunc_int64_int64__impl_ValidPacket_1.f k l0_1 [(⟨l0_0, l0_1⟩ : S62)]).bind fun t272 => (some (!t272)))) else (some false))
theorem impl_ValidPacket.mono : ∀ a0 a1 k, LeO (impl_ValidPacket.f k a0 a1) (impl_ValidPacket.f (k + 1) a0 a1) := by
 intro a0 a1 k; unfold impl_ValidPacket.f
 repeat' first
  | (with_reducible exact impl_validSheets.mono _ _)
  | (with_reducible exact slices_ContainsFunc_int64_int64__impl_ValidPacket_1.mono _ _ _)
  | (with_reducible exact LeO.refl _)
  | (with_reducible exact LeO.none _)
  | (with_reducible refine LeO.ite ?_ ?_)
  | (with_reducible refine LeO.bind ?_ (fun _ => ?_))
  | exact impl_validSheets.mono _ _
  | exact slices_ContainsFunc_int64_int64__impl_ValidPacket_1.mono _ _ _
  | exact LeO.none _
  | refine LeO.ite ?_ ?_
  | refine LeO.bind ?_ (fun _ => ?_)
set_option maxHeartbeats 8000000 in
set_option maxRecDepth 100000 in
theorem impl_ValidPacket.calls (k : Nat) (A0_0 : Option Addr) (c0_0 : Nat) (l0_0 : List (S33)) (A0_1 : Option Addr) (c0_1 : Nat) (l0_1 : List Int) (r : Bool) (w : World) (hr0_0 : Kd.C k33 w A0_0 l0_0.length l0_0) (hc0_0 : l0_0.length ≤ c0_0) (hr0_1 : Kd.C (Kd.int .i64) w A0_1 l0_1.length l0_1) (hc0_1 : l0_1.length ≤ c0_1) (h : impl_ValidPacket.f k l0_0 l0_1 = some r) :
 Calls Try.prog 70 #[.agg #[.slice A0_0 l0_0.length c0_0, .slice A0_1 l0_1.length c0_1]] w fun e w' => e = .returned (.bool r) ∧ Below w.heap.size w w' := by
 have hu62 := Try.underlying62; have HR0_0 := Aside0.mk hr0_0; have HC0_0 := Aside0.mk hc0_0; clear hr0_0 hc0_0; have HR0_1 := Aside0.mk hr0_1; have HC0_1 := Aside0.mk hc0_1; clear hr0_1 hc0_1; have HB := Aside0.mk (Below.refl w.heap.size w)
 have H : ((impl_validSheets.f k l0_0).bind fun t271 => (if t271 = true then (if (l0_1.length : Int) > 24 then (some false) else ((slices_ContainsFunc_int64_int64__impl_ValidPacket_1.f k l0_1 [(⟨l0_0, l0_1⟩ : S62)]).bind fun t272 => (some (!t272)))) else (some false))) = some r := h
 clear h; replace H := Option.bind_eq_some_iff.mp H; obtain ⟨t271, A20, H⟩ := H; have A2 := Aside0.mk A20; clear A20
 by_cases c3 : t271 = true
 rotate_left
 · replace c3 := Bool.eq_false_iff.mpr c3
   subst c3
   rw [if_neg (show ¬ (false = true) by decide)] at H
   obtain rfl := Option.some.inj H
   go_enter Try.func70, Try.ntmps70
   go_wp2_with (first | ((with_reducible refine zI 1 rfl ?_); (try (refine gate_guard (by rfl) ?_; dsimp only)); refine zB 1 #[.slice A0_0 l0_0.length c0_0, .slice A0_1 l0_1.length c0_1] 62 ?_; intro gb270 hg w14 hbox hb; have BK270 := Aside0.mk (hbox); have GW270 := zS (pB0 HB.out) hg; have GE270 := GW270; replace HB := zW (pB0 HB.out) hb; clear hb hbox hg; obtain ⟨Y15_0, X15_0, Y15_1, X15_1⟩ := zw2 BK270) | ((with_reducible refine gate_callee (f := 111) rfl ?_); refine zJ (some 5) Try.func111 #[.slice A0_0 l0_0.length c0_0] ?_; (with_reducible refine (impl_validSheets.calls k _ _ l0_0 false _ ?side1 ?side2 A2.out).mono ?_); (case side1 => exact pC (Kd.C_below HR0_0.out HB.out)); (case side2 => exact HC0_0.out); rintro e w16 ⟨rfl, hb⟩; refine ⟨_, rfl, ?_⟩; replace BK270 := zK BK270 hb; replace HB := zW (pB1 HB.out GE270.out) hb; (try clear hb); (try clear hb2); (try clear hk); (try clear hi)))
   go_ret
   exact ⟨zE, pB1 HB.out GE270.out⟩
 subst c3; rw [if_pos rfl] at H
 by_cases c4 : (l0_1.length : Int) > 24
 · rw [if_pos c4] at H
   have c4b0 := decide_eq_true c4
   have c4b1 : decide (24 < l0_1.length) = true := decide_eq_true (by omega)
   clear c4; obtain rfl := Option.some.inj H
   go_enter Try.func70, Try.ntmps70
   go_wp2_with (first | ((with_reducible refine zI 1 rfl ?_); (try (refine gate_guard (by rfl) ?_; dsimp only)); refine zB 1 #[.slice A0_0 l0_0.length c0_0, .slice A0_1 l0_1.length c0_1] 62 ?_; intro gb270 hg w5 hbox hb; have BK270 := Aside0.mk (hbox); have GW270 := zS (pB0 HB.out) hg; have GE270 := GW270; replace HB := zW (pB0 HB.out) hb; clear hb hbox hg; obtain ⟨Y6_0, X6_0, Y6_1, X6_1⟩ := zw2 BK270) | ((with_reducible refine gate_callee (f := 111) rfl ?_); refine zJ (some 5) Try.func111 #[.slice A0_0 l0_0.length c0_0] ?_; (with_reducible refine (impl_validSheets.calls k _ _ l0_0 true _ ?side1 ?side2 A2.out).mono ?_); (case side1 => exact pC (Kd.C_below HR0_0.out HB.out)); (case side2 => exact HC0_0.out); rintro e w7 ⟨rfl, hb⟩; refine ⟨_, rfl, ?_⟩; replace BK270 := zK BK270 hb; replace HB := zW (pB1 HB.out GE270.out) hb; (try clear hb); (try clear hb2); (try clear hk); (try clear hi); obtain ⟨Y8_0, X8_0, Y8_1, X8_1⟩ := zw2 BK270))
   go_ret
   exact ⟨zE, pB1 HB.out GE270.out⟩
 rw [if_neg c4] at H; have c4b0 := decide_eq_false c4
 have c4b1 : decide (24 < l0_1.length) = false := decide_eq_false (by omega)
 clear c4; replace H := Option.bind_eq_some_iff.mp H; obtain ⟨t272, A90, H⟩ := H; have A9 := Aside0.mk A90; clear A90; obtain rfl := Option.some.inj H
 go_enter Try.func70, Try.ntmps70
 go_wp2_with (first | ((with_reducible refine zI 1 rfl ?_); (try (refine gate_guard (by rfl) ?_; dsimp only)); refine zB 1 #[.slice A0_0 l0_0.length c0_0, .slice A0_1 l0_1.length c0_1] 62 ?_; intro gb270 hg w10 hbox hb; have BK270 := Aside0.mk (hbox); have GW270 := zS (pB0 HB.out) hg; have GE270 := GW270; replace HB := zW (pB0 HB.out) hb; clear hb hbox hg; obtain ⟨Y11_0, X11_0, Y11_1, X11_1⟩ := zw2 BK270) | ((with_reducible refine gate_callee (f := 111) rfl ?_); refine zJ (some 5) Try.func111 #[.slice A0_0 l0_0.length c0_0] ?_; (with_reducible refine (impl_validSheets.calls k _ _ l0_0 true _ ?side1 ?side2 A2.out).mono ?_); (case side1 => exact pC (Kd.C_below HR0_0.out HB.out)); (case side2 => exact HC0_0.out); rintro e w12 ⟨rfl, hb⟩; refine ⟨_, rfl, ?_⟩; replace BK270 := zK BK270 hb; replace HB := zW (pB1 HB.out GE270.out) hb; (try clear hb); (try clear hb2); (try clear hk); (try clear hi); obtain ⟨Y13_0, X13_0, Y13_1, X13_1⟩ := zw2 BK270) | ((with_reducible refine gate_callee (f := 112) rfl ?_); refine zJ (some 16) Try.func112 #[.slice A0_1 l0_1.length c0_1, .func (.func 113) #[] #[.pointer (some ⟨gb270, 0, none⟩)]] ?_; (with_reducible refine (slices_ContainsFunc_int64_int64__impl_ValidPacket_1.calls k _ _ l0_1  _ 1 [(⟨l0_0, l0_1⟩ : S62)] t272 _ ?side1 ?side2 ?side3 ?side4 A9.out).mono ?_); (case side1 => exact pC (Kd.C_below HR0_1.out HB.out)); (case side2 => exact HC0_1.out); (case side3 => exact C_box (cs := #[.slice A0_0 l0_0.length c0_0, .slice A0_1 l0_1.length c0_1]) (t := 62) (pK BK270.out) (k62_mk _ _ (by exact HC0_0.out) (by exact pC (Kd.C_below HR0_0.out HB.out)) (by exact HC0_1.out) (by exact pC (Kd.C_below HR0_1.out HB.out)))); (case side4 => exact Nat.le_refl _); rintro e w' ⟨rfl, ⟨nd, rfl⟩⟩; refine ⟨_, rfl, ?_⟩))
 go_ret
 exact ⟨zE, pB1 HB.out GE270.out⟩
def impl_Veneer_124.f (l0 : List S33) (a1 : Int) : Option (List S33) := if l0.length = 0 then (if 0 ≤ a1 then (if a1 ≤ 4000000000000 then (some []) else (none)) else (none)) else (none)
set_option maxHeartbeats 2000000 in
set_option maxRecDepth 100000 in
theorem impl_Veneer_124.calls (A0 : Option Addr) (c0 : Nat) (l0 : List S33) (a1 : Int) (r : List S33) (w : World) (hr0 : Kd.C k33 w A0 l0.length l0) (hc0 : l0.length ≤ c0) (h : impl_Veneer_124.f l0 a1 = some r) (hn : A0 = none ∧ c0 = 0 := by exact ⟨rfl, rfl⟩) :
 Calls Try.prog 124 #[.slice A0 l0.length c0, .int .i64 a1] w fun e w' => ∃ v0_ : Value, e = .returned (v0_) ∧ Kd.R k33 33 w' w.heap.size (fun _ => True) v0_ r ∧ Below w.heap.size w w' := by
 obtain ⟨rfl, rfl⟩ := hn; unfold impl_Veneer_124.f at h
 by_cases h1 : l0.length = 0
 rotate_left
 · rw [if_neg h1] at h; cases h
 rw [if_pos h1] at h; obtain rfl := List.length_eq_zero_iff.1 h1
 by_cases h2 : 0 ≤ a1
 rotate_left
 · rw [if_neg h2] at h; cases h
 rw [if_pos h2] at h
 by_cases h3 : a1 ≤ 4000000000000
 rotate_left
 · rw [if_neg h3] at h; cases h
 rw [if_pos h3] at h; obtain rfl := Option.some.inj h; clear h hr0 hc0 h1
 have c0 : decide (a1 < 0) = false := decide_eq_false (by omega)
 have hw : wrap64 (a1 - 0) = a1 := by unfold wrap64; omega
 by_cases h4 : a1 > 0
 rotate_left
 · have c1 : decide (a1 > 0) = false := decide_eq_false h4
   have c2 : decide (wrap64 (a1 - 0) > 0) = false := by rw [hw]; exact c1
   go_enter Try.func124, Try.ntmps124
   go_wp2
   go_ret
   exact ⟨_, rfl, Kd.R_nil _ _ _ _ _, Below.refl _ _⟩
 have c1 : decide (a1 > 0) = true := decide_eq_true h4
 have c2 : decide (wrap64 (a1 - 0) > 0) = true := by rw [hw]; exact c1
 have hz : (Instr.slice 60 (.slice none 0 0) none (some (.int .i64 0)) none).run Try.prog = (Instr.slice 60 (.slice none 0 0) none (some (.int .i64 0)) none).run Try.prog := rfl
 go_enter Try.func124, Try.ntmps124
 go_wp2_with (at_builtin; refine Kd.R_append_zeros k33 (w0 := w) w.heap.size rfl _ _ 60 3 33 ((.agg #[(.string ⟨#[]⟩), (.int .i64 0), (.int .i64 0)])) 32 rfl Try.underlying60 Try.underlying3 (by kernel_rfl) rfl (by decide) (by decide) (.slice none 0 0) [] z33 a1 (fun _ => True) rfl rfl (k33_mkM _ _ _ z33) (fun _ _ => trivial) (Kd.R_nil _ _ _ _ _) h2 ?hb (by first | exact Nat.le_refl _ | simp) ?hl ?_; (case hb => repeat (first | exact Below.refl _ _ | apply below_alloc | apply pw_below_drewN | apply below_drew1)); (case hl => simp; omega); intro v1 w1 hR hb1 hgr hat)
 obtain ⟨A1, k1, rfl⟩ := Kd.R_slice hR
 obtain ⟨i0, hi0, _, hsz, _⟩ := info_parts (show (Try.prog.info? 33).map (fun i => (i.zero, i.size, i.bytes)) = some (some ((.agg #[(.string ⟨#[]⟩), (.int .i64 0), (.int .i64 0)])), 3, 32) from by kernel_rfl)
 have hr := Kd.R_take (m := 0) hR (by omega)
 have hle := (Kd.R_reads' hR).2.1; clear hR; obtain ⟨N, hN⟩ : ∃ N : Nat, (([] : List S33) ++ List.replicate a1.toNat z33).length = N := ⟨_, rfl⟩; rw [hN] at hle ⊢
 have hcut := cut_to (P := Try.prog) 60 33 .i64 Try.underlying60 hi0 A1 N k1 0 (by omega) (by omega) hle
 go_wp2
 rw [hcut w1]
 go_wp2
 go_ret
 exact ⟨_, rfl, hr, hb1⟩
end Go.Proofs.Ytfiiakhpdkdebaa.PFnExactRotateSheets

/- What each function that a law reaches comes to, and the proof that its walk comes to it; laid by a program of this session. No condition. -/
import Derived.Test.YtfiiakhpdkdebaaZFnExactFitsLeaf0
import Derived.Test.YtfiiakhpdkdebaaZFnExactFitsLeaf2
import Derived.Test.YtfiiakhpdkdebaaZFnExactFitsLeaf10
import Derived.Test.YtfiiakhpdkdebaaZFnExactFitsLeaf11
import Derived.Test.YtfiiakhpdkdebaaZFnExactFitsLeaf18
import Derived.Test.YtfiiakhpdkdebaaZFnExactFitsLeaf19
namespace Go.Proofs.Ytfiiakhpdkdebaa.PFnExactFitsLeaf
open Go.RowKit Go.Proofs.YtfiiakhpdkdebaaW.PrintWords Go.Proofs.YtfiiakhpdkdebaaW.PrintLast Go.Proofs.YtfiiakhpdkdebaaW.PrintMore
attribute [local go_sem] max2_int min2_int max_two min_two max_three min_three max_four min_four
set_option linter.unusedVariables false
set_option linter.unusedSimpArgs false
def laws_FnExactFitsLeaf.f (k : Nat) (l0 : List (S93)) (a1_0 : ByteArray) (a1_1 : ByteArray) (a1_2 : Int) (a1_3 : ByteArray) (a1_4 : Int) (a1_5 : Int) (a1_6 : Int) (a1_7 : Int) (l1_8 : List (S136)) : Option (Bool) := (laws_szPointS.f l0 1048576).bind fun t475 => (if t475 < 0 then (some true) else ((laws_szLeaf.f a1_0 a1_1 a1_2 a1_3 a1_4 a1_5 a1_6 a1_7 l1_8 t475).bind fun t476 => (if t476 < 0 then (some true) else ((laws_toPointS.f k l0).bind fun t477 => ((laws_toLeaf.f k a1_0 a1_1 a1_2 a1_3 a1_4 a1_5 a1_6 a1_7 l1_8).bind fun bt480 => ((spec_FitsLeaf.f k t477 bt480.1 bt480.2.1 bt480.2.2.1 bt480.2.2.2.1 bt480.2.2.2.2.1 bt480.2.2.2.2.2.1 bt480.2.2.2.2.2.2.1 bt480.2.2.2.2.2.2.2.1 bt480.2.2.2.2.2.2.2.2).bind fun t491 => ((laws_toPointS.f k l0).bind fun t492 => ((laws_toLeaf.f k a1_0 a1_1 a1_2 a1_3 a1_4 a1_5 a1_6 a1_7 l1_8).bind fun bt495 => ((impl_FitsLeaf.f k t492 bt495.1 bt495.2.1 bt495.2.2.1 bt495.2.2.2.1 bt495.2.2.2.2.1 bt495.2.2.2.2.2.1 bt495.2.2.2.2.2.2.1 bt495.2.2.2.2.2.2.2.1 bt495.2.2.2.2.2.2.2.2).bind fun t507 => (if (t507 != t491) = true then (some false) else ((laws_toPointS.f k l0).bind fun t508 => ((laws_eqPointS.f k t492 t508).bind fun t511 => (if t511 = true then ((laws_toLeaf.f k a1_0 a1_1 a1_2 a1_3 a1_4 a1_5 a1_6 a1_7 l1_8).bind fun bt512 => ((laws_eqLeaf.f k bt495.1 bt495.2.1 bt495.2.2.1 bt495.2.2.2.1 bt495.2.2.2.2.1 bt495.2.2.2.2.2.1 bt495.2.2.2.2.2.2.1 bt495.2.2.2.2.2.2.2.1 bt495.2.2.2.2.2.2.2.2 bt512.1 bt512.2.1 bt512.2.2.1 bt512.2.2.2.1 bt512.2.2.2.2.1 bt512.2.2.2.2.2.1 bt512.2.2.2.2.2.2.1 bt512.2.2.2.2.2.2.2.1 bt512.2.2.2.2.2.2.2.2).bind fun t523 => (if t523 = true then (some true) else (some false)))) else (some false))))))))))))))
theorem laws_FnExactFitsLeaf.mono : ∀ a0 a1 a2 a3 a4 a5 a6 a7 a8 a9 k, LeO (laws_FnExactFitsLeaf.f k a0 a1 a2 a3 a4 a5 a6 a7 a8 a9) (laws_FnExactFitsLeaf.f (k + 1) a0 a1 a2 a3 a4 a5 a6 a7 a8 a9) := by
 intro a0 a1 a2 a3 a4 a5 a6 a7 a8 a9 k
 unfold laws_FnExactFitsLeaf.f
 repeat' first
  | (with_reducible exact impl_FitsLeaf.mono _ _ _ _ _ _ _ _ _ _ _)
  | (with_reducible exact laws_eqLeaf.mono _ _ _ _ _ _ _ _ _ _ _ _ _ _ _ _ _ _ _)
  | (with_reducible exact laws_eqPointS.mono _ _ _)
  | (with_reducible exact laws_toLeaf.mono _ _ _ _ _ _ _ _ _ _)
  | (with_reducible exact laws_toPointS.mono _ _)
  | (with_reducible exact spec_FitsLeaf.mono _ _ _ _ _ _ _ _ _ _ _)
  | (with_reducible exact LeO.refl _)
  | (with_reducible exact LeO.none _)
  | (with_reducible refine LeO.ite ?_ ?_)
  | (with_reducible refine LeO.bind ?_ (fun _ => ?_))
  | exact impl_FitsLeaf.mono _ _ _ _ _ _ _ _ _ _ _
  | exact laws_eqLeaf.mono _ _ _ _ _ _ _ _ _ _ _ _ _ _ _ _ _ _ _
  | exact laws_eqPointS.mono _ _ _
  | exact laws_toLeaf.mono _ _ _ _ _ _ _ _ _ _
  | exact laws_toPointS.mono _ _
  | exact spec_FitsLeaf.mono _ _ _ _ _ _ _ _ _ _ _
  | exact LeO.none _
  | refine LeO.ite ?_ ?_
  | refine LeO.bind ?_ (fun _ => ?_)
set_option maxHeartbeats 8000000 in
set_option maxRecDepth 100000 in
theorem laws_FnExactFitsLeaf.calls (k : Nat) (A0 : Option Addr) (c0 : Nat) (l0 : List (S93)) (a1_0 : ByteArray) (a1_1 : ByteArray) (a1_2 : Int) (a1_3 : ByteArray) (a1_4 : Int) (a1_5 : Int) (a1_6 : Int) (a1_7 : Int) (A1_8 : Option Addr) (c1_8 : Nat) (l1_8 : List (S136)) (r : Bool) (w : World) (hr0 : Kd.C k93 w A0 l0.length l0) (hc0 : l0.length ≤ c0) (hr1_8 : Kd.C k136 w A1_8 l1_8.length l1_8) (hc1_8 : l1_8.length ≤ c1_8) (h : laws_FnExactFitsLeaf.f k l0 a1_0 a1_1 a1_2 a1_3 a1_4 a1_5 a1_6 a1_7 l1_8 = some r) :
 Calls Try.prog 3 #[.slice A0 l0.length c0, .agg #[.string a1_0, .string a1_1, .int .i64 a1_2, .string a1_3, .int .i64 a1_4, .int .i64 a1_5, .int .i64 a1_6, .int .i64 a1_7, .slice A1_8 l1_8.length c1_8]] w fun e w' => e = .returned (.bool r) ∧ Below w.heap.size w w' := by
 have hu27 := Try.underlying27
 have hu36 := Try.underlying36
 have HR0 := Aside0.mk hr0
 have HC0 := Aside0.mk hc0
 clear hr0 hc0
 have HR1_8 := Aside0.mk hr1_8
 have HC1_8 := Aside0.mk hc1_8
 clear hr1_8 hc1_8
 have HB := Aside0.mk (Below.refl w.heap.size w)
 have H : ((laws_szPointS.f l0 1048576).bind fun t475 => (if t475 < 0 then (some true) else ((laws_szLeaf.f a1_0 a1_1 a1_2 a1_3 a1_4 a1_5 a1_6 a1_7 l1_8 t475).bind fun t476 => (if t476 < 0 then (some true) else ((laws_toPointS.f k l0).bind fun t477 => ((laws_toLeaf.f k a1_0 a1_1 a1_2 a1_3 a1_4 a1_5 a1_6 a1_7 l1_8).bind fun bt480 => ((spec_FitsLeaf.f k t477 bt480.1 bt480.2.1 bt480.2.2.1 bt480.2.2.2.1 bt480.2.2.2.2.1 bt480.2.2.2.2.2.1 bt480.2.2.2.2.2.2.1 bt480.2.2.2.2.2.2.2.1 bt480.2.2.2.2.2.2.2.2).bind fun t491 => ((laws_toPointS.f k l0).bind fun t492 => ((laws_toLeaf.f k a1_0 a1_1 a1_2 a1_3 a1_4 a1_5 a1_6 a1_7 l1_8).bind fun bt495 => ((impl_FitsLeaf.f k t492 bt495.1 bt495.2.1 bt495.2.2.1 bt495.2.2.2.1 bt495.2.2.2.2.1 bt495.2.2.2.2.2.1 bt495.2.2.2.2.2.2.1 bt495.2.2.2.2.2.2.2.1 bt495.2.2.2.2.2.2.2.2).bind fun t507 => (if (t507 != t491) = true then (some false) else ((laws_toPointS.f k l0).bind fun t508 => ((laws_eqPointS.f k t492 t508).bind fun t511 => (if t511 = true then ((laws_toLeaf.f k a1_0 a1_1 a1_2 a1_3 a1_4 a1_5 a1_6 a1_7 l1_8).bind fun bt512 => ((laws_eqLeaf.f k bt495.1 bt495.2.1 bt495.2.2.1 bt495.2.2.2.1 bt495.2.2.2.2.1 bt495.2.2.2.2.2.1 bt495.2.2.2.2.2.2.1 bt495.2.2.2.2.2.2.2.1 bt495.2.2.2.2.2.2.2.2 bt512.1 bt512.2.1 bt512.2.2.1 bt512.2.2.2.1 bt512.2.2.2.2.1 bt512.2.2.2.2.2.1 bt512.2.2.2.2.2.2.1 bt512.2.2.2.2.2.2.2.1 bt512.2.2.2.2.2.2.2.2).bind fun t523 => (if t523 = true then (some true) else (some false)))) else (some false))))))))))))))) = some r := h
 clear h
 replace H := Option.bind_eq_some_iff.mp H
 obtain ⟨t475, A30, H⟩ := H
 have A3 := Aside0.mk A30
 clear A30
 by_cases c4 : t475 < 0
 · rw [if_pos c4] at H
   have c4b0 := decide_eq_true c4
   clear c4
   obtain rfl := Option.some.inj H
   go_enter Try.func3, Try.ntmps3
   go_wp2_with (first | ((with_reducible refine gate_dst (N := 3) rfl ?_); refine zB 3 #[.string a1_0, .string a1_1, .int .i64 a1_2, .string a1_3, .int .i64 a1_4, .int .i64 a1_5, .int .i64 a1_6, .int .i64 a1_7, .slice A1_8 l1_8.length c1_8] 27 ?_; intro gb474 hg w5 hbox hb; have BK474 := Aside0.mk (hbox); have GW474 := zS (pB0 HB.out) hg; have GE474 := zS (pB0 HB.out) hg; replace HB := zW (pB0 HB.out) hb; clear hb hbox hg) | ((with_reducible refine gate_callee (f := 9) rfl ?_); refine goesL_ (some 12) rfl rfl Try.func9 (by kernel_rfl) rfl #[.slice A0 l0.length c0, .int .i64 1048576] rfl pA ?_; (with_reducible refine (laws_szPointS.calls _ _ l0 1048576 t475 _ ?side1 ?side2 A3.out).mono ?_); (case side1 => exact pC (Kd.C_below HR0.out HB.out)); (case side2 => exact HC0.out); rintro e w' ⟨rfl, ⟨nd, rfl⟩⟩; refine ⟨_, rfl, ?_⟩))
   go_ret
   exact ⟨zE, pB1 HB.out GE474.out⟩
 rw [if_neg c4] at H
 have c4b0 : decide (t475 < 0) = false := decide_eq_false c4
 clear c4
 replace H := Option.bind_eq_some_iff.mp H
 obtain ⟨t476, A60, H⟩ := H
 have A6 := Aside0.mk A60
 clear A60
 by_cases c7 : t476 < 0
 · rw [if_pos c7] at H
   have c7b0 := decide_eq_true c7
   clear c7
   obtain rfl := Option.some.inj H
   go_enter Try.func3, Try.ntmps3
   go_wp2_with (first | ((with_reducible refine gate_dst (N := 3) rfl ?_); refine zB 3 #[.string a1_0, .string a1_1, .int .i64 a1_2, .string a1_3, .int .i64 a1_4, .int .i64 a1_5, .int .i64 a1_6, .int .i64 a1_7, .slice A1_8 l1_8.length c1_8] 27 ?_; intro gb474 hg w8 hbox hb; have BK474 := Aside0.mk (hbox); have GW474 := zS (pB0 HB.out) hg; have GE474 := zS (pB0 HB.out) hg; replace HB := zW (pB0 HB.out) hb; clear hb hbox hg) | ((with_reducible refine gate_callee (f := 9) rfl ?_); refine goesL_ (some 12) rfl rfl Try.func9 (by kernel_rfl) rfl #[.slice A0 l0.length c0, .int .i64 1048576] rfl pA ?_; (with_reducible refine (laws_szPointS.calls _ _ l0 1048576 t475 _ ?side1 ?side2 A3.out).mono ?_); (case side1 => exact pC (Kd.C_below HR0.out HB.out)); (case side2 => exact HC0.out); rintro e w' ⟨rfl, ⟨nd, rfl⟩⟩; refine ⟨_, rfl, ?_⟩; obtain ⟨hcz9_0, hfz9_0, hcz9_1, hfz9_1, hcz9_2, hfz9_2, hcz9_3, hfz9_3, hcz9_4, hfz9_4, hcz9_5, hfz9_5, hcz9_6, hfz9_6, hcz9_7, hfz9_7, hcz9_8, hfz9_8⟩ := zw9 BK474) | ((with_reducible refine gate_callee (f := 10) rfl ?_); refine goesL_ (some 17) rfl rfl Try.func10 (by kernel_rfl) rfl #[.agg #[.string a1_0, .string a1_1, .int .i64 a1_2, .string a1_3, .int .i64 a1_4, .int .i64 a1_5, .int .i64 a1_6, .int .i64 a1_7, .slice A1_8 l1_8.length c1_8], .int .i64 t475] rfl pA ?_; (with_reducible refine (laws_szLeaf.calls a1_0 a1_1 a1_2 a1_3 a1_4 a1_5 a1_6 a1_7 _ _ l1_8 t475 t476 _ ?side1 ?side2 A6.out).mono ?_); (case side1 => exact pC (Kd.C_below HR1_8.out (pB1 HB.out GE474.out))); (case side2 => exact HC1_8.out); rintro e w10 ⟨rfl, hb⟩; refine ⟨_, rfl, ?_⟩; replace BK474 := zK BK474 hb; replace HB := zW (pB1 HB.out GE474.out) hb; (try clear hb); (try clear hb2); (try clear hk); (try clear hi)))
   go_ret
   exact ⟨zE, pB1 HB.out GE474.out⟩
 rw [if_neg c7] at H
 have c7b0 : decide (t476 < 0) = false := decide_eq_false c7
 clear c7
 replace H := Option.bind_eq_some_iff.mp H
 obtain ⟨t477, A110, H⟩ := H
 have A11 := Aside0.mk A110
 clear A110
 replace H := Option.bind_eq_some_iff.mp H
 obtain ⟨⟨t480, t481, t482, t483, t484, t485, t486, t487, t488⟩, A120, H⟩ := H
 replace H : ((spec_FitsLeaf.f k t477 t480 t481 t482 t483 t484 t485 t486 t487 t488).bind fun t491 => ((laws_toPointS.f k l0).bind fun t492 => ((laws_toLeaf.f k a1_0 a1_1 a1_2 a1_3 a1_4 a1_5 a1_6 a1_7 l1_8).bind fun bt495 => ((impl_FitsLeaf.f k t492 bt495.1 bt495.2.1 bt495.2.2.1 bt495.2.2.2.1 bt495.2.2.2.2.1 bt495.2.2.2.2.2.1 bt495.2.2.2.2.2.2.1 bt495.2.2.2.2.2.2.2.1 bt495.2.2.2.2.2.2.2.2).bind fun t507 => (if (t507 != t491) = true then (some false) else ((laws_toPointS.f k l0).bind fun t508 => ((laws_eqPointS.f k t492 t508).bind fun t511 => (if t511 = true then ((laws_toLeaf.f k a1_0 a1_1 a1_2 a1_3 a1_4 a1_5 a1_6 a1_7 l1_8).bind fun bt512 => ((laws_eqLeaf.f k bt495.1 bt495.2.1 bt495.2.2.1 bt495.2.2.2.1 bt495.2.2.2.2.1 bt495.2.2.2.2.2.1 bt495.2.2.2.2.2.2.1 bt495.2.2.2.2.2.2.2.1 bt495.2.2.2.2.2.2.2.2 bt512.1 bt512.2.1 bt512.2.2.1 bt512.2.2.2.1 bt512.2.2.2.2.1 bt512.2.2.2.2.2.1 bt512.2.2.2.2.2.2.1 bt512.2.2.2.2.2.2.2.1 bt512.2.2.2.2.2.2.2.2).bind fun t523 => (if t523 = true then (some true) else (some false)))) else (some false))))))))) = some r := H
 have A12 := Aside0.mk A120
 clear A120
 replace H := Option.bind_eq_some_iff.mp H
 obtain ⟨t491, A130, H⟩ := H
 have A13 := Aside0.mk A130
 clear A130
 replace H := Option.bind_eq_some_iff.mp H
 obtain ⟨t492, A140, H⟩ := H
 have A14 := Aside0.mk A140
 clear A140
 replace H := Option.bind_eq_some_iff.mp H
 obtain ⟨⟨t495, t496, t497, t498, t499, t500, t501, t502, t503⟩, A150, H⟩ := H
 replace H : ((impl_FitsLeaf.f k t492 t495 t496 t497 t498 t499 t500 t501 t502 t503).bind fun t507 => (if (t507 != t491) = true then (some false) else ((laws_toPointS.f k l0).bind fun t508 => ((laws_eqPointS.f k t492 t508).bind fun t511 => (if t511 = true then ((laws_toLeaf.f k a1_0 a1_1 a1_2 a1_3 a1_4 a1_5 a1_6 a1_7 l1_8).bind fun bt512 => ((laws_eqLeaf.f k t495 t496 t497 t498 t499 t500 t501 t502 t503 bt512.1 bt512.2.1 bt512.2.2.1 bt512.2.2.2.1 bt512.2.2.2.2.1 bt512.2.2.2.2.2.1 bt512.2.2.2.2.2.2.1 bt512.2.2.2.2.2.2.2.1 bt512.2.2.2.2.2.2.2.2).bind fun t523 => (if t523 = true then (some true) else (some false)))) else (some false)))))) = some r := H
 have A15 := Aside0.mk A150
 clear A150
 replace H := Option.bind_eq_some_iff.mp H
 obtain ⟨t507, A160, H⟩ := H
 have A16 := Aside0.mk A160
 clear A160
 by_cases c17 : (t507 != t491) = true
 · rw [if_pos c17] at H
   have c17b0 : (t507 != t491) = true := c17
   (try (have c17b1 : decide (t507 = t491) = false := by simpa using c17))
   (try (have c17b2 : (t507 == t491) = false := by simpa using c17))
   (try (have c17b3 : ¬ (t507 = t491) := by simpa using c17))
   clear c17
   obtain rfl := Option.some.inj H
   go_enter Try.func3, Try.ntmps3
   try go_wp2_with (first | ((with_reducible refine gate_dst (N := 3) rfl ?_); refine zB 3 #[.string a1_0, .string a1_1, .int .i64 a1_2, .string a1_3, .int .i64 a1_4, .int .i64 a1_5, .int .i64 a1_6, .int .i64 a1_7, .slice A1_8 l1_8.length c1_8] 27 ?_; intro gb474 hg w18 hbox hb; have BK474 := Aside0.mk (hbox); have GW474 := zS (pB0 HB.out) hg; have GE474 := zS (pB0 HB.out) hg; replace HB := zW (pB0 HB.out) hb; clear hb hbox hg) | ((with_reducible refine gate_callee (f := 9) rfl ?_); refine goesL_ (some 12) rfl rfl Try.func9 (by kernel_rfl) rfl #[.slice A0 l0.length c0, .int .i64 1048576] rfl pA ?_; (with_reducible refine (laws_szPointS.calls _ _ l0 1048576 t475 _ ?side1 ?side2 A3.out).mono ?_); (case side1 => exact pC (Kd.C_below HR0.out HB.out)); (case side2 => exact HC0.out); rintro e w' ⟨rfl, ⟨nd, rfl⟩⟩; refine ⟨_, rfl, ?_⟩; (try (rw [drewN_self w18]; generalize hq_ : World.drewN w18 _ = w18; have n0_ : Aside0 (w18.heap[gb474]? = some (.cells #[.string a1_0, .string a1_1, .int .i64 a1_2, .string a1_3, .int .i64 a1_4, .int .i64 a1_5, .int .i64 a1_6, .int .i64 a1_7, .slice A1_8 l1_8.length c1_8] 27 (0, 0))) := ⟨by rw [← hq_]; exact (pK BK474.out)⟩; have n1_ : Aside0 (Below w.heap.size w w18) := ⟨by rw [← hq_]; exact (pB1 HB.out GE474.out)⟩; clear BK474 HB hq_; have BK474 := n0_; have HB := n1_; clear n0_ n1_)); (try (obtain ⟨hcq474_0, hfq474_0, hcq474_1, hfq474_1, hcq474_2, hfq474_2, hcq474_3, hfq474_3, hcq474_4, hfq474_4, hcq474_5, hfq474_5, hcq474_6, hfq474_6, hcq474_7, hfq474_7, hcq474_8, hfq474_8⟩ := zw9 BK474)); obtain ⟨hcz19_0, hfz19_0, hcz19_1, hfz19_1, hcz19_2, hfz19_2, hcz19_3, hfz19_3, hcz19_4, hfz19_4, hcz19_5, hfz19_5, hcz19_6, hfz19_6, hcz19_7, hfz19_7, hcz19_8, hfz19_8⟩ := zw9 BK474) | ((with_reducible refine gate_callee (f := 10) rfl ?_); refine goesL_ (some 17) rfl rfl Try.func10 (by kernel_rfl) rfl #[.agg #[.string a1_0, .string a1_1, .int .i64 a1_2, .string a1_3, .int .i64 a1_4, .int .i64 a1_5, .int .i64 a1_6, .int .i64 a1_7, .slice A1_8 l1_8.length c1_8], .int .i64 t475] rfl pA ?_; (with_reducible refine (laws_szLeaf.calls a1_0 a1_1 a1_2 a1_3 a1_4 a1_5 a1_6 a1_7 _ _ l1_8 t475 t476 _ ?side1 ?side2 A6.out).mono ?_); (case side1 => exact pC (Kd.C_below HR1_8.out HB.out)); (case side2 => exact HC1_8.out); rintro e w20 ⟨rfl, hb⟩; refine ⟨_, rfl, ?_⟩; replace BK474 := zK BK474 hb; replace HB := zW (pB1 HB.out GE474.out) hb; (try clear hb); (try clear hb2); (try clear hk); (try clear hi)))
   replace BK474 := Aside0.mk (blk_drew BK474.out)
   replace HB := Aside0.mk (below_drew1 HB.out)
   refine start_ (n := 6) (S := fun w' => w'.cell? ⟨gb474, 0, none⟩ = some (.string a1_0) ∧ w'.cell? ⟨gb474, 1, none⟩ = some (.string a1_1) ∧ w'.cell? ⟨gb474, 2, none⟩ = some (.int .i64 a1_2) ∧ w'.cell? ⟨gb474, 3, none⟩ = some (.string a1_3) ∧ w'.cell? ⟨gb474, 4, none⟩ = some (.int .i64 a1_4) ∧ w'.cell? ⟨gb474, 5, none⟩ = some (.int .i64 a1_5) ∧ w'.cell? ⟨gb474, 6, none⟩ = some (.int .i64 a1_6) ∧ w'.cell? ⟨gb474, 7, none⟩ = some (.int .i64 a1_7) ∧ w'.cell? ⟨gb474, 8, none⟩ = some (.slice A1_8 l1_8.length c1_8)) (ds := []) (Array.replicate 6 false) (by kernel_rfl) rfl rfl ⟨zQ BK474 0, zQ BK474 1, zQ BK474 2, zQ BK474 3, zQ BK474 4, zQ BK474 5, zQ BK474 6, zQ BK474 7, zQ BK474 8⟩ (fun hHeld => ?_)
   generalize w20.drew = w21 at BK474 HB hHeld ⊢
   refine pure_ (i := 0) (N := some 20) (v := ?_) (a' := ?_) #[true, false, false, false, false, false] rfl rfl (by kernel_rfl) (fun _ _ _ h => h) (Or.inl ⟨by rfl, ?_⟩) ?_ ?_
   rotate_left
   · intro w'
     go_simp
     with_reducible rfl
   rotate_left
   · simp only [Act.put, List.setIfInBounds_toArray, List.set_cons_zero, List.set_cons_succ, i64_w, i32_w]
     rfl
   refine take_ (i := 2) (N := some 22) (v := ?_) (a' := ?_) #[true, false, true, false, false, false] rfl rfl (by kernel_rfl) (fun _ _ _ h => h) (Or.inl ⟨by rfl, ?_⟩) hHeld ?_ ?_
   rotate_left
   · rintro w' ⟨s0, s1, s2, s3, s4, s5, s6, s7, s8⟩
     go_simp
     with_reducible rfl
   rotate_left
   · simp only [Act.put, List.setIfInBounds_toArray, List.set_cons_zero, List.set_cons_succ, i64_w, i32_w]
     rfl
   refine one_ (i := 1) (N := some 21) (zb 6 7) rfl rfl (by kernel_rfl) (by decide) (fun K hK => ?_)
   refine goes_ Try.func12 (by kernel_rfl) rfl #[.slice A0 l0.length c0] (by rfl) rfl rfl pA ?_
   with_reducible refine (laws_toPointS.calls k _ _ l0 t477 _ ?side1 ?side2 A11.out).mono ?_
   (case side1 => exact pC (Kd.C_below HR0.out HB.out))
   (case side2 => exact HC0.out)
   rintro e w22 ⟨v478, rfl, ho0, hb⟩
   refine ⟨_, rfl, ?_⟩
   have HO479 := Aside0.mk (Kd.R_lower ho0 (below_size (pB1 HB.out GE474.out)))
   replace BK474 := zK BK474 hb
   replace HB := zW (pB1 HB.out GE474.out) hb
   (try clear hb)
   (try clear hb2)
   (try clear hk)
   (try clear hi)
   (try clear ho0)
   refine hK.out _ _ ⟨zQ BK474 0, zQ BK474 1, zQ BK474 2, zQ BK474 3, zQ BK474 4, zQ BK474 5, zQ BK474 6, zQ BK474 7, zQ BK474 8⟩ (fun hHeld => ?_)
   clear hK K
   refine zN ?_
   refine one_ (i := 3) (N := some 23) (zb 6 15) rfl rfl (by kernel_rfl) (by decide) (fun K hK => ?_)
   refine goes_ Try.func13 (by kernel_rfl) rfl #[.agg #[.string a1_0, .string a1_1, .int .i64 a1_2, .string a1_3, .int .i64 a1_4, .int .i64 a1_5, .int .i64 a1_6, .int .i64 a1_7, .slice A1_8 l1_8.length c1_8]] (by rfl) rfl rfl pA ?_
   with_reducible refine (laws_toLeaf.calls k a1_0 a1_1 a1_2 a1_3 a1_4 a1_5 a1_6 a1_7 _ _ l1_8 t480 t481 t482 t483 t484 t485 t486 t487 t488 _ ?side1 ?side2 A12.out).mono ?_
   (case side1 => exact pC (Kd.C_below HR1_8.out HB.out))
   (case side2 => exact HC1_8.out)
   rintro e w23 ⟨v489, rfl, ho0, hb⟩
   refine ⟨_, rfl, ?_⟩
   have HO490 := Aside0.mk (Kd.R_lower ho0 (below_size (pB1 HB.out GE474.out)))
   replace HO479 := Aside0.mk (Kd.R_below (pR HO479.out) hb)
   replace BK474 := zK BK474 hb
   replace HB := zW (pB1 HB.out GE474.out) hb
   (try clear hb)
   (try clear hb2)
   (try clear hk)
   (try clear hi)
   (try clear ho0)
   obtain ⟨Ao24, co24, eo24⟩ := Kd.R_slice HO479.out
   (first | subst eo24 | (injection eo24 with f1_ f2_ f3_; have f4_ := f1_.symm; have f5_ := f3_.symm; clear f1_ f2_ f3_; subst f4_; subst f5_))
   obtain ⟨Ao25, co25, eo25⟩ := Kd.R_slice HO490.out
   (first | subst eo25 | (injection eo25 with f1_ f2_ f3_; have f4_ := f1_.symm; have f5_ := f3_.symm; clear f1_ f2_ f3_; subst f4_; subst f5_))
   refine hK.out _ _ ⟨zQ BK474 0, zQ BK474 1, zQ BK474 2, zQ BK474 3, zQ BK474 4, zQ BK474 5, zQ BK474 6, zQ BK474 7, zQ BK474 8⟩ (fun hHeld => ?_)
   clear hK K
   refine zN ?_
   refine one_ (i := 4) (N := some 24) (zb 6 31) rfl rfl (by kernel_rfl) (by decide) (fun K hK => ?_)
   refine goes_ Try.func11 (by kernel_rfl) rfl #[.slice Ao24 t477.length co24, .agg #[.string t480, .string t481, .int .i64 t482, .string t483, .int .i64 t484, .int .i64 t485, .int .i64 t486, .int .i64 t487, .slice Ao25 t488.length co25]] (by rfl) rfl rfl pA ?_
   with_reducible refine (spec_FitsLeaf.calls k _ _ t477 t480 t481 t482 t483 t484 t485 t486 t487 _ _ t488 t491 _ ?side1 ?side2 ?side3 ?side4 A13.out).mono ?_
   (case side1 => exact pC ((Kd.R_reads' HO479.out).2.2))
   (case side2 => exact (Kd.R_reads' HO479.out).2.1)
   (case side3 => exact pC ((Kd.R_reads' HO490.out).2.2))
   (case side4 => exact (Kd.R_reads' HO490.out).2.1)
   rintro e w26 ⟨rfl, hb⟩
   refine ⟨_, rfl, ?_⟩
   replace HO479 := Aside0.mk (Kd.R_below (pR HO479.out) hb)
   replace HO490 := Aside0.mk (Kd.R_below (pR HO490.out) hb)
   replace BK474 := zK BK474 hb
   replace HB := zW (pB1 HB.out GE474.out) hb
   (try clear hb)
   (try clear hb2)
   (try clear hk)
   (try clear hi)
   refine hK.out _ _ ⟨zQ BK474 0, zQ BK474 1, zQ BK474 2, zQ BK474 3, zQ BK474 4, zQ BK474 5, zQ BK474 6, zQ BK474 7, zQ BK474 8⟩ (fun hHeld => ?_)
   clear hK K
   refine zN ?_
   refine pure_ (i := 5) (N := some 6) (v := ?_) (a' := ?_) #[true, true, true, true, true, true] rfl rfl (by kernel_rfl) (fun _ _ _ h => h) (Or.inl ⟨by rfl, ?_⟩) ?_ ?_
   rotate_left
   · intro w'
     go_simp
     with_reducible rfl
   rotate_left
   · simp only [Act.put, List.setIfInBounds_toArray, List.set_cons_zero, List.set_cons_succ, i64_w, i32_w]
     rfl
   refine done_ (by kernel_rfl) ?_
   try go_wp2_with (first | ((with_reducible refine gate_callee (f := 12) rfl ?_); refine goesL_ (some 26) rfl rfl Try.func12 (by kernel_rfl) rfl #[.slice A0 l0.length c0] rfl pA ?_; (with_reducible refine (laws_toPointS.calls k _ _ l0 t492 _ ?side1 ?side2 A14.out).mono ?_); (case side1 => exact pC (Kd.C_below HR0.out HB.out)); (case side2 => exact HC0.out); rintro e w27 ⟨v493, rfl, ho0, hb⟩; refine ⟨_, rfl, ?_⟩; have HO494 := Aside0.mk (Kd.R_lower (Kd.R_new' ho0 (Kd.R_lt (pR HO479.out))) (below_size (pB1 HB.out GE474.out))); replace HO479 := Aside0.mk (Kd.R_elder' (pR HO479.out) (Kd.R_base ho0) hb); replace HO490 := Aside0.mk (Kd.R_below (pR HO490.out) hb); replace BK474 := zK BK474 hb; replace HB := zW (pB1 HB.out GE474.out) hb; (try clear hb); (try clear hb2); (try clear hk); (try clear hi); (try clear ho0); obtain ⟨hcz28_0, hfz28_0, hcz28_1, hfz28_1, hcz28_2, hfz28_2, hcz28_3, hfz28_3, hcz28_4, hfz28_4, hcz28_5, hfz28_5, hcz28_6, hfz28_6, hcz28_7, hfz28_7, hcz28_8, hfz28_8⟩ := zw9 BK474) | ((with_reducible refine gate_callee (f := 13) rfl ?_); refine goesL_ (some 28) rfl rfl Try.func13 (by kernel_rfl) rfl #[.agg #[.string a1_0, .string a1_1, .int .i64 a1_2, .string a1_3, .int .i64 a1_4, .int .i64 a1_5, .int .i64 a1_6, .int .i64 a1_7, .slice A1_8 l1_8.length c1_8]] rfl pA ?_; (with_reducible refine (laws_toLeaf.calls k a1_0 a1_1 a1_2 a1_3 a1_4 a1_5 a1_6 a1_7 _ _ l1_8 t495 t496 t497 t498 t499 t500 t501 t502 t503 _ ?side1 ?side2 A15.out).mono ?_); (case side1 => exact pC (Kd.C_below HR1_8.out HB.out)); (case side2 => exact HC1_8.out); rintro e w29 ⟨v504, rfl, ho0, hb⟩; refine ⟨_, rfl, ?_⟩; have HO505 := Aside0.mk (Kd.R_lower (Kd.R_new' ho0 (Kd.R_lt (pR HO490.out))) (below_size (pB1 HB.out GE474.out))); replace HO479 := Aside0.mk (Kd.R_below (pR HO479.out) hb); replace HO490 := Aside0.mk (Kd.R_elder' (pR HO490.out) (Kd.R_base ho0) hb); replace HO494 := Aside0.mk (Kd.R_below (pR HO494.out) hb); replace BK474 := zK BK474 hb; replace HB := zW (pB1 HB.out GE474.out) hb; (try clear hb); (try clear hb2); (try clear hk); (try clear hi); (try clear ho0)) | ((with_reducible refine gate_dst (N := 8) rfl ?_); refine zB 8 #[.string (⟨#[]⟩ : ByteArray), .string (⟨#[]⟩ : ByteArray), .int .i64 0, .string (⟨#[]⟩ : ByteArray), .int .i64 0, .int .i64 0, .int .i64 0, .int .i64 0, .slice none 0 0] 36 ?_; intro gb506 hg w30 hbox hb; have BK506 := Aside0.mk (hbox); have GW506 := zS (pB1 HB.out GE474.out) hg; have GE506 := zS (pB1 HB.out GE474.out) hg; have NB474_506 := zL BK474 hg; have NB506_474 := zM BK474 hg; replace HO479 := Aside0.mk (Kd.R_below (pR HO479.out) hb); replace HO490 := Aside0.mk (Kd.R_below (pR HO490.out) hb); replace HO494 := Aside0.mk (Kd.R_below (pR HO494.out) hb); replace HO505 := Aside0.mk (Kd.R_below (pR HO505.out) hb); replace BK474 := zK BK474 hb; replace HB := zW (pB1 HB.out GE474.out) hb; clear hb hbox hg; have hnb31 := NB506_474.out; have hnc31 := NB474_506.out; obtain ⟨hcz32_0, hfz32_0, hcz32_1, hfz32_1, hcz32_2, hfz32_2, hcz32_3, hfz32_3, hcz32_4, hfz32_4, hcz32_5, hfz32_5, hcz32_6, hfz32_6, hcz32_7, hfz32_7, hcz32_8, hfz32_8⟩ := zw9 BK506; obtain ⟨Ao33, co33, eo33⟩ := Kd.R_slice HO505.out; subst eo33; obtain ⟨Ao34, co34, eo34⟩ := Kd.R_slice HO494.out; subst eo34) | ((with_reducible refine gate_callee (f := 14) rfl ?_); refine goesL_ (some 31) rfl rfl Try.func14 (by kernel_rfl) rfl #[.slice Ao34 t492.length co34, .agg #[.string t495, .string t496, .int .i64 t497, .string t498, .int .i64 t499, .int .i64 t500, .int .i64 t501, .int .i64 t502, .slice Ao33 t503.length co33]] rfl pA ?_; (with_reducible refine (impl_FitsLeaf.calls k _ _ t492 t495 t496 t497 t498 t499 t500 t501 t502 _ _ t503 t507 _ ?side1 ?side2 ?side3 ?side4 A16.out).mono ?_); (case side1 => refine (Kd.R_reads' (e := 91) (base := w.heap.size) (ok := fun k_ => (True ∧ some k_ ≠ (.slice Ao24 t477.length co24 : Value).ownBlock)) (n := t492.length) (c := co34) ?_).2.2; exact (by (with_reducible repeat (first | apply Kd.R_alloc | apply Kd.R_drewN | apply Kd.R_drew)); exact (Kd.R_mono (Kd.R_far (p := ⟨gb506, 8, none⟩) (Kd.R_far (p := ⟨gb506, 7, none⟩) (Kd.R_far (p := ⟨gb506, 6, none⟩) (Kd.R_far (p := ⟨gb506, 5, none⟩) (Kd.R_far (p := ⟨gb506, 4, none⟩) (Kd.R_far (p := ⟨gb506, 3, none⟩) (Kd.R_far (p := ⟨gb506, 2, none⟩) (Kd.R_far (p := ⟨gb506, 1, none⟩) (Kd.R_far (p := ⟨gb506, 0, none⟩) (Kd.R_types HO494.out BK506.out (by decide)) (fun _ hk => hk.2) (.string t495)) (fun _ hk => hk.2) (.string t496)) (fun _ hk => hk.2) (.int .i64 t497)) (fun _ hk => hk.2) (.string t498)) (fun _ hk => hk.2) (.int .i64 t499)) (fun _ hk => hk.2) (.int .i64 t500)) (fun _ hk => hk.2) (.int .i64 t501)) (fun _ hk => hk.2) (.int .i64 t502)) (fun _ hk => hk.2) (.slice Ao33 t503.length co33)) (fun _ h_ => h_.1)))); (case side2 => exact (Kd.R_reads' HO494.out).2.1); (case side3 => refine (Kd.R_reads' (e := 103) (base := w.heap.size) (ok := fun k_ => (True ∧ some k_ ≠ (.slice Ao25 t488.length co25 : Value).ownBlock)) (n := t503.length) (c := co33) ?_).2.2; exact (by (with_reducible repeat (first | apply Kd.R_alloc | apply Kd.R_drewN | apply Kd.R_drew)); exact (Kd.R_mono (Kd.R_far (p := ⟨gb506, 8, none⟩) (Kd.R_far (p := ⟨gb506, 7, none⟩) (Kd.R_far (p := ⟨gb506, 6, none⟩) (Kd.R_far (p := ⟨gb506, 5, none⟩) (Kd.R_far (p := ⟨gb506, 4, none⟩) (Kd.R_far (p := ⟨gb506, 3, none⟩) (Kd.R_far (p := ⟨gb506, 2, none⟩) (Kd.R_far (p := ⟨gb506, 1, none⟩) (Kd.R_far (p := ⟨gb506, 0, none⟩) (Kd.R_types HO505.out BK506.out (by decide)) (fun _ hk => hk.2) (.string t495)) (fun _ hk => hk.2) (.string t496)) (fun _ hk => hk.2) (.int .i64 t497)) (fun _ hk => hk.2) (.string t498)) (fun _ hk => hk.2) (.int .i64 t499)) (fun _ hk => hk.2) (.int .i64 t500)) (fun _ hk => hk.2) (.int .i64 t501)) (fun _ hk => hk.2) (.int .i64 t502)) (fun _ hk => hk.2) (.slice Ao33 t503.length co33)) (fun _ h_ => h_.1)))); (case side4 => exact (Kd.R_reads' HO505.out).2.1); rintro e w35 ⟨rfl, hb⟩; refine ⟨_, rfl, ?_⟩; replace HO479 := Aside0.mk (Kd.R_below (by (with_reducible repeat (first | apply Kd.R_alloc | apply Kd.R_drewN | apply Kd.R_drew)); exact (Kd.R_mono (Kd.R_far (p := ⟨gb506, 8, none⟩) (Kd.R_far (p := ⟨gb506, 7, none⟩) (Kd.R_far (p := ⟨gb506, 6, none⟩) (Kd.R_far (p := ⟨gb506, 5, none⟩) (Kd.R_far (p := ⟨gb506, 4, none⟩) (Kd.R_far (p := ⟨gb506, 3, none⟩) (Kd.R_far (p := ⟨gb506, 2, none⟩) (Kd.R_far (p := ⟨gb506, 1, none⟩) (Kd.R_far (p := ⟨gb506, 0, none⟩) (Kd.R_types HO479.out BK506.out (by decide)) (fun _ hk => hk.2) (.string t495)) (fun _ hk => hk.2) (.string t496)) (fun _ hk => hk.2) (.int .i64 t497)) (fun _ hk => hk.2) (.string t498)) (fun _ hk => hk.2) (.int .i64 t499)) (fun _ hk => hk.2) (.int .i64 t500)) (fun _ hk => hk.2) (.int .i64 t501)) (fun _ hk => hk.2) (.int .i64 t502)) (fun _ hk => hk.2) (.slice Ao33 t503.length co33)) (fun _ h_ => h_.1))) hb); replace HO490 := Aside0.mk (Kd.R_below (by (with_reducible repeat (first | apply Kd.R_alloc | apply Kd.R_drewN | apply Kd.R_drew)); exact (Kd.R_mono (Kd.R_far (p := ⟨gb506, 8, none⟩) (Kd.R_far (p := ⟨gb506, 7, none⟩) (Kd.R_far (p := ⟨gb506, 6, none⟩) (Kd.R_far (p := ⟨gb506, 5, none⟩) (Kd.R_far (p := ⟨gb506, 4, none⟩) (Kd.R_far (p := ⟨gb506, 3, none⟩) (Kd.R_far (p := ⟨gb506, 2, none⟩) (Kd.R_far (p := ⟨gb506, 1, none⟩) (Kd.R_far (p := ⟨gb506, 0, none⟩) (Kd.R_types HO490.out BK506.out (by decide)) (fun _ hk => hk.2) (.string t495)) (fun _ hk => hk.2) (.string t496)) (fun _ hk => hk.2) (.int .i64 t497)) (fun _ hk => hk.2) (.string t498)) (fun _ hk => hk.2) (.int .i64 t499)) (fun _ hk => hk.2) (.int .i64 t500)) (fun _ hk => hk.2) (.int .i64 t501)) (fun _ hk => hk.2) (.int .i64 t502)) (fun _ hk => hk.2) (.slice Ao33 t503.length co33)) (fun _ h_ => h_.1))) hb); replace HO494 := Aside0.mk (Kd.R_below (by (with_reducible repeat (first | apply Kd.R_alloc | apply Kd.R_drewN | apply Kd.R_drew)); exact (Kd.R_mono (Kd.R_far (p := ⟨gb506, 8, none⟩) (Kd.R_far (p := ⟨gb506, 7, none⟩) (Kd.R_far (p := ⟨gb506, 6, none⟩) (Kd.R_far (p := ⟨gb506, 5, none⟩) (Kd.R_far (p := ⟨gb506, 4, none⟩) (Kd.R_far (p := ⟨gb506, 3, none⟩) (Kd.R_far (p := ⟨gb506, 2, none⟩) (Kd.R_far (p := ⟨gb506, 1, none⟩) (Kd.R_far (p := ⟨gb506, 0, none⟩) (Kd.R_types HO494.out BK506.out (by decide)) (fun _ hk => hk.2) (.string t495)) (fun _ hk => hk.2) (.string t496)) (fun _ hk => hk.2) (.int .i64 t497)) (fun _ hk => hk.2) (.string t498)) (fun _ hk => hk.2) (.int .i64 t499)) (fun _ hk => hk.2) (.int .i64 t500)) (fun _ hk => hk.2) (.int .i64 t501)) (fun _ hk => hk.2) (.int .i64 t502)) (fun _ hk => hk.2) (.slice Ao33 t503.length co33)) (fun _ h_ => h_.1))) hb); replace HO505 := Aside0.mk (Kd.R_below (by (with_reducible repeat (first | apply Kd.R_alloc | apply Kd.R_drewN | apply Kd.R_drew)); exact (Kd.R_mono (Kd.R_far (p := ⟨gb506, 8, none⟩) (Kd.R_far (p := ⟨gb506, 7, none⟩) (Kd.R_far (p := ⟨gb506, 6, none⟩) (Kd.R_far (p := ⟨gb506, 5, none⟩) (Kd.R_far (p := ⟨gb506, 4, none⟩) (Kd.R_far (p := ⟨gb506, 3, none⟩) (Kd.R_far (p := ⟨gb506, 2, none⟩) (Kd.R_far (p := ⟨gb506, 1, none⟩) (Kd.R_far (p := ⟨gb506, 0, none⟩) (Kd.R_types HO505.out BK506.out (by decide)) (fun _ hk => hk.2) (.string t495)) (fun _ hk => hk.2) (.string t496)) (fun _ hk => hk.2) (.int .i64 t497)) (fun _ hk => hk.2) (.string t498)) (fun _ hk => hk.2) (.int .i64 t499)) (fun _ hk => hk.2) (.int .i64 t500)) (fun _ hk => hk.2) (.int .i64 t501)) (fun _ hk => hk.2) (.int .i64 t502)) (fun _ hk => hk.2) (.slice Ao33 t503.length co33)) (fun _ h_ => h_.1))) hb); replace BK474 := Aside0.mk (blk_below (g := gb474) (o := .cells #[.string a1_0, .string a1_1, .int .i64 a1_2, .string a1_3, .int .i64 a1_4, .int .i64 a1_5, .int .i64 a1_6, .int .i64 a1_7, .slice A1_8 l1_8.length c1_8] 27 (0, 0)) (by refine zf ?_ NB474_506; refine zf ?_ NB474_506; refine zf ?_ NB474_506; refine zf ?_ NB474_506; refine zf ?_ NB474_506; refine zf ?_ NB474_506; refine zf ?_ NB474_506; refine zf ?_ NB474_506; refine zf ?_ NB474_506; exact pK BK474.out) hb); replace BK506 := Aside0.mk (blk_below (g := gb506) (o := .cells #[.string t495, .string t496, .int .i64 t497, .string t498, .int .i64 t499, .int .i64 t500, .int .i64 t501, .int .i64 t502, .slice Ao33 t503.length co33] 36 (0, 0)) (by refine zg #[.string t495, .string t496, .int .i64 t497, .string t498, .int .i64 t499, .int .i64 t500, .int .i64 t501, .int .i64 t502, .slice none 0 0] 8 ?_; refine zg #[.string t495, .string t496, .int .i64 t497, .string t498, .int .i64 t499, .int .i64 t500, .int .i64 t501, .int .i64 0, .slice none 0 0] 7 ?_; refine zg #[.string t495, .string t496, .int .i64 t497, .string t498, .int .i64 t499, .int .i64 t500, .int .i64 0, .int .i64 0, .slice none 0 0] 6 ?_; refine zg #[.string t495, .string t496, .int .i64 t497, .string t498, .int .i64 t499, .int .i64 0, .int .i64 0, .int .i64 0, .slice none 0 0] 5 ?_; refine zg #[.string t495, .string t496, .int .i64 t497, .string t498, .int .i64 0, .int .i64 0, .int .i64 0, .int .i64 0, .slice none 0 0] 4 ?_; refine zg #[.string t495, .string t496, .int .i64 t497, .string (⟨#[]⟩ : ByteArray), .int .i64 0, .int .i64 0, .int .i64 0, .int .i64 0, .slice none 0 0] 3 ?_; refine zg #[.string t495, .string t496, .int .i64 0, .string (⟨#[]⟩ : ByteArray), .int .i64 0, .int .i64 0, .int .i64 0, .int .i64 0, .slice none 0 0] 2 ?_; refine zg #[.string t495, .string (⟨#[]⟩ : ByteArray), .int .i64 0, .string (⟨#[]⟩ : ByteArray), .int .i64 0, .int .i64 0, .int .i64 0, .int .i64 0, .slice none 0 0] 1 ?_; refine zg #[.string (⟨#[]⟩ : ByteArray), .string (⟨#[]⟩ : ByteArray), .int .i64 0, .string (⟨#[]⟩ : ByteArray), .int .i64 0, .int .i64 0, .int .i64 0, .int .i64 0, .slice none 0 0] 0 ?_; exact pK BK506.out) hb); replace HB := zW (pB2 HB.out GE474.out GE506.out) hb; (try clear hb); (try clear hb2); (try clear hk); (try clear hi)))
   go_ret
   exact ⟨zE, pB2 HB.out GE474.out GE506.out⟩
 rw [if_neg c17] at H
 have c17b0 : (t507 != t491) = false := by simpa using c17
 (try (have c17b1 : decide (t507 = t491) = true := by simpa using c17))
 (try (have c17b2 : (t507 == t491) = true := by simpa using c17))
 clear c17
 replace H := Option.bind_eq_some_iff.mp H
 obtain ⟨t508, A360, H⟩ := H
 have A36 := Aside0.mk A360
 clear A360
 replace H := Option.bind_eq_some_iff.mp H
 obtain ⟨t511, A370, H⟩ := H
 have A37 := Aside0.mk A370
 clear A370
 by_cases c38 : t511 = true
 rotate_left
 · replace c38 := Bool.eq_false_iff.mpr c38
   subst c38
   have H1 : (some false) = some r := by rw [if_neg (show ¬ (false = true) by decide)] at H; exact H
   clear H
   have H := H1
   clear H1
   obtain rfl := Option.some.inj H
   go_enter Try.func3, Try.ntmps3
   try go_wp2_with (first | ((with_reducible refine gate_dst (N := 3) rfl ?_); refine zB 3 #[.string a1_0, .string a1_1, .int .i64 a1_2, .string a1_3, .int .i64 a1_4, .int .i64 a1_5, .int .i64 a1_6, .int .i64 a1_7, .slice A1_8 l1_8.length c1_8] 27 ?_; intro gb474 hg w92 hbox hb; have BK474 := Aside0.mk (hbox); have GW474 := zS (pB0 HB.out) hg; have GE474 := zS (pB0 HB.out) hg; replace HB := zW (pB0 HB.out) hb; clear hb hbox hg) | ((with_reducible refine gate_callee (f := 9) rfl ?_); refine goesL_ (some 12) rfl rfl Try.func9 (by kernel_rfl) rfl #[.slice A0 l0.length c0, .int .i64 1048576] rfl pA ?_; (with_reducible refine (laws_szPointS.calls _ _ l0 1048576 t475 _ ?side1 ?side2 A3.out).mono ?_); (case side1 => exact pC (Kd.C_below HR0.out HB.out)); (case side2 => exact HC0.out); rintro e w' ⟨rfl, ⟨nd, rfl⟩⟩; refine ⟨_, rfl, ?_⟩; (try (rw [drewN_self w92]; generalize hq_ : World.drewN w92 _ = w92; have n0_ : Aside0 (w92.heap[gb474]? = some (.cells #[.string a1_0, .string a1_1, .int .i64 a1_2, .string a1_3, .int .i64 a1_4, .int .i64 a1_5, .int .i64 a1_6, .int .i64 a1_7, .slice A1_8 l1_8.length c1_8] 27 (0, 0))) := ⟨by rw [← hq_]; exact (pK BK474.out)⟩; have n1_ : Aside0 (Below w.heap.size w w92) := ⟨by rw [← hq_]; exact (pB1 HB.out GE474.out)⟩; clear BK474 HB hq_; have BK474 := n0_; have HB := n1_; clear n0_ n1_)); (try (obtain ⟨hcq474_0, hfq474_0, hcq474_1, hfq474_1, hcq474_2, hfq474_2, hcq474_3, hfq474_3, hcq474_4, hfq474_4, hcq474_5, hfq474_5, hcq474_6, hfq474_6, hcq474_7, hfq474_7, hcq474_8, hfq474_8⟩ := zw9 BK474)); obtain ⟨hcz93_0, hfz93_0, hcz93_1, hfz93_1, hcz93_2, hfz93_2, hcz93_3, hfz93_3, hcz93_4, hfz93_4, hcz93_5, hfz93_5, hcz93_6, hfz93_6, hcz93_7, hfz93_7, hcz93_8, hfz93_8⟩ := zw9 BK474) | ((with_reducible refine gate_callee (f := 10) rfl ?_); refine goesL_ (some 17) rfl rfl Try.func10 (by kernel_rfl) rfl #[.agg #[.string a1_0, .string a1_1, .int .i64 a1_2, .string a1_3, .int .i64 a1_4, .int .i64 a1_5, .int .i64 a1_6, .int .i64 a1_7, .slice A1_8 l1_8.length c1_8], .int .i64 t475] rfl pA ?_; (with_reducible refine (laws_szLeaf.calls a1_0 a1_1 a1_2 a1_3 a1_4 a1_5 a1_6 a1_7 _ _ l1_8 t475 t476 _ ?side1 ?side2 A6.out).mono ?_); (case side1 => exact pC (Kd.C_below HR1_8.out HB.out)); (case side2 => exact HC1_8.out); rintro e w94 ⟨rfl, hb⟩; refine ⟨_, rfl, ?_⟩; replace BK474 := zK BK474 hb; replace HB := zW (pB1 HB.out GE474.out) hb; (try clear hb); (try clear hb2); (try clear hk); (try clear hi)))
   replace BK474 := Aside0.mk (blk_drew BK474.out)
   replace HB := Aside0.mk (below_drew1 HB.out)
   refine start_ (n := 6) (S := fun w' => w'.cell? ⟨gb474, 0, none⟩ = some (.string a1_0) ∧ w'.cell? ⟨gb474, 1, none⟩ = some (.string a1_1) ∧ w'.cell? ⟨gb474, 2, none⟩ = some (.int .i64 a1_2) ∧ w'.cell? ⟨gb474, 3, none⟩ = some (.string a1_3) ∧ w'.cell? ⟨gb474, 4, none⟩ = some (.int .i64 a1_4) ∧ w'.cell? ⟨gb474, 5, none⟩ = some (.int .i64 a1_5) ∧ w'.cell? ⟨gb474, 6, none⟩ = some (.int .i64 a1_6) ∧ w'.cell? ⟨gb474, 7, none⟩ = some (.int .i64 a1_7) ∧ w'.cell? ⟨gb474, 8, none⟩ = some (.slice A1_8 l1_8.length c1_8)) (ds := []) (Array.replicate 6 false) (by kernel_rfl) rfl rfl ⟨zQ BK474 0, zQ BK474 1, zQ BK474 2, zQ BK474 3, zQ BK474 4, zQ BK474 5, zQ BK474 6, zQ BK474 7, zQ BK474 8⟩ (fun hHeld => ?_)
   generalize w94.drew = w95 at BK474 HB hHeld ⊢
   refine pure_ (i := 0) (N := some 20) (v := ?_) (a' := ?_) #[true, false, false, false, false, false] rfl rfl (by kernel_rfl) (fun _ _ _ h => h) (Or.inl ⟨by rfl, ?_⟩) ?_ ?_
   rotate_left
   · intro w'
     go_simp
     with_reducible rfl
   rotate_left
   · simp only [Act.put, List.setIfInBounds_toArray, List.set_cons_zero, List.set_cons_succ, i64_w, i32_w]
     rfl
   refine take_ (i := 2) (N := some 22) (v := ?_) (a' := ?_) #[true, false, true, false, false, false] rfl rfl (by kernel_rfl) (fun _ _ _ h => h) (Or.inl ⟨by rfl, ?_⟩) hHeld ?_ ?_
   rotate_left
   · rintro w' ⟨s0, s1, s2, s3, s4, s5, s6, s7, s8⟩
     go_simp
     with_reducible rfl
   rotate_left
   · simp only [Act.put, List.setIfInBounds_toArray, List.set_cons_zero, List.set_cons_succ, i64_w, i32_w]
     rfl
   refine one_ (i := 1) (N := some 21) (zb 6 7) rfl rfl (by kernel_rfl) (by decide) (fun K hK => ?_)
   refine goes_ Try.func12 (by kernel_rfl) rfl #[.slice A0 l0.length c0] (by rfl) rfl rfl pA ?_
   with_reducible refine (laws_toPointS.calls k _ _ l0 t477 _ ?side1 ?side2 A11.out).mono ?_
   (case side1 => exact pC (Kd.C_below HR0.out HB.out))
   (case side2 => exact HC0.out)
   rintro e w96 ⟨v478, rfl, ho0, hb⟩
   refine ⟨_, rfl, ?_⟩
   have HO479 := Aside0.mk (Kd.R_lower ho0 (below_size (pB1 HB.out GE474.out)))
   replace BK474 := zK BK474 hb
   replace HB := zW (pB1 HB.out GE474.out) hb
   (try clear hb)
   (try clear hb2)
   (try clear hk)
   (try clear hi)
   (try clear ho0)
   refine hK.out _ _ ⟨zQ BK474 0, zQ BK474 1, zQ BK474 2, zQ BK474 3, zQ BK474 4, zQ BK474 5, zQ BK474 6, zQ BK474 7, zQ BK474 8⟩ (fun hHeld => ?_)
   clear hK K
   refine zN ?_
   refine one_ (i := 3) (N := some 23) (zb 6 15) rfl rfl (by kernel_rfl) (by decide) (fun K hK => ?_)
   refine goes_ Try.func13 (by kernel_rfl) rfl #[.agg #[.string a1_0, .string a1_1, .int .i64 a1_2, .string a1_3, .int .i64 a1_4, .int .i64 a1_5, .int .i64 a1_6, .int .i64 a1_7, .slice A1_8 l1_8.length c1_8]] (by rfl) rfl rfl pA ?_
   with_reducible refine (laws_toLeaf.calls k a1_0 a1_1 a1_2 a1_3 a1_4 a1_5 a1_6 a1_7 _ _ l1_8 t480 t481 t482 t483 t484 t485 t486 t487 t488 _ ?side1 ?side2 A12.out).mono ?_
   (case side1 => exact pC (Kd.C_below HR1_8.out HB.out))
   (case side2 => exact HC1_8.out)
   rintro e w97 ⟨v489, rfl, ho0, hb⟩
   refine ⟨_, rfl, ?_⟩
   have HO490 := Aside0.mk (Kd.R_lower ho0 (below_size (pB1 HB.out GE474.out)))
   replace HO479 := Aside0.mk (Kd.R_below (pR HO479.out) hb)
   replace BK474 := zK BK474 hb
   replace HB := zW (pB1 HB.out GE474.out) hb
   (try clear hb)
   (try clear hb2)
   (try clear hk)
   (try clear hi)
   (try clear ho0)
   obtain ⟨Ao98, co98, eo98⟩ := Kd.R_slice HO479.out
   (first | subst eo98 | (injection eo98 with f1_ f2_ f3_; have f4_ := f1_.symm; have f5_ := f3_.symm; clear f1_ f2_ f3_; subst f4_; subst f5_))
   obtain ⟨Ao99, co99, eo99⟩ := Kd.R_slice HO490.out
   (first | subst eo99 | (injection eo99 with f1_ f2_ f3_; have f4_ := f1_.symm; have f5_ := f3_.symm; clear f1_ f2_ f3_; subst f4_; subst f5_))
   refine hK.out _ _ ⟨zQ BK474 0, zQ BK474 1, zQ BK474 2, zQ BK474 3, zQ BK474 4, zQ BK474 5, zQ BK474 6, zQ BK474 7, zQ BK474 8⟩ (fun hHeld => ?_)
   clear hK K
   refine zN ?_
   refine one_ (i := 4) (N := some 24) (zb 6 31) rfl rfl (by kernel_rfl) (by decide) (fun K hK => ?_)
   refine goes_ Try.func11 (by kernel_rfl) rfl #[.slice Ao98 t477.length co98, .agg #[.string t480, .string t481, .int .i64 t482, .string t483, .int .i64 t484, .int .i64 t485, .int .i64 t486, .int .i64 t487, .slice Ao99 t488.length co99]] (by rfl) rfl rfl pA ?_
   with_reducible refine (spec_FitsLeaf.calls k _ _ t477 t480 t481 t482 t483 t484 t485 t486 t487 _ _ t488 t491 _ ?side1 ?side2 ?side3 ?side4 A13.out).mono ?_
   (case side1 => exact pC ((Kd.R_reads' HO479.out).2.2))
   (case side2 => exact (Kd.R_reads' HO479.out).2.1)
   (case side3 => exact pC ((Kd.R_reads' HO490.out).2.2))
   (case side4 => exact (Kd.R_reads' HO490.out).2.1)
   rintro e w100 ⟨rfl, hb⟩
   refine ⟨_, rfl, ?_⟩
   replace HO479 := Aside0.mk (Kd.R_below (pR HO479.out) hb)
   replace HO490 := Aside0.mk (Kd.R_below (pR HO490.out) hb)
   replace BK474 := zK BK474 hb
   replace HB := zW (pB1 HB.out GE474.out) hb
   (try clear hb)
   (try clear hb2)
   (try clear hk)
   (try clear hi)
   refine hK.out _ _ ⟨zQ BK474 0, zQ BK474 1, zQ BK474 2, zQ BK474 3, zQ BK474 4, zQ BK474 5, zQ BK474 6, zQ BK474 7, zQ BK474 8⟩ (fun hHeld => ?_)
   clear hK K
   refine zN ?_
   refine pure_ (i := 5) (N := some 6) (v := ?_) (a' := ?_) #[true, true, true, true, true, true] rfl rfl (by kernel_rfl) (fun _ _ _ h => h) (Or.inl ⟨by rfl, ?_⟩) ?_ ?_
   rotate_left
   · intro w'
     go_simp
     with_reducible rfl
   rotate_left
   · simp only [Act.put, List.setIfInBounds_toArray, List.set_cons_zero, List.set_cons_succ, i64_w, i32_w]
     rfl
   refine done_ (by kernel_rfl) ?_
   try go_wp2_with (first | ((with_reducible refine gate_callee (f := 12) rfl ?_); refine goesL_ (some 26) rfl rfl Try.func12 (by kernel_rfl) rfl #[.slice A0 l0.length c0] rfl pA ?_; (with_reducible refine (laws_toPointS.calls k _ _ l0 t492 _ ?side1 ?side2 A14.out).mono ?_); (case side1 => exact pC (Kd.C_below HR0.out HB.out)); (case side2 => exact HC0.out); rintro e w101 ⟨v493, rfl, ho0, hb⟩; refine ⟨_, rfl, ?_⟩; have HO494 := Aside0.mk (Kd.R_lower (Kd.R_new' ho0 (Kd.R_lt (pR HO479.out))) (below_size (pB1 HB.out GE474.out))); replace HO479 := Aside0.mk (Kd.R_elder' (pR HO479.out) (Kd.R_base ho0) hb); replace HO490 := Aside0.mk (Kd.R_below (pR HO490.out) hb); replace BK474 := zK BK474 hb; replace HB := zW (pB1 HB.out GE474.out) hb; (try clear hb); (try clear hb2); (try clear hk); (try clear hi); (try clear ho0); obtain ⟨hcz102_0, hfz102_0, hcz102_1, hfz102_1, hcz102_2, hfz102_2, hcz102_3, hfz102_3, hcz102_4, hfz102_4, hcz102_5, hfz102_5, hcz102_6, hfz102_6, hcz102_7, hfz102_7, hcz102_8, hfz102_8⟩ := zw9 BK474) | ((with_reducible refine gate_callee (f := 13) rfl ?_); refine goesL_ (some 28) rfl rfl Try.func13 (by kernel_rfl) rfl #[.agg #[.string a1_0, .string a1_1, .int .i64 a1_2, .string a1_3, .int .i64 a1_4, .int .i64 a1_5, .int .i64 a1_6, .int .i64 a1_7, .slice A1_8 l1_8.length c1_8]] rfl pA ?_; (with_reducible refine (laws_toLeaf.calls k a1_0 a1_1 a1_2 a1_3 a1_4 a1_5 a1_6 a1_7 _ _ l1_8 t495 t496 t497 t498 t499 t500 t501 t502 t503 _ ?side1 ?side2 A15.out).mono ?_); (case side1 => exact pC (Kd.C_below HR1_8.out HB.out)); (case side2 => exact HC1_8.out); rintro e w103 ⟨v504, rfl, ho0, hb⟩; refine ⟨_, rfl, ?_⟩; have HO505 := Aside0.mk (Kd.R_lower (Kd.R_new' ho0 (Kd.R_lt (pR HO490.out))) (below_size (pB1 HB.out GE474.out))); replace HO479 := Aside0.mk (Kd.R_below (pR HO479.out) hb); replace HO490 := Aside0.mk (Kd.R_elder' (pR HO490.out) (Kd.R_base ho0) hb); replace HO494 := Aside0.mk (Kd.R_below (pR HO494.out) hb); replace BK474 := zK BK474 hb; replace HB := zW (pB1 HB.out GE474.out) hb; (try clear hb); (try clear hb2); (try clear hk); (try clear hi); (try clear ho0)) | ((with_reducible refine gate_dst (N := 8) rfl ?_); refine zB 8 #[.string (⟨#[]⟩ : ByteArray), .string (⟨#[]⟩ : ByteArray), .int .i64 0, .string (⟨#[]⟩ : ByteArray), .int .i64 0, .int .i64 0, .int .i64 0, .int .i64 0, .slice none 0 0] 36 ?_; intro gb506 hg w104 hbox hb; have BK506 := Aside0.mk (hbox); have GW506 := zS (pB1 HB.out GE474.out) hg; have GE506 := zS (pB1 HB.out GE474.out) hg; have NB474_506 := zL BK474 hg; have NB506_474 := zM BK474 hg; replace HO479 := Aside0.mk (Kd.R_below (pR HO479.out) hb); replace HO490 := Aside0.mk (Kd.R_below (pR HO490.out) hb); replace HO494 := Aside0.mk (Kd.R_below (pR HO494.out) hb); replace HO505 := Aside0.mk (Kd.R_below (pR HO505.out) hb); replace BK474 := zK BK474 hb; replace HB := zW (pB1 HB.out GE474.out) hb; clear hb hbox hg; have hnb105 := NB506_474.out; have hnc105 := NB474_506.out; obtain ⟨hcz106_0, hfz106_0, hcz106_1, hfz106_1, hcz106_2, hfz106_2, hcz106_3, hfz106_3, hcz106_4, hfz106_4, hcz106_5, hfz106_5, hcz106_6, hfz106_6, hcz106_7, hfz106_7, hcz106_8, hfz106_8⟩ := zw9 BK506; obtain ⟨Ao107, co107, eo107⟩ := Kd.R_slice HO505.out; subst eo107; obtain ⟨Ao108, co108, eo108⟩ := Kd.R_slice HO494.out; subst eo108) | ((with_reducible refine gate_callee (f := 14) rfl ?_); refine goesL_ (some 31) rfl rfl Try.func14 (by kernel_rfl) rfl #[.slice Ao108 t492.length co108, .agg #[.string t495, .string t496, .int .i64 t497, .string t498, .int .i64 t499, .int .i64 t500, .int .i64 t501, .int .i64 t502, .slice Ao107 t503.length co107]] rfl pA ?_; (with_reducible refine (impl_FitsLeaf.calls k _ _ t492 t495 t496 t497 t498 t499 t500 t501 t502 _ _ t503 t507 _ ?side1 ?side2 ?side3 ?side4 A16.out).mono ?_); (case side1 => refine (Kd.R_reads' (e := 91) (base := w.heap.size) (ok := fun k_ => (True ∧ some k_ ≠ (.slice Ao98 t477.length co98 : Value).ownBlock)) (n := t492.length) (c := co108) ?_).2.2; exact (by (with_reducible repeat (first | apply Kd.R_alloc | apply Kd.R_drewN | apply Kd.R_drew)); exact (Kd.R_mono (Kd.R_far (p := ⟨gb506, 8, none⟩) (Kd.R_far (p := ⟨gb506, 7, none⟩) (Kd.R_far (p := ⟨gb506, 6, none⟩) (Kd.R_far (p := ⟨gb506, 5, none⟩) (Kd.R_far (p := ⟨gb506, 4, none⟩) (Kd.R_far (p := ⟨gb506, 3, none⟩) (Kd.R_far (p := ⟨gb506, 2, none⟩) (Kd.R_far (p := ⟨gb506, 1, none⟩) (Kd.R_far (p := ⟨gb506, 0, none⟩) (Kd.R_types HO494.out BK506.out (by decide)) (fun _ hk => hk.2) (.string t495)) (fun _ hk => hk.2) (.string t496)) (fun _ hk => hk.2) (.int .i64 t497)) (fun _ hk => hk.2) (.string t498)) (fun _ hk => hk.2) (.int .i64 t499)) (fun _ hk => hk.2) (.int .i64 t500)) (fun _ hk => hk.2) (.int .i64 t501)) (fun _ hk => hk.2) (.int .i64 t502)) (fun _ hk => hk.2) (.slice Ao107 t503.length co107)) (fun _ h_ => h_.1)))); (case side2 => exact (Kd.R_reads' HO494.out).2.1); (case side3 => refine (Kd.R_reads' (e := 103) (base := w.heap.size) (ok := fun k_ => (True ∧ some k_ ≠ (.slice Ao99 t488.length co99 : Value).ownBlock)) (n := t503.length) (c := co107) ?_).2.2; exact (by (with_reducible repeat (first | apply Kd.R_alloc | apply Kd.R_drewN | apply Kd.R_drew)); exact (Kd.R_mono (Kd.R_far (p := ⟨gb506, 8, none⟩) (Kd.R_far (p := ⟨gb506, 7, none⟩) (Kd.R_far (p := ⟨gb506, 6, none⟩) (Kd.R_far (p := ⟨gb506, 5, none⟩) (Kd.R_far (p := ⟨gb506, 4, none⟩) (Kd.R_far (p := ⟨gb506, 3, none⟩) (Kd.R_far (p := ⟨gb506, 2, none⟩) (Kd.R_far (p := ⟨gb506, 1, none⟩) (Kd.R_far (p := ⟨gb506, 0, none⟩) (Kd.R_types HO505.out BK506.out (by decide)) (fun _ hk => hk.2) (.string t495)) (fun _ hk => hk.2) (.string t496)) (fun _ hk => hk.2) (.int .i64 t497)) (fun _ hk => hk.2) (.string t498)) (fun _ hk => hk.2) (.int .i64 t499)) (fun _ hk => hk.2) (.int .i64 t500)) (fun _ hk => hk.2) (.int .i64 t501)) (fun _ hk => hk.2) (.int .i64 t502)) (fun _ hk => hk.2) (.slice Ao107 t503.length co107)) (fun _ h_ => h_.1)))); (case side4 => exact (Kd.R_reads' HO505.out).2.1); rintro e w109 ⟨rfl, hb⟩; refine ⟨_, rfl, ?_⟩; replace HO479 := Aside0.mk (Kd.R_below (by (with_reducible repeat (first | apply Kd.R_alloc | apply Kd.R_drewN | apply Kd.R_drew)); exact (Kd.R_mono (Kd.R_far (p := ⟨gb506, 8, none⟩) (Kd.R_far (p := ⟨gb506, 7, none⟩) (Kd.R_far (p := ⟨gb506, 6, none⟩) (Kd.R_far (p := ⟨gb506, 5, none⟩) (Kd.R_far (p := ⟨gb506, 4, none⟩) (Kd.R_far (p := ⟨gb506, 3, none⟩) (Kd.R_far (p := ⟨gb506, 2, none⟩) (Kd.R_far (p := ⟨gb506, 1, none⟩) (Kd.R_far (p := ⟨gb506, 0, none⟩) (Kd.R_types HO479.out BK506.out (by decide)) (fun _ hk => hk.2) (.string t495)) (fun _ hk => hk.2) (.string t496)) (fun _ hk => hk.2) (.int .i64 t497)) (fun _ hk => hk.2) (.string t498)) (fun _ hk => hk.2) (.int .i64 t499)) (fun _ hk => hk.2) (.int .i64 t500)) (fun _ hk => hk.2) (.int .i64 t501)) (fun _ hk => hk.2) (.int .i64 t502)) (fun _ hk => hk.2) (.slice Ao107 t503.length co107)) (fun _ h_ => h_.1))) hb); replace HO490 := Aside0.mk (Kd.R_below (by (with_reducible repeat (first | apply Kd.R_alloc | apply Kd.R_drewN | apply Kd.R_drew)); exact (Kd.R_mono (Kd.R_far (p := ⟨gb506, 8, none⟩) (Kd.R_far (p := ⟨gb506, 7, none⟩) (Kd.R_far (p := ⟨gb506, 6, none⟩) (Kd.R_far (p := ⟨gb506, 5, none⟩) (Kd.R_far (p := ⟨gb506, 4, none⟩) (Kd.R_far (p := ⟨gb506, 3, none⟩) (Kd.R_far (p := ⟨gb506, 2, none⟩) (Kd.R_far (p := ⟨gb506, 1, none⟩) (Kd.R_far (p := ⟨gb506, 0, none⟩) (Kd.R_types HO490.out BK506.out (by decide)) (fun _ hk => hk.2) (.string t495)) (fun _ hk => hk.2) (.string t496)) (fun _ hk => hk.2) (.int .i64 t497)) (fun _ hk => hk.2) (.string t498)) (fun _ hk => hk.2) (.int .i64 t499)) (fun _ hk => hk.2) (.int .i64 t500)) (fun _ hk => hk.2) (.int .i64 t501)) (fun _ hk => hk.2) (.int .i64 t502)) (fun _ hk => hk.2) (.slice Ao107 t503.length co107)) (fun _ h_ => h_.1))) hb); replace HO494 := Aside0.mk (Kd.R_below (by (with_reducible repeat (first | apply Kd.R_alloc | apply Kd.R_drewN | apply Kd.R_drew)); exact (Kd.R_mono (Kd.R_far (p := ⟨gb506, 8, none⟩) (Kd.R_far (p := ⟨gb506, 7, none⟩) (Kd.R_far (p := ⟨gb506, 6, none⟩) (Kd.R_far (p := ⟨gb506, 5, none⟩) (Kd.R_far (p := ⟨gb506, 4, none⟩) (Kd.R_far (p := ⟨gb506, 3, none⟩) (Kd.R_far (p := ⟨gb506, 2, none⟩) (Kd.R_far (p := ⟨gb506, 1, none⟩) (Kd.R_far (p := ⟨gb506, 0, none⟩) (Kd.R_types HO494.out BK506.out (by decide)) (fun _ hk => hk.2) (.string t495)) (fun _ hk => hk.2) (.string t496)) (fun _ hk => hk.2) (.int .i64 t497)) (fun _ hk => hk.2) (.string t498)) (fun _ hk => hk.2) (.int .i64 t499)) (fun _ hk => hk.2) (.int .i64 t500)) (fun _ hk => hk.2) (.int .i64 t501)) (fun _ hk => hk.2) (.int .i64 t502)) (fun _ hk => hk.2) (.slice Ao107 t503.length co107)) (fun _ h_ => h_.1))) hb); replace HO505 := Aside0.mk (Kd.R_below (by (with_reducible repeat (first | apply Kd.R_alloc | apply Kd.R_drewN | apply Kd.R_drew)); exact (Kd.R_mono (Kd.R_far (p := ⟨gb506, 8, none⟩) (Kd.R_far (p := ⟨gb506, 7, none⟩) (Kd.R_far (p := ⟨gb506, 6, none⟩) (Kd.R_far (p := ⟨gb506, 5, none⟩) (Kd.R_far (p := ⟨gb506, 4, none⟩) (Kd.R_far (p := ⟨gb506, 3, none⟩) (Kd.R_far (p := ⟨gb506, 2, none⟩) (Kd.R_far (p := ⟨gb506, 1, none⟩) (Kd.R_far (p := ⟨gb506, 0, none⟩) (Kd.R_types HO505.out BK506.out (by decide)) (fun _ hk => hk.2) (.string t495)) (fun _ hk => hk.2) (.string t496)) (fun _ hk => hk.2) (.int .i64 t497)) (fun _ hk => hk.2) (.string t498)) (fun _ hk => hk.2) (.int .i64 t499)) (fun _ hk => hk.2) (.int .i64 t500)) (fun _ hk => hk.2) (.int .i64 t501)) (fun _ hk => hk.2) (.int .i64 t502)) (fun _ hk => hk.2) (.slice Ao107 t503.length co107)) (fun _ h_ => h_.1))) hb); replace BK474 := Aside0.mk (blk_below (g := gb474) (o := .cells #[.string a1_0, .string a1_1, .int .i64 a1_2, .string a1_3, .int .i64 a1_4, .int .i64 a1_5, .int .i64 a1_6, .int .i64 a1_7, .slice A1_8 l1_8.length c1_8] 27 (0, 0)) (by refine zf ?_ NB474_506; refine zf ?_ NB474_506; refine zf ?_ NB474_506; refine zf ?_ NB474_506; refine zf ?_ NB474_506; refine zf ?_ NB474_506; refine zf ?_ NB474_506; refine zf ?_ NB474_506; refine zf ?_ NB474_506; exact pK BK474.out) hb); replace BK506 := Aside0.mk (blk_below (g := gb506) (o := .cells #[.string t495, .string t496, .int .i64 t497, .string t498, .int .i64 t499, .int .i64 t500, .int .i64 t501, .int .i64 t502, .slice Ao107 t503.length co107] 36 (0, 0)) (by refine zg #[.string t495, .string t496, .int .i64 t497, .string t498, .int .i64 t499, .int .i64 t500, .int .i64 t501, .int .i64 t502, .slice none 0 0] 8 ?_; refine zg #[.string t495, .string t496, .int .i64 t497, .string t498, .int .i64 t499, .int .i64 t500, .int .i64 t501, .int .i64 0, .slice none 0 0] 7 ?_; refine zg #[.string t495, .string t496, .int .i64 t497, .string t498, .int .i64 t499, .int .i64 t500, .int .i64 0, .int .i64 0, .slice none 0 0] 6 ?_; refine zg #[.string t495, .string t496, .int .i64 t497, .string t498, .int .i64 t499, .int .i64 0, .int .i64 0, .int .i64 0, .slice none 0 0] 5 ?_; refine zg #[.string t495, .string t496, .int .i64 t497, .string t498, .int .i64 0, .int .i64 0, .int .i64 0, .int .i64 0, .slice none 0 0] 4 ?_; refine zg #[.string t495, .string t496, .int .i64 t497, .string (⟨#[]⟩ : ByteArray), .int .i64 0, .int .i64 0, .int .i64 0, .int .i64 0, .slice none 0 0] 3 ?_; refine zg #[.string t495, .string t496, .int .i64 0, .string (⟨#[]⟩ : ByteArray), .int .i64 0, .int .i64 0, .int .i64 0, .int .i64 0, .slice none 0 0] 2 ?_; refine zg #[.string t495, .string (⟨#[]⟩ : ByteArray), .int .i64 0, .string (⟨#[]⟩ : ByteArray), .int .i64 0, .int .i64 0, .int .i64 0, .int .i64 0, .slice none 0 0] 1 ?_; refine zg #[.string (⟨#[]⟩ : ByteArray), .string (⟨#[]⟩ : ByteArray), .int .i64 0, .string (⟨#[]⟩ : ByteArray), .int .i64 0, .int .i64 0, .int .i64 0, .int .i64 0, .slice none 0 0] 0 ?_; exact pK BK506.out) hb); replace HB := zW (pB2 HB.out GE474.out GE506.out) hb; (try clear hb); (try clear hb2); (try clear hk); (try clear hi)) | ((with_reducible refine gate_callee (f := 12) rfl ?_); refine goesL_ (some 37) rfl rfl Try.func12 (by kernel_rfl) rfl #[.slice A0 l0.length c0] rfl pA ?_; (with_reducible refine (laws_toPointS.calls k _ _ l0 t508 _ ?side1 ?side2 A36.out).mono ?_); (case side1 => exact pC (Kd.C_below HR0.out HB.out)); (case side2 => exact HC0.out); rintro e w110 ⟨v509, rfl, ho0, hb⟩; refine ⟨_, rfl, ?_⟩; have HO510 := Aside0.mk (Kd.R_lower (Kd.R_new' (Kd.R_new' ho0 (Kd.R_lt (pR HO479.out))) (Kd.R_lt (pR HO494.out))) (below_size (pB2 HB.out GE474.out GE506.out))); replace HO479 := Aside0.mk (Kd.R_elder' (pR HO479.out) (Kd.R_base ho0) hb); replace HO490 := Aside0.mk (Kd.R_below (pR HO490.out) hb); replace HO494 := Aside0.mk (Kd.R_elder' (pR HO494.out) (Kd.R_base ho0) hb); replace HO505 := Aside0.mk (Kd.R_below (pR HO505.out) hb); replace BK474 := zK BK474 hb; replace BK506 := zK BK506 hb; replace HB := zW (pB2 HB.out GE474.out GE506.out) hb; (try clear hb); (try clear hb2); (try clear hk); (try clear hi); (try clear ho0); obtain ⟨Ao111, co111, eo111⟩ := Kd.R_slice HO510.out; subst eo111) | ((with_reducible refine gate_callee (f := 15) rfl ?_); refine goesL_ (some 38) rfl rfl Try.func15 (by kernel_rfl) rfl #[.slice Ao108 t492.length co108, .slice Ao111 t508.length co111] rfl pA ?_; (with_reducible refine (laws_eqPointS.calls k _ _ t492 _ _ t508 false _ ?side1 ?side2 ?side3 ?side4 A37.out).mono ?_); (case side1 => exact pC ((Kd.R_reads' HO494.out).2.2)); (case side2 => exact (Kd.R_reads' HO494.out).2.1); (case side3 => exact pC ((Kd.R_reads' HO510.out).2.2)); (case side4 => exact (Kd.R_reads' HO510.out).2.1); rintro e w112 ⟨rfl, hb⟩; refine ⟨_, rfl, ?_⟩; replace HO479 := Aside0.mk (Kd.R_below (pR HO479.out) hb); replace HO490 := Aside0.mk (Kd.R_below (pR HO490.out) hb); replace HO494 := Aside0.mk (Kd.R_below (pR HO494.out) hb); replace HO505 := Aside0.mk (Kd.R_below (pR HO505.out) hb); replace HO510 := Aside0.mk (Kd.R_below (pR HO510.out) hb); replace BK474 := zK BK474 hb; replace BK506 := zK BK506 hb; replace HB := zW (pB2 HB.out GE474.out GE506.out) hb; (try clear hb); (try clear hb2); (try clear hk); (try clear hi)))
   go_ret
   exact ⟨zE, pB2 HB.out GE474.out GE506.out⟩
 subst c38
 have H1 : ((laws_toLeaf.f k a1_0 a1_1 a1_2 a1_3 a1_4 a1_5 a1_6 a1_7 l1_8).bind fun bt512 => ((laws_eqLeaf.f k t495 t496 t497 t498 t499 t500 t501 t502 t503 bt512.1 bt512.2.1 bt512.2.2.1 bt512.2.2.2.1 bt512.2.2.2.2.1 bt512.2.2.2.2.2.1 bt512.2.2.2.2.2.2.1 bt512.2.2.2.2.2.2.2.1 bt512.2.2.2.2.2.2.2.2).bind fun t523 => (if t523 = true then (some true) else (some false)))) = some r := by rw [if_pos rfl] at H; exact H
 clear H
 have H := H1
 clear H1
 replace H := Option.bind_eq_some_iff.mp H
 obtain ⟨⟨t512, t513, t514, t515, t516, t517, t518, t519, t520⟩, A390, H⟩ := H
 replace H : ((laws_eqLeaf.f k t495 t496 t497 t498 t499 t500 t501 t502 t503 t512 t513 t514 t515 t516 t517 t518 t519 t520).bind fun t523 => (if t523 = true then (some true) else (some false))) = some r := H
 have A39 := Aside0.mk A390
 clear A390
 replace H := Option.bind_eq_some_iff.mp H
 obtain ⟨t523, A400, H⟩ := H
 have A40 := Aside0.mk A400
 clear A400
 by_cases c41 : t523 = true
 · subst c41
   have H1 : (some true) = some r := by rw [if_pos rfl] at H; exact H
   clear H
   have H := H1
   clear H1
   obtain rfl := Option.some.inj H
   go_enter Try.func3, Try.ntmps3
   try go_wp2_with (first | ((with_reducible refine gate_dst (N := 3) rfl ?_); refine zB 3 #[.string a1_0, .string a1_1, .int .i64 a1_2, .string a1_3, .int .i64 a1_4, .int .i64 a1_5, .int .i64 a1_6, .int .i64 a1_7, .slice A1_8 l1_8.length c1_8] 27 ?_; intro gb474 hg w42 hbox hb; have BK474 := Aside0.mk (hbox); have GW474 := zS (pB0 HB.out) hg; have GE474 := zS (pB0 HB.out) hg; replace HB := zW (pB0 HB.out) hb; clear hb hbox hg) | ((with_reducible refine gate_callee (f := 9) rfl ?_); refine goesL_ (some 12) rfl rfl Try.func9 (by kernel_rfl) rfl #[.slice A0 l0.length c0, .int .i64 1048576] rfl pA ?_; (with_reducible refine (laws_szPointS.calls _ _ l0 1048576 t475 _ ?side1 ?side2 A3.out).mono ?_); (case side1 => exact pC (Kd.C_below HR0.out HB.out)); (case side2 => exact HC0.out); rintro e w' ⟨rfl, ⟨nd, rfl⟩⟩; refine ⟨_, rfl, ?_⟩; (try (rw [drewN_self w42]; generalize hq_ : World.drewN w42 _ = w42; have n0_ : Aside0 (w42.heap[gb474]? = some (.cells #[.string a1_0, .string a1_1, .int .i64 a1_2, .string a1_3, .int .i64 a1_4, .int .i64 a1_5, .int .i64 a1_6, .int .i64 a1_7, .slice A1_8 l1_8.length c1_8] 27 (0, 0))) := ⟨by rw [← hq_]; exact (pK BK474.out)⟩; have n1_ : Aside0 (Below w.heap.size w w42) := ⟨by rw [← hq_]; exact (pB1 HB.out GE474.out)⟩; clear BK474 HB hq_; have BK474 := n0_; have HB := n1_; clear n0_ n1_)); (try (obtain ⟨hcq474_0, hfq474_0, hcq474_1, hfq474_1, hcq474_2, hfq474_2, hcq474_3, hfq474_3, hcq474_4, hfq474_4, hcq474_5, hfq474_5, hcq474_6, hfq474_6, hcq474_7, hfq474_7, hcq474_8, hfq474_8⟩ := zw9 BK474)); obtain ⟨hcz43_0, hfz43_0, hcz43_1, hfz43_1, hcz43_2, hfz43_2, hcz43_3, hfz43_3, hcz43_4, hfz43_4, hcz43_5, hfz43_5, hcz43_6, hfz43_6, hcz43_7, hfz43_7, hcz43_8, hfz43_8⟩ := zw9 BK474) | ((with_reducible refine gate_callee (f := 10) rfl ?_); refine goesL_ (some 17) rfl rfl Try.func10 (by kernel_rfl) rfl #[.agg #[.string a1_0, .string a1_1, .int .i64 a1_2, .string a1_3, .int .i64 a1_4, .int .i64 a1_5, .int .i64 a1_6, .int .i64 a1_7, .slice A1_8 l1_8.length c1_8], .int .i64 t475] rfl pA ?_; (with_reducible refine (laws_szLeaf.calls a1_0 a1_1 a1_2 a1_3 a1_4 a1_5 a1_6 a1_7 _ _ l1_8 t475 t476 _ ?side1 ?side2 A6.out).mono ?_); (case side1 => exact pC (Kd.C_below HR1_8.out HB.out)); (case side2 => exact HC1_8.out); rintro e w44 ⟨rfl, hb⟩; refine ⟨_, rfl, ?_⟩; replace BK474 := zK BK474 hb; replace HB := zW (pB1 HB.out GE474.out) hb; (try clear hb); (try clear hb2); (try clear hk); (try clear hi)))
   replace BK474 := Aside0.mk (blk_drew BK474.out)
   replace HB := Aside0.mk (below_drew1 HB.out)
   refine start_ (n := 6) (S := fun w' => w'.cell? ⟨gb474, 0, none⟩ = some (.string a1_0) ∧ w'.cell? ⟨gb474, 1, none⟩ = some (.string a1_1) ∧ w'.cell? ⟨gb474, 2, none⟩ = some (.int .i64 a1_2) ∧ w'.cell? ⟨gb474, 3, none⟩ = some (.string a1_3) ∧ w'.cell? ⟨gb474, 4, none⟩ = some (.int .i64 a1_4) ∧ w'.cell? ⟨gb474, 5, none⟩ = some (.int .i64 a1_5) ∧ w'.cell? ⟨gb474, 6, none⟩ = some (.int .i64 a1_6) ∧ w'.cell? ⟨gb474, 7, none⟩ = some (.int .i64 a1_7) ∧ w'.cell? ⟨gb474, 8, none⟩ = some (.slice A1_8 l1_8.length c1_8)) (ds := []) (Array.replicate 6 false) (by kernel_rfl) rfl rfl ⟨zQ BK474 0, zQ BK474 1, zQ BK474 2, zQ BK474 3, zQ BK474 4, zQ BK474 5, zQ BK474 6, zQ BK474 7, zQ BK474 8⟩ (fun hHeld => ?_)
   generalize w44.drew = w45 at BK474 HB hHeld ⊢
   refine pure_ (i := 0) (N := some 20) (v := ?_) (a' := ?_) #[true, false, false, false, false, false] rfl rfl (by kernel_rfl) (fun _ _ _ h => h) (Or.inl ⟨by rfl, ?_⟩) ?_ ?_
   rotate_left
   · intro w'
     go_simp
     with_reducible rfl
   rotate_left
   · simp only [Act.put, List.setIfInBounds_toArray, List.set_cons_zero, List.set_cons_succ, i64_w, i32_w]
     rfl
   refine take_ (i := 2) (N := some 22) (v := ?_) (a' := ?_) #[true, false, true, false, false, false] rfl rfl (by kernel_rfl) (fun _ _ _ h => h) (Or.inl ⟨by rfl, ?_⟩) hHeld ?_ ?_
   rotate_left
   · rintro w' ⟨s0, s1, s2, s3, s4, s5, s6, s7, s8⟩
     go_simp
     with_reducible rfl
   rotate_left
   · simp only [Act.put, List.setIfInBounds_toArray, List.set_cons_zero, List.set_cons_succ, i64_w, i32_w]
     rfl
   refine one_ (i := 1) (N := some 21) (zb 6 7) rfl rfl (by kernel_rfl) (by decide) (fun K hK => ?_)
   refine goes_ Try.func12 (by kernel_rfl) rfl #[.slice A0 l0.length c0] (by rfl) rfl rfl pA ?_
   with_reducible refine (laws_toPointS.calls k _ _ l0 t477 _ ?side1 ?side2 A11.out).mono ?_
   (case side1 => exact pC (Kd.C_below HR0.out HB.out))
   (case side2 => exact HC0.out)
   rintro e w46 ⟨v478, rfl, ho0, hb⟩
   refine ⟨_, rfl, ?_⟩
   have HO479 := Aside0.mk (Kd.R_lower ho0 (below_size (pB1 HB.out GE474.out)))
   replace BK474 := zK BK474 hb
   replace HB := zW (pB1 HB.out GE474.out) hb
   (try clear hb)
   (try clear hb2)
   (try clear hk)
   (try clear hi)
   (try clear ho0)
   refine hK.out _ _ ⟨zQ BK474 0, zQ BK474 1, zQ BK474 2, zQ BK474 3, zQ BK474 4, zQ BK474 5, zQ BK474 6, zQ BK474 7, zQ BK474 8⟩ (fun hHeld => ?_)
   clear hK K
   refine zN ?_
   refine one_ (i := 3) (N := some 23) (zb 6 15) rfl rfl (by kernel_rfl) (by decide) (fun K hK => ?_)
   refine goes_ Try.func13 (by kernel_rfl) rfl #[.agg #[.string a1_0, .string a1_1, .int .i64 a1_2, .string a1_3, .int .i64 a1_4, .int .i64 a1_5, .int .i64 a1_6, .int .i64 a1_7, .slice A1_8 l1_8.length c1_8]] (by rfl) rfl rfl pA ?_
   with_reducible refine (laws_toLeaf.calls k a1_0 a1_1 a1_2 a1_3 a1_4 a1_5 a1_6 a1_7 _ _ l1_8 t480 t481 t482 t483 t484 t485 t486 t487 t488 _ ?side1 ?side2 A12.out).mono ?_
   (case side1 => exact pC (Kd.C_below HR1_8.out HB.out))
   (case side2 => exact HC1_8.out)
   rintro e w47 ⟨v489, rfl, ho0, hb⟩
   refine ⟨_, rfl, ?_⟩
   have HO490 := Aside0.mk (Kd.R_lower ho0 (below_size (pB1 HB.out GE474.out)))
   replace HO479 := Aside0.mk (Kd.R_below (pR HO479.out) hb)
   replace BK474 := zK BK474 hb
   replace HB := zW (pB1 HB.out GE474.out) hb
   (try clear hb)
   (try clear hb2)
   (try clear hk)
   (try clear hi)
   (try clear ho0)
   obtain ⟨Ao48, co48, eo48⟩ := Kd.R_slice HO479.out
   (first | subst eo48 | (injection eo48 with f1_ f2_ f3_; have f4_ := f1_.symm; have f5_ := f3_.symm; clear f1_ f2_ f3_; subst f4_; subst f5_))
   obtain ⟨Ao49, co49, eo49⟩ := Kd.R_slice HO490.out
   (first | subst eo49 | (injection eo49 with f1_ f2_ f3_; have f4_ := f1_.symm; have f5_ := f3_.symm; clear f1_ f2_ f3_; subst f4_; subst f5_))
   refine hK.out _ _ ⟨zQ BK474 0, zQ BK474 1, zQ BK474 2, zQ BK474 3, zQ BK474 4, zQ BK474 5, zQ BK474 6, zQ BK474 7, zQ BK474 8⟩ (fun hHeld => ?_)
   clear hK K
   refine zN ?_
   refine one_ (i := 4) (N := some 24) (zb 6 31) rfl rfl (by kernel_rfl) (by decide) (fun K hK => ?_)
   refine goes_ Try.func11 (by kernel_rfl) rfl #[.slice Ao48 t477.length co48, .agg #[.string t480, .string t481, .int .i64 t482, .string t483, .int .i64 t484, .int .i64 t485, .int .i64 t486, .int .i64 t487, .slice Ao49 t488.length co49]] (by rfl) rfl rfl pA ?_
   with_reducible refine (spec_FitsLeaf.calls k _ _ t477 t480 t481 t482 t483 t484 t485 t486 t487 _ _ t488 t491 _ ?side1 ?side2 ?side3 ?side4 A13.out).mono ?_
   (case side1 => exact pC ((Kd.R_reads' HO479.out).2.2))
   (case side2 => exact (Kd.R_reads' HO479.out).2.1)
   (case side3 => exact pC ((Kd.R_reads' HO490.out).2.2))
   (case side4 => exact (Kd.R_reads' HO490.out).2.1)
   rintro e w50 ⟨rfl, hb⟩
   refine ⟨_, rfl, ?_⟩
   replace HO479 := Aside0.mk (Kd.R_below (pR HO479.out) hb)
   replace HO490 := Aside0.mk (Kd.R_below (pR HO490.out) hb)
   replace BK474 := zK BK474 hb
   replace HB := zW (pB1 HB.out GE474.out) hb
   (try clear hb)
   (try clear hb2)
   (try clear hk)
   (try clear hi)
   refine hK.out _ _ ⟨zQ BK474 0, zQ BK474 1, zQ BK474 2, zQ BK474 3, zQ BK474 4, zQ BK474 5, zQ BK474 6, zQ BK474 7, zQ BK474 8⟩ (fun hHeld => ?_)
   clear hK K
   refine zN ?_
   refine pure_ (i := 5) (N := some 6) (v := ?_) (a' := ?_) #[true, true, true, true, true, true] rfl rfl (by kernel_rfl) (fun _ _ _ h => h) (Or.inl ⟨by rfl, ?_⟩) ?_ ?_
   rotate_left
   · intro w'
     go_simp
     with_reducible rfl
   rotate_left
   · simp only [Act.put, List.setIfInBounds_toArray, List.set_cons_zero, List.set_cons_succ, i64_w, i32_w]
     rfl
   refine done_ (by kernel_rfl) ?_
   try go_wp2_with (first | ((with_reducible refine gate_callee (f := 12) rfl ?_); refine goesL_ (some 26) rfl rfl Try.func12 (by kernel_rfl) rfl #[.slice A0 l0.length c0] rfl pA ?_; (with_reducible refine (laws_toPointS.calls k _ _ l0 t492 _ ?side1 ?side2 A14.out).mono ?_); (case side1 => exact pC (Kd.C_below HR0.out HB.out)); (case side2 => exact HC0.out); rintro e w51 ⟨v493, rfl, ho0, hb⟩; refine ⟨_, rfl, ?_⟩; have HO494 := Aside0.mk (Kd.R_lower (Kd.R_new' ho0 (Kd.R_lt (pR HO479.out))) (below_size (pB1 HB.out GE474.out))); replace HO479 := Aside0.mk (Kd.R_elder' (pR HO479.out) (Kd.R_base ho0) hb); replace HO490 := Aside0.mk (Kd.R_below (pR HO490.out) hb); replace BK474 := zK BK474 hb; replace HB := zW (pB1 HB.out GE474.out) hb; (try clear hb); (try clear hb2); (try clear hk); (try clear hi); (try clear ho0); obtain ⟨hcz52_0, hfz52_0, hcz52_1, hfz52_1, hcz52_2, hfz52_2, hcz52_3, hfz52_3, hcz52_4, hfz52_4, hcz52_5, hfz52_5, hcz52_6, hfz52_6, hcz52_7, hfz52_7, hcz52_8, hfz52_8⟩ := zw9 BK474) | ((with_reducible refine gate_callee (f := 13) rfl ?_); refine goesL_ (some 28) rfl rfl Try.func13 (by kernel_rfl) rfl #[.agg #[.string a1_0, .string a1_1, .int .i64 a1_2, .string a1_3, .int .i64 a1_4, .int .i64 a1_5, .int .i64 a1_6, .int .i64 a1_7, .slice A1_8 l1_8.length c1_8]] rfl pA ?_; (with_reducible refine (laws_toLeaf.calls k a1_0 a1_1 a1_2 a1_3 a1_4 a1_5 a1_6 a1_7 _ _ l1_8 t495 t496 t497 t498 t499 t500 t501 t502 t503 _ ?side1 ?side2 A15.out).mono ?_); (case side1 => exact pC (Kd.C_below HR1_8.out HB.out)); (case side2 => exact HC1_8.out); rintro e w53 ⟨v504, rfl, ho0, hb⟩; refine ⟨_, rfl, ?_⟩; have HO505 := Aside0.mk (Kd.R_lower (Kd.R_new' ho0 (Kd.R_lt (pR HO490.out))) (below_size (pB1 HB.out GE474.out))); replace HO479 := Aside0.mk (Kd.R_below (pR HO479.out) hb); replace HO490 := Aside0.mk (Kd.R_elder' (pR HO490.out) (Kd.R_base ho0) hb); replace HO494 := Aside0.mk (Kd.R_below (pR HO494.out) hb); replace BK474 := zK BK474 hb; replace HB := zW (pB1 HB.out GE474.out) hb; (try clear hb); (try clear hb2); (try clear hk); (try clear hi); (try clear ho0)) | ((with_reducible refine gate_dst (N := 8) rfl ?_); refine zB 8 #[.string (⟨#[]⟩ : ByteArray), .string (⟨#[]⟩ : ByteArray), .int .i64 0, .string (⟨#[]⟩ : ByteArray), .int .i64 0, .int .i64 0, .int .i64 0, .int .i64 0, .slice none 0 0] 36 ?_; intro gb506 hg w54 hbox hb; have BK506 := Aside0.mk (hbox); have GW506 := zS (pB1 HB.out GE474.out) hg; have GE506 := zS (pB1 HB.out GE474.out) hg; have NB474_506 := zL BK474 hg; have NB506_474 := zM BK474 hg; replace HO479 := Aside0.mk (Kd.R_below (pR HO479.out) hb); replace HO490 := Aside0.mk (Kd.R_below (pR HO490.out) hb); replace HO494 := Aside0.mk (Kd.R_below (pR HO494.out) hb); replace HO505 := Aside0.mk (Kd.R_below (pR HO505.out) hb); replace BK474 := zK BK474 hb; replace HB := zW (pB1 HB.out GE474.out) hb; clear hb hbox hg; have hnb55 := NB506_474.out; have hnc55 := NB474_506.out; obtain ⟨hcz56_0, hfz56_0, hcz56_1, hfz56_1, hcz56_2, hfz56_2, hcz56_3, hfz56_3, hcz56_4, hfz56_4, hcz56_5, hfz56_5, hcz56_6, hfz56_6, hcz56_7, hfz56_7, hcz56_8, hfz56_8⟩ := zw9 BK506; obtain ⟨Ao57, co57, eo57⟩ := Kd.R_slice HO505.out; subst eo57; obtain ⟨Ao58, co58, eo58⟩ := Kd.R_slice HO494.out; subst eo58) | ((with_reducible refine gate_callee (f := 14) rfl ?_); refine goesL_ (some 31) rfl rfl Try.func14 (by kernel_rfl) rfl #[.slice Ao58 t492.length co58, .agg #[.string t495, .string t496, .int .i64 t497, .string t498, .int .i64 t499, .int .i64 t500, .int .i64 t501, .int .i64 t502, .slice Ao57 t503.length co57]] rfl pA ?_; (with_reducible refine (impl_FitsLeaf.calls k _ _ t492 t495 t496 t497 t498 t499 t500 t501 t502 _ _ t503 t507 _ ?side1 ?side2 ?side3 ?side4 A16.out).mono ?_); (case side1 => refine (Kd.R_reads' (e := 91) (base := w.heap.size) (ok := fun k_ => (True ∧ some k_ ≠ (.slice Ao48 t477.length co48 : Value).ownBlock)) (n := t492.length) (c := co58) ?_).2.2; exact (by (with_reducible repeat (first | apply Kd.R_alloc | apply Kd.R_drewN | apply Kd.R_drew)); exact (Kd.R_mono (Kd.R_far (p := ⟨gb506, 8, none⟩) (Kd.R_far (p := ⟨gb506, 7, none⟩) (Kd.R_far (p := ⟨gb506, 6, none⟩) (Kd.R_far (p := ⟨gb506, 5, none⟩) (Kd.R_far (p := ⟨gb506, 4, none⟩) (Kd.R_far (p := ⟨gb506, 3, none⟩) (Kd.R_far (p := ⟨gb506, 2, none⟩) (Kd.R_far (p := ⟨gb506, 1, none⟩) (Kd.R_far (p := ⟨gb506, 0, none⟩) (Kd.R_types HO494.out BK506.out (by decide)) (fun _ hk => hk.2) (.string t495)) (fun _ hk => hk.2) (.string t496)) (fun _ hk => hk.2) (.int .i64 t497)) (fun _ hk => hk.2) (.string t498)) (fun _ hk => hk.2) (.int .i64 t499)) (fun _ hk => hk.2) (.int .i64 t500)) (fun _ hk => hk.2) (.int .i64 t501)) (fun _ hk => hk.2) (.int .i64 t502)) (fun _ hk => hk.2) (.slice Ao57 t503.length co57)) (fun _ h_ => h_.1)))); (case side2 => exact (Kd.R_reads' HO494.out).2.1); (case side3 => refine (Kd.R_reads' (e := 103) (base := w.heap.size) (ok := fun k_ => (True ∧ some k_ ≠ (.slice Ao49 t488.length co49 : Value).ownBlock)) (n := t503.length) (c := co57) ?_).2.2; exact (by (with_reducible repeat (first | apply Kd.R_alloc | apply Kd.R_drewN | apply Kd.R_drew)); exact (Kd.R_mono (Kd.R_far (p := ⟨gb506, 8, none⟩) (Kd.R_far (p := ⟨gb506, 7, none⟩) (Kd.R_far (p := ⟨gb506, 6, none⟩) (Kd.R_far (p := ⟨gb506, 5, none⟩) (Kd.R_far (p := ⟨gb506, 4, none⟩) (Kd.R_far (p := ⟨gb506, 3, none⟩) (Kd.R_far (p := ⟨gb506, 2, none⟩) (Kd.R_far (p := ⟨gb506, 1, none⟩) (Kd.R_far (p := ⟨gb506, 0, none⟩) (Kd.R_types HO505.out BK506.out (by decide)) (fun _ hk => hk.2) (.string t495)) (fun _ hk => hk.2) (.string t496)) (fun _ hk => hk.2) (.int .i64 t497)) (fun _ hk => hk.2) (.string t498)) (fun _ hk => hk.2) (.int .i64 t499)) (fun _ hk => hk.2) (.int .i64 t500)) (fun _ hk => hk.2) (.int .i64 t501)) (fun _ hk => hk.2) (.int .i64 t502)) (fun _ hk => hk.2) (.slice Ao57 t503.length co57)) (fun _ h_ => h_.1)))); (case side4 => exact (Kd.R_reads' HO505.out).2.1); rintro e w59 ⟨rfl, hb⟩; refine ⟨_, rfl, ?_⟩; replace HO479 := Aside0.mk (Kd.R_below (by (with_reducible repeat (first | apply Kd.R_alloc | apply Kd.R_drewN | apply Kd.R_drew)); exact (Kd.R_mono (Kd.R_far (p := ⟨gb506, 8, none⟩) (Kd.R_far (p := ⟨gb506, 7, none⟩) (Kd.R_far (p := ⟨gb506, 6, none⟩) (Kd.R_far (p := ⟨gb506, 5, none⟩) (Kd.R_far (p := ⟨gb506, 4, none⟩) (Kd.R_far (p := ⟨gb506, 3, none⟩) (Kd.R_far (p := ⟨gb506, 2, none⟩) (Kd.R_far (p := ⟨gb506, 1, none⟩) (Kd.R_far (p := ⟨gb506, 0, none⟩) (Kd.R_types HO479.out BK506.out (by decide)) (fun _ hk => hk.2) (.string t495)) (fun _ hk => hk.2) (.string t496)) (fun _ hk => hk.2) (.int .i64 t497)) (fun _ hk => hk.2) (.string t498)) (fun _ hk => hk.2) (.int .i64 t499)) (fun _ hk => hk.2) (.int .i64 t500)) (fun _ hk => hk.2) (.int .i64 t501)) (fun _ hk => hk.2) (.int .i64 t502)) (fun _ hk => hk.2) (.slice Ao57 t503.length co57)) (fun _ h_ => h_.1))) hb); replace HO490 := Aside0.mk (Kd.R_below (by (with_reducible repeat (first | apply Kd.R_alloc | apply Kd.R_drewN | apply Kd.R_drew)); exact (Kd.R_mono (Kd.R_far (p := ⟨gb506, 8, none⟩) (Kd.R_far (p := ⟨gb506, 7, none⟩) (Kd.R_far (p := ⟨gb506, 6, none⟩) (Kd.R_far (p := ⟨gb506, 5, none⟩) (Kd.R_far (p := ⟨gb506, 4, none⟩) (Kd.R_far (p := ⟨gb506, 3, none⟩) (Kd.R_far (p := ⟨gb506, 2, none⟩) (Kd.R_far (p := ⟨gb506, 1, none⟩) (Kd.R_far (p := ⟨gb506, 0, none⟩) (Kd.R_types HO490.out BK506.out (by decide)) (fun _ hk => hk.2) (.string t495)) (fun _ hk => hk.2) (.string t496)) (fun _ hk => hk.2) (.int .i64 t497)) (fun _ hk => hk.2) (.string t498)) (fun _ hk => hk.2) (.int .i64 t499)) (fun _ hk => hk.2) (.int .i64 t500)) (fun _ hk => hk.2) (.int .i64 t501)) (fun _ hk => hk.2) (.int .i64 t502)) (fun _ hk => hk.2) (.slice Ao57 t503.length co57)) (fun _ h_ => h_.1))) hb); replace HO494 := Aside0.mk (Kd.R_below (by (with_reducible repeat (first | apply Kd.R_alloc | apply Kd.R_drewN | apply Kd.R_drew)); exact (Kd.R_mono (Kd.R_far (p := ⟨gb506, 8, none⟩) (Kd.R_far (p := ⟨gb506, 7, none⟩) (Kd.R_far (p := ⟨gb506, 6, none⟩) (Kd.R_far (p := ⟨gb506, 5, none⟩) (Kd.R_far (p := ⟨gb506, 4, none⟩) (Kd.R_far (p := ⟨gb506, 3, none⟩) (Kd.R_far (p := ⟨gb506, 2, none⟩) (Kd.R_far (p := ⟨gb506, 1, none⟩) (Kd.R_far (p := ⟨gb506, 0, none⟩) (Kd.R_types HO494.out BK506.out (by decide)) (fun _ hk => hk.2) (.string t495)) (fun _ hk => hk.2) (.string t496)) (fun _ hk => hk.2) (.int .i64 t497)) (fun _ hk => hk.2) (.string t498)) (fun _ hk => hk.2) (.int .i64 t499)) (fun _ hk => hk.2) (.int .i64 t500)) (fun _ hk => hk.2) (.int .i64 t501)) (fun _ hk => hk.2) (.int .i64 t502)) (fun _ hk => hk.2) (.slice Ao57 t503.length co57)) (fun _ h_ => h_.1))) hb); replace HO505 := Aside0.mk (Kd.R_below (by (with_reducible repeat (first | apply Kd.R_alloc | apply Kd.R_drewN | apply Kd.R_drew)); exact (Kd.R_mono (Kd.R_far (p := ⟨gb506, 8, none⟩) (Kd.R_far (p := ⟨gb506, 7, none⟩) (Kd.R_far (p := ⟨gb506, 6, none⟩) (Kd.R_far (p := ⟨gb506, 5, none⟩) (Kd.R_far (p := ⟨gb506, 4, none⟩) (Kd.R_far (p := ⟨gb506, 3, none⟩) (Kd.R_far (p := ⟨gb506, 2, none⟩) (Kd.R_far (p := ⟨gb506, 1, none⟩) (Kd.R_far (p := ⟨gb506, 0, none⟩) (Kd.R_types HO505.out BK506.out (by decide)) (fun _ hk => hk.2) (.string t495)) (fun _ hk => hk.2) (.string t496)) (fun _ hk => hk.2) (.int .i64 t497)) (fun _ hk => hk.2) (.string t498)) (fun _ hk => hk.2) (.int .i64 t499)) (fun _ hk => hk.2) (.int .i64 t500)) (fun _ hk => hk.2) (.int .i64 t501)) (fun _ hk => hk.2) (.int .i64 t502)) (fun _ hk => hk.2) (.slice Ao57 t503.length co57)) (fun _ h_ => h_.1))) hb); replace BK474 := Aside0.mk (blk_below (g := gb474) (o := .cells #[.string a1_0, .string a1_1, .int .i64 a1_2, .string a1_3, .int .i64 a1_4, .int .i64 a1_5, .int .i64 a1_6, .int .i64 a1_7, .slice A1_8 l1_8.length c1_8] 27 (0, 0)) (by refine zf ?_ NB474_506; refine zf ?_ NB474_506; refine zf ?_ NB474_506; refine zf ?_ NB474_506; refine zf ?_ NB474_506; refine zf ?_ NB474_506; refine zf ?_ NB474_506; refine zf ?_ NB474_506; refine zf ?_ NB474_506; exact pK BK474.out) hb); replace BK506 := Aside0.mk (blk_below (g := gb506) (o := .cells #[.string t495, .string t496, .int .i64 t497, .string t498, .int .i64 t499, .int .i64 t500, .int .i64 t501, .int .i64 t502, .slice Ao57 t503.length co57] 36 (0, 0)) (by refine zg #[.string t495, .string t496, .int .i64 t497, .string t498, .int .i64 t499, .int .i64 t500, .int .i64 t501, .int .i64 t502, .slice none 0 0] 8 ?_; refine zg #[.string t495, .string t496, .int .i64 t497, .string t498, .int .i64 t499, .int .i64 t500, .int .i64 t501, .int .i64 0, .slice none 0 0] 7 ?_; refine zg #[.string t495, .string t496, .int .i64 t497, .string t498, .int .i64 t499, .int .i64 t500, .int .i64 0, .int .i64 0, .slice none 0 0] 6 ?_; refine zg #[.string t495, .string t496, .int .i64 t497, .string t498, .int .i64 t499, .int .i64 0, .int .i64 0, .int .i64 0, .slice none 0 0] 5 ?_; refine zg #[.string t495, .string t496, .int .i64 t497, .string t498, .int .i64 0, .int .i64 0, .int .i64 0, .int .i64 0, .slice none 0 0] 4 ?_; refine zg #[.string t495, .string t496, .int .i64 t497, .string (⟨#[]⟩ : ByteArray), .int .i64 0, .int .i64 0, .int .i64 0, .int .i64 0, .slice none 0 0] 3 ?_; refine zg #[.string t495, .string t496, .int .i64 0, .string (⟨#[]⟩ : ByteArray), .int .i64 0, .int .i64 0, .int .i64 0, .int .i64 0, .slice none 0 0] 2 ?_; refine zg #[.string t495, .string (⟨#[]⟩ : ByteArray), .int .i64 0, .string (⟨#[]⟩ : ByteArray), .int .i64 0, .int .i64 0, .int .i64 0, .int .i64 0, .slice none 0 0] 1 ?_; refine zg #[.string (⟨#[]⟩ : ByteArray), .string (⟨#[]⟩ : ByteArray), .int .i64 0, .string (⟨#[]⟩ : ByteArray), .int .i64 0, .int .i64 0, .int .i64 0, .int .i64 0, .slice none 0 0] 0 ?_; exact pK BK506.out) hb); replace HB := zW (pB2 HB.out GE474.out GE506.out) hb; (try clear hb); (try clear hb2); (try clear hk); (try clear hi)) | ((with_reducible refine gate_callee (f := 12) rfl ?_); refine goesL_ (some 37) rfl rfl Try.func12 (by kernel_rfl) rfl #[.slice A0 l0.length c0] rfl pA ?_; (with_reducible refine (laws_toPointS.calls k _ _ l0 t508 _ ?side1 ?side2 A36.out).mono ?_); (case side1 => exact pC (Kd.C_below HR0.out HB.out)); (case side2 => exact HC0.out); rintro e w60 ⟨v509, rfl, ho0, hb⟩; refine ⟨_, rfl, ?_⟩; have HO510 := Aside0.mk (Kd.R_lower (Kd.R_new' (Kd.R_new' ho0 (Kd.R_lt (pR HO479.out))) (Kd.R_lt (pR HO494.out))) (below_size (pB2 HB.out GE474.out GE506.out))); replace HO479 := Aside0.mk (Kd.R_elder' (pR HO479.out) (Kd.R_base ho0) hb); replace HO490 := Aside0.mk (Kd.R_below (pR HO490.out) hb); replace HO494 := Aside0.mk (Kd.R_elder' (pR HO494.out) (Kd.R_base ho0) hb); replace HO505 := Aside0.mk (Kd.R_below (pR HO505.out) hb); replace BK474 := zK BK474 hb; replace BK506 := zK BK506 hb; replace HB := zW (pB2 HB.out GE474.out GE506.out) hb; (try clear hb); (try clear hb2); (try clear hk); (try clear hi); (try clear ho0); obtain ⟨Ao61, co61, eo61⟩ := Kd.R_slice HO510.out; subst eo61) | ((with_reducible refine gate_callee (f := 15) rfl ?_); refine goesL_ (some 38) rfl rfl Try.func15 (by kernel_rfl) rfl #[.slice Ao58 t492.length co58, .slice Ao61 t508.length co61] rfl pA ?_; (with_reducible refine (laws_eqPointS.calls k _ _ t492 _ _ t508 true _ ?side1 ?side2 ?side3 ?side4 A37.out).mono ?_); (case side1 => exact pC ((Kd.R_reads' HO494.out).2.2)); (case side2 => exact (Kd.R_reads' HO494.out).2.1); (case side3 => exact pC ((Kd.R_reads' HO510.out).2.2)); (case side4 => exact (Kd.R_reads' HO510.out).2.1); rintro e w62 ⟨rfl, hb⟩; refine ⟨_, rfl, ?_⟩; replace HO479 := Aside0.mk (Kd.R_below (pR HO479.out) hb); replace HO490 := Aside0.mk (Kd.R_below (pR HO490.out) hb); replace HO494 := Aside0.mk (Kd.R_below (pR HO494.out) hb); replace HO505 := Aside0.mk (Kd.R_below (pR HO505.out) hb); replace HO510 := Aside0.mk (Kd.R_below (pR HO510.out) hb); replace BK474 := zK BK474 hb; replace BK506 := zK BK506 hb; replace HB := zW (pB2 HB.out GE474.out GE506.out) hb; (try clear hb); (try clear hb2); (try clear hk); (try clear hi)))
   replace HO479 := Aside0.mk (Kd.R_drew HO479.out)
   replace HO490 := Aside0.mk (Kd.R_drew HO490.out)
   replace HO494 := Aside0.mk (Kd.R_drew HO494.out)
   replace HO505 := Aside0.mk (Kd.R_drew HO505.out)
   replace HO510 := Aside0.mk (Kd.R_drew HO510.out)
   replace BK474 := Aside0.mk (blk_drew BK474.out)
   replace BK506 := Aside0.mk (blk_drew BK506.out)
   replace HB := Aside0.mk (below_drew1 HB.out)
   refine start_ (n := 5) (S := fun w' => w'.cell? ⟨gb506, 0, none⟩ = some (.string t495) ∧ w'.cell? ⟨gb506, 1, none⟩ = some (.string t496) ∧ w'.cell? ⟨gb506, 2, none⟩ = some (.int .i64 t497) ∧ w'.cell? ⟨gb506, 3, none⟩ = some (.string t498) ∧ w'.cell? ⟨gb506, 4, none⟩ = some (.int .i64 t499) ∧ w'.cell? ⟨gb506, 5, none⟩ = some (.int .i64 t500) ∧ w'.cell? ⟨gb506, 6, none⟩ = some (.int .i64 t501) ∧ w'.cell? ⟨gb506, 7, none⟩ = some (.int .i64 t502) ∧ w'.cell? ⟨gb506, 8, none⟩ = some (.slice Ao57 t503.length co57) ∧ w'.cell? ⟨gb474, 0, none⟩ = some (.string a1_0) ∧ w'.cell? ⟨gb474, 1, none⟩ = some (.string a1_1) ∧ w'.cell? ⟨gb474, 2, none⟩ = some (.int .i64 a1_2) ∧ w'.cell? ⟨gb474, 3, none⟩ = some (.string a1_3) ∧ w'.cell? ⟨gb474, 4, none⟩ = some (.int .i64 a1_4) ∧ w'.cell? ⟨gb474, 5, none⟩ = some (.int .i64 a1_5) ∧ w'.cell? ⟨gb474, 6, none⟩ = some (.int .i64 a1_6) ∧ w'.cell? ⟨gb474, 7, none⟩ = some (.int .i64 a1_7) ∧ w'.cell? ⟨gb474, 8, none⟩ = some (.slice A1_8 l1_8.length c1_8)) (ds := []) (Array.replicate 5 false) (by kernel_rfl) rfl rfl ⟨zQ BK506 0, zQ BK506 1, zQ BK506 2, zQ BK506 3, zQ BK506 4, zQ BK506 5, zQ BK506 6, zQ BK506 7, zQ BK506 8, zQ BK474 0, zQ BK474 1, zQ BK474 2, zQ BK474 3, zQ BK474 4, zQ BK474 5, zQ BK474 6, zQ BK474 7, zQ BK474 8⟩ (fun hHeld => ?_)
   generalize w62.drew = w63 at HO479 HO490 HO494 HO505 HO510 BK474 BK506 HB hHeld ⊢
   refine take_ (i := 0) (N := some 40) (v := ?_) (a' := ?_) #[true, false, false, false, false] rfl rfl (by kernel_rfl) (fun _ _ _ h => h) (Or.inl ⟨by rfl, ?_⟩) hHeld ?_ ?_
   rotate_left
   · rintro w' ⟨s0, s1, s2, s3, s4, s5, s6, s7, s8, s9, s10, s11, s12, s13, s14, s15, s16, s17⟩
     go_simp
     with_reducible rfl
   rotate_left
   · simp only [Act.put, List.setIfInBounds_toArray, List.set_cons_zero, List.set_cons_succ, i64_w, i32_w]
     rfl
   refine take_ (i := 1) (N := some 41) (v := ?_) (a' := ?_) #[true, true, false, false, false] rfl rfl (by kernel_rfl) (fun _ _ _ h => h) (Or.inl ⟨by rfl, ?_⟩) hHeld ?_ ?_
   rotate_left
   · rintro w' ⟨s0, s1, s2, s3, s4, s5, s6, s7, s8, s9, s10, s11, s12, s13, s14, s15, s16, s17⟩
     go_simp
     with_reducible rfl
   rotate_left
   · simp only [Act.put, List.setIfInBounds_toArray, List.set_cons_zero, List.set_cons_succ, i64_w, i32_w]
     rfl
   refine one_ (i := 2) (N := some 42) (zb 5 7) rfl rfl (by kernel_rfl) (by decide) (fun K hK => ?_)
   refine goes_ Try.func13 (by kernel_rfl) rfl #[.agg #[.string a1_0, .string a1_1, .int .i64 a1_2, .string a1_3, .int .i64 a1_4, .int .i64 a1_5, .int .i64 a1_6, .int .i64 a1_7, .slice A1_8 l1_8.length c1_8]] (by rfl) rfl rfl pA ?_
   with_reducible refine (laws_toLeaf.calls k a1_0 a1_1 a1_2 a1_3 a1_4 a1_5 a1_6 a1_7 _ _ l1_8 t512 t513 t514 t515 t516 t517 t518 t519 t520 _ ?side1 ?side2 A39.out).mono ?_
   (case side1 => exact pC (Kd.C_below HR1_8.out HB.out))
   (case side2 => exact HC1_8.out)
   rintro e w64 ⟨v521, rfl, ho0, hb⟩
   refine ⟨_, rfl, ?_⟩
   have HO522 := Aside0.mk (Kd.R_lower (Kd.R_new' (Kd.R_new' ho0 (Kd.R_lt (pR HO490.out))) (Kd.R_lt (pR HO505.out))) (below_size (pB2 HB.out GE474.out GE506.out)))
   replace HO479 := Aside0.mk (Kd.R_below (pR HO479.out) hb)
   replace HO490 := Aside0.mk (Kd.R_elder' (pR HO490.out) (Kd.R_base ho0) hb)
   replace HO494 := Aside0.mk (Kd.R_below (pR HO494.out) hb)
   replace HO505 := Aside0.mk (Kd.R_elder' (pR HO505.out) (Kd.R_base ho0) hb)
   replace HO510 := Aside0.mk (Kd.R_below (pR HO510.out) hb)
   replace BK474 := zK BK474 hb
   replace BK506 := zK BK506 hb
   replace HB := zW (pB2 HB.out GE474.out GE506.out) hb
   (try clear hb)
   (try clear hb2)
   (try clear hk)
   (try clear hi)
   (try clear ho0)
   obtain ⟨Ao65, co65, eo65⟩ := Kd.R_slice HO522.out
   (first | subst eo65 | (injection eo65 with f1_ f2_ f3_; have f4_ := f1_.symm; have f5_ := f3_.symm; clear f1_ f2_ f3_; subst f4_; subst f5_))
   refine hK.out _ _ ⟨zQ BK506 0, zQ BK506 1, zQ BK506 2, zQ BK506 3, zQ BK506 4, zQ BK506 5, zQ BK506 6, zQ BK506 7, zQ BK506 8, zQ BK474 0, zQ BK474 1, zQ BK474 2, zQ BK474 3, zQ BK474 4, zQ BK474 5, zQ BK474 6, zQ BK474 7, zQ BK474 8⟩ (fun hHeld => ?_)
   clear hK K
   refine zN ?_
   refine one_ (i := 3) (N := some 43) (zb 5 15) rfl rfl (by kernel_rfl) (by decide) (fun K hK => ?_)
   refine goes_ Try.func16 (by kernel_rfl) rfl #[.agg #[.string t495, .string t496, .int .i64 t497, .string t498, .int .i64 t499, .int .i64 t500, .int .i64 t501, .int .i64 t502, .slice Ao57 t503.length co57], .agg #[.string t512, .string t513, .int .i64 t514, .string t515, .int .i64 t516, .int .i64 t517, .int .i64 t518, .int .i64 t519, .slice Ao65 t520.length co65]] (by rfl) rfl rfl pA ?_
   with_reducible refine (laws_eqLeaf.calls k t495 t496 t497 t498 t499 t500 t501 t502 _ _ t503 t512 t513 t514 t515 t516 t517 t518 t519 _ _ t520 true _ ?side1 ?side2 ?side3 ?side4 A40.out).mono ?_
   (case side1 => exact pC ((Kd.R_reads' HO505.out).2.2))
   (case side2 => exact (Kd.R_reads' HO505.out).2.1)
   (case side3 => exact pC ((Kd.R_reads' HO522.out).2.2))
   (case side4 => exact (Kd.R_reads' HO522.out).2.1)
   rintro e w66 ⟨rfl, hb⟩
   refine ⟨_, rfl, ?_⟩
   replace HO479 := Aside0.mk (Kd.R_below (pR HO479.out) hb)
   replace HO490 := Aside0.mk (Kd.R_below (pR HO490.out) hb)
   replace HO494 := Aside0.mk (Kd.R_below (pR HO494.out) hb)
   replace HO505 := Aside0.mk (Kd.R_below (pR HO505.out) hb)
   replace HO510 := Aside0.mk (Kd.R_below (pR HO510.out) hb)
   replace HO522 := Aside0.mk (Kd.R_below (pR HO522.out) hb)
   replace BK474 := zK BK474 hb
   replace BK506 := zK BK506 hb
   replace HB := zW (pB2 HB.out GE474.out GE506.out) hb
   (try clear hb)
   (try clear hb2)
   (try clear hk)
   (try clear hi)
   refine hK.out _ _ ⟨zQ BK506 0, zQ BK506 1, zQ BK506 2, zQ BK506 3, zQ BK506 4, zQ BK506 5, zQ BK506 6, zQ BK506 7, zQ BK506 8, zQ BK474 0, zQ BK474 1, zQ BK474 2, zQ BK474 3, zQ BK474 4, zQ BK474 5, zQ BK474 6, zQ BK474 7, zQ BK474 8⟩ (fun hHeld => ?_)
   clear hK K
   refine zN ?_
   refine pure_ (i := 4) (N := some 44) (v := ?_) (a' := ?_) #[true, true, true, true, true] rfl rfl (by kernel_rfl) (fun _ _ _ h => h) (Or.inl ⟨by rfl, ?_⟩) ?_ ?_
   rotate_left
   · intro w'
     go_simp
     with_reducible rfl
   rotate_left
   · simp only [Act.put, List.setIfInBounds_toArray, List.set_cons_zero, List.set_cons_succ, i64_w, i32_w]
     rfl
   refine done_ (by kernel_rfl) ?_
   try go_wp2
   go_ret
   exact ⟨zE, pB2 HB.out GE474.out GE506.out⟩
 replace c41 := Bool.eq_false_iff.mpr c41
 subst c41
 have H1 : (some false) = some r := by rw [if_neg (show ¬ (false = true) by decide)] at H; exact H
 clear H
 have H := H1
 clear H1
 obtain rfl := Option.some.inj H
 go_enter Try.func3, Try.ntmps3
 try go_wp2_with (first | ((with_reducible refine gate_dst (N := 3) rfl ?_); refine zB 3 #[.string a1_0, .string a1_1, .int .i64 a1_2, .string a1_3, .int .i64 a1_4, .int .i64 a1_5, .int .i64 a1_6, .int .i64 a1_7, .slice A1_8 l1_8.length c1_8] 27 ?_; intro gb474 hg w67 hbox hb; have BK474 := Aside0.mk (hbox); have GW474 := zS (pB0 HB.out) hg; have GE474 := zS (pB0 HB.out) hg; replace HB := zW (pB0 HB.out) hb; clear hb hbox hg) | ((with_reducible refine gate_callee (f := 9) rfl ?_); refine goesL_ (some 12) rfl rfl Try.func9 (by kernel_rfl) rfl #[.slice A0 l0.length c0, .int .i64 1048576] rfl pA ?_; (with_reducible refine (laws_szPointS.calls _ _ l0 1048576 t475 _ ?side1 ?side2 A3.out).mono ?_); (case side1 => exact pC (Kd.C_below HR0.out HB.out)); (case side2 => exact HC0.out); rintro e w' ⟨rfl, ⟨nd, rfl⟩⟩; refine ⟨_, rfl, ?_⟩; (try (rw [drewN_self w67]; generalize hq_ : World.drewN w67 _ = w67; have n0_ : Aside0 (w67.heap[gb474]? = some (.cells #[.string a1_0, .string a1_1, .int .i64 a1_2, .string a1_3, .int .i64 a1_4, .int .i64 a1_5, .int .i64 a1_6, .int .i64 a1_7, .slice A1_8 l1_8.length c1_8] 27 (0, 0))) := ⟨by rw [← hq_]; exact (pK BK474.out)⟩; have n1_ : Aside0 (Below w.heap.size w w67) := ⟨by rw [← hq_]; exact (pB1 HB.out GE474.out)⟩; clear BK474 HB hq_; have BK474 := n0_; have HB := n1_; clear n0_ n1_)); (try (obtain ⟨hcq474_0, hfq474_0, hcq474_1, hfq474_1, hcq474_2, hfq474_2, hcq474_3, hfq474_3, hcq474_4, hfq474_4, hcq474_5, hfq474_5, hcq474_6, hfq474_6, hcq474_7, hfq474_7, hcq474_8, hfq474_8⟩ := zw9 BK474)); obtain ⟨hcz68_0, hfz68_0, hcz68_1, hfz68_1, hcz68_2, hfz68_2, hcz68_3, hfz68_3, hcz68_4, hfz68_4, hcz68_5, hfz68_5, hcz68_6, hfz68_6, hcz68_7, hfz68_7, hcz68_8, hfz68_8⟩ := zw9 BK474) | ((with_reducible refine gate_callee (f := 10) rfl ?_); refine goesL_ (some 17) rfl rfl Try.func10 (by kernel_rfl) rfl #[.agg #[.string a1_0, .string a1_1, .int .i64 a1_2, .string a1_3, .int .i64 a1_4, .int .i64 a1_5, .int .i64 a1_6, .int .i64 a1_7, .slice A1_8 l1_8.length c1_8], .int .i64 t475] rfl pA ?_; (with_reducible refine (laws_szLeaf.calls a1_0 a1_1 a1_2 a1_3 a1_4 a1_5 a1_6 a1_7 _ _ l1_8 t475 t476 _ ?side1 ?side2 A6.out).mono ?_); (case side1 => exact pC (Kd.C_below HR1_8.out HB.out)); (case side2 => exact HC1_8.out); rintro e w69 ⟨rfl, hb⟩; refine ⟨_, rfl, ?_⟩; replace BK474 := zK BK474 hb; replace HB := zW (pB1 HB.out GE474.out) hb; (try clear hb); (try clear hb2); (try clear hk); (try clear hi)))
 replace BK474 := Aside0.mk (blk_drew BK474.out)
 replace HB := Aside0.mk (below_drew1 HB.out)
 refine start_ (n := 6) (S := fun w' => w'.cell? ⟨gb474, 0, none⟩ = some (.string a1_0) ∧ w'.cell? ⟨gb474, 1, none⟩ = some (.string a1_1) ∧ w'.cell? ⟨gb474, 2, none⟩ = some (.int .i64 a1_2) ∧ w'.cell? ⟨gb474, 3, none⟩ = some (.string a1_3) ∧ w'.cell? ⟨gb474, 4, none⟩ = some (.int .i64 a1_4) ∧ w'.cell? ⟨gb474, 5, none⟩ = some (.int .i64 a1_5) ∧ w'.cell? ⟨gb474, 6, none⟩ = some (.int .i64 a1_6) ∧ w'.cell? ⟨gb474, 7, none⟩ = some (.int .i64 a1_7) ∧ w'.cell? ⟨gb474, 8, none⟩ = some (.slice A1_8 l1_8.length c1_8)) (ds := []) (Array.replicate 6 false) (by kernel_rfl) rfl rfl ⟨zQ BK474 0, zQ BK474 1, zQ BK474 2, zQ BK474 3, zQ BK474 4, zQ BK474 5, zQ BK474 6, zQ BK474 7, zQ BK474 8⟩ (fun hHeld => ?_)
 generalize w69.drew = w70 at BK474 HB hHeld ⊢
 refine pure_ (i := 0) (N := some 20) (v := ?_) (a' := ?_) #[true, false, false, false, false, false] rfl rfl (by kernel_rfl) (fun _ _ _ h => h) (Or.inl ⟨by rfl, ?_⟩) ?_ ?_
 rotate_left
 · intro w'
   go_simp
   with_reducible rfl
 rotate_left
 · simp only [Act.put, List.setIfInBounds_toArray, List.set_cons_zero, List.set_cons_succ, i64_w, i32_w]
   rfl
 refine take_ (i := 2) (N := some 22) (v := ?_) (a' := ?_) #[true, false, true, false, false, false] rfl rfl (by kernel_rfl) (fun _ _ _ h => h) (Or.inl ⟨by rfl, ?_⟩) hHeld ?_ ?_
 rotate_left
 · rintro w' ⟨s0, s1, s2, s3, s4, s5, s6, s7, s8⟩
   go_simp
   with_reducible rfl
 rotate_left
 · simp only [Act.put, List.setIfInBounds_toArray, List.set_cons_zero, List.set_cons_succ, i64_w, i32_w]
   rfl
 refine one_ (i := 1) (N := some 21) (zb 6 7) rfl rfl (by kernel_rfl) (by decide) (fun K hK => ?_)
 refine goes_ Try.func12 (by kernel_rfl) rfl #[.slice A0 l0.length c0] (by rfl) rfl rfl pA ?_
 with_reducible refine (laws_toPointS.calls k _ _ l0 t477 _ ?side1 ?side2 A11.out).mono ?_
 (case side1 => exact pC (Kd.C_below HR0.out HB.out))
 (case side2 => exact HC0.out)
 rintro e w71 ⟨v478, rfl, ho0, hb⟩
 refine ⟨_, rfl, ?_⟩
 have HO479 := Aside0.mk (Kd.R_lower ho0 (below_size (pB1 HB.out GE474.out)))
 replace BK474 := zK BK474 hb
 replace HB := zW (pB1 HB.out GE474.out) hb
 (try clear hb)
 (try clear hb2)
 (try clear hk)
 (try clear hi)
 (try clear ho0)
 refine hK.out _ _ ⟨zQ BK474 0, zQ BK474 1, zQ BK474 2, zQ BK474 3, zQ BK474 4, zQ BK474 5, zQ BK474 6, zQ BK474 7, zQ BK474 8⟩ (fun hHeld => ?_)
 clear hK K
 refine zN ?_
 refine one_ (i := 3) (N := some 23) (zb 6 15) rfl rfl (by kernel_rfl) (by decide) (fun K hK => ?_)
 refine goes_ Try.func13 (by kernel_rfl) rfl #[.agg #[.string a1_0, .string a1_1, .int .i64 a1_2, .string a1_3, .int .i64 a1_4, .int .i64 a1_5, .int .i64 a1_6, .int .i64 a1_7, .slice A1_8 l1_8.length c1_8]] (by rfl) rfl rfl pA ?_
 with_reducible refine (laws_toLeaf.calls k a1_0 a1_1 a1_2 a1_3 a1_4 a1_5 a1_6 a1_7 _ _ l1_8 t480 t481 t482 t483 t484 t485 t486 t487 t488 _ ?side1 ?side2 A12.out).mono ?_
 (case side1 => exact pC (Kd.C_below HR1_8.out HB.out))
 (case side2 => exact HC1_8.out)
 rintro e w72 ⟨v489, rfl, ho0, hb⟩
 refine ⟨_, rfl, ?_⟩
 have HO490 := Aside0.mk (Kd.R_lower ho0 (below_size (pB1 HB.out GE474.out)))
 replace HO479 := Aside0.mk (Kd.R_below (pR HO479.out) hb)
 replace BK474 := zK BK474 hb
 replace HB := zW (pB1 HB.out GE474.out) hb
 (try clear hb)
 (try clear hb2)
 (try clear hk)
 (try clear hi)
 (try clear ho0)
 obtain ⟨Ao73, co73, eo73⟩ := Kd.R_slice HO479.out
 (first | subst eo73 | (injection eo73 with f1_ f2_ f3_; have f4_ := f1_.symm; have f5_ := f3_.symm; clear f1_ f2_ f3_; subst f4_; subst f5_))
 obtain ⟨Ao74, co74, eo74⟩ := Kd.R_slice HO490.out
 (first | subst eo74 | (injection eo74 with f1_ f2_ f3_; have f4_ := f1_.symm; have f5_ := f3_.symm; clear f1_ f2_ f3_; subst f4_; subst f5_))
 refine hK.out _ _ ⟨zQ BK474 0, zQ BK474 1, zQ BK474 2, zQ BK474 3, zQ BK474 4, zQ BK474 5, zQ BK474 6, zQ BK474 7, zQ BK474 8⟩ (fun hHeld => ?_)
 clear hK K
 refine zN ?_
 refine one_ (i := 4) (N := some 24) (zb 6 31) rfl rfl (by kernel_rfl) (by decide) (fun K hK => ?_)
 refine goes_ Try.func11 (by kernel_rfl) rfl #[.slice Ao73 t477.length co73, .agg #[.string t480, .string t481, .int .i64 t482, .string t483, .int .i64 t484, .int .i64 t485, .int .i64 t486, .int .i64 t487, .slice Ao74 t488.length co74]] (by rfl) rfl rfl pA ?_
 with_reducible refine (spec_FitsLeaf.calls k _ _ t477 t480 t481 t482 t483 t484 t485 t486 t487 _ _ t488 t491 _ ?side1 ?side2 ?side3 ?side4 A13.out).mono ?_
 (case side1 => exact pC ((Kd.R_reads' HO479.out).2.2))
 (case side2 => exact (Kd.R_reads' HO479.out).2.1)
 (case side3 => exact pC ((Kd.R_reads' HO490.out).2.2))
 (case side4 => exact (Kd.R_reads' HO490.out).2.1)
 rintro e w75 ⟨rfl, hb⟩
 refine ⟨_, rfl, ?_⟩
 replace HO479 := Aside0.mk (Kd.R_below (pR HO479.out) hb)
 replace HO490 := Aside0.mk (Kd.R_below (pR HO490.out) hb)
 replace BK474 := zK BK474 hb
 replace HB := zW (pB1 HB.out GE474.out) hb
 (try clear hb)
 (try clear hb2)
 (try clear hk)
 (try clear hi)
 refine hK.out _ _ ⟨zQ BK474 0, zQ BK474 1, zQ BK474 2, zQ BK474 3, zQ BK474 4, zQ BK474 5, zQ BK474 6, zQ BK474 7, zQ BK474 8⟩ (fun hHeld => ?_)
 clear hK K
 refine zN ?_
 refine pure_ (i := 5) (N := some 6) (v := ?_) (a' := ?_) #[true, true, true, true, true, true] rfl rfl (by kernel_rfl) (fun _ _ _ h => h) (Or.inl ⟨by rfl, ?_⟩) ?_ ?_
 rotate_left
 · intro w'
   go_simp
   with_reducible rfl
 rotate_left
 · simp only [Act.put, List.setIfInBounds_toArray, List.set_cons_zero, List.set_cons_succ, i64_w, i32_w]
   rfl
 refine done_ (by kernel_rfl) ?_
 try go_wp2_with (first | ((with_reducible refine gate_callee (f := 12) rfl ?_); refine goesL_ (some 26) rfl rfl Try.func12 (by kernel_rfl) rfl #[.slice A0 l0.length c0] rfl pA ?_; (with_reducible refine (laws_toPointS.calls k _ _ l0 t492 _ ?side1 ?side2 A14.out).mono ?_); (case side1 => exact pC (Kd.C_below HR0.out HB.out)); (case side2 => exact HC0.out); rintro e w76 ⟨v493, rfl, ho0, hb⟩; refine ⟨_, rfl, ?_⟩; have HO494 := Aside0.mk (Kd.R_lower (Kd.R_new' ho0 (Kd.R_lt (pR HO479.out))) (below_size (pB1 HB.out GE474.out))); replace HO479 := Aside0.mk (Kd.R_elder' (pR HO479.out) (Kd.R_base ho0) hb); replace HO490 := Aside0.mk (Kd.R_below (pR HO490.out) hb); replace BK474 := zK BK474 hb; replace HB := zW (pB1 HB.out GE474.out) hb; (try clear hb); (try clear hb2); (try clear hk); (try clear hi); (try clear ho0); obtain ⟨hcz77_0, hfz77_0, hcz77_1, hfz77_1, hcz77_2, hfz77_2, hcz77_3, hfz77_3, hcz77_4, hfz77_4, hcz77_5, hfz77_5, hcz77_6, hfz77_6, hcz77_7, hfz77_7, hcz77_8, hfz77_8⟩ := zw9 BK474) | ((with_reducible refine gate_callee (f := 13) rfl ?_); refine goesL_ (some 28) rfl rfl Try.func13 (by kernel_rfl) rfl #[.agg #[.string a1_0, .string a1_1, .int .i64 a1_2, .string a1_3, .int .i64 a1_4, .int .i64 a1_5, .int .i64 a1_6, .int .i64 a1_7, .slice A1_8 l1_8.length c1_8]] rfl pA ?_; (with_reducible refine (laws_toLeaf.calls k a1_0 a1_1 a1_2 a1_3 a1_4 a1_5 a1_6 a1_7 _ _ l1_8 t495 t496 t497 t498 t499 t500 t501 t502 t503 _ ?side1 ?side2 A15.out).mono ?_); (case side1 => exact pC (Kd.C_below HR1_8.out HB.out)); (case side2 => exact HC1_8.out); rintro e w78 ⟨v504, rfl, ho0, hb⟩; refine ⟨_, rfl, ?_⟩; have HO505 := Aside0.mk (Kd.R_lower (Kd.R_new' ho0 (Kd.R_lt (pR HO490.out))) (below_size (pB1 HB.out GE474.out))); replace HO479 := Aside0.mk (Kd.R_below (pR HO479.out) hb); replace HO490 := Aside0.mk (Kd.R_elder' (pR HO490.out) (Kd.R_base ho0) hb); replace HO494 := Aside0.mk (Kd.R_below (pR HO494.out) hb); replace BK474 := zK BK474 hb; replace HB := zW (pB1 HB.out GE474.out) hb; (try clear hb); (try clear hb2); (try clear hk); (try clear hi); (try clear ho0)) | ((with_reducible refine gate_dst (N := 8) rfl ?_); refine zB 8 #[.string (⟨#[]⟩ : ByteArray), .string (⟨#[]⟩ : ByteArray), .int .i64 0, .string (⟨#[]⟩ : ByteArray), .int .i64 0, .int .i64 0, .int .i64 0, .int .i64 0, .slice none 0 0] 36 ?_; intro gb506 hg w79 hbox hb; have BK506 := Aside0.mk (hbox); have GW506 := zS (pB1 HB.out GE474.out) hg; have GE506 := zS (pB1 HB.out GE474.out) hg; have NB474_506 := zL BK474 hg; have NB506_474 := zM BK474 hg; replace HO479 := Aside0.mk (Kd.R_below (pR HO479.out) hb); replace HO490 := Aside0.mk (Kd.R_below (pR HO490.out) hb); replace HO494 := Aside0.mk (Kd.R_below (pR HO494.out) hb); replace HO505 := Aside0.mk (Kd.R_below (pR HO505.out) hb); replace BK474 := zK BK474 hb; replace HB := zW (pB1 HB.out GE474.out) hb; clear hb hbox hg; have hnb80 := NB506_474.out; have hnc80 := NB474_506.out; obtain ⟨hcz81_0, hfz81_0, hcz81_1, hfz81_1, hcz81_2, hfz81_2, hcz81_3, hfz81_3, hcz81_4, hfz81_4, hcz81_5, hfz81_5, hcz81_6, hfz81_6, hcz81_7, hfz81_7, hcz81_8, hfz81_8⟩ := zw9 BK506; obtain ⟨Ao82, co82, eo82⟩ := Kd.R_slice HO505.out; subst eo82; obtain ⟨Ao83, co83, eo83⟩ := Kd.R_slice HO494.out; subst eo83) | ((with_reducible refine gate_callee (f := 14) rfl ?_); refine goesL_ (some 31) rfl rfl Try.func14 (by kernel_rfl) rfl #[.slice Ao83 t492.length co83, .agg #[.string t495, .string t496, .int .i64 t497, .string t498, .int .i64 t499, .int .i64 t500, .int .i64 t501, .int .i64 t502, .slice Ao82 t503.length co82]] rfl pA ?_; (with_reducible refine (impl_FitsLeaf.calls k _ _ t492 t495 t496 t497 t498 t499 t500 t501 t502 _ _ t503 t507 _ ?side1 ?side2 ?side3 ?side4 A16.out).mono ?_); (case side1 => refine (Kd.R_reads' (e := 91) (base := w.heap.size) (ok := fun k_ => (True ∧ some k_ ≠ (.slice Ao73 t477.length co73 : Value).ownBlock)) (n := t492.length) (c := co83) ?_).2.2; exact (by (with_reducible repeat (first | apply Kd.R_alloc | apply Kd.R_drewN | apply Kd.R_drew)); exact (Kd.R_mono (Kd.R_far (p := ⟨gb506, 8, none⟩) (Kd.R_far (p := ⟨gb506, 7, none⟩) (Kd.R_far (p := ⟨gb506, 6, none⟩) (Kd.R_far (p := ⟨gb506, 5, none⟩) (Kd.R_far (p := ⟨gb506, 4, none⟩) (Kd.R_far (p := ⟨gb506, 3, none⟩) (Kd.R_far (p := ⟨gb506, 2, none⟩) (Kd.R_far (p := ⟨gb506, 1, none⟩) (Kd.R_far (p := ⟨gb506, 0, none⟩) (Kd.R_types HO494.out BK506.out (by decide)) (fun _ hk => hk.2) (.string t495)) (fun _ hk => hk.2) (.string t496)) (fun _ hk => hk.2) (.int .i64 t497)) (fun _ hk => hk.2) (.string t498)) (fun _ hk => hk.2) (.int .i64 t499)) (fun _ hk => hk.2) (.int .i64 t500)) (fun _ hk => hk.2) (.int .i64 t501)) (fun _ hk => hk.2) (.int .i64 t502)) (fun _ hk => hk.2) (.slice Ao82 t503.length co82)) (fun _ h_ => h_.1)))); (case side2 => exact (Kd.R_reads' HO494.out).2.1); (case side3 => refine (Kd.R_reads' (e := 103) (base := w.heap.size) (ok := fun k_ => (True ∧ some k_ ≠ (.slice Ao74 t488.length co74 : Value).ownBlock)) (n := t503.length) (c := co82) ?_).2.2; exact (by (with_reducible repeat (first | apply Kd.R_alloc | apply Kd.R_drewN | apply Kd.R_drew)); exact (Kd.R_mono (Kd.R_far (p := ⟨gb506, 8, none⟩) (Kd.R_far (p := ⟨gb506, 7, none⟩) (Kd.R_far (p := ⟨gb506, 6, none⟩) (Kd.R_far (p := ⟨gb506, 5, none⟩) (Kd.R_far (p := ⟨gb506, 4, none⟩) (Kd.R_far (p := ⟨gb506, 3, none⟩) (Kd.R_far (p := ⟨gb506, 2, none⟩) (Kd.R_far (p := ⟨gb506, 1, none⟩) (Kd.R_far (p := ⟨gb506, 0, none⟩) (Kd.R_types HO505.out BK506.out (by decide)) (fun _ hk => hk.2) (.string t495)) (fun _ hk => hk.2) (.string t496)) (fun _ hk => hk.2) (.int .i64 t497)) (fun _ hk => hk.2) (.string t498)) (fun _ hk => hk.2) (.int .i64 t499)) (fun _ hk => hk.2) (.int .i64 t500)) (fun _ hk => hk.2) (.int .i64 t501)) (fun _ hk => hk.2) (.int .i64 t502)) (fun _ hk => hk.2) (.slice Ao82 t503.length co82)) (fun _ h_ => h_.1)))); (case side4 => exact (Kd.R_reads' HO505.out).2.1); rintro e w84 ⟨rfl, hb⟩; refine ⟨_, rfl, ?_⟩; replace HO479 := Aside0.mk (Kd.R_below (by (with_reducible repeat (first | apply Kd.R_alloc | apply Kd.R_drewN | apply Kd.R_drew)); exact (Kd.R_mono (Kd.R_far (p := ⟨gb506, 8, none⟩) (Kd.R_far (p := ⟨gb506, 7, none⟩) (Kd.R_far (p := ⟨gb506, 6, none⟩) (Kd.R_far (p := ⟨gb506, 5, none⟩) (Kd.R_far (p := ⟨gb506, 4, none⟩) (Kd.R_far (p := ⟨gb506, 3, none⟩) (Kd.R_far (p := ⟨gb506, 2, none⟩) (Kd.R_far (p := ⟨gb506, 1, none⟩) (Kd.R_far (p := ⟨gb506, 0, none⟩) (Kd.R_types HO479.out BK506.out (by decide)) (fun _ hk => hk.2) (.string t495)) (fun _ hk => hk.2) (.string t496)) (fun _ hk => hk.2) (.int .i64 t497)) (fun _ hk => hk.2) (.string t498)) (fun _ hk => hk.2) (.int .i64 t499)) (fun _ hk => hk.2) (.int .i64 t500)) (fun _ hk => hk.2) (.int .i64 t501)) (fun _ hk => hk.2) (.int .i64 t502)) (fun _ hk => hk.2) (.slice Ao82 t503.length co82)) (fun _ h_ => h_.1))) hb); replace HO490 := Aside0.mk (Kd.R_below (by (with_reducible repeat (first | apply Kd.R_alloc | apply Kd.R_drewN | apply Kd.R_drew)); exact (Kd.R_mono (Kd.R_far (p := ⟨gb506, 8, none⟩) (Kd.R_far (p := ⟨gb506, 7, none⟩) (Kd.R_far (p := ⟨gb506, 6, none⟩) (Kd.R_far (p := ⟨gb506, 5, none⟩) (Kd.R_far (p := ⟨gb506, 4, none⟩) (Kd.R_far (p := ⟨gb506, 3, none⟩) (Kd.R_far (p := ⟨gb506, 2, none⟩) (Kd.R_far (p := ⟨gb506, 1, none⟩) (Kd.R_far (p := ⟨gb506, 0, none⟩) (Kd.R_types HO490.out BK506.out (by decide)) (fun _ hk => hk.2) (.string t495)) (fun _ hk => hk.2) (.string t496)) (fun _ hk => hk.2) (.int .i64 t497)) (fun _ hk => hk.2) (.string t498)) (fun _ hk => hk.2) (.int .i64 t499)) (fun _ hk => hk.2) (.int .i64 t500)) (fun _ hk => hk.2) (.int .i64 t501)) (fun _ hk => hk.2) (.int .i64 t502)) (fun _ hk => hk.2) (.slice Ao82 t503.length co82)) (fun _ h_ => h_.1))) hb); replace HO494 := Aside0.mk (Kd.R_below (by (with_reducible repeat (first | apply Kd.R_alloc | apply Kd.R_drewN | apply Kd.R_drew)); exact (Kd.R_mono (Kd.R_far (p := ⟨gb506, 8, none⟩) (Kd.R_far (p := ⟨gb506, 7, none⟩) (Kd.R_far (p := ⟨gb506, 6, none⟩) (Kd.R_far (p := ⟨gb506, 5, none⟩) (Kd.R_far (p := ⟨gb506, 4, none⟩) (Kd.R_far (p := ⟨gb506, 3, none⟩) (Kd.R_far (p := ⟨gb506, 2, none⟩) (Kd.R_far (p := ⟨gb506, 1, none⟩) (Kd.R_far (p := ⟨gb506, 0, none⟩) (Kd.R_types HO494.out BK506.out (by decide)) (fun _ hk => hk.2) (.string t495)) (fun _ hk => hk.2) (.string t496)) (fun _ hk => hk.2) (.int .i64 t497)) (fun _ hk => hk.2) (.string t498)) (fun _ hk => hk.2) (.int .i64 t499)) (fun _ hk => hk.2) (.int .i64 t500)) (fun _ hk => hk.2) (.int .i64 t501)) (fun _ hk => hk.2) (.int .i64 t502)) (fun _ hk => hk.2) (.slice Ao82 t503.length co82)) (fun _ h_ => h_.1))) hb); replace HO505 := Aside0.mk (Kd.R_below (by (with_reducible repeat (first | apply Kd.R_alloc | apply Kd.R_drewN | apply Kd.R_drew)); exact (Kd.R_mono (Kd.R_far (p := ⟨gb506, 8, none⟩) (Kd.R_far (p := ⟨gb506, 7, none⟩) (Kd.R_far (p := ⟨gb506, 6, none⟩) (Kd.R_far (p := ⟨gb506, 5, none⟩) (Kd.R_far (p := ⟨gb506, 4, none⟩) (Kd.R_far (p := ⟨gb506, 3, none⟩) (Kd.R_far (p := ⟨gb506, 2, none⟩) (Kd.R_far (p := ⟨gb506, 1, none⟩) (Kd.R_far (p := ⟨gb506, 0, none⟩) (Kd.R_types HO505.out BK506.out (by decide)) (fun _ hk => hk.2) (.string t495)) (fun _ hk => hk.2) (.string t496)) (fun _ hk => hk.2) (.int .i64 t497)) (fun _ hk => hk.2) (.string t498)) (fun _ hk => hk.2) (.int .i64 t499)) (fun _ hk => hk.2) (.int .i64 t500)) (fun _ hk => hk.2) (.int .i64 t501)) (fun _ hk => hk.2) (.int .i64 t502)) (fun _ hk => hk.2) (.slice Ao82 t503.length co82)) (fun _ h_ => h_.1))) hb); replace BK474 := Aside0.mk (blk_below (g := gb474) (o := .cells #[.string a1_0, .string a1_1, .int .i64 a1_2, .string a1_3, .int .i64 a1_4, .int .i64 a1_5, .int .i64 a1_6, .int .i64 a1_7, .slice A1_8 l1_8.length c1_8] 27 (0, 0)) (by refine zf ?_ NB474_506; refine zf ?_ NB474_506; refine zf ?_ NB474_506; refine zf ?_ NB474_506; refine zf ?_ NB474_506; refine zf ?_ NB474_506; refine zf ?_ NB474_506; refine zf ?_ NB474_506; refine zf ?_ NB474_506; exact pK BK474.out) hb); replace BK506 := Aside0.mk (blk_below (g := gb506) (o := .cells #[.string t495, .string t496, .int .i64 t497, .string t498, .int .i64 t499, .int .i64 t500, .int .i64 t501, .int .i64 t502, .slice Ao82 t503.length co82] 36 (0, 0)) (by refine zg #[.string t495, .string t496, .int .i64 t497, .string t498, .int .i64 t499, .int .i64 t500, .int .i64 t501, .int .i64 t502, .slice none 0 0] 8 ?_; refine zg #[.string t495, .string t496, .int .i64 t497, .string t498, .int .i64 t499, .int .i64 t500, .int .i64 t501, .int .i64 0, .slice none 0 0] 7 ?_; refine zg #[.string t495, .string t496, .int .i64 t497, .string t498, .int .i64 t499, .int .i64 t500, .int .i64 0, .int .i64 0, .slice none 0 0] 6 ?_; refine zg #[.string t495, .string t496, .int .i64 t497, .string t498, .int .i64 t499, .int .i64 0, .int .i64 0, .int .i64 0, .slice none 0 0] 5 ?_; refine zg #[.string t495, .string t496, .int .i64 t497, .string t498, .int .i64 0, .int .i64 0, .int .i64 0, .int .i64 0, .slice none 0 0] 4 ?_; refine zg #[.string t495, .string t496, .int .i64 t497, .string (⟨#[]⟩ : ByteArray), .int .i64 0, .int .i64 0, .int .i64 0, .int .i64 0, .slice none 0 0] 3 ?_; refine zg #[.string t495, .string t496, .int .i64 0, .string (⟨#[]⟩ : ByteArray), .int .i64 0, .int .i64 0, .int .i64 0, .int .i64 0, .slice none 0 0] 2 ?_; refine zg #[.string t495, .string (⟨#[]⟩ : ByteArray), .int .i64 0, .string (⟨#[]⟩ : ByteArray), .int .i64 0, .int .i64 0, .int .i64 0, .int .i64 0, .slice none 0 0] 1 ?_; refine zg #[.string (⟨#[]⟩ : ByteArray), .string (⟨#[]⟩ : ByteArray), .int .i64 0, .string (⟨#[]⟩ : ByteArray), .int .i64 0, .int .i64 0, .int .i64 0, .int .i64 0, .slice none 0 0] 0 ?_; exact pK BK506.out) hb); replace HB := zW (pB2 HB.out GE474.out GE506.out) hb; (try clear hb); (try clear hb2); (try clear hk); (try clear hi)) | ((with_reducible refine gate_callee (f := 12) rfl ?_); refine goesL_ (some 37) rfl rfl Try.func12 (by kernel_rfl) rfl #[.slice A0 l0.length c0] rfl pA ?_; (with_reducible refine (laws_toPointS.calls k _ _ l0 t508 _ ?side1 ?side2 A36.out).mono ?_); (case side1 => exact pC (Kd.C_below HR0.out HB.out)); (case side2 => exact HC0.out); rintro e w85 ⟨v509, rfl, ho0, hb⟩; refine ⟨_, rfl, ?_⟩; have HO510 := Aside0.mk (Kd.R_lower (Kd.R_new' (Kd.R_new' ho0 (Kd.R_lt (pR HO479.out))) (Kd.R_lt (pR HO494.out))) (below_size (pB2 HB.out GE474.out GE506.out))); replace HO479 := Aside0.mk (Kd.R_elder' (pR HO479.out) (Kd.R_base ho0) hb); replace HO490 := Aside0.mk (Kd.R_below (pR HO490.out) hb); replace HO494 := Aside0.mk (Kd.R_elder' (pR HO494.out) (Kd.R_base ho0) hb); replace HO505 := Aside0.mk (Kd.R_below (pR HO505.out) hb); replace BK474 := zK BK474 hb; replace BK506 := zK BK506 hb; replace HB := zW (pB2 HB.out GE474.out GE506.out) hb; (try clear hb); (try clear hb2); (try clear hk); (try clear hi); (try clear ho0); obtain ⟨Ao86, co86, eo86⟩ := Kd.R_slice HO510.out; subst eo86) | ((with_reducible refine gate_callee (f := 15) rfl ?_); refine goesL_ (some 38) rfl rfl Try.func15 (by kernel_rfl) rfl #[.slice Ao83 t492.length co83, .slice Ao86 t508.length co86] rfl pA ?_; (with_reducible refine (laws_eqPointS.calls k _ _ t492 _ _ t508 true _ ?side1 ?side2 ?side3 ?side4 A37.out).mono ?_); (case side1 => exact pC ((Kd.R_reads' HO494.out).2.2)); (case side2 => exact (Kd.R_reads' HO494.out).2.1); (case side3 => exact pC ((Kd.R_reads' HO510.out).2.2)); (case side4 => exact (Kd.R_reads' HO510.out).2.1); rintro e w87 ⟨rfl, hb⟩; refine ⟨_, rfl, ?_⟩; replace HO479 := Aside0.mk (Kd.R_below (pR HO479.out) hb); replace HO490 := Aside0.mk (Kd.R_below (pR HO490.out) hb); replace HO494 := Aside0.mk (Kd.R_below (pR HO494.out) hb); replace HO505 := Aside0.mk (Kd.R_below (pR HO505.out) hb); replace HO510 := Aside0.mk (Kd.R_below (pR HO510.out) hb); replace BK474 := zK BK474 hb; replace BK506 := zK BK506 hb; replace HB := zW (pB2 HB.out GE474.out GE506.out) hb; (try clear hb); (try clear hb2); (try clear hk); (try clear hi)))
 replace HO479 := Aside0.mk (Kd.R_drew HO479.out)
 replace HO490 := Aside0.mk (Kd.R_drew HO490.out)
 replace HO494 := Aside0.mk (Kd.R_drew HO494.out)
 replace HO505 := Aside0.mk (Kd.R_drew HO505.out)
 replace HO510 := Aside0.mk (Kd.R_drew HO510.out)
 replace BK474 := Aside0.mk (blk_drew BK474.out)
 replace BK506 := Aside0.mk (blk_drew BK506.out)
 replace HB := Aside0.mk (below_drew1 HB.out)
 refine start_ (n := 5) (S := fun w' => w'.cell? ⟨gb506, 0, none⟩ = some (.string t495) ∧ w'.cell? ⟨gb506, 1, none⟩ = some (.string t496) ∧ w'.cell? ⟨gb506, 2, none⟩ = some (.int .i64 t497) ∧ w'.cell? ⟨gb506, 3, none⟩ = some (.string t498) ∧ w'.cell? ⟨gb506, 4, none⟩ = some (.int .i64 t499) ∧ w'.cell? ⟨gb506, 5, none⟩ = some (.int .i64 t500) ∧ w'.cell? ⟨gb506, 6, none⟩ = some (.int .i64 t501) ∧ w'.cell? ⟨gb506, 7, none⟩ = some (.int .i64 t502) ∧ w'.cell? ⟨gb506, 8, none⟩ = some (.slice Ao82 t503.length co82) ∧ w'.cell? ⟨gb474, 0, none⟩ = some (.string a1_0) ∧ w'.cell? ⟨gb474, 1, none⟩ = some (.string a1_1) ∧ w'.cell? ⟨gb474, 2, none⟩ = some (.int .i64 a1_2) ∧ w'.cell? ⟨gb474, 3, none⟩ = some (.string a1_3) ∧ w'.cell? ⟨gb474, 4, none⟩ = some (.int .i64 a1_4) ∧ w'.cell? ⟨gb474, 5, none⟩ = some (.int .i64 a1_5) ∧ w'.cell? ⟨gb474, 6, none⟩ = some (.int .i64 a1_6) ∧ w'.cell? ⟨gb474, 7, none⟩ = some (.int .i64 a1_7) ∧ w'.cell? ⟨gb474, 8, none⟩ = some (.slice A1_8 l1_8.length c1_8)) (ds := []) (Array.replicate 5 false) (by kernel_rfl) rfl rfl ⟨zQ BK506 0, zQ BK506 1, zQ BK506 2, zQ BK506 3, zQ BK506 4, zQ BK506 5, zQ BK506 6, zQ BK506 7, zQ BK506 8, zQ BK474 0, zQ BK474 1, zQ BK474 2, zQ BK474 3, zQ BK474 4, zQ BK474 5, zQ BK474 6, zQ BK474 7, zQ BK474 8⟩ (fun hHeld => ?_)
 generalize w87.drew = w88 at HO479 HO490 HO494 HO505 HO510 BK474 BK506 HB hHeld ⊢
 refine take_ (i := 0) (N := some 40) (v := ?_) (a' := ?_) #[true, false, false, false, false] rfl rfl (by kernel_rfl) (fun _ _ _ h => h) (Or.inl ⟨by rfl, ?_⟩) hHeld ?_ ?_
 rotate_left
 · rintro w' ⟨s0, s1, s2, s3, s4, s5, s6, s7, s8, s9, s10, s11, s12, s13, s14, s15, s16, s17⟩
   go_simp
   with_reducible rfl
 rotate_left
 · simp only [Act.put, List.setIfInBounds_toArray, List.set_cons_zero, List.set_cons_succ, i64_w, i32_w]
   rfl
 refine take_ (i := 1) (N := some 41) (v := ?_) (a' := ?_) #[true, true, false, false, false] rfl rfl (by kernel_rfl) (fun _ _ _ h => h) (Or.inl ⟨by rfl, ?_⟩) hHeld ?_ ?_
 rotate_left
 · rintro w' ⟨s0, s1, s2, s3, s4, s5, s6, s7, s8, s9, s10, s11, s12, s13, s14, s15, s16, s17⟩
   go_simp
   with_reducible rfl
 rotate_left
 · simp only [Act.put, List.setIfInBounds_toArray, List.set_cons_zero, List.set_cons_succ, i64_w, i32_w]
   rfl
 refine one_ (i := 2) (N := some 42) (zb 5 7) rfl rfl (by kernel_rfl) (by decide) (fun K hK => ?_)
 refine goes_ Try.func13 (by kernel_rfl) rfl #[.agg #[.string a1_0, .string a1_1, .int .i64 a1_2, .string a1_3, .int .i64 a1_4, .int .i64 a1_5, .int .i64 a1_6, .int .i64 a1_7, .slice A1_8 l1_8.length c1_8]] (by rfl) rfl rfl pA ?_
 with_reducible refine (laws_toLeaf.calls k a1_0 a1_1 a1_2 a1_3 a1_4 a1_5 a1_6 a1_7 _ _ l1_8 t512 t513 t514 t515 t516 t517 t518 t519 t520 _ ?side1 ?side2 A39.out).mono ?_
 (case side1 => exact pC (Kd.C_below HR1_8.out HB.out))
 (case side2 => exact HC1_8.out)
 rintro e w89 ⟨v521, rfl, ho0, hb⟩
 refine ⟨_, rfl, ?_⟩
 have HO522 := Aside0.mk (Kd.R_lower (Kd.R_new' (Kd.R_new' ho0 (Kd.R_lt (pR HO490.out))) (Kd.R_lt (pR HO505.out))) (below_size (pB2 HB.out GE474.out GE506.out)))
 replace HO479 := Aside0.mk (Kd.R_below (pR HO479.out) hb)
 replace HO490 := Aside0.mk (Kd.R_elder' (pR HO490.out) (Kd.R_base ho0) hb)
 replace HO494 := Aside0.mk (Kd.R_below (pR HO494.out) hb)
 replace HO505 := Aside0.mk (Kd.R_elder' (pR HO505.out) (Kd.R_base ho0) hb)
 replace HO510 := Aside0.mk (Kd.R_below (pR HO510.out) hb)
 replace BK474 := zK BK474 hb
 replace BK506 := zK BK506 hb
 replace HB := zW (pB2 HB.out GE474.out GE506.out) hb
 (try clear hb)
 (try clear hb2)
 (try clear hk)
 (try clear hi)
 (try clear ho0)
 obtain ⟨Ao90, co90, eo90⟩ := Kd.R_slice HO522.out
 (first | subst eo90 | (injection eo90 with f1_ f2_ f3_; have f4_ := f1_.symm; have f5_ := f3_.symm; clear f1_ f2_ f3_; subst f4_; subst f5_))
 refine hK.out _ _ ⟨zQ BK506 0, zQ BK506 1, zQ BK506 2, zQ BK506 3, zQ BK506 4, zQ BK506 5, zQ BK506 6, zQ BK506 7, zQ BK506 8, zQ BK474 0, zQ BK474 1, zQ BK474 2, zQ BK474 3, zQ BK474 4, zQ BK474 5, zQ BK474 6, zQ BK474 7, zQ BK474 8⟩ (fun hHeld => ?_)
 clear hK K
 refine zN ?_
 refine one_ (i := 3) (N := some 43) (zb 5 15) rfl rfl (by kernel_rfl) (by decide) (fun K hK => ?_)
 refine goes_ Try.func16 (by kernel_rfl) rfl #[.agg #[.string t495, .string t496, .int .i64 t497, .string t498, .int .i64 t499, .int .i64 t500, .int .i64 t501, .int .i64 t502, .slice Ao82 t503.length co82], .agg #[.string t512, .string t513, .int .i64 t514, .string t515, .int .i64 t516, .int .i64 t517, .int .i64 t518, .int .i64 t519, .slice Ao90 t520.length co90]] (by rfl) rfl rfl pA ?_
 with_reducible refine (laws_eqLeaf.calls k t495 t496 t497 t498 t499 t500 t501 t502 _ _ t503 t512 t513 t514 t515 t516 t517 t518 t519 _ _ t520 false _ ?side1 ?side2 ?side3 ?side4 A40.out).mono ?_
 (case side1 => exact pC ((Kd.R_reads' HO505.out).2.2))
 (case side2 => exact (Kd.R_reads' HO505.out).2.1)
 (case side3 => exact pC ((Kd.R_reads' HO522.out).2.2))
 (case side4 => exact (Kd.R_reads' HO522.out).2.1)
 rintro e w91 ⟨rfl, hb⟩
 refine ⟨_, rfl, ?_⟩
 replace HO479 := Aside0.mk (Kd.R_below (pR HO479.out) hb)
 replace HO490 := Aside0.mk (Kd.R_below (pR HO490.out) hb)
 replace HO494 := Aside0.mk (Kd.R_below (pR HO494.out) hb)
 replace HO505 := Aside0.mk (Kd.R_below (pR HO505.out) hb)
 replace HO510 := Aside0.mk (Kd.R_below (pR HO510.out) hb)
 replace HO522 := Aside0.mk (Kd.R_below (pR HO522.out) hb)
 replace BK474 := zK BK474 hb
 replace BK506 := zK BK506 hb
 replace HB := zW (pB2 HB.out GE474.out GE506.out) hb
 (try clear hb)
 (try clear hb2)
 (try clear hk)
 (try clear hi)
 refine hK.out _ _ ⟨zQ BK506 0, zQ BK506 1, zQ BK506 2, zQ BK506 3, zQ BK506 4, zQ BK506 5, zQ BK506 6, zQ BK506 7, zQ BK506 8, zQ BK474 0, zQ BK474 1, zQ BK474 2, zQ BK474 3, zQ BK474 4, zQ BK474 5, zQ BK474 6, zQ BK474 7, zQ BK474 8⟩ (fun hHeld => ?_)
 clear hK K
 refine zN ?_
 refine pure_ (i := 4) (N := some 44) (v := ?_) (a' := ?_) #[true, true, true, true, true] rfl rfl (by kernel_rfl) (fun _ _ _ h => h) (Or.inl ⟨by rfl, ?_⟩) ?_ ?_
 rotate_left
 · intro w'
   go_simp
   with_reducible rfl
 rotate_left
 · simp only [Act.put, List.setIfInBounds_toArray, List.set_cons_zero, List.set_cons_succ, i64_w, i32_w]
   rfl
 refine done_ (by kernel_rfl) ?_
 try go_wp2
 go_ret
 exact ⟨zE, pB2 HB.out GE474.out GE506.out⟩
def B93 (x : S93) : Prop := (Lit.int .i64 x.f0).wf = true ∧ (Lit.int .i64 x.f1).wf = true
def B24 (x : S24) : Prop := x.f0.size ≤ maxLen ∧ (Lit.int .i64 x.f1).wf = true ∧ (Lit.int .i64 x.f2).wf = true
def B136 (x : S136) : Prop := (Lit.int .i64 x.f0).wf = true ∧ (Lit.int .i64 x.f1).wf = true ∧ (Lit.int .i64 x.f2).wf = true ∧ (Lit.int .i64 x.f3).wf = true
def B27 (x : S27) : Prop := x.f0.size ≤ maxLen ∧ x.f1.size ≤ maxLen ∧ (Lit.int .i64 x.f2).wf = true ∧ B24 x.f3 ∧ (Lit.int .i64 x.f4).wf = true ∧ (Lit.int .i64 x.f5).wf = true ∧ (x.f6.length ≤ maxLen ∧ ∀ x_ ∈ x.f6, B136 x_)
def laws_FnExactFitsLeaf.Pure : Prop := ∀ (l0 : List (S93)) (a1_0 : ByteArray) (a1_1 : ByteArray) (a1_2 : Int) (a1_3 : ByteArray) (a1_4 : Int) (a1_5 : Int) (a1_6 : Int) (a1_7 : Int) (l1_8 : List (S136)), (l0.length ≤ maxLen ∧ ∀ x_ ∈ l0, B93 x_) → B27 (⟨a1_0, a1_1, a1_2, (⟨a1_3, a1_4, a1_5⟩ : S24), a1_6, a1_7, l1_8⟩ : S27) → ∃ k, laws_FnExactFitsLeaf.f k l0 a1_0 a1_1 a1_2 a1_3 a1_4 a1_5 a1_6 a1_7 l1_8 = some true
end Go.Proofs.Ytfiiakhpdkdebaa.PFnExactFitsLeaf

/- What each function that a law reaches comes to, and the proof that its walk comes to it; laid by a program of this session. No condition. -/
import Derived.Test.YtfiiakhpdkdebaaZFnExactTurnsThatFit0
import Derived.Test.YtfiiakhpdkdebaaZFnExactTurnsThatFit12
namespace Go.Proofs.Ytfiiakhpdkdebaa.PFnExactTurnsThatFit
open Go.RowKit Go.Proofs.YtfiiakhpdkdebaaW.PrintWords Go.Proofs.YtfiiakhpdkdebaaW.PrintLast Go.Proofs.YtfiiakhpdkdebaaW.PrintMore
attribute [local go_sem] max2_int min2_int max_two min_two max_three min_three max_four min_four
set_option linter.unusedVariables false
set_option linter.unusedSimpArgs false
def impl_on.f (a0_0 : Int) (a0_1 : Int) (a1_0 : Int) (a1_1 : Int) (a2_0 : Int) (a2_1 : Int) : Option (Bool) := (impl_side.f a0_0 a0_1 a1_0 a1_1 a2_0 a2_1).bind fun t332 => (if t332 = 0 then ((impl_within.f a2_0 (mn a0_0 a1_0) (mx a0_0 a1_0)).bind fun t333 => (if t333 = true then ((impl_within.f a2_1 (mn a0_1 a1_1) (mx a0_1 a1_1)).bind fun t334 => (some t334)) else (some false))) else (some false))
set_option maxHeartbeats 8000000 in
set_option maxRecDepth 100000 in
theorem impl_on.calls (a0_0 : Int) (a0_1 : Int) (a1_0 : Int) (a1_1 : Int) (a2_0 : Int) (a2_1 : Int) (r : Bool) (w : World) (h : impl_on.f a0_0 a0_1 a1_0 a1_1 a2_0 a2_1 = some r) :
 Calls Try.prog 96 #[.agg #[.int .i64 a0_0, .int .i64 a0_1], .agg #[.int .i64 a1_0, .int .i64 a1_1], .agg #[.int .i64 a2_0, .int .i64 a2_1]] w fun e w' => e = .returned (.bool r) ∧ Below w.heap.size w w' := by
 have hu91 := Try.underlying91
 have HB := Aside0.mk (Below.refl w.heap.size w)
 have H : ((impl_side.f a0_0 a0_1 a1_0 a1_1 a2_0 a2_1).bind fun t332 => (if t332 = 0 then ((impl_within.f a2_0 (mn a0_0 a1_0) (mx a0_0 a1_0)).bind fun t333 => (if t333 = true then ((impl_within.f a2_1 (mn a0_1 a1_1) (mx a0_1 a1_1)).bind fun t334 => (some t334)) else (some false))) else (some false))) = some r := h
 clear h
 replace H := Option.bind_eq_some_iff.mp H
 obtain ⟨t332, A40, H⟩ := H
 have A4 := Aside0.mk A40
 clear A40
 by_cases c5 : t332 = 0
 rotate_left
 · rw [if_neg c5] at H
   have c5b0 : (t332 == 0) = false := beq_eq_false_iff_ne.mpr c5
   have c5b1 : (t332 != 0) = true := bne_iff_ne.mpr c5
   obtain rfl := Option.some.inj H
   go_enter Try.func96, Try.ntmps96
   go_wp2_with (first | ((with_reducible refine gate_dst (N := 3) rfl ?_); (try (refine gate_guard (by rfl) ?_; dsimp only)); refine zB 3 #[.int .i64 a0_0, .int .i64 a0_1] 91 ?_; intro gb329 hg w39 hbox hb; have BK329 := Aside0.mk (hbox); have GW329 := zS (pB0 HB.out) hg; have GE329 := zS (pB0 HB.out) hg; replace HB := zW (pB0 HB.out) hb; clear hb hbox hg) | ((with_reducible refine gate_dst (N := 4) rfl ?_); (try (refine gate_guard (by rfl) ?_; dsimp only)); refine zB 4 #[.int .i64 a1_0, .int .i64 a1_1] 91 ?_; intro gb330 hg w40 hbox hb; have BK330 := Aside0.mk (hbox); have GW330 := zS (pB1 HB.out GE329.out) hg; have GE330 := zS (pB1 HB.out GE329.out) hg; have NB329_330 := zL BK329 hg; have NB330_329 := zM BK329 hg; replace BK329 := zK BK329 hb; replace HB := zW (pB1 HB.out GE329.out) hb; clear hb hbox hg) | ((with_reducible refine gate_dst (N := 5) rfl ?_); (try (refine gate_guard (by rfl) ?_; dsimp only)); refine zB 5 #[.int .i64 a2_0, .int .i64 a2_1] 91 ?_; intro gb331 hg w41 hbox hb; have BK331 := Aside0.mk (hbox); have GW331 := zS (pB2 HB.out GE329.out GE330.out) hg; have GE331 := zS (pB2 HB.out GE329.out GE330.out) hg; have NB329_331 := zL BK329 hg; have NB331_329 := zM BK329 hg; have NB330_331 := zL BK330 hg; have NB331_330 := zM BK330 hg; replace BK329 := zK BK329 hb; replace BK330 := zK BK330 hb; replace HB := zW (pB2 HB.out GE329.out GE330.out) hb; clear hb hbox hg; have hnb42 := NB329_330.out; have hnc42 := NB330_329.out; have hnb43 := NB329_331.out; have hnc43 := NB331_329.out; obtain ⟨hcz44_0, hfz44_0, hcz44_1, hfz44_1⟩ := zw2 BK329; have hnb45 := NB330_331.out; have hnc45 := NB331_330.out; obtain ⟨hcz46_0, hfz46_0, hcz46_1, hfz46_1⟩ := zw2 BK330; obtain ⟨hcz47_0, hfz47_0, hcz47_1, hfz47_1⟩ := zw2 BK331) | ((with_reducible refine gate_callee (f := 133) rfl ?_); refine goesL_ (some 10) rfl rfl Try.func133 (by kernel_rfl) rfl #[.agg #[.int .i64 a0_0, .int .i64 a0_1], .agg #[.int .i64 a1_0, .int .i64 a1_1], .agg #[.int .i64 a2_0, .int .i64 a2_1]] rfl pA ?_; (with_reducible refine (impl_side.calls a0_0 a0_1 a1_0 a1_1 a2_0 a2_1 t332 _ A4.out).mono ?_); rintro e w48 ⟨rfl, hb⟩; refine ⟨_, rfl, ?_⟩; replace BK329 := zK BK329 hb; replace BK330 := zK BK330 hb; replace BK331 := zK BK331 hb; replace HB := zW (pB3 HB.out GE329.out GE330.out GE331.out) hb; (try clear hb); (try clear hb2); (try clear hk); (try clear hi)))
   go_ret
   exact ⟨zE, pB3 HB.out GE329.out GE330.out GE331.out⟩
 rw [if_pos c5] at H
 have c5b0 : (t332 == 0) = true := beq_iff_eq.mpr c5
 have c5b1 : (t332 != 0) = false := bne_eq_false_iff_eq.mpr c5
 clear c5
 obtain ⟨ji6, hji6⟩ : ∃ j_ : Int, (mn a0_0 a1_0) = j_ := ⟨_, rfl⟩
 replace H : ((impl_within.f a2_0 (ji6) (mx a0_0 a1_0)).bind fun t333 => (if t333 = true then ((impl_within.f a2_1 (mn a0_1 a1_1) (mx a0_1 a1_1)).bind fun t334 => (some t334)) else (some false))) = some r := by first | (rw [hji6] at H; exact H) | (simp only [hji6] at H ⊢; exact H)
 (try rw [hji6] at A4)
 have hji6_ : (if a1_0 < a0_0 then a1_0 else a0_0) = ji6 := hji6
 obtain ⟨ji7, hji7⟩ : ∃ j_ : Int, (mx a0_0 a1_0) = j_ := ⟨_, rfl⟩
 replace H : ((impl_within.f a2_0 (ji6) (ji7)).bind fun t333 => (if t333 = true then ((impl_within.f a2_1 (mn a0_1 a1_1) (mx a0_1 a1_1)).bind fun t334 => (some t334)) else (some false))) = some r := by first | (rw [hji7] at H; exact H) | (simp only [hji7] at H ⊢; exact H)
 (try rw [hji7] at A4)
 have hji7_ : (if a0_0 < a1_0 then a1_0 else a0_0) = ji7 := hji7
 replace H := Option.bind_eq_some_iff.mp H
 obtain ⟨t333, A80, H⟩ := H
 have A8 := Aside0.mk A80
 clear A80
 by_cases c9 : t333 = true
 rotate_left
 · replace c9 := Bool.eq_false_iff.mpr c9
   subst c9
   have H1 : (some false) = some r := by rw [if_neg (show ¬ (false = true) by decide)] at H; exact H
   clear H
   have H := H1
   clear H1
   obtain rfl := Option.some.inj H
   go_enter Try.func96, Try.ntmps96
   go_wp2_with (first | ((with_reducible refine gate_dst (N := 3) rfl ?_); (try (refine gate_guard (by rfl) ?_; dsimp only)); refine zB 3 #[.int .i64 a0_0, .int .i64 a0_1] 91 ?_; intro gb329 hg w26 hbox hb; have BK329 := Aside0.mk (hbox); have GW329 := zS (pB0 HB.out) hg; have GE329 := zS (pB0 HB.out) hg; replace HB := zW (pB0 HB.out) hb; clear hb hbox hg) | ((with_reducible refine gate_dst (N := 4) rfl ?_); (try (refine gate_guard (by rfl) ?_; dsimp only)); refine zB 4 #[.int .i64 a1_0, .int .i64 a1_1] 91 ?_; intro gb330 hg w27 hbox hb; have BK330 := Aside0.mk (hbox); have GW330 := zS (pB1 HB.out GE329.out) hg; have GE330 := zS (pB1 HB.out GE329.out) hg; have NB329_330 := zL BK329 hg; have NB330_329 := zM BK329 hg; replace BK329 := zK BK329 hb; replace HB := zW (pB1 HB.out GE329.out) hb; clear hb hbox hg) | ((with_reducible refine gate_dst (N := 5) rfl ?_); (try (refine gate_guard (by rfl) ?_; dsimp only)); refine zB 5 #[.int .i64 a2_0, .int .i64 a2_1] 91 ?_; intro gb331 hg w28 hbox hb; have BK331 := Aside0.mk (hbox); have GW331 := zS (pB2 HB.out GE329.out GE330.out) hg; have GE331 := zS (pB2 HB.out GE329.out GE330.out) hg; have NB329_331 := zL BK329 hg; have NB331_329 := zM BK329 hg; have NB330_331 := zL BK330 hg; have NB331_330 := zM BK330 hg; replace BK329 := zK BK329 hb; replace BK330 := zK BK330 hb; replace HB := zW (pB2 HB.out GE329.out GE330.out) hb; clear hb hbox hg; have hnb29 := NB329_330.out; have hnc29 := NB330_329.out; have hnb30 := NB329_331.out; have hnc30 := NB331_329.out; obtain ⟨hcz31_0, hfz31_0, hcz31_1, hfz31_1⟩ := zw2 BK329; have hnb32 := NB330_331.out; have hnc32 := NB331_330.out; obtain ⟨hcz33_0, hfz33_0, hcz33_1, hfz33_1⟩ := zw2 BK330; obtain ⟨hcz34_0, hfz34_0, hcz34_1, hfz34_1⟩ := zw2 BK331) | ((with_reducible refine gate_callee (f := 133) rfl ?_); refine goesL_ (some 10) rfl rfl Try.func133 (by kernel_rfl) rfl #[.agg #[.int .i64 a0_0, .int .i64 a0_1], .agg #[.int .i64 a1_0, .int .i64 a1_1], .agg #[.int .i64 a2_0, .int .i64 a2_1]] rfl pA ?_; (with_reducible refine (impl_side.calls a0_0 a0_1 a1_0 a1_1 a2_0 a2_1 t332 _ A4.out).mono ?_); rintro e w35 ⟨rfl, hb⟩; refine ⟨_, rfl, ?_⟩; replace BK329 := zK BK329 hb; replace BK330 := zK BK330 hb; replace BK331 := zK BK331 hb; replace HB := zW (pB3 HB.out GE329.out GE330.out GE331.out) hb; (try clear hb); (try clear hb2); (try clear hk); (try clear hi); obtain ⟨hcz36_0, hfz36_0, hcz36_1, hfz36_1⟩ := zw2 BK331; obtain ⟨hcz37_0, hfz37_0, hcz37_1, hfz37_1⟩ := zw2 BK329; obtain ⟨hcz38_0, hfz38_0, hcz38_1, hfz38_1⟩ := zw2 BK330) | (go_at_call 83; (with_reducible refine (impl_within.calls a2_0 ji6 ji7 false _ A8.out).mono ?_); rintro e w' ⟨rfl, ⟨nd, rfl⟩⟩))
   go_ret
   exact ⟨by first | rfl | (simp [errW_none, errW_some] <;> rfl) | (simp only [← hji6, ← hji7]; first | rfl | (simp [errW_none, errW_some] <;> rfl)) | (simp [*, errW_none, errW_some] <;> rfl), pB3 HB.out GE329.out GE330.out GE331.out⟩
 subst c9
 have H1 : ((impl_within.f a2_1 (mn a0_1 a1_1) (mx a0_1 a1_1)).bind fun t334 => (some t334)) = some r := by rw [if_pos rfl] at H; exact H
 clear H
 have H := H1
 clear H1
 obtain ⟨ji10, hji10⟩ : ∃ j_ : Int, (mn a0_1 a1_1) = j_ := ⟨_, rfl⟩
 replace H : ((impl_within.f a2_1 (ji10) (mx a0_1 a1_1)).bind fun t334 => (some t334)) = some r := by first | (rw [hji10] at H; exact H) | (simp only [hji10] at H ⊢; exact H)
 (try rw [hji10] at A4)
 (try rw [hji10] at A8)
 have hji10_ : (if a1_1 < a0_1 then a1_1 else a0_1) = ji10 := hji10
 obtain ⟨ji11, hji11⟩ : ∃ j_ : Int, (mx a0_1 a1_1) = j_ := ⟨_, rfl⟩
 replace H : ((impl_within.f a2_1 (ji10) (ji11)).bind fun t334 => (some t334)) = some r := by first | (rw [hji11] at H; exact H) | (simp only [hji11] at H ⊢; exact H)
 (try rw [hji11] at A4)
 (try rw [hji11] at A8)
 have hji11_ : (if a0_1 < a1_1 then a1_1 else a0_1) = ji11 := hji11
 replace H := Option.bind_eq_some_iff.mp H
 obtain ⟨t334, A120, H⟩ := H
 have A12 := Aside0.mk A120
 clear A120
 obtain rfl := Option.some.inj H
 go_enter Try.func96, Try.ntmps96
 go_wp2_with (first | ((with_reducible refine gate_dst (N := 3) rfl ?_); (try (refine gate_guard (by rfl) ?_; dsimp only)); refine zB 3 #[.int .i64 a0_0, .int .i64 a0_1] 91 ?_; intro gb329 hg w13 hbox hb; have BK329 := Aside0.mk (hbox); have GW329 := zS (pB0 HB.out) hg; have GE329 := zS (pB0 HB.out) hg; replace HB := zW (pB0 HB.out) hb; clear hb hbox hg) | ((with_reducible refine gate_dst (N := 4) rfl ?_); (try (refine gate_guard (by rfl) ?_; dsimp only)); refine zB 4 #[.int .i64 a1_0, .int .i64 a1_1] 91 ?_; intro gb330 hg w14 hbox hb; have BK330 := Aside0.mk (hbox); have GW330 := zS (pB1 HB.out GE329.out) hg; have GE330 := zS (pB1 HB.out GE329.out) hg; have NB329_330 := zL BK329 hg; have NB330_329 := zM BK329 hg; replace BK329 := zK BK329 hb; replace HB := zW (pB1 HB.out GE329.out) hb; clear hb hbox hg) | ((with_reducible refine gate_dst (N := 5) rfl ?_); (try (refine gate_guard (by rfl) ?_; dsimp only)); refine zB 5 #[.int .i64 a2_0, .int .i64 a2_1] 91 ?_; intro gb331 hg w15 hbox hb; have BK331 := Aside0.mk (hbox); have GW331 := zS (pB2 HB.out GE329.out GE330.out) hg; have GE331 := zS (pB2 HB.out GE329.out GE330.out) hg; have NB329_331 := zL BK329 hg; have NB331_329 := zM BK329 hg; have NB330_331 := zL BK330 hg; have NB331_330 := zM BK330 hg; replace BK329 := zK BK329 hb; replace BK330 := zK BK330 hb; replace HB := zW (pB2 HB.out GE329.out GE330.out) hb; clear hb hbox hg; have hnb16 := NB329_330.out; have hnc16 := NB330_329.out; have hnb17 := NB329_331.out; have hnc17 := NB331_329.out; obtain ⟨hcz18_0, hfz18_0, hcz18_1, hfz18_1⟩ := zw2 BK329; have hnb19 := NB330_331.out; have hnc19 := NB331_330.out; obtain ⟨hcz20_0, hfz20_0, hcz20_1, hfz20_1⟩ := zw2 BK330; obtain ⟨hcz21_0, hfz21_0, hcz21_1, hfz21_1⟩ := zw2 BK331) | ((with_reducible refine gate_callee (f := 133) rfl ?_); refine goesL_ (some 10) rfl rfl Try.func133 (by kernel_rfl) rfl #[.agg #[.int .i64 a0_0, .int .i64 a0_1], .agg #[.int .i64 a1_0, .int .i64 a1_1], .agg #[.int .i64 a2_0, .int .i64 a2_1]] rfl pA ?_; (with_reducible refine (impl_side.calls a0_0 a0_1 a1_0 a1_1 a2_0 a2_1 t332 _ A4.out).mono ?_); rintro e w22 ⟨rfl, hb⟩; refine ⟨_, rfl, ?_⟩; replace BK329 := zK BK329 hb; replace BK330 := zK BK330 hb; replace BK331 := zK BK331 hb; replace HB := zW (pB3 HB.out GE329.out GE330.out GE331.out) hb; (try clear hb); (try clear hb2); (try clear hk); (try clear hi); obtain ⟨hcz23_0, hfz23_0, hcz23_1, hfz23_1⟩ := zw2 BK331; obtain ⟨hcz24_0, hfz24_0, hcz24_1, hfz24_1⟩ := zw2 BK329; obtain ⟨hcz25_0, hfz25_0, hcz25_1, hfz25_1⟩ := zw2 BK330) | (go_at_call 83; (with_reducible refine (impl_within.calls a2_0 ji6 ji7 true _ A8.out).mono ?_); rintro e w' ⟨rfl, ⟨nd, rfl⟩⟩) | (go_at_call 83; (with_reducible refine (impl_within.calls a2_1 ji10 ji11 t334 _ A12.out).mono ?_); rintro e w' ⟨rfl, ⟨nd, rfl⟩⟩))
 go_ret
 exact ⟨by first | rfl | (simp [errW_none, errW_some] <;> rfl) | (simp only [← hji6, ← hji7, ← hji10, ← hji11]; first | rfl | (simp [errW_none, errW_some] <;> rfl)) | (simp [*, errW_none, errW_some] <;> rfl), pB3 HB.out GE329.out GE330.out GE331.out⟩
def impl_crossing.f (a0_0 : Int) (a0_1 : Int) (a1_0 : Int) (a1_1 : Int) (a2_0 : Int) (a2_1 : Int) (a3_0 : Int) (a3_1 : Int) : Option (Bool) := (impl_side.f a0_0 a0_1 a1_0 a1_1 a2_0 a2_1).bind fun t339 => ((impl_side.f a0_0 a0_1 a1_0 a1_1 a3_0 a3_1).bind fun t340 => (if (wrap64 (t339 * t340)) < 0 then ((impl_side.f a2_0 a2_1 a3_0 a3_1 a0_0 a0_1).bind fun t341 => ((impl_side.f a2_0 a2_1 a3_0 a3_1 a1_0 a1_1).bind fun t342 => (some (decide ((wrap64 (t341 * t342)) < 0))))) else (some false)))
def impl_crossing.T1 : Bool × List (List Nat × List Nat) := (true, [([], []), ([], []), ([], []), ([0, 1, 2], [0, 1, 2]), ([], []), ([], []), ([], []), ([4, 5, 6, 3], [4, 5, 6]), ([3, 7], [3, 7]), ([8], [8]), ([9, 7], [9]), ([10], [10]), ([10], [10]), ([10], [10]), ([11, 12, 13, 10, 10], [10, 11, 12, 13]), ([10], [10]), ([10], [10]), ([10], [10]), ([15, 16, 17, 14, 10], [10, 15, 16, 17]), ([14, 18, 10], [10, 14, 18]), ([19, 10], [10, 19]), ([10, 20], [10, 20]), ([21, 18, 0, 1, 2, 3, 4, 5, 6, 7, 8, 9, 10, 11, 12, 13, 14, 15, 16, 17, 18, 19, 20, 21], [21])])
def impl_crossing.B1 : List Nat := [0, 0, 0, 7, 0, 0, 0, 127, 255, 511, 1023, 2047, 2047, 2047, 16383, 2047, 2047, 2047, 262143, 524287, 1048575, 2097151, 4194303]
theorem impl_crossing.tab1 : rtab .any (opsOf Try.f134 1) = impl_crossing.T1 := by kernel_rfl
theorem impl_crossing.bits1 : waitsOk impl_crossing.T1.2 impl_crossing.B1 = true := by kernel_rfl
set_option maxHeartbeats 8000000 in
set_option maxRecDepth 100000 in
theorem impl_crossing.calls (a0_0 : Int) (a0_1 : Int) (a1_0 : Int) (a1_1 : Int) (a2_0 : Int) (a2_1 : Int) (a3_0 : Int) (a3_1 : Int) (r : Bool) (w : World) (h : impl_crossing.f a0_0 a0_1 a1_0 a1_1 a2_0 a2_1 a3_0 a3_1 = some r) :
 Calls Try.prog 134 #[.agg #[.int .i64 a0_0, .int .i64 a0_1], .agg #[.int .i64 a1_0, .int .i64 a1_1], .agg #[.int .i64 a2_0, .int .i64 a2_1], .agg #[.int .i64 a3_0, .int .i64 a3_1]] w fun e w' => e = .returned (.bool r) ∧ Below w.heap.size w w' := by
 have hu91 := Try.underlying91
 have HB := Aside0.mk (Below.refl w.heap.size w)
 have H : ((impl_side.f a0_0 a0_1 a1_0 a1_1 a2_0 a2_1).bind fun t339 => ((impl_side.f a0_0 a0_1 a1_0 a1_1 a3_0 a3_1).bind fun t340 => (if (wrap64 (t339 * t340)) < 0 then ((impl_side.f a2_0 a2_1 a3_0 a3_1 a0_0 a0_1).bind fun t341 => ((impl_side.f a2_0 a2_1 a3_0 a3_1 a1_0 a1_1).bind fun t342 => (some (decide ((wrap64 (t341 * t342)) < 0))))) else (some false)))) = some r := h
 clear h
 replace H := Option.bind_eq_some_iff.mp H
 obtain ⟨t339, A50, H⟩ := H
 have A5 := Aside0.mk A50
 clear A50
 replace H := Option.bind_eq_some_iff.mp H
 obtain ⟨t340, A60, H⟩ := H
 have A6 := Aside0.mk A60
 clear A60
 by_cases c7 : (wrap64 (t339 * t340)) < 0
 rotate_left
 · rw [if_neg c7] at H
   have c7b0 : decide ((wrap64 (t339 * t340)) < 0) = false := decide_eq_false c7
   clear c7
   obtain rfl := Option.some.inj H
   go_enter Try.func134, Try.ntmps134
   try go_wp2_with (first | ((with_reducible refine gate_dst (N := 4) rfl ?_); refine zB 4 #[.int .i64 a0_0, .int .i64 a0_1] 91 ?_; intro gb335 hg w19 hbox hb; have BK335 := Aside0.mk (hbox); have GW335 := zS (pB0 HB.out) hg; have GE335 := zS (pB0 HB.out) hg; replace HB := zW (pB0 HB.out) hb; clear hb hbox hg) | ((with_reducible refine gate_dst (N := 5) rfl ?_); refine zB 5 #[.int .i64 a1_0, .int .i64 a1_1] 91 ?_; intro gb336 hg w20 hbox hb; have BK336 := Aside0.mk (hbox); have GW336 := zS (pB1 HB.out GE335.out) hg; have GE336 := zS (pB1 HB.out GE335.out) hg; have NB335_336 := zL BK335 hg; have NB336_335 := zM BK335 hg; replace BK335 := zK BK335 hb; replace HB := zW (pB1 HB.out GE335.out) hb; clear hb hbox hg) | ((with_reducible refine gate_dst (N := 6) rfl ?_); refine zB 6 #[.int .i64 a2_0, .int .i64 a2_1] 91 ?_; intro gb337 hg w21 hbox hb; have BK337 := Aside0.mk (hbox); have GW337 := zS (pB2 HB.out GE335.out GE336.out) hg; have GE337 := zS (pB2 HB.out GE335.out GE336.out) hg; have NB335_337 := zL BK335 hg; have NB337_335 := zM BK335 hg; have NB336_337 := zL BK336 hg; have NB337_336 := zM BK336 hg; replace BK335 := zK BK335 hb; replace BK336 := zK BK336 hb; replace HB := zW (pB2 HB.out GE335.out GE336.out) hb; clear hb hbox hg) | ((with_reducible refine gate_dst (N := 7) rfl ?_); refine zB 7 #[.int .i64 a3_0, .int .i64 a3_1] 91 ?_; intro gb338 hg w22 hbox hb; have BK338 := Aside0.mk (hbox); have GW338 := zS (pB3 HB.out GE335.out GE336.out GE337.out) hg; have GE338 := zS (pB3 HB.out GE335.out GE336.out GE337.out) hg; have NB335_338 := zL BK335 hg; have NB338_335 := zM BK335 hg; have NB336_338 := zL BK336 hg; have NB338_336 := zM BK336 hg; have NB337_338 := zL BK337 hg; have NB338_337 := zM BK337 hg; replace BK335 := zK BK335 hb; replace BK336 := zK BK336 hb; replace BK337 := zK BK337 hb; replace HB := zW (pB3 HB.out GE335.out GE336.out GE337.out) hb; clear hb hbox hg))
   replace BK335 := Aside0.mk (blk_drew BK335.out)
   replace BK336 := Aside0.mk (blk_drew BK336.out)
   replace BK337 := Aside0.mk (blk_drew BK337.out)
   replace BK338 := Aside0.mk (blk_drew BK338.out)
   replace HB := Aside0.mk (below_drew1 HB.out)
   refine start_ (n := 23) (S := fun w' => w'.cell? ⟨gb335, 0, none⟩ = some (.int .i64 a0_0) ∧ w'.cell? ⟨gb335, 1, none⟩ = some (.int .i64 a0_1) ∧ w'.cell? ⟨gb336, 0, none⟩ = some (.int .i64 a1_0) ∧ w'.cell? ⟨gb336, 1, none⟩ = some (.int .i64 a1_1) ∧ w'.cell? ⟨gb337, 0, none⟩ = some (.int .i64 a2_0) ∧ w'.cell? ⟨gb337, 1, none⟩ = some (.int .i64 a2_1) ∧ w'.cell? ⟨gb338, 0, none⟩ = some (.int .i64 a3_0) ∧ w'.cell? ⟨gb338, 1, none⟩ = some (.int .i64 a3_1)) (ds := []) (Array.replicate 23 false) (by kernel_rfl) rfl rfl ⟨zQ BK335 0, zQ BK335 1, zQ BK336 0, zQ BK336 1, zQ BK337 0, zQ BK337 1, zQ BK338 0, zQ BK338 1⟩ (fun hHeld => ?_); refine with_tabW impl_crossing.tab1 impl_crossing.bits1 (fun HT_ HW_ => ?_)
   generalize w22.drew = w23 at BK335 BK336 BK337 BK338 HB hHeld ⊢
   refine zT8 0 (some 9) (zb 23 1) HT_ HW_ hHeld ?_
   refine zT8 1 (some 10) (zb 23 3) HT_ HW_ hHeld ?_
   refine zT8 2 (some 11) (zb 23 7) HT_ HW_ hHeld ?_
   refine zT8 4 (some 13) (zb 23 23) HT_ HW_ hHeld ?_
   refine zT8 5 (some 14) (zb 23 55) HT_ HW_ hHeld ?_
   refine zT8 6 (some 15) (zb 23 119) HT_ HW_ hHeld ?_
   refine one_ (i := 3) (N := some 12) (zb 23 127) rfl rfl (one_of HT_.out (by kernel_rfl)) (by decide) (fun K hK => ?_)
   refine goes_ Try.func133 (by kernel_rfl) rfl #[.agg #[.int .i64 a0_0, .int .i64 a0_1], .agg #[.int .i64 a1_0, .int .i64 a1_1], .agg #[.int .i64 a2_0, .int .i64 a2_1]] (by rfl) rfl rfl pA ?_
   with_reducible refine (impl_side.calls a0_0 a0_1 a1_0 a1_1 a2_0 a2_1 t339 _ A5.out).mono ?_
   rintro e w24 ⟨rfl, hb⟩
   refine ⟨_, rfl, ?_⟩
   replace BK335 := zK BK335 hb
   replace BK336 := zK BK336 hb
   replace BK337 := zK BK337 hb
   replace BK338 := zK BK338 hb
   replace HB := zW (pB4 HB.out GE335.out GE336.out GE337.out GE338.out) hb
   (try clear hb)
   (try clear hb2)
   (try clear hk)
   (try clear hi)
   refine hK.out _ _ ⟨zQ BK335 0, zQ BK335 1, zQ BK336 0, zQ BK336 1, zQ BK337 0, zQ BK337 1, zQ BK338 0, zQ BK338 1⟩ (fun hHeld => ?_)
   clear hK K
   refine zN ?_
   refine one_ (i := 7) (N := some 16) (zb 23 255) rfl rfl (one_of HT_.out (by kernel_rfl)) (by decide) (fun K hK => ?_)
   refine goes_ Try.func133 (by kernel_rfl) rfl #[.agg #[.int .i64 a0_0, .int .i64 a0_1], .agg #[.int .i64 a1_0, .int .i64 a1_1], .agg #[.int .i64 a3_0, .int .i64 a3_1]] (by rfl) rfl rfl pA ?_
   with_reducible refine (impl_side.calls a0_0 a0_1 a1_0 a1_1 a3_0 a3_1 t340 _ A6.out).mono ?_
   rintro e w25 ⟨rfl, hb⟩
   refine ⟨_, rfl, ?_⟩
   replace BK335 := zK BK335 hb
   replace BK336 := zK BK336 hb
   replace BK337 := zK BK337 hb
   replace BK338 := zK BK338 hb
   replace HB := zW (pB4 HB.out GE335.out GE336.out GE337.out GE338.out) hb
   (try clear hb)
   (try clear hb2)
   (try clear hk)
   (try clear hi)
   refine hK.out _ _ ⟨zQ BK335 0, zQ BK335 1, zQ BK336 0, zQ BK336 1, zQ BK337 0, zQ BK337 1, zQ BK338 0, zQ BK338 1⟩ (fun hHeld => ?_)
   clear hK K
   refine zN ?_
   refine zP 8 (some 17) (zb 23 511) HT_ ?_
   refine zP 9 (some 18) (zb 23 1023) HT_ ?_
   refine zP 10 (some 19) (zb 23 2047) HT_ ?_
   refine zU 11 (some 20) (zb 23 4095) HT_ ?_
   refine zU 12 (some 21) (zb 23 8191) HT_ ?_
   refine zU 13 (some 22) (zb 23 16383) HT_ ?_
   refine zU 14 (some 23) (zb 23 32767) HT_ ?_
   refine zU 15 (some 24) (zb 23 65535) HT_ ?_
   refine zU 16 (some 25) (zb 23 131071) HT_ ?_
   refine zU 17 (some 26) (zb 23 262143) HT_ ?_
   refine zU 18 (some 27) (zb 23 524287) HT_ ?_
   refine zU 19 (some 28) (zb 23 1048575) HT_ ?_
   refine zU 20 (some 29) (zb 23 2097151) HT_ ?_
   refine zP 21 (some 30) (zb 23 4194303) HT_ ?_
   refine zP 22 (some 8) (zb 23 8388607) HT_ ?_
   refine done_ (done_of HT_.out (by kernel_rfl)) ?_
   try go_wp2
   go_ret
   exact ⟨zE, pB4 HB.out GE335.out GE336.out GE337.out GE338.out⟩
 rw [if_pos c7] at H
 have c7b0 := decide_eq_true c7
 clear c7
 replace H := Option.bind_eq_some_iff.mp H
 obtain ⟨t341, A80, H⟩ := H
 have A8 := Aside0.mk A80
 clear A80
 replace H := Option.bind_eq_some_iff.mp H
 obtain ⟨t342, A90, H⟩ := H
 have A9 := Aside0.mk A90
 clear A90
 obtain rfl := Option.some.inj H
 go_enter Try.func134, Try.ntmps134
 try go_wp2_with (first | ((with_reducible refine gate_dst (N := 4) rfl ?_); refine zB 4 #[.int .i64 a0_0, .int .i64 a0_1] 91 ?_; intro gb335 hg w10 hbox hb; have BK335 := Aside0.mk (hbox); have GW335 := zS (pB0 HB.out) hg; have GE335 := zS (pB0 HB.out) hg; replace HB := zW (pB0 HB.out) hb; clear hb hbox hg) | ((with_reducible refine gate_dst (N := 5) rfl ?_); refine zB 5 #[.int .i64 a1_0, .int .i64 a1_1] 91 ?_; intro gb336 hg w11 hbox hb; have BK336 := Aside0.mk (hbox); have GW336 := zS (pB1 HB.out GE335.out) hg; have GE336 := zS (pB1 HB.out GE335.out) hg; have NB335_336 := zL BK335 hg; have NB336_335 := zM BK335 hg; replace BK335 := zK BK335 hb; replace HB := zW (pB1 HB.out GE335.out) hb; clear hb hbox hg) | ((with_reducible refine gate_dst (N := 6) rfl ?_); refine zB 6 #[.int .i64 a2_0, .int .i64 a2_1] 91 ?_; intro gb337 hg w12 hbox hb; have BK337 := Aside0.mk (hbox); have GW337 := zS (pB2 HB.out GE335.out GE336.out) hg; have GE337 := zS (pB2 HB.out GE335.out GE336.out) hg; have NB335_337 := zL BK335 hg; have NB337_335 := zM BK335 hg; have NB336_337 := zL BK336 hg; have NB337_336 := zM BK336 hg; replace BK335 := zK BK335 hb; replace BK336 := zK BK336 hb; replace HB := zW (pB2 HB.out GE335.out GE336.out) hb; clear hb hbox hg) | ((with_reducible refine gate_dst (N := 7) rfl ?_); refine zB 7 #[.int .i64 a3_0, .int .i64 a3_1] 91 ?_; intro gb338 hg w13 hbox hb; have BK338 := Aside0.mk (hbox); have GW338 := zS (pB3 HB.out GE335.out GE336.out GE337.out) hg; have GE338 := zS (pB3 HB.out GE335.out GE336.out GE337.out) hg; have NB335_338 := zL BK335 hg; have NB338_335 := zM BK335 hg; have NB336_338 := zL BK336 hg; have NB338_336 := zM BK336 hg; have NB337_338 := zL BK337 hg; have NB338_337 := zM BK337 hg; replace BK335 := zK BK335 hb; replace BK336 := zK BK336 hb; replace BK337 := zK BK337 hb; replace HB := zW (pB3 HB.out GE335.out GE336.out GE337.out) hb; clear hb hbox hg))
 replace BK335 := Aside0.mk (blk_drew BK335.out)
 replace BK336 := Aside0.mk (blk_drew BK336.out)
 replace BK337 := Aside0.mk (blk_drew BK337.out)
 replace BK338 := Aside0.mk (blk_drew BK338.out)
 replace HB := Aside0.mk (below_drew1 HB.out)
 refine start_ (n := 23) (S := fun w' => w'.cell? ⟨gb335, 0, none⟩ = some (.int .i64 a0_0) ∧ w'.cell? ⟨gb335, 1, none⟩ = some (.int .i64 a0_1) ∧ w'.cell? ⟨gb336, 0, none⟩ = some (.int .i64 a1_0) ∧ w'.cell? ⟨gb336, 1, none⟩ = some (.int .i64 a1_1) ∧ w'.cell? ⟨gb337, 0, none⟩ = some (.int .i64 a2_0) ∧ w'.cell? ⟨gb337, 1, none⟩ = some (.int .i64 a2_1) ∧ w'.cell? ⟨gb338, 0, none⟩ = some (.int .i64 a3_0) ∧ w'.cell? ⟨gb338, 1, none⟩ = some (.int .i64 a3_1)) (ds := []) (Array.replicate 23 false) (by kernel_rfl) rfl rfl ⟨zQ BK335 0, zQ BK335 1, zQ BK336 0, zQ BK336 1, zQ BK337 0, zQ BK337 1, zQ BK338 0, zQ BK338 1⟩ (fun hHeld => ?_); refine with_tabW impl_crossing.tab1 impl_crossing.bits1 (fun HT_ HW_ => ?_)
 generalize w13.drew = w14 at BK335 BK336 BK337 BK338 HB hHeld ⊢
 refine zT8 0 (some 9) (zb 23 1) HT_ HW_ hHeld ?_
 refine zT8 1 (some 10) (zb 23 3) HT_ HW_ hHeld ?_
 refine zT8 2 (some 11) (zb 23 7) HT_ HW_ hHeld ?_
 refine zT8 4 (some 13) (zb 23 23) HT_ HW_ hHeld ?_
 refine zT8 5 (some 14) (zb 23 55) HT_ HW_ hHeld ?_
 refine zT8 6 (some 15) (zb 23 119) HT_ HW_ hHeld ?_
 refine one_ (i := 3) (N := some 12) (zb 23 127) rfl rfl (one_of HT_.out (by kernel_rfl)) (by decide) (fun K hK => ?_)
 refine goes_ Try.func133 (by kernel_rfl) rfl #[.agg #[.int .i64 a0_0, .int .i64 a0_1], .agg #[.int .i64 a1_0, .int .i64 a1_1], .agg #[.int .i64 a2_0, .int .i64 a2_1]] (by rfl) rfl rfl pA ?_
 with_reducible refine (impl_side.calls a0_0 a0_1 a1_0 a1_1 a2_0 a2_1 t339 _ A5.out).mono ?_
 rintro e w15 ⟨rfl, hb⟩
 refine ⟨_, rfl, ?_⟩
 replace BK335 := zK BK335 hb
 replace BK336 := zK BK336 hb
 replace BK337 := zK BK337 hb
 replace BK338 := zK BK338 hb
 replace HB := zW (pB4 HB.out GE335.out GE336.out GE337.out GE338.out) hb
 (try clear hb)
 (try clear hb2)
 (try clear hk)
 (try clear hi)
 refine hK.out _ _ ⟨zQ BK335 0, zQ BK335 1, zQ BK336 0, zQ BK336 1, zQ BK337 0, zQ BK337 1, zQ BK338 0, zQ BK338 1⟩ (fun hHeld => ?_)
 clear hK K
 refine zN ?_
 refine one_ (i := 7) (N := some 16) (zb 23 255) rfl rfl (one_of HT_.out (by kernel_rfl)) (by decide) (fun K hK => ?_)
 refine goes_ Try.func133 (by kernel_rfl) rfl #[.agg #[.int .i64 a0_0, .int .i64 a0_1], .agg #[.int .i64 a1_0, .int .i64 a1_1], .agg #[.int .i64 a3_0, .int .i64 a3_1]] (by rfl) rfl rfl pA ?_
 with_reducible refine (impl_side.calls a0_0 a0_1 a1_0 a1_1 a3_0 a3_1 t340 _ A6.out).mono ?_
 rintro e w16 ⟨rfl, hb⟩
 refine ⟨_, rfl, ?_⟩
 replace BK335 := zK BK335 hb
 replace BK336 := zK BK336 hb
 replace BK337 := zK BK337 hb
 replace BK338 := zK BK338 hb
 replace HB := zW (pB4 HB.out GE335.out GE336.out GE337.out GE338.out) hb
 (try clear hb)
 (try clear hb2)
 (try clear hk)
 (try clear hi)
 refine hK.out _ _ ⟨zQ BK335 0, zQ BK335 1, zQ BK336 0, zQ BK336 1, zQ BK337 0, zQ BK337 1, zQ BK338 0, zQ BK338 1⟩ (fun hHeld => ?_)
 clear hK K
 refine zN ?_
 refine zP 8 (some 17) (zb 23 511) HT_ ?_
 refine zP 9 (some 18) (zb 23 1023) HT_ ?_
 refine zP 10 (some 19) (zb 23 2047) HT_ ?_
 refine zT8 11 (some 20) (zb 23 4095) HT_ HW_ hHeld ?_
 refine zT8 12 (some 21) (zb 23 8191) HT_ HW_ hHeld ?_
 refine zT8 13 (some 22) (zb 23 16383) HT_ HW_ hHeld ?_
 refine zT8 15 (some 24) (zb 23 49151) HT_ HW_ hHeld ?_
 refine zT8 16 (some 25) (zb 23 114687) HT_ HW_ hHeld ?_
 refine zT8 17 (some 26) (zb 23 245759) HT_ HW_ hHeld ?_
 refine one_ (i := 14) (N := some 23) (zb 23 262143) rfl rfl (one_of HT_.out (by kernel_rfl)) (by decide) (fun K hK => ?_)
 refine goes_ Try.func133 (by kernel_rfl) rfl #[.agg #[.int .i64 a2_0, .int .i64 a2_1], .agg #[.int .i64 a3_0, .int .i64 a3_1], .agg #[.int .i64 a0_0, .int .i64 a0_1]] (by rfl) rfl rfl pA ?_
 with_reducible refine (impl_side.calls a2_0 a2_1 a3_0 a3_1 a0_0 a0_1 t341 _ A8.out).mono ?_
 rintro e w17 ⟨rfl, hb⟩
 refine ⟨_, rfl, ?_⟩
 replace BK335 := zK BK335 hb
 replace BK336 := zK BK336 hb
 replace BK337 := zK BK337 hb
 replace BK338 := zK BK338 hb
 replace HB := zW (pB4 HB.out GE335.out GE336.out GE337.out GE338.out) hb
 (try clear hb)
 (try clear hb2)
 (try clear hk)
 (try clear hi)
 refine hK.out _ _ ⟨zQ BK335 0, zQ BK335 1, zQ BK336 0, zQ BK336 1, zQ BK337 0, zQ BK337 1, zQ BK338 0, zQ BK338 1⟩ (fun hHeld => ?_)
 clear hK K
 refine zN ?_
 refine one_ (i := 18) (N := some 27) (zb 23 524287) rfl rfl (one_of HT_.out (by kernel_rfl)) (by decide) (fun K hK => ?_)
 refine goes_ Try.func133 (by kernel_rfl) rfl #[.agg #[.int .i64 a2_0, .int .i64 a2_1], .agg #[.int .i64 a3_0, .int .i64 a3_1], .agg #[.int .i64 a1_0, .int .i64 a1_1]] (by rfl) rfl rfl pA ?_
 with_reducible refine (impl_side.calls a2_0 a2_1 a3_0 a3_1 a1_0 a1_1 t342 _ A9.out).mono ?_
 rintro e w18 ⟨rfl, hb⟩
 refine ⟨_, rfl, ?_⟩
 replace BK335 := zK BK335 hb
 replace BK336 := zK BK336 hb
 replace BK337 := zK BK337 hb
 replace BK338 := zK BK338 hb
 replace HB := zW (pB4 HB.out GE335.out GE336.out GE337.out GE338.out) hb
 (try clear hb)
 (try clear hb2)
 (try clear hk)
 (try clear hi)
 refine hK.out _ _ ⟨zQ BK335 0, zQ BK335 1, zQ BK336 0, zQ BK336 1, zQ BK337 0, zQ BK337 1, zQ BK338 0, zQ BK338 1⟩ (fun hHeld => ?_)
 clear hK K
 refine zN ?_
 refine zP 19 (some 28) (zb 23 1048575) HT_ ?_
 refine zP 20 (some 29) (zb 23 2097151) HT_ ?_
 refine zP 21 (some 30) (zb 23 4194303) HT_ ?_
 refine zP 22 (some 8) (zb 23 8388607) HT_ ?_
 refine done_ (done_of HT_.out (by kernel_rfl)) ?_
 try go_wp2
 go_ret
 exact ⟨zE, pB4 HB.out GE335.out GE336.out GE337.out GE338.out⟩
def impl_touching.f (a0_0 : Int) (a0_1 : Int) (a1_0 : Int) (a1_1 : Int) (a2_0 : Int) (a2_1 : Int) (a3_0 : Int) (a3_1 : Int) : Option (Bool) := (impl_crossing.f a0_0 a0_1 a1_0 a1_1 a2_0 a2_1 a3_0 a3_1).bind fun t347 => (if t347 = true then (some true) else ((impl_on.f a0_0 a0_1 a1_0 a1_1 a2_0 a2_1).bind fun t348 => (if t348 = true then (some true) else ((impl_on.f a0_0 a0_1 a1_0 a1_1 a3_0 a3_1).bind fun t349 => (if t349 = true then (some true) else ((impl_on.f a2_0 a2_1 a3_0 a3_1 a0_0 a0_1).bind fun t350 => (if t350 = true then (some true) else ((impl_on.f a2_0 a2_1 a3_0 a3_1 a1_0 a1_1).bind fun t351 => (some t351)))))))))
set_option maxHeartbeats 8000000 in
set_option maxRecDepth 100000 in
theorem impl_touching.calls (a0_0 : Int) (a0_1 : Int) (a1_0 : Int) (a1_1 : Int) (a2_0 : Int) (a2_1 : Int) (a3_0 : Int) (a3_1 : Int) (r : Bool) (w : World) (h : impl_touching.f a0_0 a0_1 a1_0 a1_1 a2_0 a2_1 a3_0 a3_1 = some r) :
 Calls Try.prog 97 #[.agg #[.int .i64 a0_0, .int .i64 a0_1], .agg #[.int .i64 a1_0, .int .i64 a1_1], .agg #[.int .i64 a2_0, .int .i64 a2_1], .agg #[.int .i64 a3_0, .int .i64 a3_1]] w fun e w' => e = .returned (.bool r) ∧ Below w.heap.size w w' := by
 have hu91 := Try.underlying91
 have HB := Aside0.mk (Below.refl w.heap.size w)
 have H : ((impl_crossing.f a0_0 a0_1 a1_0 a1_1 a2_0 a2_1 a3_0 a3_1).bind fun t347 => (if t347 = true then (some true) else ((impl_on.f a0_0 a0_1 a1_0 a1_1 a2_0 a2_1).bind fun t348 => (if t348 = true then (some true) else ((impl_on.f a0_0 a0_1 a1_0 a1_1 a3_0 a3_1).bind fun t349 => (if t349 = true then (some true) else ((impl_on.f a2_0 a2_1 a3_0 a3_1 a0_0 a0_1).bind fun t350 => (if t350 = true then (some true) else ((impl_on.f a2_0 a2_1 a3_0 a3_1 a1_0 a1_1).bind fun t351 => (some t351)))))))))) = some r := h
 clear h
 replace H := Option.bind_eq_some_iff.mp H
 obtain ⟨t347, A50, H⟩ := H
 have A5 := Aside0.mk A50
 clear A50
 by_cases c6 : t347 = true
 · subst c6
   have H1 : (some true) = some r := by rw [if_pos rfl] at H; exact H
   clear H
   have H := H1
   clear H1
   obtain rfl := Option.some.inj H
   go_enter Try.func97, Try.ntmps97
   go_wp2_with (first | ((with_reducible refine gate_dst (N := 4) rfl ?_); refine zB 4 #[.int .i64 a0_0, .int .i64 a0_1] 91 ?_; intro gb343 hg w7 hbox hb; have BK343 := Aside0.mk (hbox); have GW343 := zS (pB0 HB.out) hg; have GE343 := zS (pB0 HB.out) hg; replace HB := zW (pB0 HB.out) hb; clear hb hbox hg) | ((with_reducible refine gate_dst (N := 5) rfl ?_); refine zB 5 #[.int .i64 a1_0, .int .i64 a1_1] 91 ?_; intro gb344 hg w8 hbox hb; have BK344 := Aside0.mk (hbox); have GW344 := zS (pB1 HB.out GE343.out) hg; have GE344 := zS (pB1 HB.out GE343.out) hg; have NB343_344 := zL BK343 hg; have NB344_343 := zM BK343 hg; replace BK343 := zK BK343 hb; replace HB := zW (pB1 HB.out GE343.out) hb; clear hb hbox hg) | ((with_reducible refine gate_dst (N := 6) rfl ?_); refine zB 6 #[.int .i64 a2_0, .int .i64 a2_1] 91 ?_; intro gb345 hg w9 hbox hb; have BK345 := Aside0.mk (hbox); have GW345 := zS (pB2 HB.out GE343.out GE344.out) hg; have GE345 := zS (pB2 HB.out GE343.out GE344.out) hg; have NB343_345 := zL BK343 hg; have NB345_343 := zM BK343 hg; have NB344_345 := zL BK344 hg; have NB345_344 := zM BK344 hg; replace BK343 := zK BK343 hb; replace BK344 := zK BK344 hb; replace HB := zW (pB2 HB.out GE343.out GE344.out) hb; clear hb hbox hg) | ((with_reducible refine gate_dst (N := 7) rfl ?_); refine zB 7 #[.int .i64 a3_0, .int .i64 a3_1] 91 ?_; intro gb346 hg w10 hbox hb; have BK346 := Aside0.mk (hbox); have GW346 := zS (pB3 HB.out GE343.out GE344.out GE345.out) hg; have GE346 := zS (pB3 HB.out GE343.out GE344.out GE345.out) hg; have NB343_346 := zL BK343 hg; have NB346_343 := zM BK343 hg; have NB344_346 := zL BK344 hg; have NB346_344 := zM BK344 hg; have NB345_346 := zL BK345 hg; have NB346_345 := zM BK345 hg; replace BK343 := zK BK343 hb; replace BK344 := zK BK344 hb; replace BK345 := zK BK345 hb; replace HB := zW (pB3 HB.out GE343.out GE344.out GE345.out) hb; clear hb hbox hg; have hnb11 := NB343_344.out; have hnc11 := NB344_343.out; have hnb12 := NB343_345.out; have hnc12 := NB345_343.out; have hnb13 := NB343_346.out; have hnc13 := NB346_343.out; obtain ⟨hcz14_0, hfz14_0, hcz14_1, hfz14_1⟩ := zw2 BK343; have hnb15 := NB344_345.out; have hnc15 := NB345_344.out; have hnb16 := NB344_346.out; have hnc16 := NB346_344.out; obtain ⟨hcz17_0, hfz17_0, hcz17_1, hfz17_1⟩ := zw2 BK344; have hnb18 := NB345_346.out; have hnc18 := NB346_345.out; obtain ⟨hcz19_0, hfz19_0, hcz19_1, hfz19_1⟩ := zw2 BK345; obtain ⟨hcz20_0, hfz20_0, hcz20_1, hfz20_1⟩ := zw2 BK346) | ((with_reducible refine gate_callee (f := 134) rfl ?_); refine goesL_ (some 13) rfl rfl Try.func134 (by kernel_rfl) rfl #[.agg #[.int .i64 a0_0, .int .i64 a0_1], .agg #[.int .i64 a1_0, .int .i64 a1_1], .agg #[.int .i64 a2_0, .int .i64 a2_1], .agg #[.int .i64 a3_0, .int .i64 a3_1]] rfl pA ?_; (with_reducible refine (impl_crossing.calls a0_0 a0_1 a1_0 a1_1 a2_0 a2_1 a3_0 a3_1 true _ A5.out).mono ?_); rintro e w21 ⟨rfl, hb⟩; refine ⟨_, rfl, ?_⟩; replace BK343 := zK BK343 hb; replace BK344 := zK BK344 hb; replace BK345 := zK BK345 hb; replace BK346 := zK BK346 hb; replace HB := zW (pB4 HB.out GE343.out GE344.out GE345.out GE346.out) hb; (try clear hb); (try clear hb2); (try clear hk); (try clear hi)))
   go_ret
   exact ⟨zE, pB4 HB.out GE343.out GE344.out GE345.out GE346.out⟩
 replace c6 := Bool.eq_false_iff.mpr c6
 subst c6
 have H1 : ((impl_on.f a0_0 a0_1 a1_0 a1_1 a2_0 a2_1).bind fun t348 => (if t348 = true then (some true) else ((impl_on.f a0_0 a0_1 a1_0 a1_1 a3_0 a3_1).bind fun t349 => (if t349 = true then (some true) else ((impl_on.f a2_0 a2_1 a3_0 a3_1 a0_0 a0_1).bind fun t350 => (if t350 = true then (some true) else ((impl_on.f a2_0 a2_1 a3_0 a3_1 a1_0 a1_1).bind fun t351 => (some t351)))))))) = some r := by rw [if_neg (show ¬ (false = true) by decide)] at H; exact H
 clear H
 have H := H1
 clear H1
 replace H := Option.bind_eq_some_iff.mp H
 obtain ⟨t348, A220, H⟩ := H
 have A22 := Aside0.mk A220
 clear A220
 by_cases c23 : t348 = true
 · subst c23
   have H1 : (some true) = some r := by rw [if_pos rfl] at H; exact H
   clear H
   have H := H1
   clear H1
   obtain rfl := Option.some.inj H
   go_enter Try.func97, Try.ntmps97
   go_wp2_with (first | ((with_reducible refine gate_dst (N := 4) rfl ?_); refine zB 4 #[.int .i64 a0_0, .int .i64 a0_1] 91 ?_; intro gb343 hg w24 hbox hb; have BK343 := Aside0.mk (hbox); have GW343 := zS (pB0 HB.out) hg; have GE343 := zS (pB0 HB.out) hg; replace HB := zW (pB0 HB.out) hb; clear hb hbox hg) | ((with_reducible refine gate_dst (N := 5) rfl ?_); refine zB 5 #[.int .i64 a1_0, .int .i64 a1_1] 91 ?_; intro gb344 hg w25 hbox hb; have BK344 := Aside0.mk (hbox); have GW344 := zS (pB1 HB.out GE343.out) hg; have GE344 := zS (pB1 HB.out GE343.out) hg; have NB343_344 := zL BK343 hg; have NB344_343 := zM BK343 hg; replace BK343 := zK BK343 hb; replace HB := zW (pB1 HB.out GE343.out) hb; clear hb hbox hg) | ((with_reducible refine gate_dst (N := 6) rfl ?_); refine zB 6 #[.int .i64 a2_0, .int .i64 a2_1] 91 ?_; intro gb345 hg w26 hbox hb; have BK345 := Aside0.mk (hbox); have GW345 := zS (pB2 HB.out GE343.out GE344.out) hg; have GE345 := zS (pB2 HB.out GE343.out GE344.out) hg; have NB343_345 := zL BK343 hg; have NB345_343 := zM BK343 hg; have NB344_345 := zL BK344 hg; have NB345_344 := zM BK344 hg; replace BK343 := zK BK343 hb; replace BK344 := zK BK344 hb; replace HB := zW (pB2 HB.out GE343.out GE344.out) hb; clear hb hbox hg) | ((with_reducible refine gate_dst (N := 7) rfl ?_); refine zB 7 #[.int .i64 a3_0, .int .i64 a3_1] 91 ?_; intro gb346 hg w27 hbox hb; have BK346 := Aside0.mk (hbox); have GW346 := zS (pB3 HB.out GE343.out GE344.out GE345.out) hg; have GE346 := zS (pB3 HB.out GE343.out GE344.out GE345.out) hg; have NB343_346 := zL BK343 hg; have NB346_343 := zM BK343 hg; have NB344_346 := zL BK344 hg; have NB346_344 := zM BK344 hg; have NB345_346 := zL BK345 hg; have NB346_345 := zM BK345 hg; replace BK343 := zK BK343 hb; replace BK344 := zK BK344 hb; replace BK345 := zK BK345 hb; replace HB := zW (pB3 HB.out GE343.out GE344.out GE345.out) hb; clear hb hbox hg; have hnb28 := NB343_344.out; have hnc28 := NB344_343.out; have hnb29 := NB343_345.out; have hnc29 := NB345_343.out; have hnb30 := NB343_346.out; have hnc30 := NB346_343.out; obtain ⟨hcz31_0, hfz31_0, hcz31_1, hfz31_1⟩ := zw2 BK343; have hnb32 := NB344_345.out; have hnc32 := NB345_344.out; have hnb33 := NB344_346.out; have hnc33 := NB346_344.out; obtain ⟨hcz34_0, hfz34_0, hcz34_1, hfz34_1⟩ := zw2 BK344; have hnb35 := NB345_346.out; have hnc35 := NB346_345.out; obtain ⟨hcz36_0, hfz36_0, hcz36_1, hfz36_1⟩ := zw2 BK345; obtain ⟨hcz37_0, hfz37_0, hcz37_1, hfz37_1⟩ := zw2 BK346) | ((with_reducible refine gate_callee (f := 134) rfl ?_); refine goesL_ (some 13) rfl rfl Try.func134 (by kernel_rfl) rfl #[.agg #[.int .i64 a0_0, .int .i64 a0_1], .agg #[.int .i64 a1_0, .int .i64 a1_1], .agg #[.int .i64 a2_0, .int .i64 a2_1], .agg #[.int .i64 a3_0, .int .i64 a3_1]] rfl pA ?_; (with_reducible refine (impl_crossing.calls a0_0 a0_1 a1_0 a1_1 a2_0 a2_1 a3_0 a3_1 false _ A5.out).mono ?_); rintro e w38 ⟨rfl, hb⟩; refine ⟨_, rfl, ?_⟩; replace BK343 := zK BK343 hb; replace BK344 := zK BK344 hb; replace BK345 := zK BK345 hb; replace BK346 := zK BK346 hb; replace HB := zW (pB4 HB.out GE343.out GE344.out GE345.out GE346.out) hb; (try clear hb); (try clear hb2); (try clear hk); (try clear hi); obtain ⟨hcz39_0, hfz39_0, hcz39_1, hfz39_1⟩ := zw2 BK343; obtain ⟨hcz40_0, hfz40_0, hcz40_1, hfz40_1⟩ := zw2 BK344; obtain ⟨hcz41_0, hfz41_0, hcz41_1, hfz41_1⟩ := zw2 BK345) | (go_at_call 96; (with_reducible refine (impl_on.calls a0_0 a0_1 a1_0 a1_1 a2_0 a2_1 true _ A22.out).mono ?_); rintro e w42 ⟨rfl, hb⟩; replace BK343 := zK BK343 hb; replace BK344 := zK BK344 hb; replace BK345 := zK BK345 hb; replace BK346 := zK BK346 hb; replace HB := zW (pB4 HB.out GE343.out GE344.out GE345.out GE346.out) hb; (try clear hb); (try clear hb2); (try clear hk); (try clear hi)))
   go_ret
   exact ⟨zE, pB4 HB.out GE343.out GE344.out GE345.out GE346.out⟩
 replace c23 := Bool.eq_false_iff.mpr c23
 subst c23
 have H1 : ((impl_on.f a0_0 a0_1 a1_0 a1_1 a3_0 a3_1).bind fun t349 => (if t349 = true then (some true) else ((impl_on.f a2_0 a2_1 a3_0 a3_1 a0_0 a0_1).bind fun t350 => (if t350 = true then (some true) else ((impl_on.f a2_0 a2_1 a3_0 a3_1 a1_0 a1_1).bind fun t351 => (some t351)))))) = some r := by rw [if_neg (show ¬ (false = true) by decide)] at H; exact H
 clear H
 have H := H1
 clear H1
 replace H := Option.bind_eq_some_iff.mp H
 obtain ⟨t349, A430, H⟩ := H
 have A43 := Aside0.mk A430
 clear A430
 by_cases c44 : t349 = true
 · subst c44
   have H1 : (some true) = some r := by rw [if_pos rfl] at H; exact H
   clear H
   have H := H1
   clear H1
   obtain rfl := Option.some.inj H
   go_enter Try.func97, Try.ntmps97
   go_wp2_with (first | ((with_reducible refine gate_dst (N := 4) rfl ?_); refine zB 4 #[.int .i64 a0_0, .int .i64 a0_1] 91 ?_; intro gb343 hg w45 hbox hb; have BK343 := Aside0.mk (hbox); have GW343 := zS (pB0 HB.out) hg; have GE343 := zS (pB0 HB.out) hg; replace HB := zW (pB0 HB.out) hb; clear hb hbox hg) | ((with_reducible refine gate_dst (N := 5) rfl ?_); refine zB 5 #[.int .i64 a1_0, .int .i64 a1_1] 91 ?_; intro gb344 hg w46 hbox hb; have BK344 := Aside0.mk (hbox); have GW344 := zS (pB1 HB.out GE343.out) hg; have GE344 := zS (pB1 HB.out GE343.out) hg; have NB343_344 := zL BK343 hg; have NB344_343 := zM BK343 hg; replace BK343 := zK BK343 hb; replace HB := zW (pB1 HB.out GE343.out) hb; clear hb hbox hg) | ((with_reducible refine gate_dst (N := 6) rfl ?_); refine zB 6 #[.int .i64 a2_0, .int .i64 a2_1] 91 ?_; intro gb345 hg w47 hbox hb; have BK345 := Aside0.mk (hbox); have GW345 := zS (pB2 HB.out GE343.out GE344.out) hg; have GE345 := zS (pB2 HB.out GE343.out GE344.out) hg; have NB343_345 := zL BK343 hg; have NB345_343 := zM BK343 hg; have NB344_345 := zL BK344 hg; have NB345_344 := zM BK344 hg; replace BK343 := zK BK343 hb; replace BK344 := zK BK344 hb; replace HB := zW (pB2 HB.out GE343.out GE344.out) hb; clear hb hbox hg) | ((with_reducible refine gate_dst (N := 7) rfl ?_); refine zB 7 #[.int .i64 a3_0, .int .i64 a3_1] 91 ?_; intro gb346 hg w48 hbox hb; have BK346 := Aside0.mk (hbox); have GW346 := zS (pB3 HB.out GE343.out GE344.out GE345.out) hg; have GE346 := zS (pB3 HB.out GE343.out GE344.out GE345.out) hg; have NB343_346 := zL BK343 hg; have NB346_343 := zM BK343 hg; have NB344_346 := zL BK344 hg; have NB346_344 := zM BK344 hg; have NB345_346 := zL BK345 hg; have NB346_345 := zM BK345 hg; replace BK343 := zK BK343 hb; replace BK344 := zK BK344 hb; replace BK345 := zK BK345 hb; replace HB := zW (pB3 HB.out GE343.out GE344.out GE345.out) hb; clear hb hbox hg; have hnb49 := NB343_344.out; have hnc49 := NB344_343.out; have hnb50 := NB343_345.out; have hnc50 := NB345_343.out; have hnb51 := NB343_346.out; have hnc51 := NB346_343.out; obtain ⟨hcz52_0, hfz52_0, hcz52_1, hfz52_1⟩ := zw2 BK343; have hnb53 := NB344_345.out; have hnc53 := NB345_344.out; have hnb54 := NB344_346.out; have hnc54 := NB346_344.out; obtain ⟨hcz55_0, hfz55_0, hcz55_1, hfz55_1⟩ := zw2 BK344; have hnb56 := NB345_346.out; have hnc56 := NB346_345.out; obtain ⟨hcz57_0, hfz57_0, hcz57_1, hfz57_1⟩ := zw2 BK345; obtain ⟨hcz58_0, hfz58_0, hcz58_1, hfz58_1⟩ := zw2 BK346) | ((with_reducible refine gate_callee (f := 134) rfl ?_); refine goesL_ (some 13) rfl rfl Try.func134 (by kernel_rfl) rfl #[.agg #[.int .i64 a0_0, .int .i64 a0_1], .agg #[.int .i64 a1_0, .int .i64 a1_1], .agg #[.int .i64 a2_0, .int .i64 a2_1], .agg #[.int .i64 a3_0, .int .i64 a3_1]] rfl pA ?_; (with_reducible refine (impl_crossing.calls a0_0 a0_1 a1_0 a1_1 a2_0 a2_1 a3_0 a3_1 false _ A5.out).mono ?_); rintro e w59 ⟨rfl, hb⟩; refine ⟨_, rfl, ?_⟩; replace BK343 := zK BK343 hb; replace BK344 := zK BK344 hb; replace BK345 := zK BK345 hb; replace BK346 := zK BK346 hb; replace HB := zW (pB4 HB.out GE343.out GE344.out GE345.out GE346.out) hb; (try clear hb); (try clear hb2); (try clear hk); (try clear hi); obtain ⟨hcz60_0, hfz60_0, hcz60_1, hfz60_1⟩ := zw2 BK343; obtain ⟨hcz61_0, hfz61_0, hcz61_1, hfz61_1⟩ := zw2 BK344; obtain ⟨hcz62_0, hfz62_0, hcz62_1, hfz62_1⟩ := zw2 BK345) | (go_at_call 96; (with_reducible refine (impl_on.calls a0_0 a0_1 a1_0 a1_1 a2_0 a2_1 false _ A22.out).mono ?_); rintro e w63 ⟨rfl, hb⟩; replace BK343 := zK BK343 hb; replace BK344 := zK BK344 hb; replace BK345 := zK BK345 hb; replace BK346 := zK BK346 hb; replace HB := zW (pB4 HB.out GE343.out GE344.out GE345.out GE346.out) hb; (try clear hb); (try clear hb2); (try clear hk); (try clear hi); obtain ⟨hcz64_0, hfz64_0, hcz64_1, hfz64_1⟩ := zw2 BK343; obtain ⟨hcz65_0, hfz65_0, hcz65_1, hfz65_1⟩ := zw2 BK344; obtain ⟨hcz66_0, hfz66_0, hcz66_1, hfz66_1⟩ := zw2 BK346) | (go_at_call 96; (with_reducible refine (impl_on.calls a0_0 a0_1 a1_0 a1_1 a3_0 a3_1 true _ A43.out).mono ?_); rintro e w67 ⟨rfl, hb⟩; replace BK343 := zK BK343 hb; replace BK344 := zK BK344 hb; replace BK345 := zK BK345 hb; replace BK346 := zK BK346 hb; replace HB := zW (pB4 HB.out GE343.out GE344.out GE345.out GE346.out) hb; (try clear hb); (try clear hb2); (try clear hk); (try clear hi)))
   go_ret
   exact ⟨zE, pB4 HB.out GE343.out GE344.out GE345.out GE346.out⟩
 replace c44 := Bool.eq_false_iff.mpr c44
 subst c44
 have H1 : ((impl_on.f a2_0 a2_1 a3_0 a3_1 a0_0 a0_1).bind fun t350 => (if t350 = true then (some true) else ((impl_on.f a2_0 a2_1 a3_0 a3_1 a1_0 a1_1).bind fun t351 => (some t351)))) = some r := by rw [if_neg (show ¬ (false = true) by decide)] at H; exact H
 clear H
 have H := H1
 clear H1
 replace H := Option.bind_eq_some_iff.mp H
 obtain ⟨t350, A680, H⟩ := H
 have A68 := Aside0.mk A680
 clear A680
 by_cases c69 : t350 = true
 · subst c69
   have H1 : (some true) = some r := by rw [if_pos rfl] at H; exact H
   clear H
   have H := H1
   clear H1
   obtain rfl := Option.some.inj H
   go_enter Try.func97, Try.ntmps97
   go_wp2_with (first | ((with_reducible refine gate_dst (N := 4) rfl ?_); refine zB 4 #[.int .i64 a0_0, .int .i64 a0_1] 91 ?_; intro gb343 hg w70 hbox hb; have BK343 := Aside0.mk (hbox); have GW343 := zS (pB0 HB.out) hg; have GE343 := zS (pB0 HB.out) hg; replace HB := zW (pB0 HB.out) hb; clear hb hbox hg) | ((with_reducible refine gate_dst (N := 5) rfl ?_); refine zB 5 #[.int .i64 a1_0, .int .i64 a1_1] 91 ?_; intro gb344 hg w71 hbox hb; have BK344 := Aside0.mk (hbox); have GW344 := zS (pB1 HB.out GE343.out) hg; have GE344 := zS (pB1 HB.out GE343.out) hg; have NB343_344 := zL BK343 hg; have NB344_343 := zM BK343 hg; replace BK343 := zK BK343 hb; replace HB := zW (pB1 HB.out GE343.out) hb; clear hb hbox hg) | ((with_reducible refine gate_dst (N := 6) rfl ?_); refine zB 6 #[.int .i64 a2_0, .int .i64 a2_1] 91 ?_; intro gb345 hg w72 hbox hb; have BK345 := Aside0.mk (hbox); have GW345 := zS (pB2 HB.out GE343.out GE344.out) hg; have GE345 := zS (pB2 HB.out GE343.out GE344.out) hg; have NB343_345 := zL BK343 hg; have NB345_343 := zM BK343 hg; have NB344_345 := zL BK344 hg; have NB345_344 := zM BK344 hg; replace BK343 := zK BK343 hb; replace BK344 := zK BK344 hb; replace HB := zW (pB2 HB.out GE343.out GE344.out) hb; clear hb hbox hg) | ((with_reducible refine gate_dst (N := 7) rfl ?_); refine zB 7 #[.int .i64 a3_0, .int .i64 a3_1] 91 ?_; intro gb346 hg w73 hbox hb; have BK346 := Aside0.mk (hbox); have GW346 := zS (pB3 HB.out GE343.out GE344.out GE345.out) hg; have GE346 := zS (pB3 HB.out GE343.out GE344.out GE345.out) hg; have NB343_346 := zL BK343 hg; have NB346_343 := zM BK343 hg; have NB344_346 := zL BK344 hg; have NB346_344 := zM BK344 hg; have NB345_346 := zL BK345 hg; have NB346_345 := zM BK345 hg; replace BK343 := zK BK343 hb; replace BK344 := zK BK344 hb; replace BK345 := zK BK345 hb; replace HB := zW (pB3 HB.out GE343.out GE344.out GE345.out) hb; clear hb hbox hg; have hnb74 := NB343_344.out; have hnc74 := NB344_343.out; have hnb75 := NB343_345.out; have hnc75 := NB345_343.out; have hnb76 := NB343_346.out; have hnc76 := NB346_343.out; obtain ⟨hcz77_0, hfz77_0, hcz77_1, hfz77_1⟩ := zw2 BK343; have hnb78 := NB344_345.out; have hnc78 := NB345_344.out; have hnb79 := NB344_346.out; have hnc79 := NB346_344.out; obtain ⟨hcz80_0, hfz80_0, hcz80_1, hfz80_1⟩ := zw2 BK344; have hnb81 := NB345_346.out; have hnc81 := NB346_345.out; obtain ⟨hcz82_0, hfz82_0, hcz82_1, hfz82_1⟩ := zw2 BK345; obtain ⟨hcz83_0, hfz83_0, hcz83_1, hfz83_1⟩ := zw2 BK346) | ((with_reducible refine gate_callee (f := 134) rfl ?_); refine goesL_ (some 13) rfl rfl Try.func134 (by kernel_rfl) rfl #[.agg #[.int .i64 a0_0, .int .i64 a0_1], .agg #[.int .i64 a1_0, .int .i64 a1_1], .agg #[.int .i64 a2_0, .int .i64 a2_1], .agg #[.int .i64 a3_0, .int .i64 a3_1]] rfl pA ?_; (with_reducible refine (impl_crossing.calls a0_0 a0_1 a1_0 a1_1 a2_0 a2_1 a3_0 a3_1 false _ A5.out).mono ?_); rintro e w84 ⟨rfl, hb⟩; refine ⟨_, rfl, ?_⟩; replace BK343 := zK BK343 hb; replace BK344 := zK BK344 hb; replace BK345 := zK BK345 hb; replace BK346 := zK BK346 hb; replace HB := zW (pB4 HB.out GE343.out GE344.out GE345.out GE346.out) hb; (try clear hb); (try clear hb2); (try clear hk); (try clear hi); obtain ⟨hcz85_0, hfz85_0, hcz85_1, hfz85_1⟩ := zw2 BK343; obtain ⟨hcz86_0, hfz86_0, hcz86_1, hfz86_1⟩ := zw2 BK344; obtain ⟨hcz87_0, hfz87_0, hcz87_1, hfz87_1⟩ := zw2 BK345) | (go_at_call 96; (with_reducible refine (impl_on.calls a0_0 a0_1 a1_0 a1_1 a2_0 a2_1 false _ A22.out).mono ?_); rintro e w88 ⟨rfl, hb⟩; replace BK343 := zK BK343 hb; replace BK344 := zK BK344 hb; replace BK345 := zK BK345 hb; replace BK346 := zK BK346 hb; replace HB := zW (pB4 HB.out GE343.out GE344.out GE345.out GE346.out) hb; (try clear hb); (try clear hb2); (try clear hk); (try clear hi); obtain ⟨hcz89_0, hfz89_0, hcz89_1, hfz89_1⟩ := zw2 BK343; obtain ⟨hcz90_0, hfz90_0, hcz90_1, hfz90_1⟩ := zw2 BK344; obtain ⟨hcz91_0, hfz91_0, hcz91_1, hfz91_1⟩ := zw2 BK346) | (go_at_call 96; (with_reducible refine (impl_on.calls a0_0 a0_1 a1_0 a1_1 a3_0 a3_1 false _ A43.out).mono ?_); rintro e w92 ⟨rfl, hb⟩; replace BK343 := zK BK343 hb; replace BK344 := zK BK344 hb; replace BK345 := zK BK345 hb; replace BK346 := zK BK346 hb; replace HB := zW (pB4 HB.out GE343.out GE344.out GE345.out GE346.out) hb; (try clear hb); (try clear hb2); (try clear hk); (try clear hi); obtain ⟨hcz93_0, hfz93_0, hcz93_1, hfz93_1⟩ := zw2 BK345; obtain ⟨hcz94_0, hfz94_0, hcz94_1, hfz94_1⟩ := zw2 BK346; obtain ⟨hcz95_0, hfz95_0, hcz95_1, hfz95_1⟩ := zw2 BK343) | (go_at_call 96; (with_reducible refine (impl_on.calls a2_0 a2_1 a3_0 a3_1 a0_0 a0_1 true _ A68.out).mono ?_); rintro e w96 ⟨rfl, hb⟩; replace BK343 := zK BK343 hb; replace BK344 := zK BK344 hb; replace BK345 := zK BK345 hb; replace BK346 := zK BK346 hb; replace HB := zW (pB4 HB.out GE343.out GE344.out GE345.out GE346.out) hb; (try clear hb); (try clear hb2); (try clear hk); (try clear hi)))
   go_ret
   exact ⟨zE, pB4 HB.out GE343.out GE344.out GE345.out GE346.out⟩
 replace c69 := Bool.eq_false_iff.mpr c69
 subst c69
 have H1 : ((impl_on.f a2_0 a2_1 a3_0 a3_1 a1_0 a1_1).bind fun t351 => (some t351)) = some r := by rw [if_neg (show ¬ (false = true) by decide)] at H; exact H
 clear H
 have H := H1
 clear H1
 replace H := Option.bind_eq_some_iff.mp H
 obtain ⟨t351, A970, H⟩ := H
 have A97 := Aside0.mk A970
 clear A970
 obtain rfl := Option.some.inj H
 go_enter Try.func97, Try.ntmps97
 go_wp2_with (first | ((with_reducible refine gate_dst (N := 4) rfl ?_); refine zB 4 #[.int .i64 a0_0, .int .i64 a0_1] 91 ?_; intro gb343 hg w98 hbox hb; have BK343 := Aside0.mk (hbox); have GW343 := zS (pB0 HB.out) hg; have GE343 := zS (pB0 HB.out) hg; replace HB := zW (pB0 HB.out) hb; clear hb hbox hg) | ((with_reducible refine gate_dst (N := 5) rfl ?_); refine zB 5 #[.int .i64 a1_0, .int .i64 a1_1] 91 ?_; intro gb344 hg w99 hbox hb; have BK344 := Aside0.mk (hbox); have GW344 := zS (pB1 HB.out GE343.out) hg; have GE344 := zS (pB1 HB.out GE343.out) hg; have NB343_344 := zL BK343 hg; have NB344_343 := zM BK343 hg; replace BK343 := zK BK343 hb; replace HB := zW (pB1 HB.out GE343.out) hb; clear hb hbox hg) | ((with_reducible refine gate_dst (N := 6) rfl ?_); refine zB 6 #[.int .i64 a2_0, .int .i64 a2_1] 91 ?_; intro gb345 hg w100 hbox hb; have BK345 := Aside0.mk (hbox); have GW345 := zS (pB2 HB.out GE343.out GE344.out) hg; have GE345 := zS (pB2 HB.out GE343.out GE344.out) hg; have NB343_345 := zL BK343 hg; have NB345_343 := zM BK343 hg; have NB344_345 := zL BK344 hg; have NB345_344 := zM BK344 hg; replace BK343 := zK BK343 hb; replace BK344 := zK BK344 hb; replace HB := zW (pB2 HB.out GE343.out GE344.out) hb; clear hb hbox hg) | ((with_reducible refine gate_dst (N := 7) rfl ?_); refine zB 7 #[.int .i64 a3_0, .int .i64 a3_1] 91 ?_; intro gb346 hg w101 hbox hb; have BK346 := Aside0.mk (hbox); have GW346 := zS (pB3 HB.out GE343.out GE344.out GE345.out) hg; have GE346 := zS (pB3 HB.out GE343.out GE344.out GE345.out) hg; have NB343_346 := zL BK343 hg; have NB346_343 := zM BK343 hg; have NB344_346 := zL BK344 hg; have NB346_344 := zM BK344 hg; have NB345_346 := zL BK345 hg; have NB346_345 := zM BK345 hg; replace BK343 := zK BK343 hb; replace BK344 := zK BK344 hb; replace BK345 := zK BK345 hb; replace HB := zW (pB3 HB.out GE343.out GE344.out GE345.out) hb; clear hb hbox hg; have hnb102 := NB343_344.out; have hnc102 := NB344_343.out; have hnb103 := NB343_345.out; have hnc103 := NB345_343.out; have hnb104 := NB343_346.out; have hnc104 := NB346_343.out; obtain ⟨hcz105_0, hfz105_0, hcz105_1, hfz105_1⟩ := zw2 BK343; have hnb106 := NB344_345.out; have hnc106 := NB345_344.out; have hnb107 := NB344_346.out; have hnc107 := NB346_344.out; obtain ⟨hcz108_0, hfz108_0, hcz108_1, hfz108_1⟩ := zw2 BK344; have hnb109 := NB345_346.out; have hnc109 := NB346_345.out; obtain ⟨hcz110_0, hfz110_0, hcz110_1, hfz110_1⟩ := zw2 BK345; obtain ⟨hcz111_0, hfz111_0, hcz111_1, hfz111_1⟩ := zw2 BK346) | ((with_reducible refine gate_callee (f := 134) rfl ?_); refine goesL_ (some 13) rfl rfl Try.func134 (by kernel_rfl) rfl #[.agg #[.int .i64 a0_0, .int .i64 a0_1], .agg #[.int .i64 a1_0, .int .i64 a1_1], .agg #[.int .i64 a2_0, .int .i64 a2_1], .agg #[.int .i64 a3_0, .int .i64 a3_1]] rfl pA ?_; (with_reducible refine (impl_crossing.calls a0_0 a0_1 a1_0 a1_1 a2_0 a2_1 a3_0 a3_1 false _ A5.out).mono ?_); rintro e w112 ⟨rfl, hb⟩; refine ⟨_, rfl, ?_⟩; replace BK343 := zK BK343 hb; replace BK344 := zK BK344 hb; replace BK345 := zK BK345 hb; replace BK346 := zK BK346 hb; replace HB := zW (pB4 HB.out GE343.out GE344.out GE345.out GE346.out) hb; (try clear hb); (try clear hb2); (try clear hk); (try clear hi); obtain ⟨hcz113_0, hfz113_0, hcz113_1, hfz113_1⟩ := zw2 BK343; obtain ⟨hcz114_0, hfz114_0, hcz114_1, hfz114_1⟩ := zw2 BK344; obtain ⟨hcz115_0, hfz115_0, hcz115_1, hfz115_1⟩ := zw2 BK345) | (go_at_call 96; (with_reducible refine (impl_on.calls a0_0 a0_1 a1_0 a1_1 a2_0 a2_1 false _ A22.out).mono ?_); rintro e w116 ⟨rfl, hb⟩; replace BK343 := zK BK343 hb; replace BK344 := zK BK344 hb; replace BK345 := zK BK345 hb; replace BK346 := zK BK346 hb; replace HB := zW (pB4 HB.out GE343.out GE344.out GE345.out GE346.out) hb; (try clear hb); (try clear hb2); (try clear hk); (try clear hi); obtain ⟨hcz117_0, hfz117_0, hcz117_1, hfz117_1⟩ := zw2 BK343; obtain ⟨hcz118_0, hfz118_0, hcz118_1, hfz118_1⟩ := zw2 BK344; obtain ⟨hcz119_0, hfz119_0, hcz119_1, hfz119_1⟩ := zw2 BK346) | (go_at_call 96; (with_reducible refine (impl_on.calls a0_0 a0_1 a1_0 a1_1 a3_0 a3_1 false _ A43.out).mono ?_); rintro e w120 ⟨rfl, hb⟩; replace BK343 := zK BK343 hb; replace BK344 := zK BK344 hb; replace BK345 := zK BK345 hb; replace BK346 := zK BK346 hb; replace HB := zW (pB4 HB.out GE343.out GE344.out GE345.out GE346.out) hb; (try clear hb); (try clear hb2); (try clear hk); (try clear hi); obtain ⟨hcz121_0, hfz121_0, hcz121_1, hfz121_1⟩ := zw2 BK345; obtain ⟨hcz122_0, hfz122_0, hcz122_1, hfz122_1⟩ := zw2 BK346; obtain ⟨hcz123_0, hfz123_0, hcz123_1, hfz123_1⟩ := zw2 BK343) | (go_at_call 96; (with_reducible refine (impl_on.calls a2_0 a2_1 a3_0 a3_1 a0_0 a0_1 false _ A68.out).mono ?_); rintro e w124 ⟨rfl, hb⟩; replace BK343 := zK BK343 hb; replace BK344 := zK BK344 hb; replace BK345 := zK BK345 hb; replace BK346 := zK BK346 hb; replace HB := zW (pB4 HB.out GE343.out GE344.out GE345.out GE346.out) hb; (try clear hb); (try clear hb2); (try clear hk); (try clear hi); obtain ⟨hcz125_0, hfz125_0, hcz125_1, hfz125_1⟩ := zw2 BK345; obtain ⟨hcz126_0, hfz126_0, hcz126_1, hfz126_1⟩ := zw2 BK346; obtain ⟨hcz127_0, hfz127_0, hcz127_1, hfz127_1⟩ := zw2 BK344) | (go_at_call 96; (with_reducible refine (impl_on.calls a2_0 a2_1 a3_0 a3_1 a1_0 a1_1 t351 _ A97.out).mono ?_); rintro e w128 ⟨rfl, hb⟩; replace BK343 := zK BK343 hb; replace BK344 := zK BK344 hb; replace BK345 := zK BK345 hb; replace BK346 := zK BK346 hb; replace HB := zW (pB4 HB.out GE343.out GE344.out GE345.out GE346.out) hb; (try clear hb); (try clear hb2); (try clear hk); (try clear hi)))
 go_ret
 exact ⟨zE, pB4 HB.out GE343.out GE344.out GE345.out GE346.out⟩
def impl_doubled.l0 : Nat → List (S91) → Int → List (S91) → Int → Int → Option (Int)
 | 0, _, _, _, _, _ => none
 | k + 1, x0, x3, x7, x8, x9 => if x9 < x8 then (if 0 ≤ x9 then (if x9 < (x7.length : Int) then (if (x0.length : Int) = 0 then (none) else (if 0 ≤ (Int.tmod (wrap64 (x9 + 1)) (x0.length : Int)) then (if (Int.tmod (wrap64 (x9 + 1)) (x0.length : Int)) < (x0.length : Int) then (impl_doubled.l0 k x0 (wrap64 (x3 + (wrap64 ((wrap64 (((rd_T91 x7 x9).f0) * ((rd_T91 x0 (Int.tmod (wrap64 (x9 + 1)) (x0.length : Int))).f1))) - (wrap64 (((rd_T91 x7 x9).f1) * ((rd_T91 x0 (Int.tmod (wrap64 (x9 + 1)) (x0.length : Int))).f0))))))) x7 x8 (wrap64 (x9 + 1))) else (none)) else (none))) else (none)) else (none)) else (some x3)
def impl_doubled.f (k : Nat) (l0 : List (S91)) : Option (Int) := impl_doubled.l0 k l0 0 l0 (l0.length : Int) 0
theorem impl_doubled.mono_l : ∀ k, (∀ y0 y1 y2 y3 y4, LeO (impl_doubled.l0 k y0 y1 y2 y3 y4) (impl_doubled.l0 (k + 1) y0 y1 y2 y3 y4))
 | 0 => fun _ _ _ _ _ r h => by simp [impl_doubled.l0] at h
 | k + 1 => by
   have ih0 := impl_doubled.mono_l k
   · intro y0 y1 y2 y3 y4
     unfold impl_doubled.l0
     repeat' first
     | (with_reducible exact ih0 _ _ _ _ _)
     | (with_reducible exact LeO.refl _)
     | (with_reducible exact LeO.none _)
     | (with_reducible refine LeO.ite ?_ ?_)
     | (with_reducible refine LeO.bind ?_ (fun _ => ?_))
     | exact ih0 _ _ _ _ _
     | exact LeO.none _
     | refine LeO.ite ?_ ?_
     | refine LeO.bind ?_ (fun _ => ?_)
theorem impl_doubled.mono : ∀ a0 k, LeO (impl_doubled.f k a0) (impl_doubled.f (k + 1) a0) := by
 intro a0 k
 have ih0 := impl_doubled.mono_l k
 unfold impl_doubled.f
 repeat' first
  | (with_reducible exact ih0 _ _ _ _ _)
  | (with_reducible exact LeO.refl _)
  | (with_reducible exact LeO.none _)
  | (with_reducible refine LeO.ite ?_ ?_)
  | (with_reducible refine LeO.bind ?_ (fun _ => ?_))
  | exact ih0 _ _ _ _ _
  | exact LeO.none _
  | refine LeO.ite ?_ ?_
  | refine LeO.bind ?_ (fun _ => ?_)
set_option maxHeartbeats 8000000 in
set_option maxRecDepth 100000 in
theorem impl_doubled.calls (k : Nat) (A0 : Option Addr) (c0 : Nat) (l0 : List (S91)) (r : Int) (w : World) (hr0 : Kd.C k91 w A0 l0.length l0) (hc0 : l0.length ≤ c0) (h : impl_doubled.f k l0 = some r) :
 Calls Try.prog 98 #[.slice A0 l0.length c0] w fun e w' => e = .returned (.int .i64 r) ∧ Below w.heap.size w w' := by
 have hu91 := Try.underlying91
 have HR0 := Aside0.mk hr0
 have HC0 := Aside0.mk hc0
 clear hr0 hc0
 have HB := Aside0.mk (Below.refl w.heap.size w)
 have H : (impl_doubled.l0 k l0 0 l0 (l0.length : Int) 0) = some r := h
 clear h
 have H' := Aside0.mk H
 clear H
 go_enter Try.func98, Try.ntmps98
 go_wp2
 go_loopg [3, 9] k (fun kq v3 v9 w' => ∃ (x3_1 : Int) (x9_1 : Int), v3 = .int .i64 x3_1 ∧ v9 = .int .i64 x9_1 ∧ Aside0 (impl_doubled.l0 kq l0 x3_1 l0 (l0.length : Int) x9_1 = some r) ∧ Aside0 (kq ≤ k) ∧ Aside0 (Below w.heap.size w w'))
 case atStart => exact ⟨(0), (0), zR, zR, H', ⟨Nat.le_refl _⟩, ⟨pB0 HB.out⟩⟩
 case round =>
  clear H'
  obtain ⟨x3_1, x9_1, rfl, rfl, HA, HK1, HB⟩ := hrel
  cases gk with
  | zero => exact absurd HA.out (by simp [impl_doubled.l0])
  | succ k1 =>
    have H := HA.out
    clear HA
    simp only [impl_doubled.l0] at H
    by_cases c2 : x9_1 < (l0.length : Int)
    rotate_left
    · rw [if_neg c2] at H
      have c2b0 : decide (x9_1 < (l0.length : Int)) = false := decide_eq_false c2
      clear c2
      obtain rfl := Option.some.inj H
      go_wp2
      go_ret
      exact ⟨zE, pB0 HB.out⟩
    rw [if_pos c2] at H
    have c2b0 := decide_eq_true c2
    clear c2
    by_cases c3 : 0 ≤ x9_1
    rotate_left
    · rw [if_neg c3] at H
      exact absurd H (by simp)
    rw [if_pos c3] at H
    have c3b0 := decide_eq_true c3
    clear c3
    by_cases c4 : x9_1 < (l0.length : Int)
    rotate_left
    · rw [if_neg c4] at H
      exact absurd H (by simp)
    rw [if_pos c4] at H
    have c4b0 := decide_eq_true c4
    clear c4
    by_cases c5 : (l0.length : Int) = 0
    · rw [if_pos c5] at H
      exact absurd H (by simp)
    rw [if_neg c5] at H
    have c5b0 : ((l0.length : Int) == 0) = false := beq_eq_false_iff_ne.mpr c5
    have c5b1 : ((l0.length : Int) != 0) = true := bne_iff_ne.mpr c5
    have c5b2 : ¬ (l0 = []) := fun h_ => c5 (by rw [h_]; rfl)
    obtain ⟨ji6, hji6⟩ : ∃ j_ : Int, (Int.tmod (wrap64 (x9_1 + 1)) (l0.length : Int)) = j_ := ⟨_, rfl⟩
    replace H : (if 0 ≤ (ji6) then (if (ji6) < (l0.length : Int) then (impl_doubled.l0 k1 l0 (wrap64 (x3_1 + (wrap64 ((wrap64 (((rd_T91 l0 x9_1).f0) * ((rd_T91 l0 (ji6)).f1))) - (wrap64 (((rd_T91 l0 x9_1).f1) * ((rd_T91 l0 (ji6)).f0))))))) l0 (l0.length : Int) (wrap64 (x9_1 + 1))) else (none)) else (none)) = some r := by first | (rw [hji6] at H; exact H) | (simp only [hji6] at H ⊢; exact H)
    by_cases c7 : 0 ≤ (ji6)
    rotate_left
    · rw [if_neg c7] at H
      exact absurd H (by simp)
    rw [if_pos c7] at H
    have c7b0 := decide_eq_true c7
    clear c7
    by_cases c8 : (ji6) < (l0.length : Int)
    rotate_left
    · rw [if_neg c8] at H
      exact absurd H (by simp)
    rw [if_pos c8] at H
    have c8b0 := decide_eq_true c8
    clear c8
    have H' := Aside0.mk H
    clear H
    have p352 : 0 ≤ (x9_1 : Int) := zD
    have q352 : x9_1 < (l0.length : Int) := zD
    obtain ⟨ad352, e352, hx352_0, hx352_1⟩ := at_T91 HR0.out x9_1 p352 q352
    cases e352
    try replace hx352_0 := zH HB hx352_0
    try replace hx352_1 := zH HB hx352_1
    replace p352 := eq_true p352
    replace q352 := eq_true q352
    go_wp2_with (first | ((with_reducible refine gate_dst (N := 5) rfl ?_); refine zB 5 #[.int .i64 0, .int .i64 0] 91 ?_; intro gb353 hg w9 hbox hb; have BK353 := Aside0.mk (hbox); have GW353 := zS (pB0 HB.out) hg; have GE353 := zS (pB0 HB.out) hg; replace HB := zW (pB0 HB.out) hb; clear hb hbox hg; obtain ⟨hcz10_0, hfz10_0, hcz10_1, hfz10_1⟩ := zw2 BK353; have p354 : 0 ≤ ((ji6) : Int) := zD; have q354 : (ji6) < (l0.length : Int) := zD; obtain ⟨ad354, e354, hx354_0, hx354_1⟩ := at_T91 HR0.out (ji6) p354 q354; obtain rfl : ad352 = ad354 := (by injection e354); have hn354_0 : ad352.block ≠ gb353 := Nat.ne_of_lt (Nat.lt_of_lt_of_le (by have := World.block_lt_of_cell? _ _ hx354_0; first | rwa [add_block] at this | exact this) GW353.out); have hn354_1 : ad352.block ≠ gb353 := Nat.ne_of_lt (Nat.lt_of_lt_of_le (by have := World.block_lt_of_cell? _ _ hx354_0; first | rwa [add_block] at this | exact this) GW353.out); try replace hx354_0 := zH HB hx354_0; try replace hx354_1 := zH HB hx354_1; replace hx354_0 := (cell_far (p := ⟨gb353, 0, none⟩) (by first | (rw [add_block]; exact hn354_0) | (show (Addr.add _ _).block ≠ _; rw [add_block]; exact hn354_0) | exact hn354_0) (.int .i64 ((rd_T91 l0 x9_1).f0))).trans hx354_0; replace hx354_1 := (cell_far (p := ⟨gb353, 0, none⟩) (by first | (rw [add_block]; exact hn354_0) | (show (Addr.add _ _).block ≠ _; rw [add_block]; exact hn354_0) | exact hn354_0) (.int .i64 ((rd_T91 l0 x9_1).f0))).trans hx354_1; replace hx354_0 := (cell_far (p := ⟨gb353, 1, none⟩) (by first | (rw [add_block]; exact hn354_1) | (show (Addr.add _ _).block ≠ _; rw [add_block]; exact hn354_1) | exact hn354_1) (.int .i64 ((rd_T91 l0 x9_1).f1))).trans hx354_0; replace hx354_1 := (cell_far (p := ⟨gb353, 1, none⟩) (by first | (rw [add_block]; exact hn354_1) | (show (Addr.add _ _).block ≠ _; rw [add_block]; exact hn354_1) | exact hn354_1) (.int .i64 ((rd_T91 l0 x9_1).f1))).trans hx354_1; clear hn354_0; clear hn354_1; replace p354 := eq_true p354; replace q354 := eq_true q354) | ((with_reducible refine gate_dst (N := 6) rfl ?_); refine zB 6 #[.int .i64 0, .int .i64 0] 91 ?_; intro gb355 hg w11 hbox hb; have BK355 := Aside0.mk (hbox); have GW355 := zS (pB1 HB.out GE353.out) hg; have GE355 := zS (pB1 HB.out GE353.out) hg; have NB353_355 := Aside0.mk ((by rw [hg]; exact Nat.ne_of_lt (blk_lt (g := gb353) (o := .cells #[.int .i64 ((rd_T91 l0 x9_1).f0), .int .i64 ((rd_T91 l0 x9_1).f1)] 91 (0, 0)) (by refine zg #[.int .i64 ((rd_T91 l0 x9_1).f0), .int .i64 0] 1 ?_; refine zg #[.int .i64 0, .int .i64 0] 0 ?_; exact pK BK353.out)) : gb353 ≠ gb355)); have NB355_353 := Aside0.mk ((by rw [hg]; exact Nat.ne_of_gt (blk_lt (g := gb353) (o := .cells #[.int .i64 ((rd_T91 l0 x9_1).f0), .int .i64 ((rd_T91 l0 x9_1).f1)] 91 (0, 0)) (by refine zg #[.int .i64 ((rd_T91 l0 x9_1).f0), .int .i64 0] 1 ?_; refine zg #[.int .i64 0, .int .i64 0] 0 ?_; exact pK BK353.out)) : gb355 ≠ gb353)); replace BK353 := Aside0.mk (blk_below (g := gb353) (o := .cells #[.int .i64 ((rd_T91 l0 x9_1).f0), .int .i64 ((rd_T91 l0 x9_1).f1)] 91 (0, 0)) (by refine zg #[.int .i64 ((rd_T91 l0 x9_1).f0), .int .i64 0] 1 ?_; refine zg #[.int .i64 0, .int .i64 0] 0 ?_; exact pK BK353.out) hb); replace HB := zW (pB1 HB.out GE353.out) hb; clear hb hbox hg; have hnb12 := NB355_353.out; have hnc12 := NB353_355.out; obtain ⟨hcz13_0, hfz13_0, hcz13_1, hfz13_1⟩ := zw2 BK355; obtain ⟨hcz14_0, hfz14_0, hcz14_1, hfz14_1⟩ := zw2 BK353))
    go_roundg k1
    case measure => have := HK1.out; omega
    case rel => exact ⟨(wrap64 (x3_1 + (wrap64 ((wrap64 (((rd_T91 l0 x9_1).f0) * ((rd_T91 l0 (ji6)).f1))) - (wrap64 (((rd_T91 l0 x9_1).f1) * ((rd_T91 l0 (ji6)).f0))))))), (wrap64 (x9_1 + 1)), (by first | rfl | (simp; done) | (simp only [← hji6] <;> (first | rfl | simp)) | (simp [*]; done)), zR, H', ⟨by have := HK1.out; omega⟩, ⟨pB2 HB.out GE353.out GE355.out⟩⟩
end Go.Proofs.Ytfiiakhpdkdebaa.PFnExactTurnsThatFit

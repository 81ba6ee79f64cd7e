/- What each function that a law reaches comes to, and the proof that its walk comes to it; laid by a program of this session. No condition. -/
import Derived.Test.YtfiiakhpdkdebaaZFnExactTurnsThatFit0
import Derived.Test.YtfiiakhpdkdebaaZFnExactTurnsThatFit3
namespace Go.Proofs.Ytfiiakhpdkdebaa.PFnExactTurnsThatFit
open Go.RowKit Go.Proofs.YtfiiakhpdkdebaaW.PrintWords Go.Proofs.YtfiiakhpdkdebaaW.PrintLast Go.Proofs.YtfiiakhpdkdebaaW.PrintMore
attribute [local go_sem] max2_int min2_int max_two min_two max_three min_three max_four min_four
set_option linter.unusedVariables false
set_option linter.unusedSimpArgs false
def laws_eqLeaf.f (k : Nat) (a0_0 : ByteArray) (a0_1 : ByteArray) (a0_2 : Int) (a0_3 : ByteArray) (a0_4 : Int) (a0_5 : Int) (a0_6 : Int) (a0_7 : Int) (l0_8 : List (S103)) (a1_0 : ByteArray) (a1_1 : ByteArray) (a1_2 : Int) (a1_3 : ByteArray) (a1_4 : Int) (a1_5 : Int) (a1_6 : Int) (a1_7 : Int) (l1_8 : List (S103)) : Option (Bool) := if a0_0.toList = a1_0.toList then (if a0_1.toList = a1_1.toList then (if a0_2 = a1_2 then ((laws_eqVeneer.f a0_3 a0_4 a0_5 a1_3 a1_4 a1_5).bind fun t153 => (if t153 = true then (if a0_6 = a1_6 then (if a0_7 = a1_7 then ((laws_eqBoxS.f k l0_8 l1_8).bind fun t154 => (if t154 = true then (some true) else (some false))) else (some false)) else (some false)) else (some false))) else (some false)) else (some false)) else (some false)
theorem laws_eqLeaf.mono : ∀ a0 a1 a2 a3 a4 a5 a6 a7 a8 a9 a10 a11 a12 a13 a14 a15 a16 a17 k, LeO (laws_eqLeaf.f k a0 a1 a2 a3 a4 a5 a6 a7 a8 a9 a10 a11 a12 a13 a14 a15 a16 a17) (laws_eqLeaf.f (k + 1) a0 a1 a2 a3 a4 a5 a6 a7 a8 a9 a10 a11 a12 a13 a14 a15 a16 a17) := by
 intro a0 a1 a2 a3 a4 a5 a6 a7 a8 a9 a10 a11 a12 a13 a14 a15 a16 a17 k
 unfold laws_eqLeaf.f
 repeat' first
  | (with_reducible exact laws_eqBoxS.mono _ _ _)
  | (with_reducible exact LeO.refl _)
  | (with_reducible exact LeO.none _)
  | (with_reducible refine LeO.ite ?_ ?_)
  | (with_reducible refine LeO.bind ?_ (fun _ => ?_))
  | exact laws_eqBoxS.mono _ _ _
  | exact LeO.none _
  | refine LeO.ite ?_ ?_
  | refine LeO.bind ?_ (fun _ => ?_)
set_option maxHeartbeats 8000000 in
set_option maxRecDepth 100000 in
theorem laws_eqLeaf.calls (k : Nat) (a0_0 : ByteArray) (a0_1 : ByteArray) (a0_2 : Int) (a0_3 : ByteArray) (a0_4 : Int) (a0_5 : Int) (a0_6 : Int) (a0_7 : Int) (A0_8 : Option Addr) (c0_8 : Nat) (l0_8 : List (S103)) (a1_0 : ByteArray) (a1_1 : ByteArray) (a1_2 : Int) (a1_3 : ByteArray) (a1_4 : Int) (a1_5 : Int) (a1_6 : Int) (a1_7 : Int) (A1_8 : Option Addr) (c1_8 : Nat) (l1_8 : List (S103)) (r : Bool) (w : World) (hr0_8 : Kd.C k103 w A0_8 l0_8.length l0_8) (hc0_8 : l0_8.length ≤ c0_8) (hr1_8 : Kd.C k103 w A1_8 l1_8.length l1_8) (hc1_8 : l1_8.length ≤ c1_8) (h : laws_eqLeaf.f k a0_0 a0_1 a0_2 a0_3 a0_4 a0_5 a0_6 a0_7 l0_8 a1_0 a1_1 a1_2 a1_3 a1_4 a1_5 a1_6 a1_7 l1_8 = some r) :
 Calls Try.prog 16 #[.agg #[.string a0_0, .string a0_1, .int .i64 a0_2, .string a0_3, .int .i64 a0_4, .int .i64 a0_5, .int .i64 a0_6, .int .i64 a0_7, .slice A0_8 l0_8.length c0_8], .agg #[.string a1_0, .string a1_1, .int .i64 a1_2, .string a1_3, .int .i64 a1_4, .int .i64 a1_5, .int .i64 a1_6, .int .i64 a1_7, .slice A1_8 l1_8.length c1_8]] w fun e w' => e = .returned (.bool r) ∧ Below w.heap.size w w' := by
 have hu36 := Try.underlying36
 have hu33 := Try.underlying33
 have HR0_8 := Aside0.mk hr0_8
 have HC0_8 := Aside0.mk hc0_8
 clear hr0_8 hc0_8
 have HR1_8 := Aside0.mk hr1_8
 have HC1_8 := Aside0.mk hc1_8
 clear hr1_8 hc1_8
 have HB := Aside0.mk (Below.refl w.heap.size w)
 have H : (if a0_0.toList = a1_0.toList then (if a0_1.toList = a1_1.toList then (if a0_2 = a1_2 then ((laws_eqVeneer.f a0_3 a0_4 a0_5 a1_3 a1_4 a1_5).bind fun t153 => (if t153 = true then (if a0_6 = a1_6 then (if a0_7 = a1_7 then ((laws_eqBoxS.f k l0_8 l1_8).bind fun t154 => (if t154 = true then (some true) else (some false))) else (some false)) else (some false)) else (some false))) else (some false)) else (some false)) else (some false)) = some r := h
 clear h
 by_cases c3 : a0_0.toList = a1_0.toList
 rotate_left
 · rw [if_neg c3] at H
   have c3b0 : (a0_0.toList == a1_0.toList) = false := beq_eq_false_iff_ne.mpr c3
   have c3b1 : (a0_0.toList != a1_0.toList) = true := bne_iff_ne.mpr c3
   obtain rfl := Option.some.inj H
   go_enter Try.func16, Try.ntmps16
   go_wp2_with (first | ((with_reducible refine gate_dst (N := 2) rfl ?_); refine zB 2 #[.string a0_0, .string a0_1, .int .i64 a0_2, .string a0_3, .int .i64 a0_4, .int .i64 a0_5, .int .i64 a0_6, .int .i64 a0_7, .slice A0_8 l0_8.length c0_8] 36 ?_; intro gb151 hg w62 hbox hb; have BK151 := Aside0.mk (hbox); have GW151 := zS (pB0 HB.out) hg; have GE151 := zS (pB0 HB.out) hg; replace HB := zW (pB0 HB.out) hb; clear hb hbox hg) | ((with_reducible refine gate_dst (N := 3) rfl ?_); refine zB 3 #[.string a1_0, .string a1_1, .int .i64 a1_2, .string a1_3, .int .i64 a1_4, .int .i64 a1_5, .int .i64 a1_6, .int .i64 a1_7, .slice A1_8 l1_8.length c1_8] 36 ?_; intro gb152 hg w63 hbox hb; have BK152 := Aside0.mk (hbox); have GW152 := zS (pB1 HB.out GE151.out) hg; have GE152 := zS (pB1 HB.out GE151.out) hg; have NB151_152 := zL BK151 hg; have NB152_151 := zM BK151 hg; replace BK151 := zK BK151 hb; replace HB := zW (pB1 HB.out GE151.out) hb; clear hb hbox hg; have hnb64 := NB151_152.out; have hnc64 := NB152_151.out; obtain ⟨hcz65_0, hfz65_0, hcz65_1, hfz65_1, hcz65_2, hfz65_2, hcz65_3, hfz65_3, hcz65_4, hfz65_4, hcz65_5, hfz65_5, hcz65_6, hfz65_6, hcz65_7, hfz65_7, hcz65_8, hfz65_8⟩ := zw9 BK151; obtain ⟨hcz66_0, hfz66_0, hcz66_1, hfz66_1, hcz66_2, hfz66_2, hcz66_3, hfz66_3, hcz66_4, hfz66_4, hcz66_5, hfz66_5, hcz66_6, hfz66_6, hcz66_7, hfz66_7, hcz66_8, hfz66_8⟩ := zw9 BK152))
   go_ret
   exact ⟨zE, pB2 HB.out GE151.out GE152.out⟩
 rw [if_pos c3] at H
 have c3b0 : (a0_0.toList == a1_0.toList) = true := beq_iff_eq.mpr c3
 have c3b1 : (a0_0.toList != a1_0.toList) = false := bne_eq_false_iff_eq.mpr c3
 clear c3
 by_cases c4 : a0_1.toList = a1_1.toList
 rotate_left
 · rw [if_neg c4] at H
   have c4b0 : (a0_1.toList == a1_1.toList) = false := beq_eq_false_iff_ne.mpr c4
   have c4b1 : (a0_1.toList != a1_1.toList) = true := bne_iff_ne.mpr c4
   obtain rfl := Option.some.inj H
   go_enter Try.func16, Try.ntmps16
   go_wp2_with (first | ((with_reducible refine gate_dst (N := 2) rfl ?_); refine zB 2 #[.string a0_0, .string a0_1, .int .i64 a0_2, .string a0_3, .int .i64 a0_4, .int .i64 a0_5, .int .i64 a0_6, .int .i64 a0_7, .slice A0_8 l0_8.length c0_8] 36 ?_; intro gb151 hg w57 hbox hb; have BK151 := Aside0.mk (hbox); have GW151 := zS (pB0 HB.out) hg; have GE151 := zS (pB0 HB.out) hg; replace HB := zW (pB0 HB.out) hb; clear hb hbox hg) | ((with_reducible refine gate_dst (N := 3) rfl ?_); refine zB 3 #[.string a1_0, .string a1_1, .int .i64 a1_2, .string a1_3, .int .i64 a1_4, .int .i64 a1_5, .int .i64 a1_6, .int .i64 a1_7, .slice A1_8 l1_8.length c1_8] 36 ?_; intro gb152 hg w58 hbox hb; have BK152 := Aside0.mk (hbox); have GW152 := zS (pB1 HB.out GE151.out) hg; have GE152 := zS (pB1 HB.out GE151.out) hg; have NB151_152 := zL BK151 hg; have NB152_151 := zM BK151 hg; replace BK151 := zK BK151 hb; replace HB := zW (pB1 HB.out GE151.out) hb; clear hb hbox hg; have hnb59 := NB151_152.out; have hnc59 := NB152_151.out; obtain ⟨hcz60_0, hfz60_0, hcz60_1, hfz60_1, hcz60_2, hfz60_2, hcz60_3, hfz60_3, hcz60_4, hfz60_4, hcz60_5, hfz60_5, hcz60_6, hfz60_6, hcz60_7, hfz60_7, hcz60_8, hfz60_8⟩ := zw9 BK151; obtain ⟨hcz61_0, hfz61_0, hcz61_1, hfz61_1, hcz61_2, hfz61_2, hcz61_3, hfz61_3, hcz61_4, hfz61_4, hcz61_5, hfz61_5, hcz61_6, hfz61_6, hcz61_7, hfz61_7, hcz61_8, hfz61_8⟩ := zw9 BK152))
   go_ret
   exact ⟨zE, pB2 HB.out GE151.out GE152.out⟩
 rw [if_pos c4] at H
 have c4b0 : (a0_1.toList == a1_1.toList) = true := beq_iff_eq.mpr c4
 have c4b1 : (a0_1.toList != a1_1.toList) = false := bne_eq_false_iff_eq.mpr c4
 clear c4
 by_cases c5 : a0_2 = a1_2
 rotate_left
 · rw [if_neg c5] at H
   have c5b0 : (a0_2 == a1_2) = false := beq_eq_false_iff_ne.mpr c5
   have c5b1 : (a0_2 != a1_2) = true := bne_iff_ne.mpr c5
   obtain rfl := Option.some.inj H
   go_enter Try.func16, Try.ntmps16
   go_wp2_with (first | ((with_reducible refine gate_dst (N := 2) rfl ?_); refine zB 2 #[.string a0_0, .string a0_1, .int .i64 a0_2, .string a0_3, .int .i64 a0_4, .int .i64 a0_5, .int .i64 a0_6, .int .i64 a0_7, .slice A0_8 l0_8.length c0_8] 36 ?_; intro gb151 hg w52 hbox hb; have BK151 := Aside0.mk (hbox); have GW151 := zS (pB0 HB.out) hg; have GE151 := zS (pB0 HB.out) hg; replace HB := zW (pB0 HB.out) hb; clear hb hbox hg) | ((with_reducible refine gate_dst (N := 3) rfl ?_); refine zB 3 #[.string a1_0, .string a1_1, .int .i64 a1_2, .string a1_3, .int .i64 a1_4, .int .i64 a1_5, .int .i64 a1_6, .int .i64 a1_7, .slice A1_8 l1_8.length c1_8] 36 ?_; intro gb152 hg w53 hbox hb; have BK152 := Aside0.mk (hbox); have GW152 := zS (pB1 HB.out GE151.out) hg; have GE152 := zS (pB1 HB.out GE151.out) hg; have NB151_152 := zL BK151 hg; have NB152_151 := zM BK151 hg; replace BK151 := zK BK151 hb; replace HB := zW (pB1 HB.out GE151.out) hb; clear hb hbox hg; have hnb54 := NB151_152.out; have hnc54 := NB152_151.out; obtain ⟨hcz55_0, hfz55_0, hcz55_1, hfz55_1, hcz55_2, hfz55_2, hcz55_3, hfz55_3, hcz55_4, hfz55_4, hcz55_5, hfz55_5, hcz55_6, hfz55_6, hcz55_7, hfz55_7, hcz55_8, hfz55_8⟩ := zw9 BK151; obtain ⟨hcz56_0, hfz56_0, hcz56_1, hfz56_1, hcz56_2, hfz56_2, hcz56_3, hfz56_3, hcz56_4, hfz56_4, hcz56_5, hfz56_5, hcz56_6, hfz56_6, hcz56_7, hfz56_7, hcz56_8, hfz56_8⟩ := zw9 BK152))
   go_ret
   exact ⟨zE, pB2 HB.out GE151.out GE152.out⟩
 rw [if_pos c5] at H
 have c5b0 : (a0_2 == a1_2) = true := beq_iff_eq.mpr c5
 have c5b1 : (a0_2 != a1_2) = false := bne_eq_false_iff_eq.mpr c5
 clear c5
 replace H := Option.bind_eq_some_iff.mp H
 obtain ⟨t153, A60, H⟩ := H
 have A6 := Aside0.mk A60
 clear A60
 by_cases c7 : t153 = true
 rotate_left
 · replace c7 := Bool.eq_false_iff.mpr c7
   subst c7
   have H1 : (some false) = some r := by rw [if_neg (show ¬ (false = true) by decide)] at H; exact H
   clear H
   have H := H1
   clear H1
   obtain rfl := Option.some.inj H
   go_enter Try.func16, Try.ntmps16
   go_wp2_with (first | ((with_reducible refine gate_dst (N := 2) rfl ?_); refine zB 2 #[.string a0_0, .string a0_1, .int .i64 a0_2, .string a0_3, .int .i64 a0_4, .int .i64 a0_5, .int .i64 a0_6, .int .i64 a0_7, .slice A0_8 l0_8.length c0_8] 36 ?_; intro gb151 hg w46 hbox hb; have BK151 := Aside0.mk (hbox); have GW151 := zS (pB0 HB.out) hg; have GE151 := zS (pB0 HB.out) hg; replace HB := zW (pB0 HB.out) hb; clear hb hbox hg) | ((with_reducible refine gate_dst (N := 3) rfl ?_); refine zB 3 #[.string a1_0, .string a1_1, .int .i64 a1_2, .string a1_3, .int .i64 a1_4, .int .i64 a1_5, .int .i64 a1_6, .int .i64 a1_7, .slice A1_8 l1_8.length c1_8] 36 ?_; intro gb152 hg w47 hbox hb; have BK152 := Aside0.mk (hbox); have GW152 := zS (pB1 HB.out GE151.out) hg; have GE152 := zS (pB1 HB.out GE151.out) hg; have NB151_152 := zL BK151 hg; have NB152_151 := zM BK151 hg; replace BK151 := zK BK151 hb; replace HB := zW (pB1 HB.out GE151.out) hb; clear hb hbox hg; have hnb48 := NB151_152.out; have hnc48 := NB152_151.out; obtain ⟨hcz49_0, hfz49_0, hcz49_1, hfz49_1, hcz49_2, hfz49_2, hcz49_3, hfz49_3, hcz49_4, hfz49_4, hcz49_5, hfz49_5, hcz49_6, hfz49_6, hcz49_7, hfz49_7, hcz49_8, hfz49_8⟩ := zw9 BK151; obtain ⟨hcz50_0, hfz50_0, hcz50_1, hfz50_1, hcz50_2, hfz50_2, hcz50_3, hfz50_3, hcz50_4, hfz50_4, hcz50_5, hfz50_5, hcz50_6, hfz50_6, hcz50_7, hfz50_7, hcz50_8, hfz50_8⟩ := zw9 BK152) | ((with_reducible refine gate_callee (f := 59) rfl ?_); refine goesL_ (some 24) rfl rfl Try.func59 (by kernel_rfl) rfl #[.agg #[.string a0_3, .int .i64 a0_4, .int .i64 a0_5], .agg #[.string a1_3, .int .i64 a1_4, .int .i64 a1_5]] rfl pA ?_; (with_reducible refine (laws_eqVeneer.calls a0_3 a0_4 a0_5 a1_3 a1_4 a1_5 false _ A6.out).mono ?_); rintro e w51 ⟨rfl, hb⟩; refine ⟨_, rfl, ?_⟩; replace BK151 := zK BK151 hb; replace BK152 := zK BK152 hb; replace HB := zW (pB2 HB.out GE151.out GE152.out) hb; (try clear hb); (try clear hb2); (try clear hk); (try clear hi)))
   go_ret
   exact ⟨zE, pB2 HB.out GE151.out GE152.out⟩
 subst c7
 have H1 : (if a0_6 = a1_6 then (if a0_7 = a1_7 then ((laws_eqBoxS.f k l0_8 l1_8).bind fun t154 => (if t154 = true then (some true) else (some false))) else (some false)) else (some false)) = some r := by rw [if_pos rfl] at H; exact H
 clear H
 have H := H1
 clear H1
 by_cases c8 : a0_6 = a1_6
 rotate_left
 · rw [if_neg c8] at H
   have c8b0 : (a0_6 == a1_6) = false := beq_eq_false_iff_ne.mpr c8
   have c8b1 : (a0_6 != a1_6) = true := bne_iff_ne.mpr c8
   obtain rfl := Option.some.inj H
   go_enter Try.func16, Try.ntmps16
   go_wp2_with (first | ((with_reducible refine gate_dst (N := 2) rfl ?_); refine zB 2 #[.string a0_0, .string a0_1, .int .i64 a0_2, .string a0_3, .int .i64 a0_4, .int .i64 a0_5, .int .i64 a0_6, .int .i64 a0_7, .slice A0_8 l0_8.length c0_8] 36 ?_; intro gb151 hg w38 hbox hb; have BK151 := Aside0.mk (hbox); have GW151 := zS (pB0 HB.out) hg; have GE151 := zS (pB0 HB.out) hg; replace HB := zW (pB0 HB.out) hb; clear hb hbox hg) | ((with_reducible refine gate_dst (N := 3) rfl ?_); refine zB 3 #[.string a1_0, .string a1_1, .int .i64 a1_2, .string a1_3, .int .i64 a1_4, .int .i64 a1_5, .int .i64 a1_6, .int .i64 a1_7, .slice A1_8 l1_8.length c1_8] 36 ?_; intro gb152 hg w39 hbox hb; have BK152 := Aside0.mk (hbox); have GW152 := zS (pB1 HB.out GE151.out) hg; have GE152 := zS (pB1 HB.out GE151.out) hg; have NB151_152 := zL BK151 hg; have NB152_151 := zM BK151 hg; replace BK151 := zK BK151 hb; replace HB := zW (pB1 HB.out GE151.out) hb; clear hb hbox hg; have hnb40 := NB151_152.out; have hnc40 := NB152_151.out; obtain ⟨hcz41_0, hfz41_0, hcz41_1, hfz41_1, hcz41_2, hfz41_2, hcz41_3, hfz41_3, hcz41_4, hfz41_4, hcz41_5, hfz41_5, hcz41_6, hfz41_6, hcz41_7, hfz41_7, hcz41_8, hfz41_8⟩ := zw9 BK151; obtain ⟨hcz42_0, hfz42_0, hcz42_1, hfz42_1, hcz42_2, hfz42_2, hcz42_3, hfz42_3, hcz42_4, hfz42_4, hcz42_5, hfz42_5, hcz42_6, hfz42_6, hcz42_7, hfz42_7, hcz42_8, hfz42_8⟩ := zw9 BK152) | ((with_reducible refine gate_callee (f := 59) rfl ?_); refine goesL_ (some 24) rfl rfl Try.func59 (by kernel_rfl) rfl #[.agg #[.string a0_3, .int .i64 a0_4, .int .i64 a0_5], .agg #[.string a1_3, .int .i64 a1_4, .int .i64 a1_5]] rfl pA ?_; (with_reducible refine (laws_eqVeneer.calls a0_3 a0_4 a0_5 a1_3 a1_4 a1_5 true _ A6.out).mono ?_); rintro e w43 ⟨rfl, hb⟩; refine ⟨_, rfl, ?_⟩; replace BK151 := zK BK151 hb; replace BK152 := zK BK152 hb; replace HB := zW (pB2 HB.out GE151.out GE152.out) hb; (try clear hb); (try clear hb2); (try clear hk); (try clear hi); obtain ⟨hcz44_0, hfz44_0, hcz44_1, hfz44_1, hcz44_2, hfz44_2, hcz44_3, hfz44_3, hcz44_4, hfz44_4, hcz44_5, hfz44_5, hcz44_6, hfz44_6, hcz44_7, hfz44_7, hcz44_8, hfz44_8⟩ := zw9 BK151; obtain ⟨hcz45_0, hfz45_0, hcz45_1, hfz45_1, hcz45_2, hfz45_2, hcz45_3, hfz45_3, hcz45_4, hfz45_4, hcz45_5, hfz45_5, hcz45_6, hfz45_6, hcz45_7, hfz45_7, hcz45_8, hfz45_8⟩ := zw9 BK152))
   go_ret
   exact ⟨zE, pB2 HB.out GE151.out GE152.out⟩
 rw [if_pos c8] at H
 have c8b0 : (a0_6 == a1_6) = true := beq_iff_eq.mpr c8
 have c8b1 : (a0_6 != a1_6) = false := bne_eq_false_iff_eq.mpr c8
 clear c8
 by_cases c9 : a0_7 = a1_7
 rotate_left
 · rw [if_neg c9] at H
   have c9b0 : (a0_7 == a1_7) = false := beq_eq_false_iff_ne.mpr c9
   have c9b1 : (a0_7 != a1_7) = true := bne_iff_ne.mpr c9
   obtain rfl := Option.some.inj H
   go_enter Try.func16, Try.ntmps16
   go_wp2_with (first | ((with_reducible refine gate_dst (N := 2) rfl ?_); refine zB 2 #[.string a0_0, .string a0_1, .int .i64 a0_2, .string a0_3, .int .i64 a0_4, .int .i64 a0_5, .int .i64 a0_6, .int .i64 a0_7, .slice A0_8 l0_8.length c0_8] 36 ?_; intro gb151 hg w30 hbox hb; have BK151 := Aside0.mk (hbox); have GW151 := zS (pB0 HB.out) hg; have GE151 := zS (pB0 HB.out) hg; replace HB := zW (pB0 HB.out) hb; clear hb hbox hg) | ((with_reducible refine gate_dst (N := 3) rfl ?_); refine zB 3 #[.string a1_0, .string a1_1, .int .i64 a1_2, .string a1_3, .int .i64 a1_4, .int .i64 a1_5, .int .i64 a1_6, .int .i64 a1_7, .slice A1_8 l1_8.length c1_8] 36 ?_; intro gb152 hg w31 hbox hb; have BK152 := Aside0.mk (hbox); have GW152 := zS (pB1 HB.out GE151.out) hg; have GE152 := zS (pB1 HB.out GE151.out) hg; have NB151_152 := zL BK151 hg; have NB152_151 := zM BK151 hg; replace BK151 := zK BK151 hb; replace HB := zW (pB1 HB.out GE151.out) hb; clear hb hbox hg; have hnb32 := NB151_152.out; have hnc32 := NB152_151.out; obtain ⟨hcz33_0, hfz33_0, hcz33_1, hfz33_1, hcz33_2, hfz33_2, hcz33_3, hfz33_3, hcz33_4, hfz33_4, hcz33_5, hfz33_5, hcz33_6, hfz33_6, hcz33_7, hfz33_7, hcz33_8, hfz33_8⟩ := zw9 BK151; obtain ⟨hcz34_0, hfz34_0, hcz34_1, hfz34_1, hcz34_2, hfz34_2, hcz34_3, hfz34_3, hcz34_4, hfz34_4, hcz34_5, hfz34_5, hcz34_6, hfz34_6, hcz34_7, hfz34_7, hcz34_8, hfz34_8⟩ := zw9 BK152) | ((with_reducible refine gate_callee (f := 59) rfl ?_); refine goesL_ (some 24) rfl rfl Try.func59 (by kernel_rfl) rfl #[.agg #[.string a0_3, .int .i64 a0_4, .int .i64 a0_5], .agg #[.string a1_3, .int .i64 a1_4, .int .i64 a1_5]] rfl pA ?_; (with_reducible refine (laws_eqVeneer.calls a0_3 a0_4 a0_5 a1_3 a1_4 a1_5 true _ A6.out).mono ?_); rintro e w35 ⟨rfl, hb⟩; refine ⟨_, rfl, ?_⟩; replace BK151 := zK BK151 hb; replace BK152 := zK BK152 hb; replace HB := zW (pB2 HB.out GE151.out GE152.out) hb; (try clear hb); (try clear hb2); (try clear hk); (try clear hi); obtain ⟨hcz36_0, hfz36_0, hcz36_1, hfz36_1, hcz36_2, hfz36_2, hcz36_3, hfz36_3, hcz36_4, hfz36_4, hcz36_5, hfz36_5, hcz36_6, hfz36_6, hcz36_7, hfz36_7, hcz36_8, hfz36_8⟩ := zw9 BK151; obtain ⟨hcz37_0, hfz37_0, hcz37_1, hfz37_1, hcz37_2, hfz37_2, hcz37_3, hfz37_3, hcz37_4, hfz37_4, hcz37_5, hfz37_5, hcz37_6, hfz37_6, hcz37_7, hfz37_7, hcz37_8, hfz37_8⟩ := zw9 BK152))
   go_ret
   exact ⟨zE, pB2 HB.out GE151.out GE152.out⟩
 rw [if_pos c9] at H
 have c9b0 : (a0_7 == a1_7) = true := beq_iff_eq.mpr c9
 have c9b1 : (a0_7 != a1_7) = false := bne_eq_false_iff_eq.mpr c9
 clear c9
 replace H := Option.bind_eq_some_iff.mp H
 obtain ⟨t154, A100, H⟩ := H
 have A10 := Aside0.mk A100
 clear A100
 by_cases c11 : t154 = true
 · subst c11
   have H1 : (some true) = some r := by rw [if_pos rfl] at H; exact H
   clear H
   have H := H1
   clear H1
   obtain rfl := Option.some.inj H
   go_enter Try.func16, Try.ntmps16
   go_wp2_with (first | ((with_reducible refine gate_dst (N := 2) rfl ?_); refine zB 2 #[.string a0_0, .string a0_1, .int .i64 a0_2, .string a0_3, .int .i64 a0_4, .int .i64 a0_5, .int .i64 a0_6, .int .i64 a0_7, .slice A0_8 l0_8.length c0_8] 36 ?_; intro gb151 hg w12 hbox hb; have BK151 := Aside0.mk (hbox); have GW151 := zS (pB0 HB.out) hg; have GE151 := zS (pB0 HB.out) hg; replace HB := zW (pB0 HB.out) hb; clear hb hbox hg) | ((with_reducible refine gate_dst (N := 3) rfl ?_); refine zB 3 #[.string a1_0, .string a1_1, .int .i64 a1_2, .string a1_3, .int .i64 a1_4, .int .i64 a1_5, .int .i64 a1_6, .int .i64 a1_7, .slice A1_8 l1_8.length c1_8] 36 ?_; intro gb152 hg w13 hbox hb; have BK152 := Aside0.mk (hbox); have GW152 := zS (pB1 HB.out GE151.out) hg; have GE152 := zS (pB1 HB.out GE151.out) hg; have NB151_152 := zL BK151 hg; have NB152_151 := zM BK151 hg; replace BK151 := zK BK151 hb; replace HB := zW (pB1 HB.out GE151.out) hb; clear hb hbox hg; have hnb14 := NB151_152.out; have hnc14 := NB152_151.out; obtain ⟨hcz15_0, hfz15_0, hcz15_1, hfz15_1, hcz15_2, hfz15_2, hcz15_3, hfz15_3, hcz15_4, hfz15_4, hcz15_5, hfz15_5, hcz15_6, hfz15_6, hcz15_7, hfz15_7, hcz15_8, hfz15_8⟩ := zw9 BK151; obtain ⟨hcz16_0, hfz16_0, hcz16_1, hfz16_1, hcz16_2, hfz16_2, hcz16_3, hfz16_3, hcz16_4, hfz16_4, hcz16_5, hfz16_5, hcz16_6, hfz16_6, hcz16_7, hfz16_7, hcz16_8, hfz16_8⟩ := zw9 BK152) | ((with_reducible refine gate_callee (f := 59) rfl ?_); refine goesL_ (some 24) rfl rfl Try.func59 (by kernel_rfl) rfl #[.agg #[.string a0_3, .int .i64 a0_4, .int .i64 a0_5], .agg #[.string a1_3, .int .i64 a1_4, .int .i64 a1_5]] rfl pA ?_; (with_reducible refine (laws_eqVeneer.calls a0_3 a0_4 a0_5 a1_3 a1_4 a1_5 true _ A6.out).mono ?_); rintro e w17 ⟨rfl, hb⟩; refine ⟨_, rfl, ?_⟩; replace BK151 := zK BK151 hb; replace BK152 := zK BK152 hb; replace HB := zW (pB2 HB.out GE151.out GE152.out) hb; (try clear hb); (try clear hb2); (try clear hk); (try clear hi); obtain ⟨hcz18_0, hfz18_0, hcz18_1, hfz18_1, hcz18_2, hfz18_2, hcz18_3, hfz18_3, hcz18_4, hfz18_4, hcz18_5, hfz18_5, hcz18_6, hfz18_6, hcz18_7, hfz18_7, hcz18_8, hfz18_8⟩ := zw9 BK151; obtain ⟨hcz19_0, hfz19_0, hcz19_1, hfz19_1, hcz19_2, hfz19_2, hcz19_3, hfz19_3, hcz19_4, hfz19_4, hcz19_5, hfz19_5, hcz19_6, hfz19_6, hcz19_7, hfz19_7, hcz19_8, hfz19_8⟩ := zw9 BK152) | ((with_reducible refine gate_callee (f := 26) rfl ?_); refine goesL_ (some 40) rfl rfl Try.func26 (by kernel_rfl) rfl #[.slice A0_8 l0_8.length c0_8, .slice A1_8 l1_8.length c1_8] rfl pA ?_; (with_reducible refine (laws_eqBoxS.calls k _ _ l0_8 _ _ l1_8 true _ ?side1 ?side2 ?side3 ?side4 A10.out).mono ?_); (case side1 => exact pC (Kd.C_below HR0_8.out HB.out)); (case side2 => exact HC0_8.out); (case side3 => exact pC (Kd.C_below HR1_8.out HB.out)); (case side4 => exact HC1_8.out); rintro e w20 ⟨rfl, hb⟩; refine ⟨_, rfl, ?_⟩; replace BK151 := zK BK151 hb; replace BK152 := zK BK152 hb; replace HB := zW (pB2 HB.out GE151.out GE152.out) hb; (try clear hb); (try clear hb2); (try clear hk); (try clear hi)))
   go_ret
   exact ⟨zE, pB2 HB.out GE151.out GE152.out⟩
 replace c11 := Bool.eq_false_iff.mpr c11
 subst c11
 have H1 : (some false) = some r := by rw [if_neg (show ¬ (false = true) by decide)] at H; exact H
 clear H
 have H := H1
 clear H1
 obtain rfl := Option.some.inj H
 go_enter Try.func16, Try.ntmps16
 go_wp2_with (first | ((with_reducible refine gate_dst (N := 2) rfl ?_); refine zB 2 #[.string a0_0, .string a0_1, .int .i64 a0_2, .string a0_3, .int .i64 a0_4, .int .i64 a0_5, .int .i64 a0_6, .int .i64 a0_7, .slice A0_8 l0_8.length c0_8] 36 ?_; intro gb151 hg w21 hbox hb; have BK151 := Aside0.mk (hbox); have GW151 := zS (pB0 HB.out) hg; have GE151 := zS (pB0 HB.out) hg; replace HB := zW (pB0 HB.out) hb; clear hb hbox hg) | ((with_reducible refine gate_dst (N := 3) rfl ?_); refine zB 3 #[.string a1_0, .string a1_1, .int .i64 a1_2, .string a1_3, .int .i64 a1_4, .int .i64 a1_5, .int .i64 a1_6, .int .i64 a1_7, .slice A1_8 l1_8.length c1_8] 36 ?_; intro gb152 hg w22 hbox hb; have BK152 := Aside0.mk (hbox); have GW152 := zS (pB1 HB.out GE151.out) hg; have GE152 := zS (pB1 HB.out GE151.out) hg; have NB151_152 := zL BK151 hg; have NB152_151 := zM BK151 hg; replace BK151 := zK BK151 hb; replace HB := zW (pB1 HB.out GE151.out) hb; clear hb hbox hg; have hnb23 := NB151_152.out; have hnc23 := NB152_151.out; obtain ⟨hcz24_0, hfz24_0, hcz24_1, hfz24_1, hcz24_2, hfz24_2, hcz24_3, hfz24_3, hcz24_4, hfz24_4, hcz24_5, hfz24_5, hcz24_6, hfz24_6, hcz24_7, hfz24_7, hcz24_8, hfz24_8⟩ := zw9 BK151; obtain ⟨hcz25_0, hfz25_0, hcz25_1, hfz25_1, hcz25_2, hfz25_2, hcz25_3, hfz25_3, hcz25_4, hfz25_4, hcz25_5, hfz25_5, hcz25_6, hfz25_6, hcz25_7, hfz25_7, hcz25_8, hfz25_8⟩ := zw9 BK152) | ((with_reducible refine gate_callee (f := 59) rfl ?_); refine goesL_ (some 24) rfl rfl Try.func59 (by kernel_rfl) rfl #[.agg #[.string a0_3, .int .i64 a0_4, .int .i64 a0_5], .agg #[.string a1_3, .int .i64 a1_4, .int .i64 a1_5]] rfl pA ?_; (with_reducible refine (laws_eqVeneer.calls a0_3 a0_4 a0_5 a1_3 a1_4 a1_5 true _ A6.out).mono ?_); rintro e w26 ⟨rfl, hb⟩; refine ⟨_, rfl, ?_⟩; replace BK151 := zK BK151 hb; replace BK152 := zK BK152 hb; replace HB := zW (pB2 HB.out GE151.out GE152.out) hb; (try clear hb); (try clear hb2); (try clear hk); (try clear hi); obtain ⟨hcz27_0, hfz27_0, hcz27_1, hfz27_1, hcz27_2, hfz27_2, hcz27_3, hfz27_3, hcz27_4, hfz27_4, hcz27_5, hfz27_5, hcz27_6, hfz27_6, hcz27_7, hfz27_7, hcz27_8, hfz27_8⟩ := zw9 BK151; obtain ⟨hcz28_0, hfz28_0, hcz28_1, hfz28_1, hcz28_2, hfz28_2, hcz28_3, hfz28_3, hcz28_4, hfz28_4, hcz28_5, hfz28_5, hcz28_6, hfz28_6, hcz28_7, hfz28_7, hcz28_8, hfz28_8⟩ := zw9 BK152) | ((with_reducible refine gate_callee (f := 26) rfl ?_); refine goesL_ (some 40) rfl rfl Try.func26 (by kernel_rfl) rfl #[.slice A0_8 l0_8.length c0_8, .slice A1_8 l1_8.length c1_8] rfl pA ?_; (with_reducible refine (laws_eqBoxS.calls k _ _ l0_8 _ _ l1_8 false _ ?side1 ?side2 ?side3 ?side4 A10.out).mono ?_); (case side1 => exact pC (Kd.C_below HR0_8.out HB.out)); (case side2 => exact HC0_8.out); (case side3 => exact pC (Kd.C_below HR1_8.out HB.out)); (case side4 => exact HC1_8.out); rintro e w29 ⟨rfl, hb⟩; refine ⟨_, rfl, ?_⟩; replace BK151 := zK BK151 hb; replace BK152 := zK BK152 hb; replace HB := zW (pB2 HB.out GE151.out GE152.out) hb; (try clear hb); (try clear hb2); (try clear hk); (try clear hi)))
 go_ret
 exact ⟨zE, pB2 HB.out GE151.out GE152.out⟩
def spec_l00In.f (a0 : Int) (a1 : Int) (a2 : Int) : Option (Bool) := if a0 ≥ a1 then (some (decide (a0 ≤ a2))) else (some false)
set_option maxHeartbeats 8000000 in
set_option maxRecDepth 100000 in
theorem spec_l00In.calls (a0 : Int) (a1 : Int) (a2 : Int) (r : Bool) (w : World) (h : spec_l00In.f a0 a1 a2 = some r) :
 Calls Try.prog 81 #[.int .i64 a0, .int .i64 a1, .int .i64 a2] w fun e w' => e = .returned (.bool r) ∧ Drawn0 w w' := by
 have H : (if a0 ≥ a1 then (some (decide (a0 ≤ a2))) else (some false)) = some r := h
 clear h
 by_cases c4 : a0 ≥ a1
 · rw [if_pos c4] at H
   have c4b0 := decide_eq_true c4
   clear c4
   obtain rfl := Option.some.inj H
   go_enter Try.func81, Try.ntmps81
   go_wp2
   go_ret
   exact ⟨by first | rfl | (simp; done) | (simp [*]; done), by repeat (first | exact Drawn0.refl _ | apply Drawn0.step)⟩
 rw [if_neg c4] at H
 have c4b0 : decide (a1 ≤ a0) = false := decide_eq_false c4
 clear c4
 obtain rfl := Option.some.inj H
 go_enter Try.func81, Try.ntmps81
 go_wp2
 go_ret
 exact ⟨by first | rfl | (simp; done) | (simp [*]; done), by repeat (first | exact Drawn0.refl _ | apply Drawn0.step)⟩
def spec_l02Ok.f (a0_0 : Int) (a0_1 : Int) : Option (Bool) := (spec_l00In.f a0_0 0 20000).bind fun t156 => (if t156 = true then ((spec_l00In.f a0_1 0 20000).bind fun t157 => (some t157)) else (some false))
set_option maxHeartbeats 8000000 in
set_option maxRecDepth 100000 in
theorem spec_l02Ok.calls (a0_0 : Int) (a0_1 : Int) (r : Bool) (w : World) (h : spec_l02Ok.f a0_0 a0_1 = some r) :
 Calls Try.prog 87 #[.agg #[.int .i64 a0_0, .int .i64 a0_1]] w fun e w' => e = .returned (.bool r) ∧ Below w.heap.size w w' := by
 have hu91 := Try.underlying91
 have HB := Aside0.mk (Below.refl w.heap.size w)
 have H : ((spec_l00In.f a0_0 0 20000).bind fun t156 => (if t156 = true then ((spec_l00In.f a0_1 0 20000).bind fun t157 => (some t157)) else (some false))) = some r := h
 clear h
 replace H := Option.bind_eq_some_iff.mp H
 obtain ⟨t156, A20, H⟩ := H
 have A2 := Aside0.mk A20
 clear A20
 by_cases c3 : t156 = true
 rotate_left
 · replace c3 := Bool.eq_false_iff.mpr c3
   subst c3
   have H1 : (some false) = some r := by rw [if_neg (show ¬ (false = true) by decide)] at H; exact H
   clear H
   have H := H1
   clear H1
   obtain rfl := Option.some.inj H
   go_enter Try.func87, Try.ntmps87
   go_wp2_with (first | ((with_reducible refine gate_dst (N := 1) rfl ?_); refine zB 1 #[.int .i64 a0_0, .int .i64 a0_1] 91 ?_; intro gb155 hg w7 hbox hb; have BK155 := Aside0.mk (hbox); have GW155 := zS (pB0 HB.out) hg; have GE155 := zS (pB0 HB.out) hg; replace HB := zW (pB0 HB.out) hb; clear hb hbox hg; obtain ⟨hcz8_0, hfz8_0, hcz8_1, hfz8_1⟩ := zw2 BK155) | ((with_reducible refine gate_callee (f := 81) rfl ?_); refine goesL_ (some 5) rfl rfl Try.func81 (by kernel_rfl) rfl #[.int .i64 a0_0, .int .i64 0, .int .i64 20000] rfl pA ?_; (with_reducible refine (spec_l00In.calls a0_0 0 20000 false _ A2.out).mono ?_); rintro e w' ⟨rfl, ⟨nd, rfl⟩⟩; refine ⟨_, rfl, ?_⟩))
   go_ret
   exact ⟨zE, pB1 HB.out GE155.out⟩
 subst c3
 have H1 : ((spec_l00In.f a0_1 0 20000).bind fun t157 => (some t157)) = some r := by rw [if_pos rfl] at H; exact H
 clear H
 have H := H1
 clear H1
 replace H := Option.bind_eq_some_iff.mp H
 obtain ⟨t157, A40, H⟩ := H
 have A4 := Aside0.mk A40
 clear A40
 obtain rfl := Option.some.inj H
 go_enter Try.func87, Try.ntmps87
 go_wp2_with (first | ((with_reducible refine gate_dst (N := 1) rfl ?_); refine zB 1 #[.int .i64 a0_0, .int .i64 a0_1] 91 ?_; intro gb155 hg w5 hbox hb; have BK155 := Aside0.mk (hbox); have GW155 := zS (pB0 HB.out) hg; have GE155 := zS (pB0 HB.out) hg; replace HB := zW (pB0 HB.out) hb; clear hb hbox hg; obtain ⟨hcz6_0, hfz6_0, hcz6_1, hfz6_1⟩ := zw2 BK155) | ((with_reducible refine gate_callee (f := 81) rfl ?_); refine goesL_ (some 5) rfl rfl Try.func81 (by kernel_rfl) rfl #[.int .i64 a0_0, .int .i64 0, .int .i64 20000] rfl pA ?_; (with_reducible refine (spec_l00In.calls a0_0 0 20000 true _ A2.out).mono ?_); rintro e w' ⟨rfl, ⟨nd, rfl⟩⟩; refine ⟨_, rfl, ?_⟩) | (go_at_call 81; (with_reducible refine (spec_l00In.calls a0_1 0 20000 t157 _ A4.out).mono ?_); rintro e w' ⟨rfl, ⟨nd, rfl⟩⟩))
 go_ret
 exact ⟨zE, pB1 HB.out GE155.out⟩
def spec_l00Min.f (a0 : Int) (a1 : Int) : Option (Int) := if a0 < a1 then (some a0) else (some a1)
set_option maxHeartbeats 8000000 in
set_option maxRecDepth 100000 in
theorem spec_l00Min.calls (a0 : Int) (a1 : Int) (r : Int) (w : World) (h : spec_l00Min.f a0 a1 = some r) :
 Calls Try.prog 104 #[.int .i64 a0, .int .i64 a1] w fun e w' => e = .returned (.int .i64 r) ∧ Drawn0 w w' := by
 have H : (if a0 < a1 then (some a0) else (some a1)) = some r := h
 clear h
 by_cases c3 : a0 < a1
 · rw [if_pos c3] at H
   have c3b0 := decide_eq_true c3
   clear c3
   obtain rfl := Option.some.inj H
   go_enter Try.func104, Try.ntmps104
   go_wp2
   go_ret
   exact ⟨by first | rfl | (simp; done) | (simp [*]; done), by repeat (first | exact Drawn0.refl _ | apply Drawn0.step)⟩
 rw [if_neg c3] at H
 have c3b0 : decide (a0 < a1) = false := decide_eq_false c3
 clear c3
 obtain rfl := Option.some.inj H
 go_enter Try.func104, Try.ntmps104
 go_wp2
 go_ret
 exact ⟨by first | rfl | (simp; done) | (simp [*]; done), by repeat (first | exact Drawn0.refl _ | apply Drawn0.step)⟩
def spec_l00Max.f (a0 : Int) (a1 : Int) : Option (Int) := if a0 > a1 then (some a0) else (some a1)
set_option maxHeartbeats 8000000 in
set_option maxRecDepth 100000 in
theorem spec_l00Max.calls (a0 : Int) (a1 : Int) (r : Int) (w : World) (h : spec_l00Max.f a0 a1 = some r) :
 Calls Try.prog 105 #[.int .i64 a0, .int .i64 a1] w fun e w' => e = .returned (.int .i64 r) ∧ Drawn0 w w' := by
 have H : (if a0 > a1 then (some a0) else (some a1)) = some r := h
 clear h
 by_cases c3 : a0 > a1
 · rw [if_pos c3] at H
   have c3b0 := decide_eq_true c3
   clear c3
   obtain rfl := Option.some.inj H
   go_enter Try.func105, Try.ntmps105
   go_wp2
   go_ret
   exact ⟨by first | rfl | (simp; done) | (simp [*]; done), by repeat (first | exact Drawn0.refl _ | apply Drawn0.step)⟩
 rw [if_neg c3] at H
 have c3b0 : decide (a1 < a0) = false := decide_eq_false c3
 clear c3
 obtain rfl := Option.some.inj H
 go_enter Try.func105, Try.ntmps105
 go_wp2
 go_ret
 exact ⟨by first | rfl | (simp; done) | (simp [*]; done), by repeat (first | exact Drawn0.refl _ | apply Drawn0.step)⟩
def spec_l02Cross.f (a0_0 : Int) (a0_1 : Int) (a1_0 : Int) (a1_1 : Int) (a2_0 : Int) (a2_1 : Int) : Option (Int) := some (wrap64 ((wrap64 ((wrap64 (a1_0 - a0_0)) * (wrap64 (a2_1 - a0_1)))) - (wrap64 ((wrap64 (a1_1 - a0_1)) * (wrap64 (a2_0 - a0_0))))))
set_option maxHeartbeats 8000000 in
set_option maxRecDepth 100000 in
theorem spec_l02Cross.calls (a0_0 : Int) (a0_1 : Int) (a1_0 : Int) (a1_1 : Int) (a2_0 : Int) (a2_1 : Int) (r : Int) (w : World) (h : spec_l02Cross.f a0_0 a0_1 a1_0 a1_1 a2_0 a2_1 = some r) :
 Calls Try.prog 140 #[.agg #[.int .i64 a0_0, .int .i64 a0_1], .agg #[.int .i64 a1_0, .int .i64 a1_1], .agg #[.int .i64 a2_0, .int .i64 a2_1]] w fun e w' => e = .returned (.int .i64 r) ∧ Below w.heap.size w w' := by
 have hu91 := Try.underlying91
 have HB := Aside0.mk (Below.refl w.heap.size w)
 have H : (some (wrap64 ((wrap64 ((wrap64 (a1_0 - a0_0)) * (wrap64 (a2_1 - a0_1)))) - (wrap64 ((wrap64 (a1_1 - a0_1)) * (wrap64 (a2_0 - a0_0))))))) = some r := h
 clear h
 obtain rfl := Option.some.inj H
 go_enter Try.func140, Try.ntmps140
 go_wp2_with (first | ((with_reducible refine gate_dst (N := 3) rfl ?_); refine zB 3 #[.int .i64 a0_0, .int .i64 a0_1] 91 ?_; intro gb158 hg w4 hbox hb; have BK158 := Aside0.mk (hbox); have GW158 := zS (pB0 HB.out) hg; have GE158 := zS (pB0 HB.out) hg; replace HB := zW (pB0 HB.out) hb; clear hb hbox hg) | ((with_reducible refine gate_dst (N := 4) rfl ?_); refine zB 4 #[.int .i64 a1_0, .int .i64 a1_1] 91 ?_; intro gb159 hg w5 hbox hb; have BK159 := Aside0.mk (hbox); have GW159 := zS (pB1 HB.out GE158.out) hg; have GE159 := zS (pB1 HB.out GE158.out) hg; have NB158_159 := zL BK158 hg; have NB159_158 := zM BK158 hg; replace BK158 := zK BK158 hb; replace HB := zW (pB1 HB.out GE158.out) hb; clear hb hbox hg) | ((with_reducible refine gate_dst (N := 5) rfl ?_); refine zB 5 #[.int .i64 a2_0, .int .i64 a2_1] 91 ?_; intro gb160 hg w6 hbox hb; have BK160 := Aside0.mk (hbox); have GW160 := zS (pB2 HB.out GE158.out GE159.out) hg; have GE160 := zS (pB2 HB.out GE158.out GE159.out) hg; have NB158_160 := zL BK158 hg; have NB160_158 := zM BK158 hg; have NB159_160 := zL BK159 hg; have NB160_159 := zM BK159 hg; replace BK158 := zK BK158 hb; replace BK159 := zK BK159 hb; replace HB := zW (pB2 HB.out GE158.out GE159.out) hb; clear hb hbox hg; have hnb7 := NB159_158.out; have hnc7 := NB158_159.out; have hnb8 := NB159_160.out; have hnc8 := NB160_159.out; obtain ⟨hcz9_0, hfz9_0, hcz9_1, hfz9_1⟩ := zw2 BK159; have hnb10 := NB158_160.out; have hnc10 := NB160_158.out; obtain ⟨hcz11_0, hfz11_0, hcz11_1, hfz11_1⟩ := zw2 BK158; obtain ⟨hcz12_0, hfz12_0, hcz12_1, hfz12_1⟩ := zw2 BK160))
 go_ret
 exact ⟨zE, pB3 HB.out GE158.out GE159.out GE160.out⟩
def spec_l02Side.f (a0_0 : Int) (a0_1 : Int) (a1_0 : Int) (a1_1 : Int) (a2_0 : Int) (a2_1 : Int) : Option (Int) := (spec_l02Cross.f a0_0 a0_1 a1_0 a1_1 a2_0 a2_1).bind fun t164 => (if t164 > 0 then (some 1) else (if t164 < 0 then (some (-1)) else (some 0)))
set_option maxHeartbeats 8000000 in
set_option maxRecDepth 100000 in
theorem spec_l02Side.calls (a0_0 : Int) (a0_1 : Int) (a1_0 : Int) (a1_1 : Int) (a2_0 : Int) (a2_1 : Int) (r : Int) (w : World) (h : spec_l02Side.f a0_0 a0_1 a1_0 a1_1 a2_0 a2_1 = some r) :
 Calls Try.prog 125 #[.agg #[.int .i64 a0_0, .int .i64 a0_1], .agg #[.int .i64 a1_0, .int .i64 a1_1], .agg #[.int .i64 a2_0, .int .i64 a2_1]] w fun e w' => e = .returned (.int .i64 r) ∧ Below w.heap.size w w' := by
 have hu91 := Try.underlying91
 have HB := Aside0.mk (Below.refl w.heap.size w)
 have H : ((spec_l02Cross.f a0_0 a0_1 a1_0 a1_1 a2_0 a2_1).bind fun t164 => (if t164 > 0 then (some 1) else (if t164 < 0 then (some (-1)) else (some 0)))) = some r := h
 clear h
 replace H := Option.bind_eq_some_iff.mp H
 obtain ⟨t164, A40, H⟩ := H
 have A4 := Aside0.mk A40
 clear A40
 by_cases c5 : t164 > 0
 · rw [if_pos c5] at H
   have c5b0 := decide_eq_true c5
   clear c5
   obtain rfl := Option.some.inj H
   go_enter Try.func125, Try.ntmps125
   go_wp2_with (first | ((with_reducible refine gate_dst (N := 3) rfl ?_); refine zB 3 #[.int .i64 a0_0, .int .i64 a0_1] 91 ?_; intro gb161 hg w6 hbox hb; have BK161 := Aside0.mk (hbox); have GW161 := zS (pB0 HB.out) hg; have GE161 := zS (pB0 HB.out) hg; replace HB := zW (pB0 HB.out) hb; clear hb hbox hg) | ((with_reducible refine gate_dst (N := 4) rfl ?_); refine zB 4 #[.int .i64 a1_0, .int .i64 a1_1] 91 ?_; intro gb162 hg w7 hbox hb; have BK162 := Aside0.mk (hbox); have GW162 := zS (pB1 HB.out GE161.out) hg; have GE162 := zS (pB1 HB.out GE161.out) hg; have NB161_162 := zL BK161 hg; have NB162_161 := zM BK161 hg; replace BK161 := zK BK161 hb; replace HB := zW (pB1 HB.out GE161.out) hb; clear hb hbox hg) | ((with_reducible refine gate_dst (N := 5) rfl ?_); refine zB 5 #[.int .i64 a2_0, .int .i64 a2_1] 91 ?_; intro gb163 hg w8 hbox hb; have BK163 := Aside0.mk (hbox); have GW163 := zS (pB2 HB.out GE161.out GE162.out) hg; have GE163 := zS (pB2 HB.out GE161.out GE162.out) hg; have NB161_163 := zL BK161 hg; have NB163_161 := zM BK161 hg; have NB162_163 := zL BK162 hg; have NB163_162 := zM BK162 hg; replace BK161 := zK BK161 hb; replace BK162 := zK BK162 hb; replace HB := zW (pB2 HB.out GE161.out GE162.out) hb; clear hb hbox hg; have hnb9 := NB161_162.out; have hnc9 := NB162_161.out; have hnb10 := NB161_163.out; have hnc10 := NB163_161.out; obtain ⟨hcz11_0, hfz11_0, hcz11_1, hfz11_1⟩ := zw2 BK161; have hnb12 := NB162_163.out; have hnc12 := NB163_162.out; obtain ⟨hcz13_0, hfz13_0, hcz13_1, hfz13_1⟩ := zw2 BK162; obtain ⟨hcz14_0, hfz14_0, hcz14_1, hfz14_1⟩ := zw2 BK163) | ((with_reducible refine gate_callee (f := 140) rfl ?_); refine goesL_ (some 11) rfl rfl Try.func140 (by kernel_rfl) rfl #[.agg #[.int .i64 a0_0, .int .i64 a0_1], .agg #[.int .i64 a1_0, .int .i64 a1_1], .agg #[.int .i64 a2_0, .int .i64 a2_1]] rfl pA ?_; (with_reducible refine (spec_l02Cross.calls a0_0 a0_1 a1_0 a1_1 a2_0 a2_1 t164 _ A4.out).mono ?_); rintro e w15 ⟨rfl, hb⟩; refine ⟨_, rfl, ?_⟩; replace BK161 := zK BK161 hb; replace BK162 := zK BK162 hb; replace BK163 := zK BK163 hb; replace HB := zW (pB3 HB.out GE161.out GE162.out GE163.out) hb; (try clear hb); (try clear hb2); (try clear hk); (try clear hi)))
   go_ret
   exact ⟨zE, pB3 HB.out GE161.out GE162.out GE163.out⟩
 rw [if_neg c5] at H
 have c5b0 : decide (0 < t164) = false := decide_eq_false c5
 clear c5
 by_cases c16 : t164 < 0
 · rw [if_pos c16] at H
   have c16b0 := decide_eq_true c16
   clear c16
   obtain rfl := Option.some.inj H
   go_enter Try.func125, Try.ntmps125
   go_wp2_with (first | ((with_reducible refine gate_dst (N := 3) rfl ?_); refine zB 3 #[.int .i64 a0_0, .int .i64 a0_1] 91 ?_; intro gb161 hg w17 hbox hb; have BK161 := Aside0.mk (hbox); have GW161 := zS (pB0 HB.out) hg; have GE161 := zS (pB0 HB.out) hg; replace HB := zW (pB0 HB.out) hb; clear hb hbox hg) | ((with_reducible refine gate_dst (N := 4) rfl ?_); refine zB 4 #[.int .i64 a1_0, .int .i64 a1_1] 91 ?_; intro gb162 hg w18 hbox hb; have BK162 := Aside0.mk (hbox); have GW162 := zS (pB1 HB.out GE161.out) hg; have GE162 := zS (pB1 HB.out GE161.out) hg; have NB161_162 := zL BK161 hg; have NB162_161 := zM BK161 hg; replace BK161 := zK BK161 hb; replace HB := zW (pB1 HB.out GE161.out) hb; clear hb hbox hg) | ((with_reducible refine gate_dst (N := 5) rfl ?_); refine zB 5 #[.int .i64 a2_0, .int .i64 a2_1] 91 ?_; intro gb163 hg w19 hbox hb; have BK163 := Aside0.mk (hbox); have GW163 := zS (pB2 HB.out GE161.out GE162.out) hg; have GE163 := zS (pB2 HB.out GE161.out GE162.out) hg; have NB161_163 := zL BK161 hg; have NB163_161 := zM BK161 hg; have NB162_163 := zL BK162 hg; have NB163_162 := zM BK162 hg; replace BK161 := zK BK161 hb; replace BK162 := zK BK162 hb; replace HB := zW (pB2 HB.out GE161.out GE162.out) hb; clear hb hbox hg; have hnb20 := NB161_162.out; have hnc20 := NB162_161.out; have hnb21 := NB161_163.out; have hnc21 := NB163_161.out; obtain ⟨hcz22_0, hfz22_0, hcz22_1, hfz22_1⟩ := zw2 BK161; have hnb23 := NB162_163.out; have hnc23 := NB163_162.out; obtain ⟨hcz24_0, hfz24_0, hcz24_1, hfz24_1⟩ := zw2 BK162; obtain ⟨hcz25_0, hfz25_0, hcz25_1, hfz25_1⟩ := zw2 BK163) | ((with_reducible refine gate_callee (f := 140) rfl ?_); refine goesL_ (some 11) rfl rfl Try.func140 (by kernel_rfl) rfl #[.agg #[.int .i64 a0_0, .int .i64 a0_1], .agg #[.int .i64 a1_0, .int .i64 a1_1], .agg #[.int .i64 a2_0, .int .i64 a2_1]] rfl pA ?_; (with_reducible refine (spec_l02Cross.calls a0_0 a0_1 a1_0 a1_1 a2_0 a2_1 t164 _ A4.out).mono ?_); rintro e w26 ⟨rfl, hb⟩; refine ⟨_, rfl, ?_⟩; replace BK161 := zK BK161 hb; replace BK162 := zK BK162 hb; replace BK163 := zK BK163 hb; replace HB := zW (pB3 HB.out GE161.out GE162.out GE163.out) hb; (try clear hb); (try clear hb2); (try clear hk); (try clear hi)))
   go_ret
   exact ⟨zE, pB3 HB.out GE161.out GE162.out GE163.out⟩
 rw [if_neg c16] at H
 have c16b0 : decide (t164 < 0) = false := decide_eq_false c16
 clear c16
 obtain rfl := Option.some.inj H
 go_enter Try.func125, Try.ntmps125
 go_wp2_with (first | ((with_reducible refine gate_dst (N := 3) rfl ?_); refine zB 3 #[.int .i64 a0_0, .int .i64 a0_1] 91 ?_; intro gb161 hg w27 hbox hb; have BK161 := Aside0.mk (hbox); have GW161 := zS (pB0 HB.out) hg; have GE161 := zS (pB0 HB.out) hg; replace HB := zW (pB0 HB.out) hb; clear hb hbox hg) | ((with_reducible refine gate_dst (N := 4) rfl ?_); refine zB 4 #[.int .i64 a1_0, .int .i64 a1_1] 91 ?_; intro gb162 hg w28 hbox hb; have BK162 := Aside0.mk (hbox); have GW162 := zS (pB1 HB.out GE161.out) hg; have GE162 := zS (pB1 HB.out GE161.out) hg; have NB161_162 := zL BK161 hg; have NB162_161 := zM BK161 hg; replace BK161 := zK BK161 hb; replace HB := zW (pB1 HB.out GE161.out) hb; clear hb hbox hg) | ((with_reducible refine gate_dst (N := 5) rfl ?_); refine zB 5 #[.int .i64 a2_0, .int .i64 a2_1] 91 ?_; intro gb163 hg w29 hbox hb; have BK163 := Aside0.mk (hbox); have GW163 := zS (pB2 HB.out GE161.out GE162.out) hg; have GE163 := zS (pB2 HB.out GE161.out GE162.out) hg; have NB161_163 := zL BK161 hg; have NB163_161 := zM BK161 hg; have NB162_163 := zL BK162 hg; have NB163_162 := zM BK162 hg; replace BK161 := zK BK161 hb; replace BK162 := zK BK162 hb; replace HB := zW (pB2 HB.out GE161.out GE162.out) hb; clear hb hbox hg; have hnb30 := NB161_162.out; have hnc30 := NB162_161.out; have hnb31 := NB161_163.out; have hnc31 := NB163_161.out; obtain ⟨hcz32_0, hfz32_0, hcz32_1, hfz32_1⟩ := zw2 BK161; have hnb33 := NB162_163.out; have hnc33 := NB163_162.out; obtain ⟨hcz34_0, hfz34_0, hcz34_1, hfz34_1⟩ := zw2 BK162; obtain ⟨hcz35_0, hfz35_0, hcz35_1, hfz35_1⟩ := zw2 BK163) | ((with_reducible refine gate_callee (f := 140) rfl ?_); refine goesL_ (some 11) rfl rfl Try.func140 (by kernel_rfl) rfl #[.agg #[.int .i64 a0_0, .int .i64 a0_1], .agg #[.int .i64 a1_0, .int .i64 a1_1], .agg #[.int .i64 a2_0, .int .i64 a2_1]] rfl pA ?_; (with_reducible refine (spec_l02Cross.calls a0_0 a0_1 a1_0 a1_1 a2_0 a2_1 t164 _ A4.out).mono ?_); rintro e w36 ⟨rfl, hb⟩; refine ⟨_, rfl, ?_⟩; replace BK161 := zK BK161 hb; replace BK162 := zK BK162 hb; replace BK163 := zK BK163 hb; replace HB := zW (pB3 HB.out GE161.out GE162.out GE163.out) hb; (try clear hb); (try clear hb2); (try clear hk); (try clear hi)))
 go_ret
 exact ⟨zE, pB3 HB.out GE161.out GE162.out GE163.out⟩
end Go.Proofs.Ytfiiakhpdkdebaa.PFnExactTurnsThatFit

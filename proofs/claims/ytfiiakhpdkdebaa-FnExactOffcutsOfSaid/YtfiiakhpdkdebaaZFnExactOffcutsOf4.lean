/- What each function that a law reaches comes to, and the proof that its walk comes to it; laid by a program of this session. No condition. -/
import Derived.Test.YtfiiakhpdkdebaaZFnExactOffcutsOf0
import Derived.Test.YtfiiakhpdkdebaaZFnExactOffcutsOf3
namespace Go.Proofs.Ytfiiakhpdkdebaa.PFnExactOffcutsOf
open Go.RowKit Go.Proofs.YtfiiakhpdkdebaaW.PrintWords Go.Proofs.YtfiiakhpdkdebaaW.PrintLast Go.Proofs.YtfiiakhpdkdebaaW.PrintMore
attribute [local go_sem] max2_int min2_int max_two min_two max_three min_three max_four min_four
set_option linter.unusedVariables false
set_option linter.unusedSimpArgs false
def laws_eqLeaf.f (k : Nat) (a0_0 : ByteArray) (a0_1 : ByteArray) (a0_2 : Int) (a0_3 : ByteArray) (a0_4 : Int) (a0_5 : Int) (a0_6 : Int) (a0_7 : Int) (l0_8 : List (S103)) (a1_0 : ByteArray) (a1_1 : ByteArray) (a1_2 : Int) (a1_3 : ByteArray) (a1_4 : Int) (a1_5 : Int) (a1_6 : Int) (a1_7 : Int) (l1_8 : List (S103)) : Option (Bool) := if a0_0.toList = a1_0.toList then (if a0_1.toList = a1_1.toList then (if a0_2 = a1_2 then ((laws_eqVeneer.f a0_3 a0_4 a0_5 a1_3 a1_4 a1_5).bind fun t153 => (if t153 = true then (if a0_6 = a1_6 then (if a0_7 = a1_7 then ((laws_eqBoxS.f k l0_8 l1_8).bind fun t154 => (if t154 = true then (some true) else (some false))) else (some false)) else (some false)) else (some false))) else (some false)) else (some false)) else (some false)
theorem laws_eqLeaf.mono : ∀ a0 a1 a2 a3 a4 a5 a6 a7 a8 a9 a10 a11 a12 a13 a14 a15 a16 a17 k, LeO (laws_eqLeaf.f k a0 a1 a2 a3 a4 a5 a6 a7 a8 a9 a10 a11 a12 a13 a14 a15 a16 a17) (laws_eqLeaf.f (k + 1) a0 a1 a2 a3 a4 a5 a6 a7 a8 a9 a10 a11 a12 a13 a14 a15 a16 a17) := by
 intro a0 a1 a2 a3 a4 a5 a6 a7 a8 a9 a10 a11 a12 a13 a14 a15 a16 a17 k; unfold laws_eqLeaf.f
 repeat' first
  | (with_reducible exact laws_eqBoxS.mono _ _ _)
  | (with_reducible exact LeO.refl _)
  | (with_reducible exact LeO.none _)
  | (with_reducible refine LeO.ite ?_ ?_)
  | (with_reducible refine LeO.bind ?_ (fun _ => ?_))
  | exact laws_eqBoxS.mono _ _ _
  | exact LeO.none _
  | refine LeO.ite ?_ ?_
  | refine LeO.bind ?_ (fun _ => ?_)
set_option maxHeartbeats 8000000 in
set_option maxRecDepth 100000 in
theorem laws_eqLeaf.calls (k : Nat) (a0_0 : ByteArray) (a0_1 : ByteArray) (a0_2 : Int) (a0_3 : ByteArray) (a0_4 : Int) (a0_5 : Int) (a0_6 : Int) (a0_7 : Int) (A0_8 : Option Addr) (c0_8 : Nat) (l0_8 : List (S103)) (a1_0 : ByteArray) (a1_1 : ByteArray) (a1_2 : Int) (a1_3 : ByteArray) (a1_4 : Int) (a1_5 : Int) (a1_6 : Int) (a1_7 : Int) (A1_8 : Option Addr) (c1_8 : Nat) (l1_8 : List (S103)) (r : Bool) (w : World) (hr0_8 : Kd.C k103 w A0_8 l0_8.length l0_8) (hc0_8 : l0_8.length ≤ c0_8) (hr1_8 : Kd.C k103 w A1_8 l1_8.length l1_8) (hc1_8 : l1_8.length ≤ c1_8) (h : laws_eqLeaf.f k a0_0 a0_1 a0_2 a0_3 a0_4 a0_5 a0_6 a0_7 l0_8 a1_0 a1_1 a1_2 a1_3 a1_4 a1_5 a1_6 a1_7 l1_8 = some r) :
 Calls Try.prog 16 #[.agg #[.string a0_0, .string a0_1, .int .i64 a0_2, .string a0_3, .int .i64 a0_4, .int .i64 a0_5, .int .i64 a0_6, .int .i64 a0_7, .slice A0_8 l0_8.length c0_8], .agg #[.string a1_0, .string a1_1, .int .i64 a1_2, .string a1_3, .int .i64 a1_4, .int .i64 a1_5, .int .i64 a1_6, .int .i64 a1_7, .slice A1_8 l1_8.length c1_8]] w fun e w' => e = .returned (.bool r) ∧ Below w.heap.size w w' := by
 have hu36 := Try.underlying36; have hu33 := Try.underlying33; have HR0_8 := Aside0.mk hr0_8; have HC0_8 := Aside0.mk hc0_8; clear hr0_8 hc0_8; have HR1_8 := Aside0.mk hr1_8; have HC1_8 := Aside0.mk hc1_8; clear hr1_8 hc1_8; have HB := Aside0.mk (Below.refl w.heap.size w)
 have H : (if a0_0.toList = a1_0.toList then (if a0_1.toList = a1_1.toList then (if a0_2 = a1_2 then ((laws_eqVeneer.f a0_3 a0_4 a0_5 a1_3 a1_4 a1_5).bind fun t153 => (if t153 = true then (if a0_6 = a1_6 then (if a0_7 = a1_7 then ((laws_eqBoxS.f k l0_8 l1_8).bind fun t154 => (if t154 = true then (some true) else (some false))) else (some false)) else (some false)) else (some false))) else (some false)) else (some false)) else (some false)) = some r := h
 clear h
 by_cases c3 : a0_0.toList = a1_0.toList
 rotate_left
 · rw [if_neg c3] at H
   have c3b0 : (a0_0.toList == a1_0.toList) = false := beq_eq_false_iff_ne.mpr c3; have c3b1 : (a0_0.toList != a1_0.toList) = true := bne_iff_ne.mpr c3; obtain rfl := Option.some.inj H
   go_enter Try.func16, Try.ntmps16
   go_wp2_with (first | ((with_reducible refine zI 2 rfl ?_); refine zB 2 #[.string a0_0, .string a0_1, .int .i64 a0_2, .string a0_3, .int .i64 a0_4, .int .i64 a0_5, .int .i64 a0_6, .int .i64 a0_7, .slice A0_8 l0_8.length c0_8] 36 ?_; intro gb151 hg w62 hbox hb; have BK151 := Aside0.mk (hbox); have GW151 := zS (pB0 HB.out) hg; have GE151 := GW151; replace HB := zW (pB0 HB.out) hb; clear hb hbox hg) | ((with_reducible refine zI 3 rfl ?_); refine zB 3 #[.string a1_0, .string a1_1, .int .i64 a1_2, .string a1_3, .int .i64 a1_4, .int .i64 a1_5, .int .i64 a1_6, .int .i64 a1_7, .slice A1_8 l1_8.length c1_8] 36 ?_; intro gb152 hg w63 hbox hb; have BK152 := Aside0.mk (hbox); have GW152 := zS (pB1 HB.out GE151.out) hg; have GE152 := GW152; have NB151_152 := zL BK151 hg; have NB152_151 := zM BK151 hg; replace BK151 := zK BK151 hb; replace HB := zW (pB1 HB.out GE151.out) hb; clear hb hbox hg; have hnb64 := NB151_152.out; have hnc64 := NB152_151.out; obtain ⟨Y65_0, X65_0, Y65_1, X65_1, Y65_2, X65_2, Y65_3, X65_3, Y65_4, X65_4, Y65_5, X65_5, Y65_6, X65_6, Y65_7, X65_7, Y65_8, X65_8⟩ := zw9 BK151; obtain ⟨Y66_0, X66_0, Y66_1, X66_1, Y66_2, X66_2, Y66_3, X66_3, Y66_4, X66_4, Y66_5, X66_5, Y66_6, X66_6, Y66_7, X66_7, Y66_8, X66_8⟩ := zw9 BK152))
   go_ret
   exact ⟨zE, pB2 HB.out GE151.out GE152.out⟩
 rw [if_pos c3] at H; have c3b0 : (a0_0.toList == a1_0.toList) = true := beq_iff_eq.mpr c3; have c3b1 : (a0_0.toList != a1_0.toList) = false := bne_eq_false_iff_eq.mpr c3; clear c3
 by_cases c4 : a0_1.toList = a1_1.toList
 rotate_left
 · rw [if_neg c4] at H
   have c4b0 : (a0_1.toList == a1_1.toList) = false := beq_eq_false_iff_ne.mpr c4; have c4b1 : (a0_1.toList != a1_1.toList) = true := bne_iff_ne.mpr c4; obtain rfl := Option.some.inj H
   go_enter Try.func16, Try.ntmps16
   go_wp2_with (first | ((with_reducible refine zI 2 rfl ?_); refine zB 2 #[.string a0_0, .string a0_1, .int .i64 a0_2, .string a0_3, .int .i64 a0_4, .int .i64 a0_5, .int .i64 a0_6, .int .i64 a0_7, .slice A0_8 l0_8.length c0_8] 36 ?_; intro gb151 hg w57 hbox hb; have BK151 := Aside0.mk (hbox); have GW151 := zS (pB0 HB.out) hg; have GE151 := GW151; replace HB := zW (pB0 HB.out) hb; clear hb hbox hg) | ((with_reducible refine zI 3 rfl ?_); refine zB 3 #[.string a1_0, .string a1_1, .int .i64 a1_2, .string a1_3, .int .i64 a1_4, .int .i64 a1_5, .int .i64 a1_6, .int .i64 a1_7, .slice A1_8 l1_8.length c1_8] 36 ?_; intro gb152 hg w58 hbox hb; have BK152 := Aside0.mk (hbox); have GW152 := zS (pB1 HB.out GE151.out) hg; have GE152 := GW152; have NB151_152 := zL BK151 hg; have NB152_151 := zM BK151 hg; replace BK151 := zK BK151 hb; replace HB := zW (pB1 HB.out GE151.out) hb; clear hb hbox hg; have hnb59 := NB151_152.out; have hnc59 := NB152_151.out; obtain ⟨Y60_0, X60_0, Y60_1, X60_1, Y60_2, X60_2, Y60_3, X60_3, Y60_4, X60_4, Y60_5, X60_5, Y60_6, X60_6, Y60_7, X60_7, Y60_8, X60_8⟩ := zw9 BK151; obtain ⟨Y61_0, X61_0, Y61_1, X61_1, Y61_2, X61_2, Y61_3, X61_3, Y61_4, X61_4, Y61_5, X61_5, Y61_6, X61_6, Y61_7, X61_7, Y61_8, X61_8⟩ := zw9 BK152))
   go_ret
   exact ⟨zE, pB2 HB.out GE151.out GE152.out⟩
 rw [if_pos c4] at H; have c4b0 : (a0_1.toList == a1_1.toList) = true := beq_iff_eq.mpr c4; have c4b1 : (a0_1.toList != a1_1.toList) = false := bne_eq_false_iff_eq.mpr c4; clear c4
 by_cases c5 : a0_2 = a1_2
 rotate_left
 · rw [if_neg c5] at H
   have c5b0 : (a0_2 == a1_2) = false := beq_eq_false_iff_ne.mpr c5; have c5b1 : (a0_2 != a1_2) = true := bne_iff_ne.mpr c5; obtain rfl := Option.some.inj H
   go_enter Try.func16, Try.ntmps16
   go_wp2_with (first | ((with_reducible refine zI 2 rfl ?_); refine zB 2 #[.string a0_0, .string a0_1, .int .i64 a0_2, .string a0_3, .int .i64 a0_4, .int .i64 a0_5, .int .i64 a0_6, .int .i64 a0_7, .slice A0_8 l0_8.length c0_8] 36 ?_; intro gb151 hg w52 hbox hb; have BK151 := Aside0.mk (hbox); have GW151 := zS (pB0 HB.out) hg; have GE151 := GW151; replace HB := zW (pB0 HB.out) hb; clear hb hbox hg) | ((with_reducible refine zI 3 rfl ?_); refine zB 3 #[.string a1_0, .string a1_1, .int .i64 a1_2, .string a1_3, .int .i64 a1_4, .int .i64 a1_5, .int .i64 a1_6, .int .i64 a1_7, .slice A1_8 l1_8.length c1_8] 36 ?_; intro gb152 hg w53 hbox hb; have BK152 := Aside0.mk (hbox); have GW152 := zS (pB1 HB.out GE151.out) hg; have GE152 := GW152; have NB151_152 := zL BK151 hg; have NB152_151 := zM BK151 hg; replace BK151 := zK BK151 hb; replace HB := zW (pB1 HB.out GE151.out) hb; clear hb hbox hg; have hnb54 := NB151_152.out; have hnc54 := NB152_151.out; obtain ⟨Y55_0, X55_0, Y55_1, X55_1, Y55_2, X55_2, Y55_3, X55_3, Y55_4, X55_4, Y55_5, X55_5, Y55_6, X55_6, Y55_7, X55_7, Y55_8, X55_8⟩ := zw9 BK151; obtain ⟨Y56_0, X56_0, Y56_1, X56_1, Y56_2, X56_2, Y56_3, X56_3, Y56_4, X56_4, Y56_5, X56_5, Y56_6, X56_6, Y56_7, X56_7, Y56_8, X56_8⟩ := zw9 BK152))
   go_ret
   exact ⟨zE, pB2 HB.out GE151.out GE152.out⟩
 rw [if_pos c5] at H; have c5b0 : (a0_2 == a1_2) = true := beq_iff_eq.mpr c5; have c5b1 : (a0_2 != a1_2) = false := bne_eq_false_iff_eq.mpr c5; clear c5; replace H := Option.bind_eq_some_iff.mp H; obtain ⟨t153, A60, H⟩ := H; have A6 := Aside0.mk A60; clear A60
 by_cases c7 : t153 = true
 rotate_left
 · replace c7 := Bool.eq_false_iff.mpr c7
   subst c7
   rw [if_neg (show ¬ (false = true) by decide)] at H
   obtain rfl := Option.some.inj H
   go_enter Try.func16, Try.ntmps16
   go_wp2_with (first | ((with_reducible refine zI 2 rfl ?_); refine zB 2 #[.string a0_0, .string a0_1, .int .i64 a0_2, .string a0_3, .int .i64 a0_4, .int .i64 a0_5, .int .i64 a0_6, .int .i64 a0_7, .slice A0_8 l0_8.length c0_8] 36 ?_; intro gb151 hg w46 hbox hb; have BK151 := Aside0.mk (hbox); have GW151 := zS (pB0 HB.out) hg; have GE151 := GW151; replace HB := zW (pB0 HB.out) hb; clear hb hbox hg) | ((with_reducible refine zI 3 rfl ?_); refine zB 3 #[.string a1_0, .string a1_1, .int .i64 a1_2, .string a1_3, .int .i64 a1_4, .int .i64 a1_5, .int .i64 a1_6, .int .i64 a1_7, .slice A1_8 l1_8.length c1_8] 36 ?_; intro gb152 hg w47 hbox hb; have BK152 := Aside0.mk (hbox); have GW152 := zS (pB1 HB.out GE151.out) hg; have GE152 := GW152; have NB151_152 := zL BK151 hg; have NB152_151 := zM BK151 hg; replace BK151 := zK BK151 hb; replace HB := zW (pB1 HB.out GE151.out) hb; clear hb hbox hg; have hnb48 := NB151_152.out; have hnc48 := NB152_151.out; obtain ⟨Y49_0, X49_0, Y49_1, X49_1, Y49_2, X49_2, Y49_3, X49_3, Y49_4, X49_4, Y49_5, X49_5, Y49_6, X49_6, Y49_7, X49_7, Y49_8, X49_8⟩ := zw9 BK151; obtain ⟨Y50_0, X50_0, Y50_1, X50_1, Y50_2, X50_2, Y50_3, X50_3, Y50_4, X50_4, Y50_5, X50_5, Y50_6, X50_6, Y50_7, X50_7, Y50_8, X50_8⟩ := zw9 BK152) | ((with_reducible refine gate_callee (f := 59) rfl ?_); refine zJ (some 24) Try.func59 #[.agg #[.string a0_3, .int .i64 a0_4, .int .i64 a0_5], .agg #[.string a1_3, .int .i64 a1_4, .int .i64 a1_5]] ?_; (with_reducible refine (laws_eqVeneer.calls a0_3 a0_4 a0_5 a1_3 a1_4 a1_5 false _ A6.out).mono ?_); rintro e w51 ⟨rfl, hb⟩; refine ⟨_, rfl, ?_⟩; replace BK151 := zK BK151 hb; replace BK152 := zK BK152 hb; replace HB := zW (pB2 HB.out GE151.out GE152.out) hb; (try clear hb); (try clear hb2); (try clear hk); (try clear hi)))
   go_ret
   exact ⟨zE, pB2 HB.out GE151.out GE152.out⟩
 subst c7; rw [if_pos rfl] at H
 by_cases c8 : a0_6 = a1_6
 rotate_left
 · rw [if_neg c8] at H
   have c8b0 : (a0_6 == a1_6) = false := beq_eq_false_iff_ne.mpr c8; have c8b1 : (a0_6 != a1_6) = true := bne_iff_ne.mpr c8; obtain rfl := Option.some.inj H
   go_enter Try.func16, Try.ntmps16
   go_wp2_with (first | ((with_reducible refine zI 2 rfl ?_); refine zB 2 #[.string a0_0, .string a0_1, .int .i64 a0_2, .string a0_3, .int .i64 a0_4, .int .i64 a0_5, .int .i64 a0_6, .int .i64 a0_7, .slice A0_8 l0_8.length c0_8] 36 ?_; intro gb151 hg w38 hbox hb; have BK151 := Aside0.mk (hbox); have GW151 := zS (pB0 HB.out) hg; have GE151 := GW151; replace HB := zW (pB0 HB.out) hb; clear hb hbox hg) | ((with_reducible refine zI 3 rfl ?_); refine zB 3 #[.string a1_0, .string a1_1, .int .i64 a1_2, .string a1_3, .int .i64 a1_4, .int .i64 a1_5, .int .i64 a1_6, .int .i64 a1_7, .slice A1_8 l1_8.length c1_8] 36 ?_; intro gb152 hg w39 hbox hb; have BK152 := Aside0.mk (hbox); have GW152 := zS (pB1 HB.out GE151.out) hg; have GE152 := GW152; have NB151_152 := zL BK151 hg; have NB152_151 := zM BK151 hg; replace BK151 := zK BK151 hb; replace HB := zW (pB1 HB.out GE151.out) hb; clear hb hbox hg; have hnb40 := NB151_152.out; have hnc40 := NB152_151.out; obtain ⟨Y41_0, X41_0, Y41_1, X41_1, Y41_2, X41_2, Y41_3, X41_3, Y41_4, X41_4, Y41_5, X41_5, Y41_6, X41_6, Y41_7, X41_7, Y41_8, X41_8⟩ := zw9 BK151; obtain ⟨Y42_0, X42_0, Y42_1, X42_1, Y42_2, X42_2, Y42_3, X42_3, Y42_4, X42_4, Y42_5, X42_5, Y42_6, X42_6, Y42_7, X42_7, Y42_8, X42_8⟩ := zw9 BK152) | ((with_reducible refine gate_callee (f := 59) rfl ?_); refine zJ (some 24) Try.func59 #[.agg #[.string a0_3, .int .i64 a0_4, .int .i64 a0_5], .agg #[.string a1_3, .int .i64 a1_4, .int .i64 a1_5]] ?_; (with_reducible refine (laws_eqVeneer.calls a0_3 a0_4 a0_5 a1_3 a1_4 a1_5 true _ A6.out).mono ?_); rintro e w43 ⟨rfl, hb⟩; refine ⟨_, rfl, ?_⟩; replace BK151 := zK BK151 hb; replace BK152 := zK BK152 hb; replace HB := zW (pB2 HB.out GE151.out GE152.out) hb; (try clear hb); (try clear hb2); (try clear hk); (try clear hi); obtain ⟨Y44_0, X44_0, Y44_1, X44_1, Y44_2, X44_2, Y44_3, X44_3, Y44_4, X44_4, Y44_5, X44_5, Y44_6, X44_6, Y44_7, X44_7, Y44_8, X44_8⟩ := zw9 BK151; obtain ⟨Y45_0, X45_0, Y45_1, X45_1, Y45_2, X45_2, Y45_3, X45_3, Y45_4, X45_4, Y45_5, X45_5, Y45_6, X45_6, Y45_7, X45_7, Y45_8, X45_8⟩ := zw9 BK152))
   go_ret
   exact ⟨zE, pB2 HB.out GE151.out GE152.out⟩
 rw [if_pos c8] at H; have c8b0 : (a0_6 == a1_6) = true := beq_iff_eq.mpr c8; have c8b1 : (a0_6 != a1_6) = false := bne_eq_false_iff_eq.mpr c8; clear c8
 by_cases c9 : a0_7 = a1_7
 rotate_left
 · rw [if_neg c9] at H
   have c9b0 : (a0_7 == a1_7) = false := beq_eq_false_iff_ne.mpr c9; have c9b1 : (a0_7 != a1_7) = true := bne_iff_ne.mpr c9; obtain rfl := Option.some.inj H
   go_enter Try.func16, Try.ntmps16
   go_wp2_with (first | ((with_reducible refine zI 2 rfl ?_); refine zB 2 #[.string a0_0, .string a0_1, .int .i64 a0_2, .string a0_3, .int .i64 a0_4, .int .i64 a0_5, .int .i64 a0_6, .int .i64 a0_7, .slice A0_8 l0_8.length c0_8] 36 ?_; intro gb151 hg w30 hbox hb; have BK151 := Aside0.mk (hbox); have GW151 := zS (pB0 HB.out) hg; have GE151 := GW151; replace HB := zW (pB0 HB.out) hb; clear hb hbox hg) | ((with_reducible refine zI 3 rfl ?_); refine zB 3 #[.string a1_0, .string a1_1, .int .i64 a1_2, .string a1_3, .int .i64 a1_4, .int .i64 a1_5, .int .i64 a1_6, .int .i64 a1_7, .slice A1_8 l1_8.length c1_8] 36 ?_; intro gb152 hg w31 hbox hb; have BK152 := Aside0.mk (hbox); have GW152 := zS (pB1 HB.out GE151.out) hg; have GE152 := GW152; have NB151_152 := zL BK151 hg; have NB152_151 := zM BK151 hg; replace BK151 := zK BK151 hb; replace HB := zW (pB1 HB.out GE151.out) hb; clear hb hbox hg; have hnb32 := NB151_152.out; have hnc32 := NB152_151.out; obtain ⟨Y33_0, X33_0, Y33_1, X33_1, Y33_2, X33_2, Y33_3, X33_3, Y33_4, X33_4, Y33_5, X33_5, Y33_6, X33_6, Y33_7, X33_7, Y33_8, X33_8⟩ := zw9 BK151; obtain ⟨Y34_0, X34_0, Y34_1, X34_1, Y34_2, X34_2, Y34_3, X34_3, Y34_4, X34_4, Y34_5, X34_5, Y34_6, X34_6, Y34_7, X34_7, Y34_8, X34_8⟩ := zw9 BK152) | ((with_reducible refine gate_callee (f := 59) rfl ?_); refine zJ (some 24) Try.func59 #[.agg #[.string a0_3, .int .i64 a0_4, .int .i64 a0_5], .agg #[.string a1_3, .int .i64 a1_4, .int .i64 a1_5]] ?_; (with_reducible refine (laws_eqVeneer.calls a0_3 a0_4 a0_5 a1_3 a1_4 a1_5 true _ A6.out).mono ?_); rintro e w35 ⟨rfl, hb⟩; refine ⟨_, rfl, ?_⟩; replace BK151 := zK BK151 hb; replace BK152 := zK BK152 hb; replace HB := zW (pB2 HB.out GE151.out GE152.out) hb; (try clear hb); (try clear hb2); (try clear hk); (try clear hi); obtain ⟨Y36_0, X36_0, Y36_1, X36_1, Y36_2, X36_2, Y36_3, X36_3, Y36_4, X36_4, Y36_5, X36_5, Y36_6, X36_6, Y36_7, X36_7, Y36_8, X36_8⟩ := zw9 BK151; obtain ⟨Y37_0, X37_0, Y37_1, X37_1, Y37_2, X37_2, Y37_3, X37_3, Y37_4, X37_4, Y37_5, X37_5, Y37_6, X37_6, Y37_7, X37_7, Y37_8, X37_8⟩ := zw9 BK152))
   go_ret
   exact ⟨zE, pB2 HB.out GE151.out GE152.out⟩
 rw [if_pos c9] at H; have c9b0 : (a0_7 == a1_7) = true := beq_iff_eq.mpr c9; have c9b1 : (a0_7 != a1_7) = false := bne_eq_false_iff_eq.mpr c9; clear c9; replace H := Option.bind_eq_some_iff.mp H; obtain ⟨t154, A100, H⟩ := H; have A10 := Aside0.mk A100; clear A100
 by_cases c11 : t154 = true
 · subst c11
   rw [if_pos rfl] at H; obtain rfl := Option.some.inj H
   go_enter Try.func16, Try.ntmps16
   go_wp2_with (first | ((with_reducible refine zI 2 rfl ?_); refine zB 2 #[.string a0_0, .string a0_1, .int .i64 a0_2, .string a0_3, .int .i64 a0_4, .int .i64 a0_5, .int .i64 a0_6, .int .i64 a0_7, .slice A0_8 l0_8.length c0_8] 36 ?_; intro gb151 hg w12 hbox hb; have BK151 := Aside0.mk (hbox); have GW151 := zS (pB0 HB.out) hg; have GE151 := GW151; replace HB := zW (pB0 HB.out) hb; clear hb hbox hg) | ((with_reducible refine zI 3 rfl ?_); refine zB 3 #[.string a1_0, .string a1_1, .int .i64 a1_2, .string a1_3, .int .i64 a1_4, .int .i64 a1_5, .int .i64 a1_6, .int .i64 a1_7, .slice A1_8 l1_8.length c1_8] 36 ?_; intro gb152 hg w13 hbox hb; have BK152 := Aside0.mk (hbox); have GW152 := zS (pB1 HB.out GE151.out) hg; have GE152 := GW152; have NB151_152 := zL BK151 hg; have NB152_151 := zM BK151 hg; replace BK151 := zK BK151 hb; replace HB := zW (pB1 HB.out GE151.out) hb; clear hb hbox hg; have hnb14 := NB151_152.out; have hnc14 := NB152_151.out; obtain ⟨Y15_0, X15_0, Y15_1, X15_1, Y15_2, X15_2, Y15_3, X15_3, Y15_4, X15_4, Y15_5, X15_5, Y15_6, X15_6, Y15_7, X15_7, Y15_8, X15_8⟩ := zw9 BK151; obtain ⟨Y16_0, X16_0, Y16_1, X16_1, Y16_2, X16_2, Y16_3, X16_3, Y16_4, X16_4, Y16_5, X16_5, Y16_6, X16_6, Y16_7, X16_7, Y16_8, X16_8⟩ := zw9 BK152) | ((with_reducible refine gate_callee (f := 59) rfl ?_); refine zJ (some 24) Try.func59 #[.agg #[.string a0_3, .int .i64 a0_4, .int .i64 a0_5], .agg #[.string a1_3, .int .i64 a1_4, .int .i64 a1_5]] ?_; (with_reducible refine (laws_eqVeneer.calls a0_3 a0_4 a0_5 a1_3 a1_4 a1_5 true _ A6.out).mono ?_); rintro e w17 ⟨rfl, hb⟩; refine ⟨_, rfl, ?_⟩; replace BK151 := zK BK151 hb; replace BK152 := zK BK152 hb; replace HB := zW (pB2 HB.out GE151.out GE152.out) hb; (try clear hb); (try clear hb2); (try clear hk); (try clear hi); obtain ⟨Y18_0, X18_0, Y18_1, X18_1, Y18_2, X18_2, Y18_3, X18_3, Y18_4, X18_4, Y18_5, X18_5, Y18_6, X18_6, Y18_7, X18_7, Y18_8, X18_8⟩ := zw9 BK151; obtain ⟨Y19_0, X19_0, Y19_1, X19_1, Y19_2, X19_2, Y19_3, X19_3, Y19_4, X19_4, Y19_5, X19_5, Y19_6, X19_6, Y19_7, X19_7, Y19_8, X19_8⟩ := zw9 BK152) | ((with_reducible refine gate_callee (f := 26) rfl ?_); refine zJ (some 40) Try.func26 #[.slice A0_8 l0_8.length c0_8, .slice A1_8 l1_8.length c1_8] ?_; (with_reducible refine (laws_eqBoxS.calls k _ _ l0_8 _ _ l1_8 true _ ?side1 ?side2 ?side3 ?side4 A10.out).mono ?_); (case side1 => exact pC (Kd.C_below HR0_8.out HB.out)); (case side2 => exact HC0_8.out); (case side3 => exact pC (Kd.C_below HR1_8.out HB.out)); (case side4 => exact HC1_8.out); rintro e w20 ⟨rfl, hb⟩; refine ⟨_, rfl, ?_⟩; replace BK151 := zK BK151 hb; replace BK152 := zK BK152 hb; replace HB := zW (pB2 HB.out GE151.out GE152.out) hb; (try clear hb); (try clear hb2); (try clear hk); (try clear hi)))
   go_ret
   exact ⟨zE, pB2 HB.out GE151.out GE152.out⟩
 replace c11 := Bool.eq_false_iff.mpr c11; subst c11
 rw [if_neg (show ¬ (false = true) by decide)] at H
 obtain rfl := Option.some.inj H
 go_enter Try.func16, Try.ntmps16
 go_wp2_with (first | ((with_reducible refine zI 2 rfl ?_); refine zB 2 #[.string a0_0, .string a0_1, .int .i64 a0_2, .string a0_3, .int .i64 a0_4, .int .i64 a0_5, .int .i64 a0_6, .int .i64 a0_7, .slice A0_8 l0_8.length c0_8] 36 ?_; intro gb151 hg w21 hbox hb; have BK151 := Aside0.mk (hbox); have GW151 := zS (pB0 HB.out) hg; have GE151 := GW151; replace HB := zW (pB0 HB.out) hb; clear hb hbox hg) | ((with_reducible refine zI 3 rfl ?_); refine zB 3 #[.string a1_0, .string a1_1, .int .i64 a1_2, .string a1_3, .int .i64 a1_4, .int .i64 a1_5, .int .i64 a1_6, .int .i64 a1_7, .slice A1_8 l1_8.length c1_8] 36 ?_; intro gb152 hg w22 hbox hb; have BK152 := Aside0.mk (hbox); have GW152 := zS (pB1 HB.out GE151.out) hg; have GE152 := GW152; have NB151_152 := zL BK151 hg; have NB152_151 := zM BK151 hg; replace BK151 := zK BK151 hb; replace HB := zW (pB1 HB.out GE151.out) hb; clear hb hbox hg; have hnb23 := NB151_152.out; have hnc23 := NB152_151.out; obtain ⟨Y24_0, X24_0, Y24_1, X24_1, Y24_2, X24_2, Y24_3, X24_3, Y24_4, X24_4, Y24_5, X24_5, Y24_6, X24_6, Y24_7, X24_7, Y24_8, X24_8⟩ := zw9 BK151; obtain ⟨Y25_0, X25_0, Y25_1, X25_1, Y25_2, X25_2, Y25_3, X25_3, Y25_4, X25_4, Y25_5, X25_5, Y25_6, X25_6, Y25_7, X25_7, Y25_8, X25_8⟩ := zw9 BK152) | ((with_reducible refine gate_callee (f := 59) rfl ?_); refine zJ (some 24) Try.func59 #[.agg #[.string a0_3, .int .i64 a0_4, .int .i64 a0_5], .agg #[.string a1_3, .int .i64 a1_4, .int .i64 a1_5]] ?_; (with_reducible refine (laws_eqVeneer.calls a0_3 a0_4 a0_5 a1_3 a1_4 a1_5 true _ A6.out).mono ?_); rintro e w26 ⟨rfl, hb⟩; refine ⟨_, rfl, ?_⟩; replace BK151 := zK BK151 hb; replace BK152 := zK BK152 hb; replace HB := zW (pB2 HB.out GE151.out GE152.out) hb; (try clear hb); (try clear hb2); (try clear hk); (try clear hi); obtain ⟨Y27_0, X27_0, Y27_1, X27_1, Y27_2, X27_2, Y27_3, X27_3, Y27_4, X27_4, Y27_5, X27_5, Y27_6, X27_6, Y27_7, X27_7, Y27_8, X27_8⟩ := zw9 BK151; obtain ⟨Y28_0, X28_0, Y28_1, X28_1, Y28_2, X28_2, Y28_3, X28_3, Y28_4, X28_4, Y28_5, X28_5, Y28_6, X28_6, Y28_7, X28_7, Y28_8, X28_8⟩ := zw9 BK152) | ((with_reducible refine gate_callee (f := 26) rfl ?_); refine zJ (some 40) Try.func26 #[.slice A0_8 l0_8.length c0_8, .slice A1_8 l1_8.length c1_8] ?_; (with_reducible refine (laws_eqBoxS.calls k _ _ l0_8 _ _ l1_8 false _ ?side1 ?side2 ?side3 ?side4 A10.out).mono ?_); (case side1 => exact pC (Kd.C_below HR0_8.out HB.out)); (case side2 => exact HC0_8.out); (case side3 => exact pC (Kd.C_below HR1_8.out HB.out)); (case side4 => exact HC1_8.out); rintro e w29 ⟨rfl, hb⟩; refine ⟨_, rfl, ?_⟩; replace BK151 := zK BK151 hb; replace BK152 := zK BK152 hb; replace HB := zW (pB2 HB.out GE151.out GE152.out) hb; (try clear hb); (try clear hb2); (try clear hk); (try clear hi)))
 go_ret
 exact ⟨zE, pB2 HB.out GE151.out GE152.out⟩
def laws_markPointS.l0 : Nat → List (S91) → Int → Int → Option (Int × (List (S91)))
 | 0, _, _, _ => none
 | k + 1, x0, x1, x5 => if x5 < (x0.length : Int) then (if 0 ≤ x5 then ((some (x0.set (x5 : Int).toNat (⟨x1, (rd_T91 x0 x5).f1⟩ : S91) : List (S91))).bind fun y155 => (laws_markPointS.l0 k (y155.set (x5 : Int).toNat (⟨(rd_T91 y155 x5).f0, wrap64 (x1 + 1)⟩ : S91)) (wrap64 ((wrap64 (x1 + 1)) + 1)) (wrap64 (x5 + 1)))) else (none)) else (some (x1, x0))
def laws_markPointS.f (k : Nat) (l0 : List (S91)) (a1 : Int) : Option (Int × (List (S91))) := laws_markPointS.l0 k l0 a1 0
theorem laws_markPointS.mono_l : ∀ k, (∀ y0 y1 y2, LeO (laws_markPointS.l0 k y0 y1 y2) (laws_markPointS.l0 (k + 1) y0 y1 y2))
 | 0 => fun _ _ _ r h => by simp [laws_markPointS.l0] at h
 | k + 1 => by
   have ih0 := laws_markPointS.mono_l k
   · intro y0 y1 y2
     unfold laws_markPointS.l0
     repeat' first
     | (with_reducible exact ih0 _ _ _)
     | (with_reducible exact LeO.refl _)
     | (with_reducible exact LeO.none _)
     | (with_reducible refine LeO.ite ?_ ?_)
     | (with_reducible refine LeO.bind ?_ (fun _ => ?_))
     | exact ih0 _ _ _
     | exact LeO.none _
     | refine LeO.ite ?_ ?_
     | refine LeO.bind ?_ (fun _ => ?_)
theorem laws_markPointS.mono : ∀ a0 a1 k, LeO (laws_markPointS.f k a0 a1) (laws_markPointS.f (k + 1) a0 a1) := by
 intro a0 a1 k; have ih0 := laws_markPointS.mono_l k; unfold laws_markPointS.f
 repeat' first
  | (with_reducible exact ih0 _ _ _)
  | (with_reducible exact LeO.refl _)
  | (with_reducible exact LeO.none _)
  | (with_reducible refine LeO.ite ?_ ?_)
  | (with_reducible refine LeO.bind ?_ (fun _ => ?_))
  | exact ih0 _ _ _
  | exact LeO.none _
  | refine LeO.ite ?_ ?_
  | refine LeO.bind ?_ (fun _ => ?_)
set_option maxHeartbeats 8000000 in
set_option maxRecDepth 100000 in
theorem laws_markPointS.calls (k : Nat) (P0_ : Nat → Prop) (u9000_ : Value) (l0 : List (S91)) (a1 : Int) (r1 : Int) (r2 : List (S91)) (w0 w : World) (hB : Below w0.heap.size w0 w) (ho0 : Kd.R k91 91 w w0.heap.size P0_ u9000_ l0) (h : laws_markPointS.f k l0 a1 = some (r1, r2)) :
 Calls Try.prog 20 #[u9000_, .int .i64 a1] w fun e w' => e = .returned (.int .i64 r1) ∧ Kd.R k91 91 w' w0.heap.size (fun k_ => (P0_ k_ ∨ w.heap.size ≤ k_)) u9000_ r2 ∧ Below w0.heap.size w0 w' ∧ Kept w w' (fun k_ => P0_ k_) := by
 have HO0 := Aside0.mk (show Kd.R k91 91 w w0.heap.size (fun k_ => (P0_ k_ ∨ w.heap.size ≤ k_)) u9000_ l0 from Kd.R_mono ho0 (fun k_ hk => (.inl hk)))
 have HK := Aside0.mk (Kept.refl w (fun k_ => P0_ k_))
 have HW0 := Aside0.mk hB.size; have HB := Aside0.mk hB; clear hB; have H : (laws_markPointS.l0 k l0 a1 0) = some (r1, r2) := h; clear h; have H' := Aside0.mk H; clear H
 go_enter Try.func20, Try.ntmps20
 go_wp2
 go_loopg [1, 5] k (fun kq v1 v5 w' => ∃ (x0_1 : List (S91)) (x1_1 : Int) (x5_1 : Int), v1 = .int .i64 x1_1 ∧ v5 = .int .i64 x5_1 ∧ Aside0 (laws_markPointS.l0 kq x0_1 x1_1 x5_1 = some (r1, r2)) ∧ Aside0 (kq ≤ k) ∧ Aside0 (Kd.R k91 91 w' w0.heap.size (fun k_ => (P0_ k_ ∨ w.heap.size ≤ k_)) u9000_ x0_1) ∧ Aside0 (Kept w w' (fun k_ => P0_ k_)) ∧ Aside0 (Below w0.heap.size w0 w'))
 case atStart => exact ⟨(l0), (a1), (0), zR, zR, H', ⟨Nat.le_refl _⟩, ⟨pR HO0.out⟩, ⟨by repeat (first | (with_reducible first | exact HK.out | apply Kept.alloc | apply Kept.drewN | apply Kept.drew) | exact HK.out)⟩, ⟨pB0 HB.out⟩⟩
 case round =>
  clear H'; (try clear c2); (try clear p2); obtain ⟨x0_1, x1_1, x5_1, rfl, rfl, HA, HK1, HO_0, HK, HB⟩ := hrel
  cases gk with
  | zero => exact absurd HA.out (by simp [laws_markPointS.l0])
  | succ k1 =>
    have H := HA.out; clear HA; simp only [laws_markPointS.l0] at H
    by_cases c3 : x5_1 < (x0_1.length : Int)
    rotate_left
    · rw [if_neg c3] at H
      have c3b0 := decide_eq_false c3; clear c3; simp only [Option.some.injEq, Prod.mk.injEq] at H; obtain ⟨rfl, rfl⟩ := H; obtain ⟨Ao12, co12, eo12⟩ := Kd.R_slice HO_0.out; subst eo12
      go_wp2
      go_ret
      exact ⟨zE, by (with_reducible repeat (first | apply Kd.R_alloc | apply Kd.R_drewN | apply Kd.R_drew)); exact HO_0.out, pB0 HB.out, by repeat (first | (with_reducible first | exact HK.out | apply Kept.alloc | apply Kept.drewN | apply Kept.drew) | exact HK.out)⟩
    rw [if_pos c3] at H; have c3b0 := decide_eq_true c3; clear c3
    by_cases c4 : 0 ≤ x5_1
    rotate_left
    · rw [if_neg c4] at H
      exact absurd H (by simp)
    rw [if_pos c4] at H; have c4b0 := decide_eq_true c4; clear c4; obtain ⟨y155, hy155⟩ : ∃ y_ : List (S91), y_ = (x0_1.set (x5_1 : Int).toNat (⟨x1_1, (rd_T91 x0_1 x5_1).f1⟩ : S91)) := ⟨_, rfl⟩; replace H : (laws_markPointS.l0 k1 (y155.set (x5_1 : Int).toNat (⟨(rd_T91 y155 x5_1).f0, wrap64 (x1_1 + 1)⟩ : S91)) (wrap64 ((wrap64 (x1_1 + 1)) + 1)) (wrap64 (x5_1 + 1))) = some (r1, r2) := zY hy155 H; have Ny155 := Aside0.mk hy155; clear hy155; obtain ⟨y156, hy156⟩ : ∃ y_ : List (S91), y_ = (y155.set (x5_1 : Int).toNat (⟨(rd_T91 y155 x5_1).f0, wrap64 (x1_1 + 1)⟩ : S91)) := ⟨_, rfl⟩; replace H : (laws_markPointS.l0 k1 y156 (wrap64 ((wrap64 (x1_1 + 1)) + 1)) (wrap64 (x5_1 + 1))) = some (r1, r2) := zY hy156 H; have Ny156 := Aside0.mk hy156; clear hy156; have H' := Aside0.mk H; clear H; obtain ⟨Ao7, co7, eo7⟩ := Kd.R_slice HO_0.out; subst eo7; have p5 : 0 ≤ (x5_1 : Int) := zD; have q5 : (x5_1 : Int) < ((x0_1.length : Int) : Int) := zD
    obtain ⟨go5, co5, eo5, gb5, gl5, cl5, HG5⟩ := Kd.R_form HO_0.out (by omega)
    (first | cases eo5 | (injection eo5 with ea_ en_ ec_; (first | subst ea_ | (injection ea_ with ea_; subst ea_)); subst ec_; clear en_))
    have GB5 := Aside0.mk gb5; have GG5 := Aside0.mk HG5; clear gb5 gl5 HG5; have HMgo5 := Aside0.mk (show (P0_ go5 ∨ w.heap.size ≤ go5) from (HO_0.out.1 _ rfl)); obtain ⟨ce5, hcl5, hM5, hcc5, hfr5⟩ := Kd.R_elem HO_0.out z91 (x5_1 : Int) p5 q5; obtain rfl := k91_openM hM5; have hx5_0 : wr.cell? ⟨go5, (x5_1 : Int).toNat * 2, none⟩ = some (.int .i64 ((rd_T91 x0_1 x5_1).f0)) := hcc5 0 _ rfl; have hx5_1 : wr.cell? ⟨go5, (x5_1 : Int).toNat * 2 + 1, none⟩ = some (.int .i64 ((rd_T91 x0_1 x5_1).f1)) := hcc5 1 _ rfl; have hf5_0 : wr.frozen? ⟨go5, (x5_1 : Int).toNat * 2, none⟩ = false := hfr5 0; have hf5_1 : wr.frozen? ⟨go5, (x5_1 : Int).toNat * 2 + 1, none⟩ = false := hfr5 1; clear hcl5 hcc5 hfr5; (try clear hM5); replace p5 := eq_true p5; replace q5 := eq_true q5
    have HX8 := Aside0.mk (show Kd.R k91 91 wr w0.heap.size (fun k_ => (P0_ k_ ∨ w.heap.size ≤ k_)) (.slice (some ⟨go5, 0, none⟩) x0_1.length co7) x0_1 from (pR HO_0.out))
    obtain ⟨ce8, hcl8, hM8, hcc8, hfr8⟩ := Kd.R_elem HX8.out z91 (x5_1 : Int) (zD) (by have h_ : (x5_1 : Int) < ((x0_1.length : Int) : Int) := zD; first | exact h_ | (have e_ := (Kd.R_reads' HO_0.out).1; omega) | simpa using h_)
    obtain rfl := k91_openM hM8
    have HP8 := Kd.R_seg HX8.out (x5_1 : Int) (zD) (by have h_ : (x5_1 : Int) < ((x0_1.length : Int) : Int) := zD; first | exact h_ | (have e_ := (Kd.R_reads' HO_0.out).1; omega) | simpa using h_) (seg := [.int .i64 x1_1]) (j := 0) hcl8 hcc8 (show 1 ≤ 2 from by decide) (x' := (⟨x1_1, (rd_T91 x0_1 x5_1).f1⟩ : S91)) (k91_mkM _ _ _ (⟨x1_1, (rd_T91 x0_1 x5_1).f1⟩ : S91) ) (fun _ hk => hk)
    have hx8_0 := hcc8 0 _ rfl; (try simp only [show (k91).sz = 2 from rfl, Nat.mul_one, Nat.add_zero] at hx8_0); have hf8_0 := hfr8 0; (try simp only [show (k91).sz = 2 from rfl, Nat.mul_one, Nat.add_zero] at hf8_0); clear hcl8 hcc8 hfr8; (try clear hM8)
    go_wp2_with (first | ((with_reducible refine gate_store (t := 2) (p := 16) rfl ?_); refine store_event (t := 2) (p := 16) (v := ?vo_w9) (w1 := (wr.setCell ⟨go5, (x5_1 : Int).toNat * 2, none⟩ (.int .i64 x1_1))) ?hg ?ho ?hn ?hr ?_; (case ho => rfl); (case hg => rfl); (case hn => rfl); (case hr => first | (go_simp; done) | (go_simp; rfl)); intro w9 hw; have hg : wr.grownBy w9 (some go5) := (by rw [hw]; exact HP8.2); have hp_ : Kd.R k91 91 w9 w0.heap.size (fun k_ => (P0_ k_ ∨ w.heap.size ≤ k_)) (.slice (some ⟨go5, 0, none⟩) x0_1.length co7) y155 := (by rw [hw, Ny155.out]; exact HP8.1); clear HP8; replace HB := Aside0.mk ((by rw [hw]; exact below_set (HB.out) GB5.out : Below w0.heap.size w0 w9)); replace HK := Aside0.mk (Kept.of_grown (S := (fun k_ => P0_ k_)) hg (by repeat (first | (with_reducible first | exact HK.out | apply Kept.alloc | apply Kept.drewN | apply Kept.drew) | exact HK.out)) (fun k_ e_ => (HO_0.out.1 k_ e_))); replace HO_0 := Aside0.mk (hp_); clear hg hw hp_; have p6 : 0 ≤ (x5_1 : Int) := zD; have q6 : (x5_1 : Int) < ((x0_1.length : Int) : Int) := zD; obtain ⟨ce6, hcl6, hM6, hcc6, hfr6⟩ := Kd.R_elem HO_0.out z91 (x5_1 : Int) p6 q6; obtain rfl := k91_openM hM6; have hx6_0 : w9.cell? ⟨go5, (x5_1 : Int).toNat * 2, none⟩ = some (.int .i64 ((rd_T91 y155 x5_1).f0)) := hcc6 0 _ rfl; have hx6_1 : w9.cell? ⟨go5, (x5_1 : Int).toNat * 2 + 1, none⟩ = some (.int .i64 ((rd_T91 y155 x5_1).f1)) := hcc6 1 _ rfl; have hf6_0 : w9.frozen? ⟨go5, (x5_1 : Int).toNat * 2, none⟩ = false := hfr6 0; have hf6_1 : w9.frozen? ⟨go5, (x5_1 : Int).toNat * 2 + 1, none⟩ = false := hfr6 1; clear hcl6 hcc6 hfr6; (try clear hM6); replace p6 := eq_true p6; replace q6 := eq_true q6; have HX10 := Aside0.mk (show Kd.R k91 91 w9 w0.heap.size (fun k_ => (P0_ k_ ∨ w.heap.size ≤ k_)) (.slice (some ⟨go5, 0, none⟩) x0_1.length co7) y155 from (pR HO_0.out)); obtain ⟨ce10, hcl10, hM10, hcc10, hfr10⟩ := Kd.R_elem HX10.out z91 (x5_1 : Int) (zD) (by have h_ : (x5_1 : Int) < ((x0_1.length : Int) : Int) := zD; first | exact h_ | (have e_ := (Kd.R_reads' HO_0.out).1; omega) | simpa using h_); obtain rfl := k91_openM hM10; have HP10 := Kd.R_seg HX10.out (x5_1 : Int) (zD) (by have h_ : (x5_1 : Int) < ((x0_1.length : Int) : Int) := zD; first | exact h_ | (have e_ := (Kd.R_reads' HO_0.out).1; omega) | simpa using h_) (seg := [.int .i64 (wrap64 (x1_1 + 1))]) (j := 1) hcl10 hcc10 (show 2 ≤ 2 from by decide) (x' := (⟨(rd_T91 y155 x5_1).f0, wrap64 (x1_1 + 1)⟩ : S91)) (k91_mkM _ _ _ (⟨(rd_T91 y155 x5_1).f0, wrap64 (x1_1 + 1)⟩ : S91) ) (fun _ hk => hk); have hx10_1 := hcc10 1 _ rfl; (try simp only [show (k91).sz = 2 from rfl, Nat.mul_one, Nat.add_zero] at hx10_1); have hf10_1 := hfr10 1; (try simp only [show (k91).sz = 2 from rfl, Nat.mul_one, Nat.add_zero] at hf10_1); clear hcl10 hcc10 hfr10; (try clear hM10)) | ((with_reducible refine gate_store (t := 2) (p := 23) rfl ?_); refine store_event (t := 2) (p := 23) (v := ?vo_w11) (w1 := (w9.setCell ⟨go5, (x5_1 : Int).toNat * 2 + 1, none⟩ (.int .i64 (wrap64 (x1_1 + 1))))) ?hg ?ho ?hn ?hr ?_; (case ho => rfl); (case hg => rfl); (case hn => rfl); (case hr => first | (go_simp; done) | (go_simp; rfl)); intro w11 hw; have hg : w9.grownBy w11 (some go5) := (by rw [hw]; exact HP10.2); have hp_ : Kd.R k91 91 w11 w0.heap.size (fun k_ => (P0_ k_ ∨ w.heap.size ≤ k_)) (.slice (some ⟨go5, 0, none⟩) x0_1.length co7) y156 := (by rw [hw, Ny156.out]; exact HP10.1); clear HP10; replace HB := Aside0.mk ((by rw [hw]; exact below_set (HB.out) GB5.out : Below w0.heap.size w0 w11)); replace HK := Aside0.mk (Kept.of_grown (S := (fun k_ => P0_ k_)) hg (by repeat (first | (with_reducible first | exact HK.out | apply Kept.alloc | apply Kept.drewN | apply Kept.drew) | exact HK.out)) (fun k_ e_ => (HO_0.out.1 k_ e_))); replace HO_0 := Aside0.mk (hp_); clear hg hw hp_))
    go_roundg k1
    case measure => have := HK1.out; omega
    case rel => exact ⟨(y156), (wrap64 ((wrap64 (x1_1 + 1)) + 1)), (wrap64 (x5_1 + 1)), zR, zR, H', ⟨by have := HK1.out; omega⟩, ⟨pR HO_0.out⟩, ⟨by repeat (first | (with_reducible first | exact HK.out | apply Kept.alloc | apply Kept.drewN | apply Kept.drew) | exact HK.out)⟩, ⟨pB0 HB.out⟩⟩
def laws_markBoxS.l0 : Nat → List (S103) → Int → Int → Option (Int × (List (S103)))
 | 0, _, _, _ => none
 | k + 1, x0, x1, x5 => if x5 < (x0.length : Int) then (if 0 ≤ x5 then ((some (x0.set (x5 : Int).toNat (⟨x1, (rd_T103 x0 x5).f1, (rd_T103 x0 x5).f2, (rd_T103 x0 x5).f3⟩ : S103) : List (S103))).bind fun y157 => ((some (y157.set (x5 : Int).toNat (⟨(rd_T103 y157 x5).f0, wrap64 (x1 + 1), (rd_T103 y157 x5).f2, (rd_T103 y157 x5).f3⟩ : S103) : List (S103))).bind fun y158 => ((some (y158.set (x5 : Int).toNat (⟨(rd_T103 y158 x5).f0, (rd_T103 y158 x5).f1, wrap64 ((wrap64 (x1 + 1)) + 1), (rd_T103 y158 x5).f3⟩ : S103) : List (S103))).bind fun y159 => (laws_markBoxS.l0 k (y159.set (x5 : Int).toNat (⟨(rd_T103 y159 x5).f0, (rd_T103 y159 x5).f1, (rd_T103 y159 x5).f2, wrap64 ((wrap64 ((wrap64 (x1 + 1)) + 1)) + 1)⟩ : S103)) (wrap64 ((wrap64 ((wrap64 ((wrap64 (x1 + 1)) + 1)) + 1)) + 1)) (wrap64 (x5 + 1)))))) else (none)) else (some (x1, x0))
def laws_markBoxS.f (k : Nat) (l0 : List (S103)) (a1 : Int) : Option (Int × (List (S103))) := laws_markBoxS.l0 k l0 a1 0
theorem laws_markBoxS.mono_l : ∀ k, (∀ y0 y1 y2, LeO (laws_markBoxS.l0 k y0 y1 y2) (laws_markBoxS.l0 (k + 1) y0 y1 y2))
 | 0 => fun _ _ _ r h => by simp [laws_markBoxS.l0] at h
 | k + 1 => by
   have ih0 := laws_markBoxS.mono_l k
   · intro y0 y1 y2
     unfold laws_markBoxS.l0
     repeat' first
     | (with_reducible exact ih0 _ _ _)
     | (with_reducible exact LeO.refl _)
     | (with_reducible exact LeO.none _)
     | (with_reducible refine LeO.ite ?_ ?_)
     | (with_reducible refine LeO.bind ?_ (fun _ => ?_))
     | exact ih0 _ _ _
     | exact LeO.none _
     | refine LeO.ite ?_ ?_
     | refine LeO.bind ?_ (fun _ => ?_)
theorem laws_markBoxS.mono : ∀ a0 a1 k, LeO (laws_markBoxS.f k a0 a1) (laws_markBoxS.f (k + 1) a0 a1) := by
 intro a0 a1 k; have ih0 := laws_markBoxS.mono_l k; unfold laws_markBoxS.f
 repeat' first
  | (with_reducible exact ih0 _ _ _)
  | (with_reducible exact LeO.refl _)
  | (with_reducible exact LeO.none _)
  | (with_reducible refine LeO.ite ?_ ?_)
  | (with_reducible refine LeO.bind ?_ (fun _ => ?_))
  | exact ih0 _ _ _
  | exact LeO.none _
  | refine LeO.ite ?_ ?_
  | refine LeO.bind ?_ (fun _ => ?_)
set_option maxHeartbeats 8000000 in
set_option maxRecDepth 100000 in
theorem laws_markBoxS.calls (k : Nat) (P0_ : Nat → Prop) (u9000_ : Value) (l0 : List (S103)) (a1 : Int) (r1 : Int) (r2 : List (S103)) (w0 w : World) (hB : Below w0.heap.size w0 w) (ho0 : Kd.R k103 103 w w0.heap.size P0_ u9000_ l0) (h : laws_markBoxS.f k l0 a1 = some (r1, r2)) :
 Calls Try.prog 27 #[u9000_, .int .i64 a1] w fun e w' => e = .returned (.int .i64 r1) ∧ Kd.R k103 103 w' w0.heap.size (fun k_ => (P0_ k_ ∨ w.heap.size ≤ k_)) u9000_ r2 ∧ Below w0.heap.size w0 w' ∧ Kept w w' (fun k_ => P0_ k_) := by
 have HO0 := Aside0.mk (show Kd.R k103 103 w w0.heap.size (fun k_ => (P0_ k_ ∨ w.heap.size ≤ k_)) u9000_ l0 from Kd.R_mono ho0 (fun k_ hk => (.inl hk)))
 have HK := Aside0.mk (Kept.refl w (fun k_ => P0_ k_))
 have HW0 := Aside0.mk hB.size; have HB := Aside0.mk hB; clear hB; have H : (laws_markBoxS.l0 k l0 a1 0) = some (r1, r2) := h; clear h; have H' := Aside0.mk H; clear H
 go_enter Try.func27, Try.ntmps27
 go_wp2
 go_loopg [1, 5] k (fun kq v1 v5 w' => ∃ (x0_1 : List (S103)) (x1_1 : Int) (x5_1 : Int), v1 = .int .i64 x1_1 ∧ v5 = .int .i64 x5_1 ∧ Aside0 (laws_markBoxS.l0 kq x0_1 x1_1 x5_1 = some (r1, r2)) ∧ Aside0 (kq ≤ k) ∧ Aside0 (Kd.R k103 103 w' w0.heap.size (fun k_ => (P0_ k_ ∨ w.heap.size ≤ k_)) u9000_ x0_1) ∧ Aside0 (Kept w w' (fun k_ => P0_ k_)) ∧ Aside0 (Below w0.heap.size w0 w'))
 case atStart => exact ⟨(l0), (a1), (0), zR, zR, H', ⟨Nat.le_refl _⟩, ⟨pR HO0.out⟩, ⟨by repeat (first | (with_reducible first | exact HK.out | apply Kept.alloc | apply Kept.drewN | apply Kept.drew) | exact HK.out)⟩, ⟨pB0 HB.out⟩⟩
 case round =>
  clear H'; (try clear c2); (try clear p2); obtain ⟨x0_1, x1_1, x5_1, rfl, rfl, HA, HK1, HO_0, HK, HB⟩ := hrel
  cases gk with
  | zero => exact absurd HA.out (by simp [laws_markBoxS.l0])
  | succ k1 =>
    have H := HA.out; clear HA; simp only [laws_markBoxS.l0] at H
    by_cases c3 : x5_1 < (x0_1.length : Int)
    rotate_left
    · rw [if_neg c3] at H
      have c3b0 := decide_eq_false c3; clear c3; simp only [Option.some.injEq, Prod.mk.injEq] at H; obtain ⟨rfl, rfl⟩ := H; obtain ⟨Ao18, co18, eo18⟩ := Kd.R_slice HO_0.out; subst eo18
      go_wp2
      go_ret
      exact ⟨zE, by (with_reducible repeat (first | apply Kd.R_alloc | apply Kd.R_drewN | apply Kd.R_drew)); exact HO_0.out, pB0 HB.out, by repeat (first | (with_reducible first | exact HK.out | apply Kept.alloc | apply Kept.drewN | apply Kept.drew) | exact HK.out)⟩
    rw [if_pos c3] at H; have c3b0 := decide_eq_true c3; clear c3
    by_cases c4 : 0 ≤ x5_1
    rotate_left
    · rw [if_neg c4] at H
      exact absurd H (by simp)
    rw [if_pos c4] at H; have c4b0 := decide_eq_true c4; clear c4; obtain ⟨y157, hy157⟩ : ∃ y_ : List (S103), y_ = (x0_1.set (x5_1 : Int).toNat (⟨x1_1, (rd_T103 x0_1 x5_1).f1, (rd_T103 x0_1 x5_1).f2, (rd_T103 x0_1 x5_1).f3⟩ : S103)) := ⟨_, rfl⟩
    replace H : ((some (y157.set (x5_1 : Int).toNat (⟨(rd_T103 y157 x5_1).f0, wrap64 (x1_1 + 1), (rd_T103 y157 x5_1).f2, (rd_T103 y157 x5_1).f3⟩ : S103) : List (S103))).bind fun y158 => ((some (y158.set (x5_1 : Int).toNat (⟨(rd_T103 y158 x5_1).f0, (rd_T103 y158 x5_1).f1, wrap64 ((wrap64 (x1_1 + 1)) + 1), (rd_T103 y158 x5_1).f3⟩ : S103) : List (S103))).bind fun y159 => (laws_markBoxS.l0 k1 (y159.set (x5_1 : Int).toNat (⟨(rd_T103 y159 x5_1).f0, (rd_T103 y159 x5_1).f1, (rd_T103 y159 x5_1).f2, wrap64 ((wrap64 ((wrap64 (x1_1 + 1)) + 1)) + 1)⟩ : S103)) (wrap64 ((wrap64 ((wrap64 ((wrap64 (x1_1 + 1)) + 1)) + 1)) + 1)) (wrap64 (x5_1 + 1))))) = some (r1, r2) := zY hy157 H
    have Ny157 := Aside0.mk hy157; clear hy157; obtain ⟨y158, hy158⟩ : ∃ y_ : List (S103), y_ = (y157.set (x5_1 : Int).toNat (⟨(rd_T103 y157 x5_1).f0, wrap64 (x1_1 + 1), (rd_T103 y157 x5_1).f2, (rd_T103 y157 x5_1).f3⟩ : S103)) := ⟨_, rfl⟩
    replace H : ((some (y158.set (x5_1 : Int).toNat (⟨(rd_T103 y158 x5_1).f0, (rd_T103 y158 x5_1).f1, wrap64 ((wrap64 (x1_1 + 1)) + 1), (rd_T103 y158 x5_1).f3⟩ : S103) : List (S103))).bind fun y159 => (laws_markBoxS.l0 k1 (y159.set (x5_1 : Int).toNat (⟨(rd_T103 y159 x5_1).f0, (rd_T103 y159 x5_1).f1, (rd_T103 y159 x5_1).f2, wrap64 ((wrap64 ((wrap64 (x1_1 + 1)) + 1)) + 1)⟩ : S103)) (wrap64 ((wrap64 ((wrap64 ((wrap64 (x1_1 + 1)) + 1)) + 1)) + 1)) (wrap64 (x5_1 + 1)))) = some (r1, r2) := zY hy158 H
    have Ny158 := Aside0.mk hy158; clear hy158; obtain ⟨y159, hy159⟩ : ∃ y_ : List (S103), y_ = (y158.set (x5_1 : Int).toNat (⟨(rd_T103 y158 x5_1).f0, (rd_T103 y158 x5_1).f1, wrap64 ((wrap64 (x1_1 + 1)) + 1), (rd_T103 y158 x5_1).f3⟩ : S103)) := ⟨_, rfl⟩; replace H : (laws_markBoxS.l0 k1 (y159.set (x5_1 : Int).toNat (⟨(rd_T103 y159 x5_1).f0, (rd_T103 y159 x5_1).f1, (rd_T103 y159 x5_1).f2, wrap64 ((wrap64 ((wrap64 (x1_1 + 1)) + 1)) + 1)⟩ : S103)) (wrap64 ((wrap64 ((wrap64 ((wrap64 (x1_1 + 1)) + 1)) + 1)) + 1)) (wrap64 (x5_1 + 1))) = some (r1, r2) := zY hy159 H; have Ny159 := Aside0.mk hy159; clear hy159; obtain ⟨y160, hy160⟩ : ∃ y_ : List (S103), y_ = (y159.set (x5_1 : Int).toNat (⟨(rd_T103 y159 x5_1).f0, (rd_T103 y159 x5_1).f1, (rd_T103 y159 x5_1).f2, wrap64 ((wrap64 ((wrap64 (x1_1 + 1)) + 1)) + 1)⟩ : S103)) := ⟨_, rfl⟩; replace H : (laws_markBoxS.l0 k1 y160 (wrap64 ((wrap64 ((wrap64 ((wrap64 (x1_1 + 1)) + 1)) + 1)) + 1)) (wrap64 (x5_1 + 1))) = some (r1, r2) := zY hy160 H; have Ny160 := Aside0.mk hy160; clear hy160; have H' := Aside0.mk H; clear H; obtain ⟨Ao9, co9, eo9⟩ := Kd.R_slice HO_0.out; subst eo9; have p5 : 0 ≤ (x5_1 : Int) := zD; have q5 : (x5_1 : Int) < ((x0_1.length : Int) : Int) := zD
    obtain ⟨go5, co5, eo5, gb5, gl5, cl5, HG5⟩ := Kd.R_form HO_0.out (by omega)
    (first | cases eo5 | (injection eo5 with ea_ en_ ec_; (first | subst ea_ | (injection ea_ with ea_; subst ea_)); subst ec_; clear en_))
    have GB5 := Aside0.mk gb5; have GG5 := Aside0.mk HG5; clear gb5 gl5 HG5; have HMgo5 := Aside0.mk (show (P0_ go5 ∨ w.heap.size ≤ go5) from (HO_0.out.1 _ rfl)); obtain ⟨ce5, hcl5, hM5, hcc5, hfr5⟩ := Kd.R_elem HO_0.out z103 (x5_1 : Int) p5 q5; obtain rfl := k103_openM hM5; have hx5_0 : wr.cell? ⟨go5, (x5_1 : Int).toNat * 4, none⟩ = some (.int .i64 ((rd_T103 x0_1 x5_1).f0)) := hcc5 0 _ rfl; have hx5_1 : wr.cell? ⟨go5, (x5_1 : Int).toNat * 4 + 1, none⟩ = some (.int .i64 ((rd_T103 x0_1 x5_1).f1)) := hcc5 1 _ rfl; have hx5_2 : wr.cell? ⟨go5, (x5_1 : Int).toNat * 4 + 2, none⟩ = some (.int .i64 ((rd_T103 x0_1 x5_1).f2)) := hcc5 2 _ rfl; have hx5_3 : wr.cell? ⟨go5, (x5_1 : Int).toNat * 4 + 3, none⟩ = some (.int .i64 ((rd_T103 x0_1 x5_1).f3)) := hcc5 3 _ rfl; have hf5_0 : wr.frozen? ⟨go5, (x5_1 : Int).toNat * 4, none⟩ = false := hfr5 0; have hf5_1 : wr.frozen? ⟨go5, (x5_1 : Int).toNat * 4 + 1, none⟩ = false := hfr5 1; have hf5_2 : wr.frozen? ⟨go5, (x5_1 : Int).toNat * 4 + 2, none⟩ = false := hfr5 2; have hf5_3 : wr.frozen? ⟨go5, (x5_1 : Int).toNat * 4 + 3, none⟩ = false := hfr5 3; clear hcl5 hcc5 hfr5; (try clear hM5); replace p5 := eq_true p5; replace q5 := eq_true q5
    have HX10 := Aside0.mk (show Kd.R k103 103 wr w0.heap.size (fun k_ => (P0_ k_ ∨ w.heap.size ≤ k_)) (.slice (some ⟨go5, 0, none⟩) x0_1.length co9) x0_1 from (pR HO_0.out))
    obtain ⟨ce10, hcl10, hM10, hcc10, hfr10⟩ := Kd.R_elem HX10.out z103 (x5_1 : Int) (zD) (by have h_ : (x5_1 : Int) < ((x0_1.length : Int) : Int) := zD; first | exact h_ | (have e_ := (Kd.R_reads' HO_0.out).1; omega) | simpa using h_)
    obtain rfl := k103_openM hM10
    have HP10 := Kd.R_seg HX10.out (x5_1 : Int) (zD) (by have h_ : (x5_1 : Int) < ((x0_1.length : Int) : Int) := zD; first | exact h_ | (have e_ := (Kd.R_reads' HO_0.out).1; omega) | simpa using h_) (seg := [.int .i64 x1_1]) (j := 0) hcl10 hcc10 (show 1 ≤ 4 from by decide) (x' := (⟨x1_1, (rd_T103 x0_1 x5_1).f1, (rd_T103 x0_1 x5_1).f2, (rd_T103 x0_1 x5_1).f3⟩ : S103)) (k103_mkM _ _ _ (⟨x1_1, (rd_T103 x0_1 x5_1).f1, (rd_T103 x0_1 x5_1).f2, (rd_T103 x0_1 x5_1).f3⟩ : S103) ) (fun _ hk => hk)
    have hx10_0 := hcc10 0 _ rfl; (try simp only [show (k103).sz = 4 from rfl, Nat.mul_one, Nat.add_zero] at hx10_0); have hf10_0 := hfr10 0; (try simp only [show (k103).sz = 4 from rfl, Nat.mul_one, Nat.add_zero] at hf10_0); clear hcl10 hcc10 hfr10; (try clear hM10)
    go_wp2_with (first | ((with_reducible refine gate_store (t := 2) (p := 16) rfl ?_); refine store_event (t := 2) (p := 16) (v := ?vo_w11) (w1 := (wr.setCell ⟨go5, (x5_1 : Int).toNat * 4, none⟩ (.int .i64 x1_1))) ?hg ?ho ?hn ?hr ?_; (case ho => rfl); (case hg => rfl); (case hn => rfl); (case hr => first | (go_simp; done) | (go_simp; rfl)); intro w11 hw; have hg : wr.grownBy w11 (some go5) := (by rw [hw]; exact HP10.2); have hp_ : Kd.R k103 103 w11 w0.heap.size (fun k_ => (P0_ k_ ∨ w.heap.size ≤ k_)) (.slice (some ⟨go5, 0, none⟩) x0_1.length co9) y157 := (by rw [hw, Ny157.out]; exact HP10.1); clear HP10; replace HB := Aside0.mk ((by rw [hw]; exact below_set (HB.out) GB5.out : Below w0.heap.size w0 w11)); replace HK := Aside0.mk (Kept.of_grown (S := (fun k_ => P0_ k_)) hg (by repeat (first | (with_reducible first | exact HK.out | apply Kept.alloc | apply Kept.drewN | apply Kept.drew) | exact HK.out)) (fun k_ e_ => (HO_0.out.1 k_ e_))); replace HO_0 := Aside0.mk (hp_); clear hg hw hp_; have p6 : 0 ≤ (x5_1 : Int) := zD; have q6 : (x5_1 : Int) < ((x0_1.length : Int) : Int) := zD; obtain ⟨ce6, hcl6, hM6, hcc6, hfr6⟩ := Kd.R_elem HO_0.out z103 (x5_1 : Int) p6 q6; obtain rfl := k103_openM hM6; have hx6_0 : w11.cell? ⟨go5, (x5_1 : Int).toNat * 4, none⟩ = some (.int .i64 ((rd_T103 y157 x5_1).f0)) := hcc6 0 _ rfl; have hx6_1 : w11.cell? ⟨go5, (x5_1 : Int).toNat * 4 + 1, none⟩ = some (.int .i64 ((rd_T103 y157 x5_1).f1)) := hcc6 1 _ rfl; have hx6_2 : w11.cell? ⟨go5, (x5_1 : Int).toNat * 4 + 2, none⟩ = some (.int .i64 ((rd_T103 y157 x5_1).f2)) := hcc6 2 _ rfl; have hx6_3 : w11.cell? ⟨go5, (x5_1 : Int).toNat * 4 + 3, none⟩ = some (.int .i64 ((rd_T103 y157 x5_1).f3)) := hcc6 3 _ rfl; have hf6_0 : w11.frozen? ⟨go5, (x5_1 : Int).toNat * 4, none⟩ = false := hfr6 0; have hf6_1 : w11.frozen? ⟨go5, (x5_1 : Int).toNat * 4 + 1, none⟩ = false := hfr6 1; have hf6_2 : w11.frozen? ⟨go5, (x5_1 : Int).toNat * 4 + 2, none⟩ = false := hfr6 2; have hf6_3 : w11.frozen? ⟨go5, (x5_1 : Int).toNat * 4 + 3, none⟩ = false := hfr6 3; clear hcl6 hcc6 hfr6; (try clear hM6); replace p6 := eq_true p6; replace q6 := eq_true q6; have HX12 := Aside0.mk (show Kd.R k103 103 w11 w0.heap.size (fun k_ => (P0_ k_ ∨ w.heap.size ≤ k_)) (.slice (some ⟨go5, 0, none⟩) x0_1.length co9) y157 from (pR HO_0.out)); obtain ⟨ce12, hcl12, hM12, hcc12, hfr12⟩ := Kd.R_elem HX12.out z103 (x5_1 : Int) (zD) (by have h_ : (x5_1 : Int) < ((x0_1.length : Int) : Int) := zD; first | exact h_ | (have e_ := (Kd.R_reads' HO_0.out).1; omega) | simpa using h_); obtain rfl := k103_openM hM12; have HP12 := Kd.R_seg HX12.out (x5_1 : Int) (zD) (by have h_ : (x5_1 : Int) < ((x0_1.length : Int) : Int) := zD; first | exact h_ | (have e_ := (Kd.R_reads' HO_0.out).1; omega) | simpa using h_) (seg := [.int .i64 (wrap64 (x1_1 + 1))]) (j := 1) hcl12 hcc12 (show 2 ≤ 4 from by decide) (x' := (⟨(rd_T103 y157 x5_1).f0, wrap64 (x1_1 + 1), (rd_T103 y157 x5_1).f2, (rd_T103 y157 x5_1).f3⟩ : S103)) (k103_mkM _ _ _ (⟨(rd_T103 y157 x5_1).f0, wrap64 (x1_1 + 1), (rd_T103 y157 x5_1).f2, (rd_T103 y157 x5_1).f3⟩ : S103) ) (fun _ hk => hk); have hx12_1 := hcc12 1 _ rfl; (try simp only [show (k103).sz = 4 from rfl, Nat.mul_one, Nat.add_zero] at hx12_1); have hf12_1 := hfr12 1; (try simp only [show (k103).sz = 4 from rfl, Nat.mul_one, Nat.add_zero] at hf12_1); clear hcl12 hcc12 hfr12; (try clear hM12)) | ((with_reducible refine gate_store (t := 2) (p := 23) rfl ?_); refine store_event (t := 2) (p := 23) (v := ?vo_w13) (w1 := (w11.setCell ⟨go5, (x5_1 : Int).toNat * 4 + 1, none⟩ (.int .i64 (wrap64 (x1_1 + 1))))) ?hg ?ho ?hn ?hr ?_; (case ho => rfl); (case hg => rfl); (case hn => rfl); (case hr => first | (go_simp; done) | (go_simp; rfl)); intro w13 hw; have hg : w11.grownBy w13 (some go5) := (by rw [hw]; exact HP12.2); have hp_ : Kd.R k103 103 w13 w0.heap.size (fun k_ => (P0_ k_ ∨ w.heap.size ≤ k_)) (.slice (some ⟨go5, 0, none⟩) x0_1.length co9) y158 := (by rw [hw, Ny158.out]; exact HP12.1); clear HP12; replace HB := Aside0.mk ((by rw [hw]; exact below_set (HB.out) GB5.out : Below w0.heap.size w0 w13)); replace HK := Aside0.mk (Kept.of_grown (S := (fun k_ => P0_ k_)) hg (by repeat (first | (with_reducible first | exact HK.out | apply Kept.alloc | apply Kept.drewN | apply Kept.drew) | exact HK.out)) (fun k_ e_ => (HO_0.out.1 k_ e_))); replace HO_0 := Aside0.mk (hp_); clear hg hw hp_; have p7 : 0 ≤ (x5_1 : Int) := zD; have q7 : (x5_1 : Int) < ((x0_1.length : Int) : Int) := zD; obtain ⟨ce7, hcl7, hM7, hcc7, hfr7⟩ := Kd.R_elem HO_0.out z103 (x5_1 : Int) p7 q7; obtain rfl := k103_openM hM7; have hx7_0 : w13.cell? ⟨go5, (x5_1 : Int).toNat * 4, none⟩ = some (.int .i64 ((rd_T103 y158 x5_1).f0)) := hcc7 0 _ rfl; have hx7_1 : w13.cell? ⟨go5, (x5_1 : Int).toNat * 4 + 1, none⟩ = some (.int .i64 ((rd_T103 y158 x5_1).f1)) := hcc7 1 _ rfl; have hx7_2 : w13.cell? ⟨go5, (x5_1 : Int).toNat * 4 + 2, none⟩ = some (.int .i64 ((rd_T103 y158 x5_1).f2)) := hcc7 2 _ rfl; have hx7_3 : w13.cell? ⟨go5, (x5_1 : Int).toNat * 4 + 3, none⟩ = some (.int .i64 ((rd_T103 y158 x5_1).f3)) := hcc7 3 _ rfl; have hf7_0 : w13.frozen? ⟨go5, (x5_1 : Int).toNat * 4, none⟩ = false := hfr7 0; have hf7_1 : w13.frozen? ⟨go5, (x5_1 : Int).toNat * 4 + 1, none⟩ = false := hfr7 1; have hf7_2 : w13.frozen? ⟨go5, (x5_1 : Int).toNat * 4 + 2, none⟩ = false := hfr7 2; have hf7_3 : w13.frozen? ⟨go5, (x5_1 : Int).toNat * 4 + 3, none⟩ = false := hfr7 3; clear hcl7 hcc7 hfr7; (try clear hM7); replace p7 := eq_true p7; replace q7 := eq_true q7; have HX14 := Aside0.mk (show Kd.R k103 103 w13 w0.heap.size (fun k_ => (P0_ k_ ∨ w.heap.size ≤ k_)) (.slice (some ⟨go5, 0, none⟩) x0_1.length co9) y158 from (pR HO_0.out)); obtain ⟨ce14, hcl14, hM14, hcc14, hfr14⟩ := Kd.R_elem HX14.out z103 (x5_1 : Int) (zD) (by have h_ : (x5_1 : Int) < ((x0_1.length : Int) : Int) := zD; first | exact h_ | (have e_ := (Kd.R_reads' HO_0.out).1; omega) | simpa using h_); obtain rfl := k103_openM hM14; have HP14 := Kd.R_seg HX14.out (x5_1 : Int) (zD) (by have h_ : (x5_1 : Int) < ((x0_1.length : Int) : Int) := zD; first | exact h_ | (have e_ := (Kd.R_reads' HO_0.out).1; omega) | simpa using h_) (seg := [.int .i64 (wrap64 ((wrap64 (x1_1 + 1)) + 1))]) (j := 2) hcl14 hcc14 (show 3 ≤ 4 from by decide) (x' := (⟨(rd_T103 y158 x5_1).f0, (rd_T103 y158 x5_1).f1, wrap64 ((wrap64 (x1_1 + 1)) + 1), (rd_T103 y158 x5_1).f3⟩ : S103)) (k103_mkM _ _ _ (⟨(rd_T103 y158 x5_1).f0, (rd_T103 y158 x5_1).f1, wrap64 ((wrap64 (x1_1 + 1)) + 1), (rd_T103 y158 x5_1).f3⟩ : S103) ) (fun _ hk => hk); have hx14_2 := hcc14 2 _ rfl; (try simp only [show (k103).sz = 4 from rfl, Nat.mul_one, Nat.add_zero] at hx14_2); have hf14_2 := hfr14 2; (try simp only [show (k103).sz = 4 from rfl, Nat.mul_one, Nat.add_zero] at hf14_2); clear hcl14 hcc14 hfr14; (try clear hM14)) | ((with_reducible refine gate_store (t := 2) (p := 30) rfl ?_); refine store_event (t := 2) (p := 30) (v := ?vo_w15) (w1 := (w13.setCell ⟨go5, (x5_1 : Int).toNat * 4 + 2, none⟩ (.int .i64 (wrap64 ((wrap64 (x1_1 + 1)) + 1))))) ?hg ?ho ?hn ?hr ?_; (case ho => rfl); (case hg => rfl); (case hn => rfl); (case hr => first | (go_simp; done) | (go_simp; rfl)); intro w15 hw; have hg : w13.grownBy w15 (some go5) := (by rw [hw]; exact HP14.2); have hp_ : Kd.R k103 103 w15 w0.heap.size (fun k_ => (P0_ k_ ∨ w.heap.size ≤ k_)) (.slice (some ⟨go5, 0, none⟩) x0_1.length co9) y159 := (by rw [hw, Ny159.out]; exact HP14.1); clear HP14; replace HB := Aside0.mk ((by rw [hw]; exact below_set (HB.out) GB5.out : Below w0.heap.size w0 w15)); replace HK := Aside0.mk (Kept.of_grown (S := (fun k_ => P0_ k_)) hg (by repeat (first | (with_reducible first | exact HK.out | apply Kept.alloc | apply Kept.drewN | apply Kept.drew) | exact HK.out)) (fun k_ e_ => (HO_0.out.1 k_ e_))); replace HO_0 := Aside0.mk (hp_); clear hg hw hp_; have p8 : 0 ≤ (x5_1 : Int) := zD; have q8 : (x5_1 : Int) < ((x0_1.length : Int) : Int) := zD; obtain ⟨ce8, hcl8, hM8, hcc8, hfr8⟩ := Kd.R_elem HO_0.out z103 (x5_1 : Int) p8 q8; obtain rfl := k103_openM hM8; have hx8_0 : w15.cell? ⟨go5, (x5_1 : Int).toNat * 4, none⟩ = some (.int .i64 ((rd_T103 y159 x5_1).f0)) := hcc8 0 _ rfl; have hx8_1 : w15.cell? ⟨go5, (x5_1 : Int).toNat * 4 + 1, none⟩ = some (.int .i64 ((rd_T103 y159 x5_1).f1)) := hcc8 1 _ rfl; have hx8_2 : w15.cell? ⟨go5, (x5_1 : Int).toNat * 4 + 2, none⟩ = some (.int .i64 ((rd_T103 y159 x5_1).f2)) := hcc8 2 _ rfl; have hx8_3 : w15.cell? ⟨go5, (x5_1 : Int).toNat * 4 + 3, none⟩ = some (.int .i64 ((rd_T103 y159 x5_1).f3)) := hcc8 3 _ rfl; have hf8_0 : w15.frozen? ⟨go5, (x5_1 : Int).toNat * 4, none⟩ = false := hfr8 0; have hf8_1 : w15.frozen? ⟨go5, (x5_1 : Int).toNat * 4 + 1, none⟩ = false := hfr8 1; have hf8_2 : w15.frozen? ⟨go5, (x5_1 : Int).toNat * 4 + 2, none⟩ = false := hfr8 2; have hf8_3 : w15.frozen? ⟨go5, (x5_1 : Int).toNat * 4 + 3, none⟩ = false := hfr8 3; clear hcl8 hcc8 hfr8; (try clear hM8); replace p8 := eq_true p8; replace q8 := eq_true q8; have HX16 := Aside0.mk (show Kd.R k103 103 w15 w0.heap.size (fun k_ => (P0_ k_ ∨ w.heap.size ≤ k_)) (.slice (some ⟨go5, 0, none⟩) x0_1.length co9) y159 from (pR HO_0.out)); obtain ⟨ce16, hcl16, hM16, hcc16, hfr16⟩ := Kd.R_elem HX16.out z103 (x5_1 : Int) (zD) (by have h_ : (x5_1 : Int) < ((x0_1.length : Int) : Int) := zD; first | exact h_ | (have e_ := (Kd.R_reads' HO_0.out).1; omega) | simpa using h_); obtain rfl := k103_openM hM16; have HP16 := Kd.R_seg HX16.out (x5_1 : Int) (zD) (by have h_ : (x5_1 : Int) < ((x0_1.length : Int) : Int) := zD; first | exact h_ | (have e_ := (Kd.R_reads' HO_0.out).1; omega) | simpa using h_) (seg := [.int .i64 (wrap64 ((wrap64 ((wrap64 (x1_1 + 1)) + 1)) + 1))]) (j := 3) hcl16 hcc16 (show 4 ≤ 4 from by decide) (x' := (⟨(rd_T103 y159 x5_1).f0, (rd_T103 y159 x5_1).f1, (rd_T103 y159 x5_1).f2, wrap64 ((wrap64 ((wrap64 (x1_1 + 1)) + 1)) + 1)⟩ : S103)) (k103_mkM _ _ _ (⟨(rd_T103 y159 x5_1).f0, (rd_T103 y159 x5_1).f1, (rd_T103 y159 x5_1).f2, wrap64 ((wrap64 ((wrap64 (x1_1 + 1)) + 1)) + 1)⟩ : S103) ) (fun _ hk => hk); have hx16_3 := hcc16 3 _ rfl; (try simp only [show (k103).sz = 4 from rfl, Nat.mul_one, Nat.add_zero] at hx16_3); have hf16_3 := hfr16 3; (try simp only [show (k103).sz = 4 from rfl, Nat.mul_one, Nat.add_zero] at hf16_3); clear hcl16 hcc16 hfr16; (try clear hM16)) | ((with_reducible refine gate_store (t := 2) (p := 37) rfl ?_); refine store_event (t := 2) (p := 37) (v := ?vo_w17) (w1 := (w15.setCell ⟨go5, (x5_1 : Int).toNat * 4 + 3, none⟩ (.int .i64 (wrap64 ((wrap64 ((wrap64 (x1_1 + 1)) + 1)) + 1))))) ?hg ?ho ?hn ?hr ?_; (case ho => rfl); (case hg => rfl); (case hn => rfl); (case hr => first | (go_simp; done) | (go_simp; rfl)); intro w17 hw; have hg : w15.grownBy w17 (some go5) := (by rw [hw]; exact HP16.2); have hp_ : Kd.R k103 103 w17 w0.heap.size (fun k_ => (P0_ k_ ∨ w.heap.size ≤ k_)) (.slice (some ⟨go5, 0, none⟩) x0_1.length co9) y160 := (by rw [hw, Ny160.out]; exact HP16.1); clear HP16; replace HB := Aside0.mk ((by rw [hw]; exact below_set (HB.out) GB5.out : Below w0.heap.size w0 w17)); replace HK := Aside0.mk (Kept.of_grown (S := (fun k_ => P0_ k_)) hg (by repeat (first | (with_reducible first | exact HK.out | apply Kept.alloc | apply Kept.drewN | apply Kept.drew) | exact HK.out)) (fun k_ e_ => (HO_0.out.1 k_ e_))); replace HO_0 := Aside0.mk (hp_); clear hg hw hp_))
    go_roundg k1
    case measure => have := HK1.out; omega
    case rel => exact ⟨(y160), (wrap64 ((wrap64 ((wrap64 ((wrap64 (x1_1 + 1)) + 1)) + 1)) + 1)), (wrap64 (x5_1 + 1)), zR, zR, H', ⟨by have := HK1.out; omega⟩, ⟨pR HO_0.out⟩, ⟨by repeat (first | (with_reducible first | exact HK.out | apply Kept.alloc | apply Kept.drewN | apply Kept.drew) | exact HK.out)⟩, ⟨pB0 HB.out⟩⟩
def laws_markLeaf.f (k : Nat) (a0_0 : ByteArray) (a0_1 : ByteArray) (a0_2 : Int) (a0_3 : ByteArray) (a0_4 : Int) (a0_5 : Int) (a0_6 : Int) (a0_7 : Int) (l0_8 : List (S103)) (a1 : Int) : Option (Int × (List (S103))) := (laws_markBoxS.f k l0_8 a1).bind fun bt162 => (some (bt162.1, bt162.2))
theorem laws_markLeaf.mono : ∀ a0 a1 a2 a3 a4 a5 a6 a7 a8 a9 k, LeO (laws_markLeaf.f k a0 a1 a2 a3 a4 a5 a6 a7 a8 a9) (laws_markLeaf.f (k + 1) a0 a1 a2 a3 a4 a5 a6 a7 a8 a9) := by
 intro a0 a1 a2 a3 a4 a5 a6 a7 a8 a9 k; unfold laws_markLeaf.f
 repeat' first
  | (with_reducible exact laws_markBoxS.mono _ _ _)
  | (with_reducible exact LeO.refl _)
  | (with_reducible exact LeO.none _)
  | (with_reducible refine LeO.ite ?_ ?_)
  | (with_reducible refine LeO.bind ?_ (fun _ => ?_))
  | exact laws_markBoxS.mono _ _ _
  | exact LeO.none _
  | refine LeO.ite ?_ ?_
  | refine LeO.bind ?_ (fun _ => ?_)
set_option maxHeartbeats 8000000 in
set_option maxRecDepth 100000 in
theorem laws_markLeaf.calls (k : Nat) (a0_0 : ByteArray) (a0_1 : ByteArray) (a0_2 : Int) (a0_3 : ByteArray) (a0_4 : Int) (a0_5 : Int) (a0_6 : Int) (a0_7 : Int) (P0_8_ : Nat → Prop) (u9000_ : Value) (l0_8 : List (S103)) (a1 : Int) (r1 : Int) (r2 : List (S103)) (w0 w : World) (hB : Below w0.heap.size w0 w) (ho0_8 : Kd.R k103 103 w w0.heap.size P0_8_ u9000_ l0_8) (h : laws_markLeaf.f k a0_0 a0_1 a0_2 a0_3 a0_4 a0_5 a0_6 a0_7 l0_8 a1 = some (r1, r2)) :
 Calls Try.prog 21 #[.agg #[.string a0_0, .string a0_1, .int .i64 a0_2, .string a0_3, .int .i64 a0_4, .int .i64 a0_5, .int .i64 a0_6, .int .i64 a0_7, u9000_], .int .i64 a1] w fun e w' => e = .returned (.int .i64 r1) ∧ Kd.R k103 103 w' w0.heap.size (fun k_ => (P0_8_ k_ ∨ w.heap.size ≤ k_)) u9000_ r2 ∧ Below w0.heap.size w0 w' ∧ Kept w w' (fun k_ => P0_8_ k_) := by
 have hu36 := Try.underlying36
 have HO0_8 := Aside0.mk (show Kd.R k103 103 w w0.heap.size (fun k_ => (P0_8_ k_ ∨ w.heap.size ≤ k_)) u9000_ l0_8 from Kd.R_mono ho0_8 (fun k_ hk => (.inl hk)))
 have HK := Aside0.mk (Kept.refl w (fun k_ => P0_8_ k_))
 have HW0 := Aside0.mk hB.size; have HB := Aside0.mk hB; clear hB
 have H : ((laws_markBoxS.f k l0_8 a1).bind fun bt162 => (some (bt162.1, bt162.2))) = some (r1, r2) := h
 clear h; replace H := Option.bind_eq_some_iff.mp H; obtain ⟨⟨t162, t163⟩, A30, H⟩ := H; replace H : (some (t162, t163)) = some (r1, r2) := H; have A3 := Aside0.mk A30; clear A30; simp only [Option.some.injEq, Prod.mk.injEq] at H; obtain ⟨rfl, rfl⟩ := H; obtain ⟨Ao4, co4, eo4⟩ := Kd.R_slice HO0_8.out; subst eo4
 go_enter Try.func21, Try.ntmps21
 go_wp2_with (first | ((with_reducible refine zI 2 rfl ?_); refine zB 2 #[.string a0_0, .string a0_1, .int .i64 a0_2, .string a0_3, .int .i64 a0_4, .int .i64 a0_5, .int .i64 a0_6, .int .i64 a0_7, .slice Ao4 l0_8.length co4] 36 ?_; intro gb161 hg w5 hbox hb; have BK161 := Aside0.mk (hbox); have GW161 := Aside0.mk ((by rw [hg]; exact (by first | exact HK.out.1 | exact (show Kept w _ (fun k_ => P0_8_ k_) from by repeat (first | (with_reducible first | exact HK.out | apply Kept.alloc | apply Kept.drewN | apply Kept.drew) | exact HK.out)).1) : w.heap.size ≤ gb161)); have GE161 := Aside0.mk ((by rw [hg]; exact (below_size (pB0 HB.out)) : w0.heap.size ≤ gb161)); replace HO0_8 := Aside0.mk (Kd.R_below (pR HO0_8.out) hb); replace HK := Aside0.mk (Kept.below (S := (fun k_ => P0_8_ k_)) (by repeat (first | (with_reducible first | exact HK.out | apply Kept.alloc | apply Kept.drewN | apply Kept.drew) | exact HK.out)) hb); replace HB := zW (pB0 HB.out) hb; clear hb hbox hg; obtain ⟨Y6_0, X6_0, Y6_1, X6_1, Y6_2, X6_2, Y6_3, X6_3, Y6_4, X6_4, Y6_5, X6_5, Y6_6, X6_6, Y6_7, X6_7, Y6_8, X6_8⟩ := zw9 BK161) | ((with_reducible refine gate_callee (f := 27) rfl ?_); refine zJ (some 8) Try.func27 #[.slice Ao4 l0_8.length co4, .int .i64 a1] ?_; (with_reducible refine (laws_markBoxS.calls k (fun k_ => some k_ = (.slice Ao4 l0_8.length co4 : Value).ownBlock) (.slice Ao4 l0_8.length co4) l0_8 a1 t162 t163 w0 _ ?side1 ?side2 A3.out).mono ?_); (case side1 => repeat (first | (with_reducible first | exact HB.out | apply below_alloc | apply pw_below_drewN | apply below_drew1 | refine below_set ?_ GE161.out) | exact HB.out)); (case side2 => exact Kd.R_tight rfl HO0_8.out); rintro e w7 ⟨rfl, hy0, hb, hkp⟩; refine ⟨_, rfl, ?_⟩; replace BK161 := Aside0.mk (blk_kept (pK BK161.out) hkp (fun hs_ => (fun e_ => (Kd.R_ne HO0_8.out BK161.out (by decide)) e_) hs_)); replace HK := Aside0.mk (Kept.then_ (S := (fun k_ => P0_8_ k_)) (by repeat (first | (with_reducible first | exact HK.out | apply Kept.alloc | apply Kept.drewN | apply Kept.drew | refine Kept.setCell ?_ (.inr GW161.out) _) | exact HK.out)) hkp (fun k_ hs_ => (fun e_ => (HO0_8.out.1 k_ e_.symm)) hs_)); replace HO0_8 := Aside0.mk (Kd.R_reok rfl hy0 (fun k_ e_ => HO0_8.out.1 k_ e_)); replace HB := Aside0.mk (hb); (try clear hb); (try clear hkp); (try clear hy0)))
 go_ret
 exact ⟨zE, by (with_reducible repeat (first | apply Kd.R_alloc | apply Kd.R_drewN | apply Kd.R_drew)); exact HO0_8.out, pB1 HB.out GE161.out, by repeat (first | (with_reducible first | exact HK.out | apply Kept.alloc | apply Kept.drewN | apply Kept.drew | refine Kept.setCell ?_ (.inr GW161.out) _) | exact HK.out)⟩
def spec_l00In.f (a0 : Int) (a1 : Int) (a2 : Int) : Option (Bool) := if a0 ≥ a1 then (some (decide (a0 ≤ a2))) else (some false)
set_option maxHeartbeats 8000000 in
set_option maxRecDepth 100000 in
theorem spec_l00In.calls (a0 : Int) (a1 : Int) (a2 : Int) (r : Bool) (w : World) (h : spec_l00In.f a0 a1 a2 = some r) :
 Calls Try.prog 81 #[.int .i64 a0, .int .i64 a1, .int .i64 a2] w fun e w' => e = .returned (.bool r) ∧ Drawn0 w w' := by
 have H : (if a0 ≥ a1 then (some (decide (a0 ≤ a2))) else (some false)) = some r := h; clear h
 by_cases c4 : a0 ≥ a1
 · rw [if_pos c4] at H
   have c4b0 := decide_eq_true c4; clear c4; obtain rfl := Option.some.inj H
   go_enter Try.func81, Try.ntmps81
   go_wp2
   go_ret
   exact ⟨by first | rfl | (simp; done) | (simp [*]; done), zV⟩
 rw [if_neg c4] at H; have c4b0 := decide_eq_false c4; clear c4; obtain rfl := Option.some.inj H
 go_enter Try.func81, Try.ntmps81
 go_wp2
 go_ret
 exact ⟨by first | rfl | (simp; done) | (simp [*]; done), zV⟩
def spec_l02Ok.f (a0_0 : Int) (a0_1 : Int) : Option (Bool) := (spec_l00In.f a0_0 0 20000).bind fun t165 => (if t165 = true then ((spec_l00In.f a0_1 0 20000).bind fun t166 => (some t166)) else (some false))
set_option maxHeartbeats 8000000 in
set_option maxRecDepth 100000 in
theorem spec_l02Ok.calls (a0_0 : Int) (a0_1 : Int) (r : Bool) (w : World) (h : spec_l02Ok.f a0_0 a0_1 = some r) :
 Calls Try.prog 87 #[.agg #[.int .i64 a0_0, .int .i64 a0_1]] w fun e w' => e = .returned (.bool r) ∧ Below w.heap.size w w' := by
 have hu91 := Try.underlying91; have HB := Aside0.mk (Below.refl w.heap.size w)
 have H : ((spec_l00In.f a0_0 0 20000).bind fun t165 => (if t165 = true then ((spec_l00In.f a0_1 0 20000).bind fun t166 => (some t166)) else (some false))) = some r := h
 clear h; replace H := Option.bind_eq_some_iff.mp H; obtain ⟨t165, A20, H⟩ := H; have A2 := Aside0.mk A20; clear A20
 by_cases c3 : t165 = true
 rotate_left
 · replace c3 := Bool.eq_false_iff.mpr c3
   subst c3
   rw [if_neg (show ¬ (false = true) by decide)] at H
   obtain rfl := Option.some.inj H
   go_enter Try.func87, Try.ntmps87
   go_wp2_with (first | ((with_reducible refine zI 1 rfl ?_); refine zB 1 #[.int .i64 a0_0, .int .i64 a0_1] 91 ?_; intro gb164 hg w7 hbox hb; have BK164 := Aside0.mk (hbox); have GW164 := zS (pB0 HB.out) hg; have GE164 := GW164; replace HB := zW (pB0 HB.out) hb; clear hb hbox hg; obtain ⟨Y8_0, X8_0, Y8_1, X8_1⟩ := zw2 BK164) | ((with_reducible refine gate_callee (f := 81) rfl ?_); refine zJ (some 5) Try.func81 #[.int .i64 a0_0, .int .i64 0, .int .i64 20000] ?_; (with_reducible refine (spec_l00In.calls a0_0 0 20000 false _ A2.out).mono ?_); rintro e w' ⟨rfl, ⟨nd, rfl⟩⟩; refine ⟨_, rfl, ?_⟩))
   go_ret
   exact ⟨zE, pB1 HB.out GE164.out⟩
 subst c3; rw [if_pos rfl] at H; replace H := Option.bind_eq_some_iff.mp H; obtain ⟨t166, A40, H⟩ := H; have A4 := Aside0.mk A40; clear A40; obtain rfl := Option.some.inj H
 go_enter Try.func87, Try.ntmps87
 go_wp2_with (first | ((with_reducible refine zI 1 rfl ?_); refine zB 1 #[.int .i64 a0_0, .int .i64 a0_1] 91 ?_; intro gb164 hg w5 hbox hb; have BK164 := Aside0.mk (hbox); have GW164 := zS (pB0 HB.out) hg; have GE164 := GW164; replace HB := zW (pB0 HB.out) hb; clear hb hbox hg; obtain ⟨Y6_0, X6_0, Y6_1, X6_1⟩ := zw2 BK164) | ((with_reducible refine gate_callee (f := 81) rfl ?_); refine zJ (some 5) Try.func81 #[.int .i64 a0_0, .int .i64 0, .int .i64 20000] ?_; (with_reducible refine (spec_l00In.calls a0_0 0 20000 true _ A2.out).mono ?_); rintro e w' ⟨rfl, ⟨nd, rfl⟩⟩; refine ⟨_, rfl, ?_⟩) | (go_at_call 81; (with_reducible refine (spec_l00In.calls a0_1 0 20000 t166 _ A4.out).mono ?_); rintro e w' ⟨rfl, ⟨nd, rfl⟩⟩))
 go_ret
 exact ⟨zE, pB1 HB.out GE164.out⟩
def spec_l00Min.f (a0 : Int) (a1 : Int) : Option (Int) := if a0 < a1 then (some a0) else (some a1)
set_option maxHeartbeats 8000000 in
set_option maxRecDepth 100000 in
theorem spec_l00Min.calls (a0 : Int) (a1 : Int) (r : Int) (w : World) (h : spec_l00Min.f a0 a1 = some r) :
 Calls Try.prog 104 #[.int .i64 a0, .int .i64 a1] w fun e w' => e = .returned (.int .i64 r) ∧ Drawn0 w w' := by
 have H : (if a0 < a1 then (some a0) else (some a1)) = some r := h; clear h
 by_cases c3 : a0 < a1
 · rw [if_pos c3] at H
   have c3b0 := decide_eq_true c3; clear c3; obtain rfl := Option.some.inj H
   go_enter Try.func104, Try.ntmps104
   go_wp2
   go_ret
   exact ⟨by first | rfl | (simp; done) | (simp [*]; done), zV⟩
 rw [if_neg c3] at H; have c3b0 := decide_eq_false c3; clear c3; obtain rfl := Option.some.inj H
 go_enter Try.func104, Try.ntmps104
 go_wp2
 go_ret
 exact ⟨by first | rfl | (simp; done) | (simp [*]; done), zV⟩
def spec_l00Max.f (a0 : Int) (a1 : Int) : Option (Int) := if a0 > a1 then (some a0) else (some a1)
set_option maxHeartbeats 8000000 in
set_option maxRecDepth 100000 in
theorem spec_l00Max.calls (a0 : Int) (a1 : Int) (r : Int) (w : World) (h : spec_l00Max.f a0 a1 = some r) :
 Calls Try.prog 105 #[.int .i64 a0, .int .i64 a1] w fun e w' => e = .returned (.int .i64 r) ∧ Drawn0 w w' := by
 have H : (if a0 > a1 then (some a0) else (some a1)) = some r := h; clear h
 by_cases c3 : a0 > a1
 · rw [if_pos c3] at H
   have c3b0 := decide_eq_true c3; clear c3; obtain rfl := Option.some.inj H
   go_enter Try.func105, Try.ntmps105
   go_wp2
   go_ret
   exact ⟨by first | rfl | (simp; done) | (simp [*]; done), zV⟩
 rw [if_neg c3] at H; have c3b0 := decide_eq_false c3; clear c3; obtain rfl := Option.some.inj H
 go_enter Try.func105, Try.ntmps105
 go_wp2
 go_ret
 exact ⟨by first | rfl | (simp; done) | (simp [*]; done), zV⟩
def spec_l02Cross.f (a0_0 : Int) (a0_1 : Int) (a1_0 : Int) (a1_1 : Int) (a2_0 : Int) (a2_1 : Int) : Option (Int) := some (wrap64 ((wrap64 ((wrap64 (a1_0 - a0_0)) * (wrap64 (a2_1 - a0_1)))) - (wrap64 ((wrap64 (a1_1 - a0_1)) * (wrap64 (a2_0 - a0_0))))))
set_option maxHeartbeats 8000000 in
set_option maxRecDepth 100000 in
theorem spec_l02Cross.calls (a0_0 : Int) (a0_1 : Int) (a1_0 : Int) (a1_1 : Int) (a2_0 : Int) (a2_1 : Int) (r : Int) (w : World) (h : spec_l02Cross.f a0_0 a0_1 a1_0 a1_1 a2_0 a2_1 = some r) :
 Calls Try.prog 140 #[.agg #[.int .i64 a0_0, .int .i64 a0_1], .agg #[.int .i64 a1_0, .int .i64 a1_1], .agg #[.int .i64 a2_0, .int .i64 a2_1]] w fun e w' => e = .returned (.int .i64 r) ∧ Below w.heap.size w w' := by
 have hu91 := Try.underlying91; have HB := Aside0.mk (Below.refl w.heap.size w); have H : (some (wrap64 ((wrap64 ((wrap64 (a1_0 - a0_0)) * (wrap64 (a2_1 - a0_1)))) - (wrap64 ((wrap64 (a1_1 - a0_1)) * (wrap64 (a2_0 - a0_0))))))) = some r := h; clear h; obtain rfl := Option.some.inj H
 go_enter Try.func140, Try.ntmps140
 go_wp2_with (first | ((with_reducible refine zI 3 rfl ?_); refine zB 3 #[.int .i64 a0_0, .int .i64 a0_1] 91 ?_; intro gb167 hg w4 hbox hb; have BK167 := Aside0.mk (hbox); have GW167 := zS (pB0 HB.out) hg; have GE167 := GW167; replace HB := zW (pB0 HB.out) hb; clear hb hbox hg) | ((with_reducible refine zI 4 rfl ?_); refine zB 4 #[.int .i64 a1_0, .int .i64 a1_1] 91 ?_; intro gb168 hg w5 hbox hb; have BK168 := Aside0.mk (hbox); have GW168 := zS (pB1 HB.out GE167.out) hg; have GE168 := GW168; have NB167_168 := zL BK167 hg; have NB168_167 := zM BK167 hg; replace BK167 := zK BK167 hb; replace HB := zW (pB1 HB.out GE167.out) hb; clear hb hbox hg) | ((with_reducible refine zI 5 rfl ?_); refine zB 5 #[.int .i64 a2_0, .int .i64 a2_1] 91 ?_; intro gb169 hg w6 hbox hb; have BK169 := Aside0.mk (hbox); have GW169 := zS (pB2 HB.out GE167.out GE168.out) hg; have GE169 := GW169; have NB167_169 := zL BK167 hg; have NB169_167 := zM BK167 hg; have NB168_169 := zL BK168 hg; have NB169_168 := zM BK168 hg; replace BK167 := zK BK167 hb; replace BK168 := zK BK168 hb; replace HB := zW (pB2 HB.out GE167.out GE168.out) hb; clear hb hbox hg; have hnb7 := NB168_167.out; have hnc7 := NB167_168.out; have hnb8 := NB168_169.out; have hnc8 := NB169_168.out; obtain ⟨Y9_0, X9_0, Y9_1, X9_1⟩ := zw2 BK168; have hnb10 := NB167_169.out; have hnc10 := NB169_167.out; obtain ⟨Y11_0, X11_0, Y11_1, X11_1⟩ := zw2 BK167; obtain ⟨Y12_0, X12_0, Y12_1, X12_1⟩ := zw2 BK169))
 go_ret
 exact ⟨zE, pB3 HB.out GE167.out GE168.out GE169.out⟩
def spec_l02Side.f (a0_0 : Int) (a0_1 : Int) (a1_0 : Int) (a1_1 : Int) (a2_0 : Int) (a2_1 : Int) : Option (Int) := (spec_l02Cross.f a0_0 a0_1 a1_0 a1_1 a2_0 a2_1).bind fun t173 => (if t173 > 0 then (some 1) else (if t173 < 0 then (some (-1)) else (some 0)))
set_option maxHeartbeats 8000000 in
set_option maxRecDepth 100000 in
theorem spec_l02Side.calls (a0_0 : Int) (a0_1 : Int) (a1_0 : Int) (a1_1 : Int) (a2_0 : Int) (a2_1 : Int) (r : Int) (w : World) (h : spec_l02Side.f a0_0 a0_1 a1_0 a1_1 a2_0 a2_1 = some r) :
 Calls Try.prog 125 #[.agg #[.int .i64 a0_0, .int .i64 a0_1], .agg #[.int .i64 a1_0, .int .i64 a1_1], .agg #[.int .i64 a2_0, .int .i64 a2_1]] w fun e w' => e = .returned (.int .i64 r) ∧ Below w.heap.size w w' := by
 have hu91 := Try.underlying91; have HB := Aside0.mk (Below.refl w.heap.size w)
 have H : ((spec_l02Cross.f a0_0 a0_1 a1_0 a1_1 a2_0 a2_1).bind fun t173 => (if t173 > 0 then (some 1) else (if t173 < 0 then (some (-1)) else (some 0)))) = some r := h
 clear h; replace H := Option.bind_eq_some_iff.mp H; obtain ⟨t173, A40, H⟩ := H; have A4 := Aside0.mk A40; clear A40
 by_cases c5 : t173 > 0
 · rw [if_pos c5] at H
   have c5b0 := decide_eq_true c5; clear c5; obtain rfl := Option.some.inj H
   go_enter Try.func125, Try.ntmps125
   go_wp2_with (first | ((with_reducible refine zI 3 rfl ?_); refine zB 3 #[.int .i64 a0_0, .int .i64 a0_1] 91 ?_; intro gb170 hg w6 hbox hb; have BK170 := Aside0.mk (hbox); have GW170 := zS (pB0 HB.out) hg; have GE170 := GW170; replace HB := zW (pB0 HB.out) hb; clear hb hbox hg) | ((with_reducible refine zI 4 rfl ?_); refine zB 4 #[.int .i64 a1_0, .int .i64 a1_1] 91 ?_; intro gb171 hg w7 hbox hb; have BK171 := Aside0.mk (hbox); have GW171 := zS (pB1 HB.out GE170.out) hg; have GE171 := GW171; have NB170_171 := zL BK170 hg; have NB171_170 := zM BK170 hg; replace BK170 := zK BK170 hb; replace HB := zW (pB1 HB.out GE170.out) hb; clear hb hbox hg) | ((with_reducible refine zI 5 rfl ?_); refine zB 5 #[.int .i64 a2_0, .int .i64 a2_1] 91 ?_; intro gb172 hg w8 hbox hb; have BK172 := Aside0.mk (hbox); have GW172 := zS (pB2 HB.out GE170.out GE171.out) hg; have GE172 := GW172; have NB170_172 := zL BK170 hg; have NB172_170 := zM BK170 hg; have NB171_172 := zL BK171 hg; have NB172_171 := zM BK171 hg; replace BK170 := zK BK170 hb; replace BK171 := zK BK171 hb; replace HB := zW (pB2 HB.out GE170.out GE171.out) hb; clear hb hbox hg; have hnb9 := NB170_171.out; have hnc9 := NB171_170.out; have hnb10 := NB170_172.out; have hnc10 := NB172_170.out; obtain ⟨Y11_0, X11_0, Y11_1, X11_1⟩ := zw2 BK170; have hnb12 := NB171_172.out; have hnc12 := NB172_171.out; obtain ⟨Y13_0, X13_0, Y13_1, X13_1⟩ := zw2 BK171; obtain ⟨Y14_0, X14_0, Y14_1, X14_1⟩ := zw2 BK172) | ((with_reducible refine gate_callee (f := 140) rfl ?_); refine zJ (some 11) Try.func140 #[.agg #[.int .i64 a0_0, .int .i64 a0_1], .agg #[.int .i64 a1_0, .int .i64 a1_1], .agg #[.int .i64 a2_0, .int .i64 a2_1]] ?_; (with_reducible refine (spec_l02Cross.calls a0_0 a0_1 a1_0 a1_1 a2_0 a2_1 t173 _ A4.out).mono ?_); rintro e w15 ⟨rfl, hb⟩; refine ⟨_, rfl, ?_⟩; replace BK170 := zK BK170 hb; replace BK171 := zK BK171 hb; replace BK172 := zK BK172 hb; replace HB := zW (pB3 HB.out GE170.out GE171.out GE172.out) hb; (try clear hb); (try clear hb2); (try clear hk); (try clear hi)))
   go_ret
   exact ⟨zE, pB3 HB.out GE170.out GE171.out GE172.out⟩
 rw [if_neg c5] at H; have c5b0 := decide_eq_false c5; clear c5
 by_cases c16 : t173 < 0
 · rw [if_pos c16] at H
   have c16b0 := decide_eq_true c16; clear c16; obtain rfl := Option.some.inj H
   go_enter Try.func125, Try.ntmps125
   go_wp2_with (first | ((with_reducible refine zI 3 rfl ?_); refine zB 3 #[.int .i64 a0_0, .int .i64 a0_1] 91 ?_; intro gb170 hg w17 hbox hb; have BK170 := Aside0.mk (hbox); have GW170 := zS (pB0 HB.out) hg; have GE170 := GW170; replace HB := zW (pB0 HB.out) hb; clear hb hbox hg) | ((with_reducible refine zI 4 rfl ?_); refine zB 4 #[.int .i64 a1_0, .int .i64 a1_1] 91 ?_; intro gb171 hg w18 hbox hb; have BK171 := Aside0.mk (hbox); have GW171 := zS (pB1 HB.out GE170.out) hg; have GE171 := GW171; have NB170_171 := zL BK170 hg; have NB171_170 := zM BK170 hg; replace BK170 := zK BK170 hb; replace HB := zW (pB1 HB.out GE170.out) hb; clear hb hbox hg) | ((with_reducible refine zI 5 rfl ?_); refine zB 5 #[.int .i64 a2_0, .int .i64 a2_1] 91 ?_; intro gb172 hg w19 hbox hb; have BK172 := Aside0.mk (hbox); have GW172 := zS (pB2 HB.out GE170.out GE171.out) hg; have GE172 := GW172; have NB170_172 := zL BK170 hg; have NB172_170 := zM BK170 hg; have NB171_172 := zL BK171 hg; have NB172_171 := zM BK171 hg; replace BK170 := zK BK170 hb; replace BK171 := zK BK171 hb; replace HB := zW (pB2 HB.out GE170.out GE171.out) hb; clear hb hbox hg; have hnb20 := NB170_171.out; have hnc20 := NB171_170.out; have hnb21 := NB170_172.out; have hnc21 := NB172_170.out; obtain ⟨Y22_0, X22_0, Y22_1, X22_1⟩ := zw2 BK170; have hnb23 := NB171_172.out; have hnc23 := NB172_171.out; obtain ⟨Y24_0, X24_0, Y24_1, X24_1⟩ := zw2 BK171; obtain ⟨Y25_0, X25_0, Y25_1, X25_1⟩ := zw2 BK172) | ((with_reducible refine gate_callee (f := 140) rfl ?_); refine zJ (some 11) Try.func140 #[.agg #[.int .i64 a0_0, .int .i64 a0_1], .agg #[.int .i64 a1_0, .int .i64 a1_1], .agg #[.int .i64 a2_0, .int .i64 a2_1]] ?_; (with_reducible refine (spec_l02Cross.calls a0_0 a0_1 a1_0 a1_1 a2_0 a2_1 t173 _ A4.out).mono ?_); rintro e w26 ⟨rfl, hb⟩; refine ⟨_, rfl, ?_⟩; replace BK170 := zK BK170 hb; replace BK171 := zK BK171 hb; replace BK172 := zK BK172 hb; replace HB := zW (pB3 HB.out GE170.out GE171.out GE172.out) hb; (try clear hb); (try clear hb2); (try clear hk); (try clear hi)))
   go_ret
   exact ⟨zE, pB3 HB.out GE170.out GE171.out GE172.out⟩
 rw [if_neg c16] at H; have c16b0 := decide_eq_false c16; clear c16; obtain rfl := Option.some.inj H
 go_enter Try.func125, Try.ntmps125
 go_wp2_with (first | ((with_reducible refine zI 3 rfl ?_); refine zB 3 #[.int .i64 a0_0, .int .i64 a0_1] 91 ?_; intro gb170 hg w27 hbox hb; have BK170 := Aside0.mk (hbox); have GW170 := zS (pB0 HB.out) hg; have GE170 := GW170; replace HB := zW (pB0 HB.out) hb; clear hb hbox hg) | ((with_reducible refine zI 4 rfl ?_); refine zB 4 #[.int .i64 a1_0, .int .i64 a1_1] 91 ?_; intro gb171 hg w28 hbox hb; have BK171 := Aside0.mk (hbox); have GW171 := zS (pB1 HB.out GE170.out) hg; have GE171 := GW171; have NB170_171 := zL BK170 hg; have NB171_170 := zM BK170 hg; replace BK170 := zK BK170 hb; replace HB := zW (pB1 HB.out GE170.out) hb; clear hb hbox hg) | ((with_reducible refine zI 5 rfl ?_); refine zB 5 #[.int .i64 a2_0, .int .i64 a2_1] 91 ?_; intro gb172 hg w29 hbox hb; have BK172 := Aside0.mk (hbox); have GW172 := zS (pB2 HB.out GE170.out GE171.out) hg; have GE172 := GW172; have NB170_172 := zL BK170 hg; have NB172_170 := zM BK170 hg; have NB171_172 := zL BK171 hg; have NB172_171 := zM BK171 hg; replace BK170 := zK BK170 hb; replace BK171 := zK BK171 hb; replace HB := zW (pB2 HB.out GE170.out GE171.out) hb; clear hb hbox hg; have hnb30 := NB170_171.out; have hnc30 := NB171_170.out; have hnb31 := NB170_172.out; have hnc31 := NB172_170.out; obtain ⟨Y32_0, X32_0, Y32_1, X32_1⟩ := zw2 BK170; have hnb33 := NB171_172.out; have hnc33 := NB172_171.out; obtain ⟨Y34_0, X34_0, Y34_1, X34_1⟩ := zw2 BK171; obtain ⟨Y35_0, X35_0, Y35_1, X35_1⟩ := zw2 BK172) | ((with_reducible refine gate_callee (f := 140) rfl ?_); refine zJ (some 11) Try.func140 #[.agg #[.int .i64 a0_0, .int .i64 a0_1], .agg #[.int .i64 a1_0, .int .i64 a1_1], .agg #[.int .i64 a2_0, .int .i64 a2_1]] ?_; (with_reducible refine (spec_l02Cross.calls a0_0 a0_1 a1_0 a1_1 a2_0 a2_1 t173 _ A4.out).mono ?_); rintro e w36 ⟨rfl, hb⟩; refine ⟨_, rfl, ?_⟩; replace BK170 := zK BK170 hb; replace BK171 := zK BK171 hb; replace BK172 := zK BK172 hb; replace HB := zW (pB3 HB.out GE170.out GE171.out GE172.out) hb; (try clear hb); (try clear hb2); (try clear hk); (try clear hi)))
 go_ret
 exact ⟨zE, pB3 HB.out GE170.out GE171.out GE172.out⟩
end Go.Proofs.Ytfiiakhpdkdebaa.PFnExactOffcutsOf

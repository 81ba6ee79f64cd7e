/- What each function that a law reaches comes to, and the proof that its walk comes to it; laid by a program of this session. No condition. -/
import Derived.Test.YtmaipnbadfplfaaZFnExactSamePacket0
import Derived.Test.YtmaipnbadfplfaaZFnExactSamePacket2
import Derived.Test.YtmaipnbadfplfaaZFnExactSamePacket3
import Derived.Test.YtmaipnbadfplfaaZFnExactSamePacket4
namespace Go.Proofs.Ytmaipnbadfplfaa.PFnExactSamePacket
open Go.RowKit Go.Proofs.YtmaipnbadfplfaaW.PrintWords Go.Proofs.YtmaipnbadfplfaaW.PrintLast Go.Proofs.YtmaipnbadfplfaaW.PrintMore
attribute [local go_sem] max2_int min2_int max_two min_two max_three min_three max_four min_four
set_option linter.unusedVariables false
set_option linter.unusedSimpArgs false
def laws_FnExactSamePacket.f (k : Nat) (l0_0 : List (S117)) (l0_1 : List Int) (l1_0 : List (S117)) (l1_1 : List Int) : Option (Bool) := (laws_szPacket.f k l0_0 l0_1 1048576).bind fun t160 => (if t160 < 0 then (some true) else ((laws_szPacket.f k l1_0 l1_1 t160).bind fun t161 => (if t161 < 0 then (some true) else ((laws_toPacket.f k l0_0 l0_1).bind fun bt162 => ((laws_toPacket.f k l1_0 l1_1).bind fun bt168 => ((spec_SamePacket.f k bt162.1 bt162.2 bt168.1 bt168.2).bind fun t174 => ((laws_toPacket.f k l0_0 l0_1).bind fun bt175 => ((laws_toPacket.f k l1_0 l1_1).bind fun bt182 => ((impl_SamePacket.f k bt175.1 bt175.2 bt182.1 bt182.2).bind fun t189 => (if (t189 != t174) = true then (some false) else ((laws_toPacket.f k l0_0 l0_1).bind fun bt190 => ((laws_eqPacket.f k bt175.1 bt175.2 bt190.1 bt190.2).bind fun t196 => (if t196 = true then ((laws_toPacket.f k l1_0 l1_1).bind fun bt197 => ((laws_eqPacket.f k bt182.1 bt182.2 bt197.1 bt197.2).bind fun t203 => (if t203 = true then (some true) else (some false)))) else (some false))))))))))))))
theorem laws_FnExactSamePacket.mono : ∀ a0 a1 a2 a3 k, LeO (laws_FnExactSamePacket.f k a0 a1 a2 a3) (laws_FnExactSamePacket.f (k + 1) a0 a1 a2 a3) := by
  intro a0 a1 a2 a3 k
  unfold laws_FnExactSamePacket.f
  repeat' first
      | (with_reducible exact impl_SamePacket.mono _ _ _ _ _)
      | (with_reducible exact laws_eqPacket.mono _ _ _ _ _)
      | (with_reducible exact laws_szPacket.mono _ _ _ _)
      | (with_reducible exact laws_toPacket.mono _ _ _)
      | (with_reducible exact spec_SamePacket.mono _ _ _ _ _)
      | (with_reducible exact LeO.refl _)
      | (with_reducible exact LeO.none _)
      | (with_reducible refine LeO.ite ?_ ?_)
      | (with_reducible refine LeO.bind ?_ (fun _ => ?_))
      | exact impl_SamePacket.mono _ _ _ _ _
      | exact laws_eqPacket.mono _ _ _ _ _
      | exact laws_szPacket.mono _ _ _ _
      | exact laws_toPacket.mono _ _ _
      | exact spec_SamePacket.mono _ _ _ _ _
      | exact LeO.none _
      | refine LeO.ite ?_ ?_
      | refine LeO.bind ?_ (fun _ => ?_)
set_option maxHeartbeats 8000000 in
set_option maxRecDepth 100000 in
theorem laws_FnExactSamePacket.calls (k : Nat) (A0_0 : Option Addr) (c0_0 : Nat) (l0_0 : List (S117)) (A0_1 : Option Addr) (c0_1 : Nat) (l0_1 : List Int) (A1_0 : Option Addr) (c1_0 : Nat) (l1_0 : List (S117)) (A1_1 : Option Addr) (c1_1 : Nat) (l1_1 : List Int) (r : Bool) (w : World) (hr0_0 : Kd.C k117 w A0_0 l0_0.length l0_0) (hc0_0 : l0_0.length ≤ c0_0) (hr0_1 : Kd.C (Kd.int .i64) w A0_1 l0_1.length l0_1) (hc0_1 : l0_1.length ≤ c0_1) (hr1_0 : Kd.C k117 w A1_0 l1_0.length l1_0) (hc1_0 : l1_0.length ≤ c1_0) (hr1_1 : Kd.C (Kd.int .i64) w A1_1 l1_1.length l1_1) (hc1_1 : l1_1.length ≤ c1_1) (h : laws_FnExactSamePacket.f k l0_0 l0_1 l1_0 l1_1 = some r) :
    Calls Try.prog 6 #[.agg #[.slice A0_0 l0_0.length c0_0, .slice A0_1 l0_1.length c0_1], .agg #[.slice A1_0 l1_0.length c1_0, .slice A1_1 l1_1.length c1_1]] w fun e w' => e = .returned (.bool r) ∧ Below w.heap.size w w' := by
  have hu40 := Try.underlying40
  have hu45 := Try.underlying45
  have HR0_0 := Aside0.mk hr0_0
  have HC0_0 := Aside0.mk hc0_0
  clear hr0_0 hc0_0
  have HR0_1 := Aside0.mk hr0_1
  have HC0_1 := Aside0.mk hc0_1
  clear hr0_1 hc0_1
  have HR1_0 := Aside0.mk hr1_0
  have HC1_0 := Aside0.mk hc1_0
  clear hr1_0 hc1_0
  have HR1_1 := Aside0.mk hr1_1
  have HC1_1 := Aside0.mk hc1_1
  clear hr1_1 hc1_1
  have HB := Aside0.mk (Below.refl w.heap.size w)
  have H : ((laws_szPacket.f k l0_0 l0_1 1048576).bind fun t160 => (if t160 < 0 then (some true) else ((laws_szPacket.f k l1_0 l1_1 t160).bind fun t161 => (if t161 < 0 then (some true) else ((laws_toPacket.f k l0_0 l0_1).bind fun bt162 => ((laws_toPacket.f k l1_0 l1_1).bind fun bt168 => ((spec_SamePacket.f k bt162.1 bt162.2 bt168.1 bt168.2).bind fun t174 => ((laws_toPacket.f k l0_0 l0_1).bind fun bt175 => ((laws_toPacket.f k l1_0 l1_1).bind fun bt182 => ((impl_SamePacket.f k bt175.1 bt175.2 bt182.1 bt182.2).bind fun t189 => (if (t189 != t174) = true then (some false) else ((laws_toPacket.f k l0_0 l0_1).bind fun bt190 => ((laws_eqPacket.f k bt175.1 bt175.2 bt190.1 bt190.2).bind fun t196 => (if t196 = true then ((laws_toPacket.f k l1_0 l1_1).bind fun bt197 => ((laws_eqPacket.f k bt182.1 bt182.2 bt197.1 bt197.2).bind fun t203 => (if t203 = true then (some true) else (some false)))) else (some false))))))))))))))) = some r := h
  clear h
  replace H := Option.bind_eq_some_iff.mp H
  obtain ⟨t160, A30, H⟩ := H
  replace H : (if t160 < 0 then (some true) else ((laws_szPacket.f k l1_0 l1_1 t160).bind fun t161 => (if t161 < 0 then (some true) else ((laws_toPacket.f k l0_0 l0_1).bind fun bt162 => ((laws_toPacket.f k l1_0 l1_1).bind fun bt168 => ((spec_SamePacket.f k bt162.1 bt162.2 bt168.1 bt168.2).bind fun t174 => ((laws_toPacket.f k l0_0 l0_1).bind fun bt175 => ((laws_toPacket.f k l1_0 l1_1).bind fun bt182 => ((impl_SamePacket.f k bt175.1 bt175.2 bt182.1 bt182.2).bind fun t189 => (if (t189 != t174) = true then (some false) else ((laws_toPacket.f k l0_0 l0_1).bind fun bt190 => ((laws_eqPacket.f k bt175.1 bt175.2 bt190.1 bt190.2).bind fun t196 => (if t196 = true then ((laws_toPacket.f k l1_0 l1_1).bind fun bt197 => ((laws_eqPacket.f k bt182.1 bt182.2 bt197.1 bt197.2).bind fun t203 => (if t203 = true then (some true) else (some false)))) else (some false)))))))))))))) = some r := H
  have A3 := Aside0.mk A30
  clear A30
  by_cases c4 : t160 < 0
  · rw [if_pos c4] at H
    have c4b0 : decide (t160 < 0) = true := decide_eq_true c4
    clear c4
    obtain rfl := Option.some.inj H
    go_enter Try.func6, Try.ntmps6
    go_wp2_with (first | ((with_reducible refine gate_dst (N := 2) rfl ?_); refine box_event ?hg (N := 2) ?hd (cs := #[.slice A0_0 l0_0.length c0_0, .slice A0_1 l0_1.length c0_1]) (t := 40) ?hr ?_; (case hd => rfl); (case hg => rfl); (case hr => first | (go_simp; done) | (go_simp; rfl)); intro gb158 hg w5 hbox hb; have n0_ := Aside0.mk (below_step (pB0 HB.out) hb); have n1_ := Aside0.mk (hbox); have n2_ := Aside0.mk ((by rw [hg]; exact (below_size (pB0 HB.out)) : w.heap.size ≤ gb158)); have n3_ := Aside0.mk ((by rw [hg]; exact (below_size (pB0 HB.out)) : w.heap.size ≤ gb158)); clear HB; have HB := n0_; have BK158 := n1_; have GW158 := n2_; have GE158 := n3_; clear n0_ n1_ n2_ n3_; clear hb hbox hg) | ((with_reducible refine gate_dst (N := 3) rfl ?_); refine box_event ?hg (N := 3) ?hd (cs := #[.slice A1_0 l1_0.length c1_0, .slice A1_1 l1_1.length c1_1]) (t := 40) ?hr ?_; (case hd => rfl); (case hg => rfl); (case hr => first | (go_simp; done) | (go_simp; rfl)); intro gb159 hg w6 hbox hb; have n0_ := Aside0.mk (blk_below (g := gb158) (o := .cells #[.slice A0_0 l0_0.length c0_0, .slice A0_1 l0_1.length c0_1] 40 (0, 0)) (pK BK158.out) hb); have n1_ := Aside0.mk (below_step (pB1 HB.out GE158.out) hb); have n2_ := Aside0.mk (hbox); have n3_ := Aside0.mk ((by rw [hg]; exact (below_size (pB1 HB.out GE158.out)) : w.heap.size ≤ gb159)); have n4_ := Aside0.mk ((by rw [hg]; exact (below_size (pB1 HB.out GE158.out)) : w.heap.size ≤ gb159)); have n5_ := Aside0.mk ((by rw [hg]; exact Nat.ne_of_lt (blk_lt (g := gb158) (o := .cells #[.slice A0_0 l0_0.length c0_0, .slice A0_1 l0_1.length c0_1] 40 (0, 0)) (pK BK158.out)) : gb158 ≠ gb159)); have n6_ := Aside0.mk ((by rw [hg]; exact Nat.ne_of_gt (blk_lt (g := gb158) (o := .cells #[.slice A0_0 l0_0.length c0_0, .slice A0_1 l0_1.length c0_1] 40 (0, 0)) (pK BK158.out)) : gb159 ≠ gb158)); clear BK158; clear HB; have BK158 := n0_; have HB := n1_; have BK159 := n2_; have GW159 := n3_; have GE159 := n4_; have NB158_159 := n5_; have NB159_158 := n6_; clear n0_ n1_ n2_ n3_ n4_ n5_ n6_; clear hb hbox hg; have hnb7 := NB158_159.out; have hnc7 := NB159_158.out; have hcz8_0 : w6.cell? ⟨gb158, 0, none⟩ = some (.slice A0_0 l0_0.length c0_0) := (blk_cell BK158.out 0).trans rfl; have hcz8_1 : w6.cell? ⟨gb158, 1, none⟩ = some (.slice A0_1 l0_1.length c0_1) := (blk_cell BK158.out 1).trans rfl; have hfz8_0 := blk_frozen BK158.out 0; have hfz8_1 := blk_frozen BK158.out 1) | ((with_reducible refine gate_callee (f := 26) rfl ?_); refine goesL_ (some 12) rfl rfl Try.func26 (by kernel_rfl) rfl #[.agg #[.slice A0_0 l0_0.length c0_0, .slice A0_1 l0_1.length c0_1], .int .i64 1048576] rfl pA ?_; (with_reducible refine (laws_szPacket.calls k _ _ l0_0 _ _ l0_1 1048576 t160 _ ?side1 ?side2 ?side3 ?side4 A3.out).mono ?_); (case side1 => exact pC (Kd.C_below HR0_0.out HB.out)); (case side2 => exact HC0_0.out); (case side3 => exact pC (Kd.C_below HR0_1.out HB.out)); (case side4 => exact HC0_1.out); rintro e w9 ⟨rfl, hb⟩; refine ⟨_, rfl, ?_⟩; have n0_ := Aside0.mk (blk_below (g := gb158) (o := .cells #[.slice A0_0 l0_0.length c0_0, .slice A0_1 l0_1.length c0_1] 40 (0, 0)) (pK BK158.out) hb); have n1_ := Aside0.mk (blk_below (g := gb159) (o := .cells #[.slice A1_0 l1_0.length c1_0, .slice A1_1 l1_1.length c1_1] 40 (0, 0)) (pK BK159.out) hb); have n2_ := Aside0.mk (below_step (pB2 HB.out GE158.out GE159.out) hb); clear BK158; clear BK159; clear HB; have BK158 := n0_; have BK159 := n1_; have HB := n2_; clear n0_ n1_ n2_; (try clear hb); (try clear hb2); (try clear hk); (try clear hi)))
    go_ret
    exact ⟨by first | rfl | (simp [errW_none, errW_some] <;> rfl) | (simp [*, errW_none, errW_some] <;> rfl), pB2 HB.out GE158.out GE159.out⟩
  · rw [if_neg c4] at H
    have c4b0 : decide (t160 < 0) = false := decide_eq_false c4
    clear c4
    replace H := Option.bind_eq_some_iff.mp H
    obtain ⟨t161, A100, H⟩ := H
    replace H : (if t161 < 0 then (some true) else ((laws_toPacket.f k l0_0 l0_1).bind fun bt162 => ((laws_toPacket.f k l1_0 l1_1).bind fun bt168 => ((spec_SamePacket.f k bt162.1 bt162.2 bt168.1 bt168.2).bind fun t174 => ((laws_toPacket.f k l0_0 l0_1).bind fun bt175 => ((laws_toPacket.f k l1_0 l1_1).bind fun bt182 => ((impl_SamePacket.f k bt175.1 bt175.2 bt182.1 bt182.2).bind fun t189 => (if (t189 != t174) = true then (some false) else ((laws_toPacket.f k l0_0 l0_1).bind fun bt190 => ((laws_eqPacket.f k bt175.1 bt175.2 bt190.1 bt190.2).bind fun t196 => (if t196 = true then ((laws_toPacket.f k l1_0 l1_1).bind fun bt197 => ((laws_eqPacket.f k bt182.1 bt182.2 bt197.1 bt197.2).bind fun t203 => (if t203 = true then (some true) else (some false)))) else (some false)))))))))))) = some r := H
    have A10 := Aside0.mk A100
    clear A100
    by_cases c11 : t161 < 0
    · rw [if_pos c11] at H
      have c11b0 : decide (t161 < 0) = true := decide_eq_true c11
      clear c11
      obtain rfl := Option.some.inj H
      go_enter Try.func6, Try.ntmps6
      go_wp2_with (first | ((with_reducible refine gate_dst (N := 2) rfl ?_); refine box_event ?hg (N := 2) ?hd (cs := #[.slice A0_0 l0_0.length c0_0, .slice A0_1 l0_1.length c0_1]) (t := 40) ?hr ?_; (case hd => rfl); (case hg => rfl); (case hr => first | (go_simp; done) | (go_simp; rfl)); intro gb158 hg w12 hbox hb; have n0_ := Aside0.mk (below_step (pB0 HB.out) hb); have n1_ := Aside0.mk (hbox); have n2_ := Aside0.mk ((by rw [hg]; exact (below_size (pB0 HB.out)) : w.heap.size ≤ gb158)); have n3_ := Aside0.mk ((by rw [hg]; exact (below_size (pB0 HB.out)) : w.heap.size ≤ gb158)); clear HB; have HB := n0_; have BK158 := n1_; have GW158 := n2_; have GE158 := n3_; clear n0_ n1_ n2_ n3_; clear hb hbox hg) | ((with_reducible refine gate_dst (N := 3) rfl ?_); refine box_event ?hg (N := 3) ?hd (cs := #[.slice A1_0 l1_0.length c1_0, .slice A1_1 l1_1.length c1_1]) (t := 40) ?hr ?_; (case hd => rfl); (case hg => rfl); (case hr => first | (go_simp; done) | (go_simp; rfl)); intro gb159 hg w13 hbox hb; have n0_ := Aside0.mk (blk_below (g := gb158) (o := .cells #[.slice A0_0 l0_0.length c0_0, .slice A0_1 l0_1.length c0_1] 40 (0, 0)) (pK BK158.out) hb); have n1_ := Aside0.mk (below_step (pB1 HB.out GE158.out) hb); have n2_ := Aside0.mk (hbox); have n3_ := Aside0.mk ((by rw [hg]; exact (below_size (pB1 HB.out GE158.out)) : w.heap.size ≤ gb159)); have n4_ := Aside0.mk ((by rw [hg]; exact (below_size (pB1 HB.out GE158.out)) : w.heap.size ≤ gb159)); have n5_ := Aside0.mk ((by rw [hg]; exact Nat.ne_of_lt (blk_lt (g := gb158) (o := .cells #[.slice A0_0 l0_0.length c0_0, .slice A0_1 l0_1.length c0_1] 40 (0, 0)) (pK BK158.out)) : gb158 ≠ gb159)); have n6_ := Aside0.mk ((by rw [hg]; exact Nat.ne_of_gt (blk_lt (g := gb158) (o := .cells #[.slice A0_0 l0_0.length c0_0, .slice A0_1 l0_1.length c0_1] 40 (0, 0)) (pK BK158.out)) : gb159 ≠ gb158)); clear BK158; clear HB; have BK158 := n0_; have HB := n1_; have BK159 := n2_; have GW159 := n3_; have GE159 := n4_; have NB158_159 := n5_; have NB159_158 := n6_; clear n0_ n1_ n2_ n3_ n4_ n5_ n6_; clear hb hbox hg; have hnb14 := NB158_159.out; have hnc14 := NB159_158.out; have hcz15_0 : w13.cell? ⟨gb158, 0, none⟩ = some (.slice A0_0 l0_0.length c0_0) := (blk_cell BK158.out 0).trans rfl; have hcz15_1 : w13.cell? ⟨gb158, 1, none⟩ = some (.slice A0_1 l0_1.length c0_1) := (blk_cell BK158.out 1).trans rfl; have hfz15_0 := blk_frozen BK158.out 0; have hfz15_1 := blk_frozen BK158.out 1) | ((with_reducible refine gate_callee (f := 26) rfl ?_); refine goesL_ (some 12) rfl rfl Try.func26 (by kernel_rfl) rfl #[.agg #[.slice A0_0 l0_0.length c0_0, .slice A0_1 l0_1.length c0_1], .int .i64 1048576] rfl pA ?_; (with_reducible refine (laws_szPacket.calls k _ _ l0_0 _ _ l0_1 1048576 t160 _ ?side1 ?side2 ?side3 ?side4 A3.out).mono ?_); (case side1 => exact pC (Kd.C_below HR0_0.out HB.out)); (case side2 => exact HC0_0.out); (case side3 => exact pC (Kd.C_below HR0_1.out HB.out)); (case side4 => exact HC0_1.out); rintro e w16 ⟨rfl, hb⟩; refine ⟨_, rfl, ?_⟩; have n0_ := Aside0.mk (blk_below (g := gb158) (o := .cells #[.slice A0_0 l0_0.length c0_0, .slice A0_1 l0_1.length c0_1] 40 (0, 0)) (pK BK158.out) hb); have n1_ := Aside0.mk (blk_below (g := gb159) (o := .cells #[.slice A1_0 l1_0.length c1_0, .slice A1_1 l1_1.length c1_1] 40 (0, 0)) (pK BK159.out) hb); have n2_ := Aside0.mk (below_step (pB2 HB.out GE158.out GE159.out) hb); clear BK158; clear BK159; clear HB; have BK158 := n0_; have BK159 := n1_; have HB := n2_; clear n0_ n1_ n2_; (try clear hb); (try clear hb2); (try clear hk); (try clear hi); have hcz17_0 : w16.cell? ⟨gb159, 0, none⟩ = some (.slice A1_0 l1_0.length c1_0) := (blk_cell BK159.out 0).trans rfl; have hcz17_1 : w16.cell? ⟨gb159, 1, none⟩ = some (.slice A1_1 l1_1.length c1_1) := (blk_cell BK159.out 1).trans rfl; have hfz17_0 := blk_frozen BK159.out 0; have hfz17_1 := blk_frozen BK159.out 1) | ((with_reducible refine gate_callee (f := 26) rfl ?_); refine goesL_ (some 17) rfl rfl Try.func26 (by kernel_rfl) rfl #[.agg #[.slice A1_0 l1_0.length c1_0, .slice A1_1 l1_1.length c1_1], .int .i64 t160] rfl pA ?_; (with_reducible refine (laws_szPacket.calls k _ _ l1_0 _ _ l1_1 t160 t161 _ ?side1 ?side2 ?side3 ?side4 A10.out).mono ?_); (case side1 => exact pC (Kd.C_below HR1_0.out HB.out)); (case side2 => exact HC1_0.out); (case side3 => exact pC (Kd.C_below HR1_1.out HB.out)); (case side4 => exact HC1_1.out); rintro e w18 ⟨rfl, hb⟩; refine ⟨_, rfl, ?_⟩; have n0_ := Aside0.mk (blk_below (g := gb158) (o := .cells #[.slice A0_0 l0_0.length c0_0, .slice A0_1 l0_1.length c0_1] 40 (0, 0)) (pK BK158.out) hb); have n1_ := Aside0.mk (blk_below (g := gb159) (o := .cells #[.slice A1_0 l1_0.length c1_0, .slice A1_1 l1_1.length c1_1] 40 (0, 0)) (pK BK159.out) hb); have n2_ := Aside0.mk (below_step (pB2 HB.out GE158.out GE159.out) hb); clear BK158; clear BK159; clear HB; have BK158 := n0_; have BK159 := n1_; have HB := n2_; clear n0_ n1_ n2_; (try clear hb); (try clear hb2); (try clear hk); (try clear hi)))
      go_ret
      exact ⟨by first | rfl | (simp [errW_none, errW_some] <;> rfl) | (simp [*, errW_none, errW_some] <;> rfl), pB2 HB.out GE158.out GE159.out⟩
    · rw [if_neg c11] at H
      have c11b0 : decide (t161 < 0) = false := decide_eq_false c11
      clear c11
      replace H := Option.bind_eq_some_iff.mp H
      obtain ⟨⟨t162, t165⟩, A190, H⟩ := H
      replace H : ((laws_toPacket.f k l1_0 l1_1).bind fun bt168 => ((spec_SamePacket.f k t162 t165 bt168.1 bt168.2).bind fun t174 => ((laws_toPacket.f k l0_0 l0_1).bind fun bt175 => ((laws_toPacket.f k l1_0 l1_1).bind fun bt182 => ((impl_SamePacket.f k bt175.1 bt175.2 bt182.1 bt182.2).bind fun t189 => (if (t189 != t174) = true then (some false) else ((laws_toPacket.f k l0_0 l0_1).bind fun bt190 => ((laws_eqPacket.f k bt175.1 bt175.2 bt190.1 bt190.2).bind fun t196 => (if t196 = true then ((laws_toPacket.f k l1_0 l1_1).bind fun bt197 => ((laws_eqPacket.f k bt182.1 bt182.2 bt197.1 bt197.2).bind fun t203 => (if t203 = true then (some true) else (some false)))) else (some false)))))))))) = some r := H
      have A19 := Aside0.mk A190
      clear A190
      replace H := Option.bind_eq_some_iff.mp H
      obtain ⟨⟨t168, t171⟩, A200, H⟩ := H
      replace H : ((spec_SamePacket.f k t162 t165 t168 t171).bind fun t174 => ((laws_toPacket.f k l0_0 l0_1).bind fun bt175 => ((laws_toPacket.f k l1_0 l1_1).bind fun bt182 => ((impl_SamePacket.f k bt175.1 bt175.2 bt182.1 bt182.2).bind fun t189 => (if (t189 != t174) = true then (some false) else ((laws_toPacket.f k l0_0 l0_1).bind fun bt190 => ((laws_eqPacket.f k bt175.1 bt175.2 bt190.1 bt190.2).bind fun t196 => (if t196 = true then ((laws_toPacket.f k l1_0 l1_1).bind fun bt197 => ((laws_eqPacket.f k bt182.1 bt182.2 bt197.1 bt197.2).bind fun t203 => (if t203 = true then (some true) else (some false)))) else (some false))))))))) = some r := H
      have A20 := Aside0.mk A200
      clear A200
      replace H := Option.bind_eq_some_iff.mp H
      obtain ⟨t174, A210, H⟩ := H
      replace H : ((laws_toPacket.f k l0_0 l0_1).bind fun bt175 => ((laws_toPacket.f k l1_0 l1_1).bind fun bt182 => ((impl_SamePacket.f k bt175.1 bt175.2 bt182.1 bt182.2).bind fun t189 => (if (t189 != t174) = true then (some false) else ((laws_toPacket.f k l0_0 l0_1).bind fun bt190 => ((laws_eqPacket.f k bt175.1 bt175.2 bt190.1 bt190.2).bind fun t196 => (if t196 = true then ((laws_toPacket.f k l1_0 l1_1).bind fun bt197 => ((laws_eqPacket.f k bt182.1 bt182.2 bt197.1 bt197.2).bind fun t203 => (if t203 = true then (some true) else (some false)))) else (some false)))))))) = some r := H
      have A21 := Aside0.mk A210
      clear A210
      replace H := Option.bind_eq_some_iff.mp H
      obtain ⟨⟨t175, t178⟩, A220, H⟩ := H
      replace H : ((laws_toPacket.f k l1_0 l1_1).bind fun bt182 => ((impl_SamePacket.f k t175 t178 bt182.1 bt182.2).bind fun t189 => (if (t189 != t174) = true then (some false) else ((laws_toPacket.f k l0_0 l0_1).bind fun bt190 => ((laws_eqPacket.f k t175 t178 bt190.1 bt190.2).bind fun t196 => (if t196 = true then ((laws_toPacket.f k l1_0 l1_1).bind fun bt197 => ((laws_eqPacket.f k bt182.1 bt182.2 bt197.1 bt197.2).bind fun t203 => (if t203 = true then (some true) else (some false)))) else (some false))))))) = some r := H
      have A22 := Aside0.mk A220
      clear A220
      replace H := Option.bind_eq_some_iff.mp H
      obtain ⟨⟨t182, t185⟩, A230, H⟩ := H
      replace H : ((impl_SamePacket.f k t175 t178 t182 t185).bind fun t189 => (if (t189 != t174) = true then (some false) else ((laws_toPacket.f k l0_0 l0_1).bind fun bt190 => ((laws_eqPacket.f k t175 t178 bt190.1 bt190.2).bind fun t196 => (if t196 = true then ((laws_toPacket.f k l1_0 l1_1).bind fun bt197 => ((laws_eqPacket.f k t182 t185 bt197.1 bt197.2).bind fun t203 => (if t203 = true then (some true) else (some false)))) else (some false)))))) = some r := H
      have A23 := Aside0.mk A230
      clear A230
      replace H := Option.bind_eq_some_iff.mp H
      obtain ⟨t189, A240, H⟩ := H
      replace H : (if (t189 != t174) = true then (some false) else ((laws_toPacket.f k l0_0 l0_1).bind fun bt190 => ((laws_eqPacket.f k t175 t178 bt190.1 bt190.2).bind fun t196 => (if t196 = true then ((laws_toPacket.f k l1_0 l1_1).bind fun bt197 => ((laws_eqPacket.f k t182 t185 bt197.1 bt197.2).bind fun t203 => (if t203 = true then (some true) else (some false)))) else (some false))))) = some r := H
      have A24 := Aside0.mk A240
      clear A240
      by_cases c25 : (t189 != t174) = true
      · rw [if_pos c25] at H
        have c25b0 : (t189 != t174) = true := c25
        (try (have c25b1 : decide (t189 = t174) = false := by simpa using c25))
        (try (have c25b2 : (t189 == t174) = false := by simpa using c25))
        (try (have c25b3 : ¬ (t189 = t174) := by simpa using c25))
        clear c25
        obtain rfl := Option.some.inj H
        go_enter Try.func6, Try.ntmps6
        try go_wp2_with (first | ((with_reducible refine gate_dst (N := 2) rfl ?_); refine box_event ?hg (N := 2) ?hd (cs := #[.slice A0_0 l0_0.length c0_0, .slice A0_1 l0_1.length c0_1]) (t := 40) ?hr ?_; (case hd => rfl); (case hg => rfl); (case hr => first | (go_simp; done) | (go_simp; rfl)); intro gb158 hg w26 hbox hb; have n0_ := Aside0.mk (below_step (pB0 HB.out) hb); have n1_ := Aside0.mk (hbox); have n2_ := Aside0.mk ((by rw [hg]; exact (below_size (pB0 HB.out)) : w.heap.size ≤ gb158)); have n3_ := Aside0.mk ((by rw [hg]; exact (below_size (pB0 HB.out)) : w.heap.size ≤ gb158)); clear HB; have HB := n0_; have BK158 := n1_; have GW158 := n2_; have GE158 := n3_; clear n0_ n1_ n2_ n3_; clear hb hbox hg) | ((with_reducible refine gate_dst (N := 3) rfl ?_); refine box_event ?hg (N := 3) ?hd (cs := #[.slice A1_0 l1_0.length c1_0, .slice A1_1 l1_1.length c1_1]) (t := 40) ?hr ?_; (case hd => rfl); (case hg => rfl); (case hr => first | (go_simp; done) | (go_simp; rfl)); intro gb159 hg w27 hbox hb; have n0_ := Aside0.mk (blk_below (g := gb158) (o := .cells #[.slice A0_0 l0_0.length c0_0, .slice A0_1 l0_1.length c0_1] 40 (0, 0)) (pK BK158.out) hb); have n1_ := Aside0.mk (below_step (pB1 HB.out GE158.out) hb); have n2_ := Aside0.mk (hbox); have n3_ := Aside0.mk ((by rw [hg]; exact (below_size (pB1 HB.out GE158.out)) : w.heap.size ≤ gb159)); have n4_ := Aside0.mk ((by rw [hg]; exact (below_size (pB1 HB.out GE158.out)) : w.heap.size ≤ gb159)); have n5_ := Aside0.mk ((by rw [hg]; exact Nat.ne_of_lt (blk_lt (g := gb158) (o := .cells #[.slice A0_0 l0_0.length c0_0, .slice A0_1 l0_1.length c0_1] 40 (0, 0)) (pK BK158.out)) : gb158 ≠ gb159)); have n6_ := Aside0.mk ((by rw [hg]; exact Nat.ne_of_gt (blk_lt (g := gb158) (o := .cells #[.slice A0_0 l0_0.length c0_0, .slice A0_1 l0_1.length c0_1] 40 (0, 0)) (pK BK158.out)) : gb159 ≠ gb158)); clear BK158; clear HB; have BK158 := n0_; have HB := n1_; have BK159 := n2_; have GW159 := n3_; have GE159 := n4_; have NB158_159 := n5_; have NB159_158 := n6_; clear n0_ n1_ n2_ n3_ n4_ n5_ n6_; clear hb hbox hg; have hnb28 := NB158_159.out; have hnc28 := NB159_158.out; have hcz29_0 : w27.cell? ⟨gb158, 0, none⟩ = some (.slice A0_0 l0_0.length c0_0) := (blk_cell BK158.out 0).trans rfl; have hcz29_1 : w27.cell? ⟨gb158, 1, none⟩ = some (.slice A0_1 l0_1.length c0_1) := (blk_cell BK158.out 1).trans rfl; have hfz29_0 := blk_frozen BK158.out 0; have hfz29_1 := blk_frozen BK158.out 1) | ((with_reducible refine gate_callee (f := 26) rfl ?_); refine goesL_ (some 12) rfl rfl Try.func26 (by kernel_rfl) rfl #[.agg #[.slice A0_0 l0_0.length c0_0, .slice A0_1 l0_1.length c0_1], .int .i64 1048576] rfl pA ?_; (with_reducible refine (laws_szPacket.calls k _ _ l0_0 _ _ l0_1 1048576 t160 _ ?side1 ?side2 ?side3 ?side4 A3.out).mono ?_); (case side1 => exact pC (Kd.C_below HR0_0.out HB.out)); (case side2 => exact HC0_0.out); (case side3 => exact pC (Kd.C_below HR0_1.out HB.out)); (case side4 => exact HC0_1.out); rintro e w30 ⟨rfl, hb⟩; refine ⟨_, rfl, ?_⟩; have n0_ := Aside0.mk (blk_below (g := gb158) (o := .cells #[.slice A0_0 l0_0.length c0_0, .slice A0_1 l0_1.length c0_1] 40 (0, 0)) (pK BK158.out) hb); have n1_ := Aside0.mk (blk_below (g := gb159) (o := .cells #[.slice A1_0 l1_0.length c1_0, .slice A1_1 l1_1.length c1_1] 40 (0, 0)) (pK BK159.out) hb); have n2_ := Aside0.mk (below_step (pB2 HB.out GE158.out GE159.out) hb); clear BK158; clear BK159; clear HB; have BK158 := n0_; have BK159 := n1_; have HB := n2_; clear n0_ n1_ n2_; (try clear hb); (try clear hb2); (try clear hk); (try clear hi); have hcz31_0 : w30.cell? ⟨gb159, 0, none⟩ = some (.slice A1_0 l1_0.length c1_0) := (blk_cell BK159.out 0).trans rfl; have hcz31_1 : w30.cell? ⟨gb159, 1, none⟩ = some (.slice A1_1 l1_1.length c1_1) := (blk_cell BK159.out 1).trans rfl; have hfz31_0 := blk_frozen BK159.out 0; have hfz31_1 := blk_frozen BK159.out 1) | ((with_reducible refine gate_callee (f := 26) rfl ?_); refine goesL_ (some 17) rfl rfl Try.func26 (by kernel_rfl) rfl #[.agg #[.slice A1_0 l1_0.length c1_0, .slice A1_1 l1_1.length c1_1], .int .i64 t160] rfl pA ?_; (with_reducible refine (laws_szPacket.calls k _ _ l1_0 _ _ l1_1 t160 t161 _ ?side1 ?side2 ?side3 ?side4 A10.out).mono ?_); (case side1 => exact pC (Kd.C_below HR1_0.out HB.out)); (case side2 => exact HC1_0.out); (case side3 => exact pC (Kd.C_below HR1_1.out HB.out)); (case side4 => exact HC1_1.out); rintro e w32 ⟨rfl, hb⟩; refine ⟨_, rfl, ?_⟩; have n0_ := Aside0.mk (blk_below (g := gb158) (o := .cells #[.slice A0_0 l0_0.length c0_0, .slice A0_1 l0_1.length c0_1] 40 (0, 0)) (pK BK158.out) hb); have n1_ := Aside0.mk (blk_below (g := gb159) (o := .cells #[.slice A1_0 l1_0.length c1_0, .slice A1_1 l1_1.length c1_1] 40 (0, 0)) (pK BK159.out) hb); have n2_ := Aside0.mk (below_step (pB2 HB.out GE158.out GE159.out) hb); clear BK158; clear BK159; clear HB; have BK158 := n0_; have BK159 := n1_; have HB := n2_; clear n0_ n1_ n2_; (try clear hb); (try clear hb2); (try clear hk); (try clear hi)))
        have n0_ := Aside0.mk (blk_drew BK158.out)
        have n1_ := Aside0.mk (blk_drew BK159.out)
        have n2_ := Aside0.mk (below_drew1 HB.out)
        clear BK158
        clear BK159
        clear HB
        have BK158 := n0_
        have BK159 := n1_
        have HB := n2_
        clear n0_ n1_ n2_
        refine start_ (n := 6) (S := fun w' => w'.cell? ⟨gb158, 0, none⟩ = some (.slice A0_0 l0_0.length c0_0) ∧ w'.cell? ⟨gb158, 1, none⟩ = some (.slice A0_1 l0_1.length c0_1) ∧ w'.cell? ⟨gb159, 0, none⟩ = some (.slice A1_0 l1_0.length c1_0) ∧ w'.cell? ⟨gb159, 1, none⟩ = some (.slice A1_1 l1_1.length c1_1)) (ds := []) #[false, false, false, false, false, false] (by kernel_rfl) rfl rfl ⟨(blk_cell BK158.out 0).trans rfl, (blk_cell BK158.out 1).trans rfl, (blk_cell BK159.out 0).trans rfl, (blk_cell BK159.out 1).trans rfl⟩ (fun hHeld => ?_)
        generalize w32.drew = w33 at BK158 BK159 HB hHeld ⊢
        refine take_ (i := 0) (N := some 20) (v := ?_) (a' := ?_) #[true, false, false, false, false, false] rfl rfl (by kernel_rfl) (fun _ _ _ h => h) (Or.inl ⟨by rfl, ?_⟩) hHeld ?_ ?_
        rotate_left
        · rintro w' ⟨s0, s1, s2, s3⟩
          go_simp
          with_reducible rfl
        rotate_left
        · simp only [Act.put, List.setIfInBounds_toArray, List.set_cons_zero, List.set_cons_succ, i64_w, i32_w]
          rfl
        refine take_ (i := 2) (N := some 22) (v := ?_) (a' := ?_) #[true, false, true, false, false, false] rfl rfl (by kernel_rfl) (fun _ _ _ h => h) (Or.inl ⟨by rfl, ?_⟩) hHeld ?_ ?_
        rotate_left
        · rintro w' ⟨s0, s1, s2, s3⟩
          go_simp
          with_reducible rfl
        rotate_left
        · simp only [Act.put, List.setIfInBounds_toArray, List.set_cons_zero, List.set_cons_succ, i64_w, i32_w]
          rfl
        refine one_ (i := 1) (N := some 21) #[true, true, true, false, false, false] rfl rfl (by kernel_rfl) (by decide) (fun K hK => ?_)
        refine goes_ Try.func28 (by kernel_rfl) rfl #[.agg #[.slice A0_0 l0_0.length c0_0, .slice A0_1 l0_1.length c0_1]] (by rfl) rfl rfl pA ?_
        with_reducible refine (laws_toPacket.calls k _ _ l0_0 _ _ l0_1 t162 t165 _ ?side1 ?side2 ?side3 ?side4 A19.out).mono ?_
        (case side1 => exact pC (Kd.C_below HR0_0.out HB.out))
        (case side2 => exact HC0_0.out)
        (case side3 => exact pC (Kd.C_below HR0_1.out HB.out))
        (case side4 => exact HC0_1.out)
        rintro e w34 ⟨v163, v166, rfl, ho0, ho1, hb⟩
        refine ⟨_, rfl, ?_⟩
        have n0_ := Aside0.mk (Kd.R_lower ho0 (below_size (pB2 HB.out GE158.out GE159.out)))
        have n1_ := Aside0.mk (Kd.R_lower ho1 (below_size (pB2 HB.out GE158.out GE159.out)))
        have n2_ := Aside0.mk (blk_below (g := gb158) (o := .cells #[.slice A0_0 l0_0.length c0_0, .slice A0_1 l0_1.length c0_1] 40 (0, 0)) (pK BK158.out) hb)
        have n3_ := Aside0.mk (blk_below (g := gb159) (o := .cells #[.slice A1_0 l1_0.length c1_0, .slice A1_1 l1_1.length c1_1] 40 (0, 0)) (pK BK159.out) hb)
        have n4_ := Aside0.mk (below_step (pB2 HB.out GE158.out GE159.out) hb)
        clear BK158
        clear BK159
        clear HB
        have HO164 := n0_
        have HO167 := n1_
        have BK158 := n2_
        have BK159 := n3_
        have HB := n4_
        clear n0_ n1_ n2_ n3_ n4_
        (try clear hb)
        (try clear hb2)
        (try clear hk)
        (try clear hi)
        (try clear ho0)
        (try clear ho1)
        refine hK.out _ _ ⟨(blk_cell BK158.out 0).trans rfl, (blk_cell BK158.out 1).trans rfl, (blk_cell BK159.out 0).trans rfl, (blk_cell BK159.out 1).trans rfl⟩ (fun hHeld => ?_)
        clear hK K
        refine norm_ (a' := ?_) ?_ ?_
        rotate_left
        · show Act.put _ (some 21) _ = _
          simp only [Act.put, List.setIfInBounds_toArray, List.set_cons_zero, List.set_cons_succ, i64_w, i32_w]
          rfl
        refine one_ (i := 3) (N := some 23) #[true, true, true, true, false, false] rfl rfl (by kernel_rfl) (by decide) (fun K hK => ?_)
        refine goes_ Try.func28 (by kernel_rfl) rfl #[.agg #[.slice A1_0 l1_0.length c1_0, .slice A1_1 l1_1.length c1_1]] (by rfl) rfl rfl pA ?_
        with_reducible refine (laws_toPacket.calls k _ _ l1_0 _ _ l1_1 t168 t171 _ ?side1 ?side2 ?side3 ?side4 A20.out).mono ?_
        (case side1 => exact pC (Kd.C_below HR1_0.out HB.out))
        (case side2 => exact HC1_0.out)
        (case side3 => exact pC (Kd.C_below HR1_1.out HB.out))
        (case side4 => exact HC1_1.out)
        rintro e w35 ⟨v169, v172, rfl, ho0, ho1, hb⟩
        refine ⟨_, rfl, ?_⟩
        have n0_ := Aside0.mk (Kd.R_elder' (pR HO164.out) (Kd.R_base ho0) hb)
        have n1_ := Aside0.mk (Kd.R_elder' (pR HO167.out) (Kd.R_base ho1) hb)
        have n2_ := Aside0.mk (Kd.R_lower (Kd.R_new' ho0 (Kd.R_lt (pR HO164.out))) (below_size (pB2 HB.out GE158.out GE159.out)))
        have n3_ := Aside0.mk (Kd.R_lower (Kd.R_new' ho1 (Kd.R_lt (pR HO167.out))) (below_size (pB2 HB.out GE158.out GE159.out)))
        have n4_ := Aside0.mk (blk_below (g := gb158) (o := .cells #[.slice A0_0 l0_0.length c0_0, .slice A0_1 l0_1.length c0_1] 40 (0, 0)) (pK BK158.out) hb)
        have n5_ := Aside0.mk (blk_below (g := gb159) (o := .cells #[.slice A1_0 l1_0.length c1_0, .slice A1_1 l1_1.length c1_1] 40 (0, 0)) (pK BK159.out) hb)
        have n6_ := Aside0.mk (below_step (pB2 HB.out GE158.out GE159.out) hb)
        clear HO164
        clear HO167
        clear BK158
        clear BK159
        clear HB
        have HO164 := n0_
        have HO167 := n1_
        have HO170 := n2_
        have HO173 := n3_
        have BK158 := n4_
        have BK159 := n5_
        have HB := n6_
        clear n0_ n1_ n2_ n3_ n4_ n5_ n6_
        (try clear hb)
        (try clear hb2)
        (try clear hk)
        (try clear hi)
        (try clear ho0)
        (try clear ho1)
        obtain ⟨Ao36, co36, eo36⟩ := Kd.R_slice HO164.out
        (first | subst eo36 | (injection eo36 with f1_ f2_ f3_; have f4_ := f1_.symm; have f5_ := f3_.symm; clear f1_ f2_ f3_; subst f4_; subst f5_))
        obtain ⟨Ao37, co37, eo37⟩ := Kd.R_slice HO167.out
        (first | subst eo37 | (injection eo37 with f1_ f2_ f3_; have f4_ := f1_.symm; have f5_ := f3_.symm; clear f1_ f2_ f3_; subst f4_; subst f5_))
        obtain ⟨Ao38, co38, eo38⟩ := Kd.R_slice HO170.out
        (first | subst eo38 | (injection eo38 with f1_ f2_ f3_; have f4_ := f1_.symm; have f5_ := f3_.symm; clear f1_ f2_ f3_; subst f4_; subst f5_))
        obtain ⟨Ao39, co39, eo39⟩ := Kd.R_slice HO173.out
        (first | subst eo39 | (injection eo39 with f1_ f2_ f3_; have f4_ := f1_.symm; have f5_ := f3_.symm; clear f1_ f2_ f3_; subst f4_; subst f5_))
        refine hK.out _ _ ⟨(blk_cell BK158.out 0).trans rfl, (blk_cell BK158.out 1).trans rfl, (blk_cell BK159.out 0).trans rfl, (blk_cell BK159.out 1).trans rfl⟩ (fun hHeld => ?_)
        clear hK K
        refine norm_ (a' := ?_) ?_ ?_
        rotate_left
        · show Act.put _ (some 23) _ = _
          simp only [Act.put, List.setIfInBounds_toArray, List.set_cons_zero, List.set_cons_succ, i64_w, i32_w]
          rfl
        refine one_ (i := 4) (N := some 24) #[true, true, true, true, true, false] rfl rfl (by kernel_rfl) (by decide) (fun K hK => ?_)
        refine goes_ Try.func27 (by kernel_rfl) rfl #[.agg #[.slice Ao36 t162.length co36, .slice Ao37 t165.length co37], .agg #[.slice Ao38 t168.length co38, .slice Ao39 t171.length co39]] (by rfl) rfl rfl pA ?_
        with_reducible refine (spec_SamePacket.calls k _ _ t162 _ _ t165 _ _ t168 _ _ t171 t174 _ ?side1 ?side2 ?side3 ?side4 ?side5 ?side6 ?side7 ?side8 A21.out).mono ?_
        (case side1 => exact pC ((Kd.R_reads' HO164.out).2.2))
        (case side2 => exact (Kd.R_reads' HO164.out).2.1)
        (case side3 => exact pC ((Kd.R_reads' HO167.out).2.2))
        (case side4 => exact (Kd.R_reads' HO167.out).2.1)
        (case side5 => exact pC ((Kd.R_reads' HO170.out).2.2))
        (case side6 => exact (Kd.R_reads' HO170.out).2.1)
        (case side7 => exact pC ((Kd.R_reads' HO173.out).2.2))
        (case side8 => exact (Kd.R_reads' HO173.out).2.1)
        rintro e w40 ⟨rfl, hb⟩
        refine ⟨_, rfl, ?_⟩
        have n0_ := Aside0.mk (Kd.R_below (pR HO164.out) hb)
        have n1_ := Aside0.mk (Kd.R_below (pR HO167.out) hb)
        have n2_ := Aside0.mk (Kd.R_below (pR HO170.out) hb)
        have n3_ := Aside0.mk (Kd.R_below (pR HO173.out) hb)
        have n4_ := Aside0.mk (blk_below (g := gb158) (o := .cells #[.slice A0_0 l0_0.length c0_0, .slice A0_1 l0_1.length c0_1] 40 (0, 0)) (pK BK158.out) hb)
        have n5_ := Aside0.mk (blk_below (g := gb159) (o := .cells #[.slice A1_0 l1_0.length c1_0, .slice A1_1 l1_1.length c1_1] 40 (0, 0)) (pK BK159.out) hb)
        have n6_ := Aside0.mk (below_step (pB2 HB.out GE158.out GE159.out) hb)
        clear HO164
        clear HO167
        clear HO170
        clear HO173
        clear BK158
        clear BK159
        clear HB
        have HO164 := n0_
        have HO167 := n1_
        have HO170 := n2_
        have HO173 := n3_
        have BK158 := n4_
        have BK159 := n5_
        have HB := n6_
        clear n0_ n1_ n2_ n3_ n4_ n5_ n6_
        (try clear hb)
        (try clear hb2)
        (try clear hk)
        (try clear hi)
        refine hK.out _ _ ⟨(blk_cell BK158.out 0).trans rfl, (blk_cell BK158.out 1).trans rfl, (blk_cell BK159.out 0).trans rfl, (blk_cell BK159.out 1).trans rfl⟩ (fun hHeld => ?_)
        clear hK K
        refine norm_ (a' := ?_) ?_ ?_
        rotate_left
        · show Act.put _ (some 24) _ = _
          simp only [Act.put, List.setIfInBounds_toArray, List.set_cons_zero, List.set_cons_succ, i64_w, i32_w]
          rfl
        refine pure_ (i := 5) (N := some 6) (v := ?_) (a' := ?_) #[true, true, true, true, true, true] rfl rfl (by kernel_rfl) (fun _ _ _ h => h) (Or.inl ⟨by rfl, ?_⟩) ?_ ?_
        rotate_left
        · intro w'
          go_simp
          with_reducible rfl
        rotate_left
        · simp only [Act.put, List.setIfInBounds_toArray, List.set_cons_zero, List.set_cons_succ, i64_w, i32_w]
          rfl
        refine done_ (by kernel_rfl) ?_
        have hcz41_0 : w40.cell? ⟨gb158, 0, none⟩ = some (.slice A0_0 l0_0.length c0_0) := (blk_cell BK158.out 0).trans rfl
        have hcz41_1 : w40.cell? ⟨gb158, 1, none⟩ = some (.slice A0_1 l0_1.length c0_1) := (blk_cell BK158.out 1).trans rfl
        have hfz41_0 := blk_frozen BK158.out 0
        have hfz41_1 := blk_frozen BK158.out 1
        try go_wp2_with (first | ((with_reducible refine gate_callee (f := 28) rfl ?_); refine goesL_ (some 26) rfl rfl Try.func28 (by kernel_rfl) rfl #[.agg #[.slice A0_0 l0_0.length c0_0, .slice A0_1 l0_1.length c0_1]] rfl pA ?_; (with_reducible refine (laws_toPacket.calls k _ _ l0_0 _ _ l0_1 t175 t178 _ ?side1 ?side2 ?side3 ?side4 A22.out).mono ?_); (case side1 => exact pC (Kd.C_below HR0_0.out HB.out)); (case side2 => exact HC0_0.out); (case side3 => exact pC (Kd.C_below HR0_1.out HB.out)); (case side4 => exact HC0_1.out); rintro e w42 ⟨v176, v179, rfl, ho0, ho1, hb⟩; refine ⟨_, rfl, ?_⟩; have n0_ := Aside0.mk (Kd.R_elder' (pR HO164.out) (Kd.R_base ho0) hb); have n1_ := Aside0.mk (Kd.R_elder' (pR HO167.out) (Kd.R_base ho1) hb); have n2_ := Aside0.mk (Kd.R_elder' (pR HO170.out) (Kd.R_base ho0) hb); have n3_ := Aside0.mk (Kd.R_elder' (pR HO173.out) (Kd.R_base ho1) hb); have n4_ := Aside0.mk (Kd.R_lower (Kd.R_new' (Kd.R_new' ho0 (Kd.R_lt (pR HO164.out))) (Kd.R_lt (pR HO170.out))) (below_size (pB2 HB.out GE158.out GE159.out))); have n5_ := Aside0.mk (Kd.R_lower (Kd.R_new' (Kd.R_new' ho1 (Kd.R_lt (pR HO167.out))) (Kd.R_lt (pR HO173.out))) (below_size (pB2 HB.out GE158.out GE159.out))); have n6_ := Aside0.mk (blk_below (g := gb158) (o := .cells #[.slice A0_0 l0_0.length c0_0, .slice A0_1 l0_1.length c0_1] 40 (0, 0)) (pK BK158.out) hb); have n7_ := Aside0.mk (blk_below (g := gb159) (o := .cells #[.slice A1_0 l1_0.length c1_0, .slice A1_1 l1_1.length c1_1] 40 (0, 0)) (pK BK159.out) hb); have n8_ := Aside0.mk (below_step (pB2 HB.out GE158.out GE159.out) hb); clear HO164; clear HO167; clear HO170; clear HO173; clear BK158; clear BK159; clear HB; have HO164 := n0_; have HO167 := n1_; have HO170 := n2_; have HO173 := n3_; have HO177 := n4_; have HO180 := n5_; have BK158 := n6_; have BK159 := n7_; have HB := n8_; clear n0_ n1_ n2_ n3_ n4_ n5_ n6_ n7_ n8_; (try clear hb); (try clear hb2); (try clear hk); (try clear hi); (try clear ho0); (try clear ho1)) | ((with_reducible refine gate_dst (N := 7) rfl ?_); refine box_event ?hg (N := 7) ?hd (cs := #[.slice none 0 0, .slice none 0 0]) (t := 45) ?hr ?_; (case hd => rfl); (case hg => rfl); (case hr => first | (go_simp; done) | (go_simp; rfl)); intro gb181 hg w43 hbox hb; have n0_ := Aside0.mk (Kd.R_below (pR HO164.out) hb); have n1_ := Aside0.mk (Kd.R_below (pR HO167.out) hb); have n2_ := Aside0.mk (Kd.R_below (pR HO170.out) hb); have n3_ := Aside0.mk (Kd.R_below (pR HO173.out) hb); have n4_ := Aside0.mk (Kd.R_below (pR HO177.out) hb); have n5_ := Aside0.mk (Kd.R_below (pR HO180.out) hb); have n6_ := Aside0.mk (blk_below (g := gb158) (o := .cells #[.slice A0_0 l0_0.length c0_0, .slice A0_1 l0_1.length c0_1] 40 (0, 0)) (pK BK158.out) hb); have n7_ := Aside0.mk (blk_below (g := gb159) (o := .cells #[.slice A1_0 l1_0.length c1_0, .slice A1_1 l1_1.length c1_1] 40 (0, 0)) (pK BK159.out) hb); have n8_ := Aside0.mk (below_step (pB2 HB.out GE158.out GE159.out) hb); have n9_ := Aside0.mk (hbox); have n10_ := Aside0.mk ((by rw [hg]; exact (below_size (pB2 HB.out GE158.out GE159.out)) : w.heap.size ≤ gb181)); have n11_ := Aside0.mk ((by rw [hg]; exact (below_size (pB2 HB.out GE158.out GE159.out)) : w.heap.size ≤ gb181)); have n12_ := Aside0.mk ((by rw [hg]; exact Nat.ne_of_lt (blk_lt (g := gb158) (o := .cells #[.slice A0_0 l0_0.length c0_0, .slice A0_1 l0_1.length c0_1] 40 (0, 0)) (pK BK158.out)) : gb158 ≠ gb181)); have n13_ := Aside0.mk ((by rw [hg]; exact Nat.ne_of_gt (blk_lt (g := gb158) (o := .cells #[.slice A0_0 l0_0.length c0_0, .slice A0_1 l0_1.length c0_1] 40 (0, 0)) (pK BK158.out)) : gb181 ≠ gb158)); have n14_ := Aside0.mk ((by rw [hg]; exact Nat.ne_of_lt (blk_lt (g := gb159) (o := .cells #[.slice A1_0 l1_0.length c1_0, .slice A1_1 l1_1.length c1_1] 40 (0, 0)) (pK BK159.out)) : gb159 ≠ gb181)); have n15_ := Aside0.mk ((by rw [hg]; exact Nat.ne_of_gt (blk_lt (g := gb159) (o := .cells #[.slice A1_0 l1_0.length c1_0, .slice A1_1 l1_1.length c1_1] 40 (0, 0)) (pK BK159.out)) : gb181 ≠ gb159)); clear HO164; clear HO167; clear HO170; clear HO173; clear HO177; clear HO180; clear BK158; clear BK159; clear HB; have HO164 := n0_; have HO167 := n1_; have HO170 := n2_; have HO173 := n3_; have HO177 := n4_; have HO180 := n5_; have BK158 := n6_; have BK159 := n7_; have HB := n8_; have BK181 := n9_; have GW181 := n10_; have GE181 := n11_; have NB158_181 := n12_; have NB181_158 := n13_; have NB159_181 := n14_; have NB181_159 := n15_; clear n0_ n1_ n2_ n3_ n4_ n5_ n6_ n7_ n8_ n9_ n10_ n11_ n12_ n13_ n14_ n15_; clear hb hbox hg; obtain ⟨Ao44, co44, eo44⟩ := Kd.R_slice HO177.out; subst eo44; have hnb45 := NB181_158.out; have hnc45 := NB158_181.out; have hnb46 := NB181_159.out; have hnc46 := NB159_181.out; have hcz47_0 : w43.cell? ⟨gb181, 0, none⟩ = some (.slice none 0 0) := (blk_cell BK181.out 0).trans rfl; have hcz47_1 : w43.cell? ⟨gb181, 1, none⟩ = some (.slice none 0 0) := (blk_cell BK181.out 1).trans rfl; have hfz47_0 := blk_frozen BK181.out 0; have hfz47_1 := blk_frozen BK181.out 1; obtain ⟨Ao48, co48, eo48⟩ := Kd.R_slice HO180.out; subst eo48; have hcz49_0 : w43.cell? ⟨gb159, 0, none⟩ = some (.slice A1_0 l1_0.length c1_0) := (blk_cell BK159.out 0).trans rfl; have hcz49_1 : w43.cell? ⟨gb159, 1, none⟩ = some (.slice A1_1 l1_1.length c1_1) := (blk_cell BK159.out 1).trans rfl; have hfz49_0 := blk_frozen BK159.out 0; have hfz49_1 := blk_frozen BK159.out 1) | ((with_reducible refine gate_callee (f := 28) rfl ?_); refine goesL_ (some 28) rfl rfl Try.func28 (by kernel_rfl) rfl #[.agg #[.slice A1_0 l1_0.length c1_0, .slice A1_1 l1_1.length c1_1]] rfl pA ?_; (with_reducible refine (laws_toPacket.calls k _ _ l1_0 _ _ l1_1 t182 t185 _ ?side1 ?side2 ?side3 ?side4 A23.out).mono ?_); (case side1 => exact Kd.C_below HR1_0.out (pB3 HB.out GE158.out GE159.out GE181.out)); (case side2 => exact HC1_0.out); (case side3 => exact Kd.C_below HR1_1.out (pB3 HB.out GE158.out GE159.out GE181.out)); (case side4 => exact HC1_1.out); rintro e w50 ⟨v183, v186, rfl, ho0, ho1, hb⟩; refine ⟨_, rfl, ?_⟩; have n0_ := Aside0.mk (Kd.R_elder' (by (with_reducible repeat (first | apply Kd.R_alloc | apply Kd.R_drewN | apply Kd.R_drew)); exact (Kd.R_mono (Kd.R_far (p := ⟨gb181, 1, none⟩) (Kd.R_far (p := ⟨gb181, 0, none⟩) (Kd.R_types HO164.out BK181.out (by decide)) (fun _ hk => hk.2) (.slice Ao44 t175.length co44)) (fun _ hk => hk.2) (.slice Ao48 t178.length co48)) (fun _ h_ => h_.1))) (Kd.R_base ho0) hb); have n1_ := Aside0.mk (Kd.R_elder' (by (with_reducible repeat (first | apply Kd.R_alloc | apply Kd.R_drewN | apply Kd.R_drew)); exact (Kd.R_mono (Kd.R_far (p := ⟨gb181, 1, none⟩) (Kd.R_far (p := ⟨gb181, 0, none⟩) (Kd.R_types HO167.out BK181.out (by decide)) (fun _ hk => hk.2) (.slice Ao44 t175.length co44)) (fun _ hk => hk.2) (.slice Ao48 t178.length co48)) (fun _ h_ => h_.1))) (Kd.R_base ho1) hb); have n2_ := Aside0.mk (Kd.R_elder' (by (with_reducible repeat (first | apply Kd.R_alloc | apply Kd.R_drewN | apply Kd.R_drew)); exact (Kd.R_mono (Kd.R_far (p := ⟨gb181, 1, none⟩) (Kd.R_far (p := ⟨gb181, 0, none⟩) (Kd.R_types HO170.out BK181.out (by decide)) (fun _ hk => hk.2) (.slice Ao44 t175.length co44)) (fun _ hk => hk.2) (.slice Ao48 t178.length co48)) (fun _ h_ => h_.1))) (Kd.R_base ho0) hb); have n3_ := Aside0.mk (Kd.R_elder' (by (with_reducible repeat (first | apply Kd.R_alloc | apply Kd.R_drewN | apply Kd.R_drew)); exact (Kd.R_mono (Kd.R_far (p := ⟨gb181, 1, none⟩) (Kd.R_far (p := ⟨gb181, 0, none⟩) (Kd.R_types HO173.out BK181.out (by decide)) (fun _ hk => hk.2) (.slice Ao44 t175.length co44)) (fun _ hk => hk.2) (.slice Ao48 t178.length co48)) (fun _ h_ => h_.1))) (Kd.R_base ho1) hb); have n4_ := Aside0.mk (Kd.R_elder' (by (with_reducible repeat (first | apply Kd.R_alloc | apply Kd.R_drewN | apply Kd.R_drew)); exact (Kd.R_mono (Kd.R_far (p := ⟨gb181, 1, none⟩) (Kd.R_far (p := ⟨gb181, 0, none⟩) (Kd.R_types HO177.out BK181.out (by decide)) (fun _ hk => hk.2) (.slice Ao44 t175.length co44)) (fun _ hk => hk.2) (.slice Ao48 t178.length co48)) (fun _ h_ => h_.1))) (Kd.R_base ho0) hb); have n5_ := Aside0.mk (Kd.R_elder' (by (with_reducible repeat (first | apply Kd.R_alloc | apply Kd.R_drewN | apply Kd.R_drew)); exact (Kd.R_mono (Kd.R_far (p := ⟨gb181, 1, none⟩) (Kd.R_far (p := ⟨gb181, 0, none⟩) (Kd.R_types HO180.out BK181.out (by decide)) (fun _ hk => hk.2) (.slice Ao44 t175.length co44)) (fun _ hk => hk.2) (.slice Ao48 t178.length co48)) (fun _ h_ => h_.1))) (Kd.R_base ho1) hb); have n6_ := Aside0.mk (Kd.R_lower (Kd.R_new' (Kd.R_new' (Kd.R_new' ho0 (Kd.R_lt (by (with_reducible repeat (first | apply Kd.R_alloc | apply Kd.R_drewN | apply Kd.R_drew)); exact (Kd.R_mono (Kd.R_far (p := ⟨gb181, 1, none⟩) (Kd.R_far (p := ⟨gb181, 0, none⟩) (Kd.R_types HO164.out BK181.out (by decide)) (fun _ hk => hk.2) (.slice Ao44 t175.length co44)) (fun _ hk => hk.2) (.slice Ao48 t178.length co48)) (fun _ h_ => h_.1))))) (Kd.R_lt (by (with_reducible repeat (first | apply Kd.R_alloc | apply Kd.R_drewN | apply Kd.R_drew)); exact (Kd.R_mono (Kd.R_far (p := ⟨gb181, 1, none⟩) (Kd.R_far (p := ⟨gb181, 0, none⟩) (Kd.R_types HO170.out BK181.out (by decide)) (fun _ hk => hk.2) (.slice Ao44 t175.length co44)) (fun _ hk => hk.2) (.slice Ao48 t178.length co48)) (fun _ h_ => h_.1))))) (Kd.R_lt (by (with_reducible repeat (first | apply Kd.R_alloc | apply Kd.R_drewN | apply Kd.R_drew)); exact (Kd.R_mono (Kd.R_far (p := ⟨gb181, 1, none⟩) (Kd.R_far (p := ⟨gb181, 0, none⟩) (Kd.R_types HO177.out BK181.out (by decide)) (fun _ hk => hk.2) (.slice Ao44 t175.length co44)) (fun _ hk => hk.2) (.slice Ao48 t178.length co48)) (fun _ h_ => h_.1))))) (below_size (pB3 HB.out GE158.out GE159.out GE181.out))); have n7_ := Aside0.mk (Kd.R_lower (Kd.R_new' (Kd.R_new' (Kd.R_new' ho1 (Kd.R_lt (by (with_reducible repeat (first | apply Kd.R_alloc | apply Kd.R_drewN | apply Kd.R_drew)); exact (Kd.R_mono (Kd.R_far (p := ⟨gb181, 1, none⟩) (Kd.R_far (p := ⟨gb181, 0, none⟩) (Kd.R_types HO167.out BK181.out (by decide)) (fun _ hk => hk.2) (.slice Ao44 t175.length co44)) (fun _ hk => hk.2) (.slice Ao48 t178.length co48)) (fun _ h_ => h_.1))))) (Kd.R_lt (by (with_reducible repeat (first | apply Kd.R_alloc | apply Kd.R_drewN | apply Kd.R_drew)); exact (Kd.R_mono (Kd.R_far (p := ⟨gb181, 1, none⟩) (Kd.R_far (p := ⟨gb181, 0, none⟩) (Kd.R_types HO173.out BK181.out (by decide)) (fun _ hk => hk.2) (.slice Ao44 t175.length co44)) (fun _ hk => hk.2) (.slice Ao48 t178.length co48)) (fun _ h_ => h_.1))))) (Kd.R_lt (by (with_reducible repeat (first | apply Kd.R_alloc | apply Kd.R_drewN | apply Kd.R_drew)); exact (Kd.R_mono (Kd.R_far (p := ⟨gb181, 1, none⟩) (Kd.R_far (p := ⟨gb181, 0, none⟩) (Kd.R_types HO180.out BK181.out (by decide)) (fun _ hk => hk.2) (.slice Ao44 t175.length co44)) (fun _ hk => hk.2) (.slice Ao48 t178.length co48)) (fun _ h_ => h_.1))))) (below_size (pB3 HB.out GE158.out GE159.out GE181.out))); have n8_ := Aside0.mk (blk_below (g := gb158) (o := .cells #[.slice A0_0 l0_0.length c0_0, .slice A0_1 l0_1.length c0_1] 40 (0, 0)) (by (with_reducible repeat (first | refine blk_drewN ?_ _ | refine blk_drew ?_ | refine blk_alloc ?_ _)); refine blk_far ?_ NB158_181.out _; (with_reducible repeat (first | refine blk_drewN ?_ _ | refine blk_drew ?_ | refine blk_alloc ?_ _)); refine blk_far ?_ NB158_181.out _; (with_reducible repeat (first | refine blk_drewN ?_ _ | refine blk_drew ?_ | refine blk_alloc ?_ _)); exact BK158.out) hb); have n9_ := Aside0.mk (blk_below (g := gb159) (o := .cells #[.slice A1_0 l1_0.length c1_0, .slice A1_1 l1_1.length c1_1] 40 (0, 0)) (by (with_reducible repeat (first | refine blk_drewN ?_ _ | refine blk_drew ?_ | refine blk_alloc ?_ _)); refine blk_far ?_ NB159_181.out _; (with_reducible repeat (first | refine blk_drewN ?_ _ | refine blk_drew ?_ | refine blk_alloc ?_ _)); refine blk_far ?_ NB159_181.out _; (with_reducible repeat (first | refine blk_drewN ?_ _ | refine blk_drew ?_ | refine blk_alloc ?_ _)); exact BK159.out) hb); have n10_ := Aside0.mk (blk_below (g := gb181) (o := .cells #[.slice Ao44 t175.length co44, .slice Ao48 t178.length co48] 45 (0, 0)) (by (with_reducible repeat (first | refine blk_drewN ?_ _ | refine blk_drew ?_ | refine blk_alloc ?_ _)); refine blk_put (cs := #[.slice Ao44 t175.length co44, .slice none 0 0]) ?_ 1 _ rfl; (with_reducible repeat (first | refine blk_drewN ?_ _ | refine blk_drew ?_ | refine blk_alloc ?_ _)); refine blk_put (cs := #[.slice none 0 0, .slice none 0 0]) ?_ 0 _ rfl; (with_reducible repeat (first | refine blk_drewN ?_ _ | refine blk_drew ?_ | refine blk_alloc ?_ _)); exact BK181.out) hb); have n11_ := Aside0.mk (below_step (pB3 HB.out GE158.out GE159.out GE181.out) hb); clear HO164; clear HO167; clear HO170; clear HO173; clear HO177; clear HO180; clear BK158; clear BK159; clear BK181; clear HB; have HO164 := n0_; have HO167 := n1_; have HO170 := n2_; have HO173 := n3_; have HO177 := n4_; have HO180 := n5_; have HO184 := n6_; have HO187 := n7_; have BK158 := n8_; have BK159 := n9_; have BK181 := n10_; have HB := n11_; clear n0_ n1_ n2_ n3_ n4_ n5_ n6_ n7_ n8_ n9_ n10_ n11_; (try clear hb); (try clear hb2); (try clear hk); (try clear hi); (try clear ho0); (try clear ho1)) | ((with_reducible refine gate_dst (N := 8) rfl ?_); refine box_event ?hg (N := 8) ?hd (cs := #[.slice none 0 0, .slice none 0 0]) (t := 45) ?hr ?_; (case hd => rfl); (case hg => rfl); (case hr => first | (go_simp; done) | (go_simp; rfl)); intro gb188 hg w51 hbox hb; have n0_ := Aside0.mk (Kd.R_below (pR HO164.out) hb); have n1_ := Aside0.mk (Kd.R_below (pR HO167.out) hb); have n2_ := Aside0.mk (Kd.R_below (pR HO170.out) hb); have n3_ := Aside0.mk (Kd.R_below (pR HO173.out) hb); have n4_ := Aside0.mk (Kd.R_below (pR HO177.out) hb); have n5_ := Aside0.mk (Kd.R_below (pR HO180.out) hb); have n6_ := Aside0.mk (Kd.R_below (pR HO184.out) hb); have n7_ := Aside0.mk (Kd.R_below (pR HO187.out) hb); have n8_ := Aside0.mk (blk_below (g := gb158) (o := .cells #[.slice A0_0 l0_0.length c0_0, .slice A0_1 l0_1.length c0_1] 40 (0, 0)) (pK BK158.out) hb); have n9_ := Aside0.mk (blk_below (g := gb159) (o := .cells #[.slice A1_0 l1_0.length c1_0, .slice A1_1 l1_1.length c1_1] 40 (0, 0)) (pK BK159.out) hb); have n10_ := Aside0.mk (blk_below (g := gb181) (o := .cells #[.slice Ao44 t175.length co44, .slice Ao48 t178.length co48] 45 (0, 0)) (pK BK181.out) hb); have n11_ := Aside0.mk (below_step (pB3 HB.out GE158.out GE159.out GE181.out) hb); have n12_ := Aside0.mk (hbox); have n13_ := Aside0.mk ((by rw [hg]; exact (below_size (pB3 HB.out GE158.out GE159.out GE181.out)) : w.heap.size ≤ gb188)); have n14_ := Aside0.mk ((by rw [hg]; exact (below_size (pB3 HB.out GE158.out GE159.out GE181.out)) : w.heap.size ≤ gb188)); have n15_ := Aside0.mk ((by rw [hg]; exact Nat.ne_of_lt (blk_lt (g := gb158) (o := .cells #[.slice A0_0 l0_0.length c0_0, .slice A0_1 l0_1.length c0_1] 40 (0, 0)) (pK BK158.out)) : gb158 ≠ gb188)); have n16_ := Aside0.mk ((by rw [hg]; exact Nat.ne_of_gt (blk_lt (g := gb158) (o := .cells #[.slice A0_0 l0_0.length c0_0, .slice A0_1 l0_1.length c0_1] 40 (0, 0)) (pK BK158.out)) : gb188 ≠ gb158)); have n17_ := Aside0.mk ((by rw [hg]; exact Nat.ne_of_lt (blk_lt (g := gb159) (o := .cells #[.slice A1_0 l1_0.length c1_0, .slice A1_1 l1_1.length c1_1] 40 (0, 0)) (pK BK159.out)) : gb159 ≠ gb188)); have n18_ := Aside0.mk ((by rw [hg]; exact Nat.ne_of_gt (blk_lt (g := gb159) (o := .cells #[.slice A1_0 l1_0.length c1_0, .slice A1_1 l1_1.length c1_1] 40 (0, 0)) (pK BK159.out)) : gb188 ≠ gb159)); have n19_ := Aside0.mk ((by rw [hg]; exact Nat.ne_of_lt (blk_lt (g := gb181) (o := .cells #[.slice Ao44 t175.length co44, .slice Ao48 t178.length co48] 45 (0, 0)) (pK BK181.out)) : gb181 ≠ gb188)); have n20_ := Aside0.mk ((by rw [hg]; exact Nat.ne_of_gt (blk_lt (g := gb181) (o := .cells #[.slice Ao44 t175.length co44, .slice Ao48 t178.length co48] 45 (0, 0)) (pK BK181.out)) : gb188 ≠ gb181)); clear HO164; clear HO167; clear HO170; clear HO173; clear HO177; clear HO180; clear HO184; clear HO187; clear BK158; clear BK159; clear BK181; clear HB; have HO164 := n0_; have HO167 := n1_; have HO170 := n2_; have HO173 := n3_; have HO177 := n4_; have HO180 := n5_; have HO184 := n6_; have HO187 := n7_; have BK158 := n8_; have BK159 := n9_; have BK181 := n10_; have HB := n11_; have BK188 := n12_; have GW188 := n13_; have GE188 := n14_; have NB158_188 := n15_; have NB188_158 := n16_; have NB159_188 := n17_; have NB188_159 := n18_; have NB181_188 := n19_; have NB188_181 := n20_; clear n0_ n1_ n2_ n3_ n4_ n5_ n6_ n7_ n8_ n9_ n10_ n11_ n12_ n13_ n14_ n15_ n16_ n17_ n18_ n19_ n20_; clear hb hbox hg; obtain ⟨Ao52, co52, eo52⟩ := Kd.R_slice HO184.out; subst eo52; have hnb53 := NB188_158.out; have hnc53 := NB158_188.out; have hnb54 := NB188_159.out; have hnc54 := NB159_188.out; have hnb55 := NB188_181.out; have hnc55 := NB181_188.out; have hcz56_0 : w51.cell? ⟨gb188, 0, none⟩ = some (.slice none 0 0) := (blk_cell BK188.out 0).trans rfl; have hcz56_1 : w51.cell? ⟨gb188, 1, none⟩ = some (.slice none 0 0) := (blk_cell BK188.out 1).trans rfl; have hfz56_0 := blk_frozen BK188.out 0; have hfz56_1 := blk_frozen BK188.out 1; obtain ⟨Ao57, co57, eo57⟩ := Kd.R_slice HO187.out; subst eo57; have hcz58_0 : w51.cell? ⟨gb181, 0, none⟩ = some (.slice Ao44 t175.length co44) := (blk_cell BK181.out 0).trans rfl; have hcz58_1 : w51.cell? ⟨gb181, 1, none⟩ = some (.slice Ao48 t178.length co48) := (blk_cell BK181.out 1).trans rfl; have hfz58_0 := blk_frozen BK181.out 0; have hfz58_1 := blk_frozen BK181.out 1) | ((with_reducible refine gate_callee (f := 29) rfl ?_); refine goesL_ (some 31) rfl rfl Try.func29 (by kernel_rfl) rfl #[.agg #[.slice Ao44 t175.length co44, .slice Ao48 t178.length co48], .agg #[.slice Ao52 t182.length co52, .slice Ao57 t185.length co57]] rfl pA ?_; (with_reducible refine (impl_SamePacket.calls k _ _ t175 _ _ t178 _ _ t182 _ _ t185 t189 _ ?side1 ?side2 ?side3 ?side4 ?side5 ?side6 ?side7 ?side8 A24.out).mono ?_); (case side1 => refine (Kd.R_reads' (e := 84) (base := w.heap.size) (ok := fun k_ => (((True ∧ some k_ ≠ (.slice Ao36 t162.length co36 : Value).ownBlock) ∧ some k_ ≠ (.slice Ao38 t168.length co38 : Value).ownBlock) ∧ some k_ ≠ (.slice Ao52 t182.length co52 : Value).ownBlock)) (n := t175.length) (c := co44) ?_).2.2; exact (by (with_reducible repeat (first | apply Kd.R_alloc | apply Kd.R_drewN | apply Kd.R_drew)); exact (Kd.R_mono (Kd.R_far (p := ⟨gb188, 1, none⟩) (Kd.R_far (p := ⟨gb188, 0, none⟩) (Kd.R_types HO177.out BK188.out (by decide)) (fun _ hk => hk.2) (.slice Ao52 t182.length co52)) (fun _ hk => hk.2) (.slice Ao57 t185.length co57)) (fun _ h_ => h_.1)))); (case side2 => exact (Kd.R_reads' HO177.out).2.1); (case side3 => refine (Kd.R_reads' (e := 2) (base := w.heap.size) (ok := fun k_ => (((True ∧ some k_ ≠ (.slice Ao37 t165.length co37 : Value).ownBlock) ∧ some k_ ≠ (.slice Ao39 t171.length co39 : Value).ownBlock) ∧ some k_ ≠ (.slice Ao57 t185.length co57 : Value).ownBlock)) (n := t178.length) (c := co48) ?_).2.2; exact (by (with_reducible repeat (first | apply Kd.R_alloc | apply Kd.R_drewN | apply Kd.R_drew)); exact (Kd.R_mono (Kd.R_far (p := ⟨gb188, 1, none⟩) (Kd.R_far (p := ⟨gb188, 0, none⟩) (Kd.R_types HO180.out BK188.out (by decide)) (fun _ hk => hk.2) (.slice Ao52 t182.length co52)) (fun _ hk => hk.2) (.slice Ao57 t185.length co57)) (fun _ h_ => h_.1)))); (case side4 => exact (Kd.R_reads' HO180.out).2.1); (case side5 => refine (Kd.R_reads' (e := 84) (base := w.heap.size) (ok := fun k_ => (((True ∧ some k_ ≠ (.slice Ao36 t162.length co36 : Value).ownBlock) ∧ some k_ ≠ (.slice Ao38 t168.length co38 : Value).ownBlock) ∧ some k_ ≠ (.slice Ao44 t175.length co44 : Value).ownBlock)) (n := t182.length) (c := co52) ?_).2.2; exact (by (with_reducible repeat (first | apply Kd.R_alloc | apply Kd.R_drewN | apply Kd.R_drew)); exact (Kd.R_mono (Kd.R_far (p := ⟨gb188, 1, none⟩) (Kd.R_far (p := ⟨gb188, 0, none⟩) (Kd.R_types HO184.out BK188.out (by decide)) (fun _ hk => hk.2) (.slice Ao52 t182.length co52)) (fun _ hk => hk.2) (.slice Ao57 t185.length co57)) (fun _ h_ => h_.1)))); (case side6 => exact (Kd.R_reads' HO184.out).2.1); (case side7 => refine (Kd.R_reads' (e := 2) (base := w.heap.size) (ok := fun k_ => (((True ∧ some k_ ≠ (.slice Ao37 t165.length co37 : Value).ownBlock) ∧ some k_ ≠ (.slice Ao39 t171.length co39 : Value).ownBlock) ∧ some k_ ≠ (.slice Ao48 t178.length co48 : Value).ownBlock)) (n := t185.length) (c := co57) ?_).2.2; exact (by (with_reducible repeat (first | apply Kd.R_alloc | apply Kd.R_drewN | apply Kd.R_drew)); exact (Kd.R_mono (Kd.R_far (p := ⟨gb188, 1, none⟩) (Kd.R_far (p := ⟨gb188, 0, none⟩) (Kd.R_types HO187.out BK188.out (by decide)) (fun _ hk => hk.2) (.slice Ao52 t182.length co52)) (fun _ hk => hk.2) (.slice Ao57 t185.length co57)) (fun _ h_ => h_.1)))); (case side8 => exact (Kd.R_reads' HO187.out).2.1); rintro e w59 ⟨rfl, hb⟩; refine ⟨_, rfl, ?_⟩; have n0_ := Aside0.mk (Kd.R_below (by (with_reducible repeat (first | apply Kd.R_alloc | apply Kd.R_drewN | apply Kd.R_drew)); exact (Kd.R_mono (Kd.R_far (p := ⟨gb188, 1, none⟩) (Kd.R_far (p := ⟨gb188, 0, none⟩) (Kd.R_types HO164.out BK188.out (by decide)) (fun _ hk => hk.2) (.slice Ao52 t182.length co52)) (fun _ hk => hk.2) (.slice Ao57 t185.length co57)) (fun _ h_ => h_.1))) hb); have n1_ := Aside0.mk (Kd.R_below (by (with_reducible repeat (first | apply Kd.R_alloc | apply Kd.R_drewN | apply Kd.R_drew)); exact (Kd.R_mono (Kd.R_far (p := ⟨gb188, 1, none⟩) (Kd.R_far (p := ⟨gb188, 0, none⟩) (Kd.R_types HO167.out BK188.out (by decide)) (fun _ hk => hk.2) (.slice Ao52 t182.length co52)) (fun _ hk => hk.2) (.slice Ao57 t185.length co57)) (fun _ h_ => h_.1))) hb); have n2_ := Aside0.mk (Kd.R_below (by (with_reducible repeat (first | apply Kd.R_alloc | apply Kd.R_drewN | apply Kd.R_drew)); exact (Kd.R_mono (Kd.R_far (p := ⟨gb188, 1, none⟩) (Kd.R_far (p := ⟨gb188, 0, none⟩) (Kd.R_types HO170.out BK188.out (by decide)) (fun _ hk => hk.2) (.slice Ao52 t182.length co52)) (fun _ hk => hk.2) (.slice Ao57 t185.length co57)) (fun _ h_ => h_.1))) hb); have n3_ := Aside0.mk (Kd.R_below (by (with_reducible repeat (first | apply Kd.R_alloc | apply Kd.R_drewN | apply Kd.R_drew)); exact (Kd.R_mono (Kd.R_far (p := ⟨gb188, 1, none⟩) (Kd.R_far (p := ⟨gb188, 0, none⟩) (Kd.R_types HO173.out BK188.out (by decide)) (fun _ hk => hk.2) (.slice Ao52 t182.length co52)) (fun _ hk => hk.2) (.slice Ao57 t185.length co57)) (fun _ h_ => h_.1))) hb); have n4_ := Aside0.mk (Kd.R_below (by (with_reducible repeat (first | apply Kd.R_alloc | apply Kd.R_drewN | apply Kd.R_drew)); exact (Kd.R_mono (Kd.R_far (p := ⟨gb188, 1, none⟩) (Kd.R_far (p := ⟨gb188, 0, none⟩) (Kd.R_types HO177.out BK188.out (by decide)) (fun _ hk => hk.2) (.slice Ao52 t182.length co52)) (fun _ hk => hk.2) (.slice Ao57 t185.length co57)) (fun _ h_ => h_.1))) hb); have n5_ := Aside0.mk (Kd.R_below (by (with_reducible repeat (first | apply Kd.R_alloc | apply Kd.R_drewN | apply Kd.R_drew)); exact (Kd.R_mono (Kd.R_far (p := ⟨gb188, 1, none⟩) (Kd.R_far (p := ⟨gb188, 0, none⟩) (Kd.R_types HO180.out BK188.out (by decide)) (fun _ hk => hk.2) (.slice Ao52 t182.length co52)) (fun _ hk => hk.2) (.slice Ao57 t185.length co57)) (fun _ h_ => h_.1))) hb); have n6_ := Aside0.mk (Kd.R_below (by (with_reducible repeat (first | apply Kd.R_alloc | apply Kd.R_drewN | apply Kd.R_drew)); exact (Kd.R_mono (Kd.R_far (p := ⟨gb188, 1, none⟩) (Kd.R_far (p := ⟨gb188, 0, none⟩) (Kd.R_types HO184.out BK188.out (by decide)) (fun _ hk => hk.2) (.slice Ao52 t182.length co52)) (fun _ hk => hk.2) (.slice Ao57 t185.length co57)) (fun _ h_ => h_.1))) hb); have n7_ := Aside0.mk (Kd.R_below (by (with_reducible repeat (first | apply Kd.R_alloc | apply Kd.R_drewN | apply Kd.R_drew)); exact (Kd.R_mono (Kd.R_far (p := ⟨gb188, 1, none⟩) (Kd.R_far (p := ⟨gb188, 0, none⟩) (Kd.R_types HO187.out BK188.out (by decide)) (fun _ hk => hk.2) (.slice Ao52 t182.length co52)) (fun _ hk => hk.2) (.slice Ao57 t185.length co57)) (fun _ h_ => h_.1))) hb); have n8_ := Aside0.mk (blk_below (g := gb158) (o := .cells #[.slice A0_0 l0_0.length c0_0, .slice A0_1 l0_1.length c0_1] 40 (0, 0)) (by (with_reducible repeat (first | refine blk_drewN ?_ _ | refine blk_drew ?_ | refine blk_alloc ?_ _)); refine blk_far ?_ NB158_188.out _; (with_reducible repeat (first | refine blk_drewN ?_ _ | refine blk_drew ?_ | refine blk_alloc ?_ _)); refine blk_far ?_ NB158_188.out _; (with_reducible repeat (first | refine blk_drewN ?_ _ | refine blk_drew ?_ | refine blk_alloc ?_ _)); exact BK158.out) hb); have n9_ := Aside0.mk (blk_below (g := gb159) (o := .cells #[.slice A1_0 l1_0.length c1_0, .slice A1_1 l1_1.length c1_1] 40 (0, 0)) (by (with_reducible repeat (first | refine blk_drewN ?_ _ | refine blk_drew ?_ | refine blk_alloc ?_ _)); refine blk_far ?_ NB159_188.out _; (with_reducible repeat (first | refine blk_drewN ?_ _ | refine blk_drew ?_ | refine blk_alloc ?_ _)); refine blk_far ?_ NB159_188.out _; (with_reducible repeat (first | refine blk_drewN ?_ _ | refine blk_drew ?_ | refine blk_alloc ?_ _)); exact BK159.out) hb); have n10_ := Aside0.mk (blk_below (g := gb181) (o := .cells #[.slice Ao44 t175.length co44, .slice Ao48 t178.length co48] 45 (0, 0)) (by (with_reducible repeat (first | refine blk_drewN ?_ _ | refine blk_drew ?_ | refine blk_alloc ?_ _)); refine blk_far ?_ NB181_188.out _; (with_reducible repeat (first | refine blk_drewN ?_ _ | refine blk_drew ?_ | refine blk_alloc ?_ _)); refine blk_far ?_ NB181_188.out _; (with_reducible repeat (first | refine blk_drewN ?_ _ | refine blk_drew ?_ | refine blk_alloc ?_ _)); exact BK181.out) hb); have n11_ := Aside0.mk (blk_below (g := gb188) (o := .cells #[.slice Ao52 t182.length co52, .slice Ao57 t185.length co57] 45 (0, 0)) (by (with_reducible repeat (first | refine blk_drewN ?_ _ | refine blk_drew ?_ | refine blk_alloc ?_ _)); refine blk_put (cs := #[.slice Ao52 t182.length co52, .slice none 0 0]) ?_ 1 _ rfl; (with_reducible repeat (first | refine blk_drewN ?_ _ | refine blk_drew ?_ | refine blk_alloc ?_ _)); refine blk_put (cs := #[.slice none 0 0, .slice none 0 0]) ?_ 0 _ rfl; (with_reducible repeat (first | refine blk_drewN ?_ _ | refine blk_drew ?_ | refine blk_alloc ?_ _)); exact BK188.out) hb); have n12_ := Aside0.mk (below_step (pB4 HB.out GE158.out GE159.out GE181.out GE188.out) hb); clear HO164; clear HO167; clear HO170; clear HO173; clear HO177; clear HO180; clear HO184; clear HO187; clear BK158; clear BK159; clear BK181; clear BK188; clear HB; have HO164 := n0_; have HO167 := n1_; have HO170 := n2_; have HO173 := n3_; have HO177 := n4_; have HO180 := n5_; have HO184 := n6_; have HO187 := n7_; have BK158 := n8_; have BK159 := n9_; have BK181 := n10_; have BK188 := n11_; have HB := n12_; clear n0_ n1_ n2_ n3_ n4_ n5_ n6_ n7_ n8_ n9_ n10_ n11_ n12_; (try clear hb); (try clear hb2); (try clear hk); (try clear hi)))
        go_ret
        exact ⟨by first | rfl | (simp [errW_none, errW_some] <;> rfl) | (simp [*, errW_none, errW_some] <;> rfl), pB4 HB.out GE158.out GE159.out GE181.out GE188.out⟩
      · rw [if_neg c25] at H
        have c25b0 : (t189 != t174) = false := by simpa using c25
        (try (have c25b1 : decide (t189 = t174) = true := by simpa using c25))
        (try (have c25b2 : (t189 == t174) = true := by simpa using c25))
        clear c25
        replace H := Option.bind_eq_some_iff.mp H
        obtain ⟨⟨t190, t193⟩, A600, H⟩ := H
        replace H : ((laws_eqPacket.f k t175 t178 t190 t193).bind fun t196 => (if t196 = true then ((laws_toPacket.f k l1_0 l1_1).bind fun bt197 => ((laws_eqPacket.f k t182 t185 bt197.1 bt197.2).bind fun t203 => (if t203 = true then (some true) else (some false)))) else (some false))) = some r := H
        have A60 := Aside0.mk A600
        clear A600
        replace H := Option.bind_eq_some_iff.mp H
        obtain ⟨t196, A610, H⟩ := H
        replace H : (if t196 = true then ((laws_toPacket.f k l1_0 l1_1).bind fun bt197 => ((laws_eqPacket.f k t182 t185 bt197.1 bt197.2).bind fun t203 => (if t203 = true then (some true) else (some false)))) else (some false)) = some r := H
        have A61 := Aside0.mk A610
        clear A610
        by_cases c62 : t196 = true
        · subst c62
          have H1 : ((laws_toPacket.f k l1_0 l1_1).bind fun bt197 => ((laws_eqPacket.f k t182 t185 bt197.1 bt197.2).bind fun t203 => (if t203 = true then (some true) else (some false)))) = some r := by rw [if_pos rfl] at H; exact H
          clear H
          have H := H1
          clear H1
          replace H := Option.bind_eq_some_iff.mp H
          obtain ⟨⟨t197, t200⟩, A630, H⟩ := H
          replace H : ((laws_eqPacket.f k t182 t185 t197 t200).bind fun t203 => (if t203 = true then (some true) else (some false))) = some r := H
          have A63 := Aside0.mk A630
          clear A630
          replace H := Option.bind_eq_some_iff.mp H
          obtain ⟨t203, A640, H⟩ := H
          replace H : (if t203 = true then (some true) else (some false)) = some r := H
          have A64 := Aside0.mk A640
          clear A640
          by_cases c65 : t203 = true
          · subst c65
            have H1 : (some true) = some r := by rw [if_pos rfl] at H; exact H
            clear H
            have H := H1
            clear H1
            obtain rfl := Option.some.inj H
            go_enter Try.func6, Try.ntmps6
            try go_wp2_with (first | ((with_reducible refine gate_dst (N := 2) rfl ?_); refine box_event ?hg (N := 2) ?hd (cs := #[.slice A0_0 l0_0.length c0_0, .slice A0_1 l0_1.length c0_1]) (t := 40) ?hr ?_; (case hd => rfl); (case hg => rfl); (case hr => first | (go_simp; done) | (go_simp; rfl)); intro gb158 hg w66 hbox hb; have n0_ := Aside0.mk (below_step (pB0 HB.out) hb); have n1_ := Aside0.mk (hbox); have n2_ := Aside0.mk ((by rw [hg]; exact (below_size (pB0 HB.out)) : w.heap.size ≤ gb158)); have n3_ := Aside0.mk ((by rw [hg]; exact (below_size (pB0 HB.out)) : w.heap.size ≤ gb158)); clear HB; have HB := n0_; have BK158 := n1_; have GW158 := n2_; have GE158 := n3_; clear n0_ n1_ n2_ n3_; clear hb hbox hg) | ((with_reducible refine gate_dst (N := 3) rfl ?_); refine box_event ?hg (N := 3) ?hd (cs := #[.slice A1_0 l1_0.length c1_0, .slice A1_1 l1_1.length c1_1]) (t := 40) ?hr ?_; (case hd => rfl); (case hg => rfl); (case hr => first | (go_simp; done) | (go_simp; rfl)); intro gb159 hg w67 hbox hb; have n0_ := Aside0.mk (blk_below (g := gb158) (o := .cells #[.slice A0_0 l0_0.length c0_0, .slice A0_1 l0_1.length c0_1] 40 (0, 0)) (pK BK158.out) hb); have n1_ := Aside0.mk (below_step (pB1 HB.out GE158.out) hb); have n2_ := Aside0.mk (hbox); have n3_ := Aside0.mk ((by rw [hg]; exact (below_size (pB1 HB.out GE158.out)) : w.heap.size ≤ gb159)); have n4_ := Aside0.mk ((by rw [hg]; exact (below_size (pB1 HB.out GE158.out)) : w.heap.size ≤ gb159)); have n5_ := Aside0.mk ((by rw [hg]; exact Nat.ne_of_lt (blk_lt (g := gb158) (o := .cells #[.slice A0_0 l0_0.length c0_0, .slice A0_1 l0_1.length c0_1] 40 (0, 0)) (pK BK158.out)) : gb158 ≠ gb159)); have n6_ := Aside0.mk ((by rw [hg]; exact Nat.ne_of_gt (blk_lt (g := gb158) (o := .cells #[.slice A0_0 l0_0.length c0_0, .slice A0_1 l0_1.length c0_1] 40 (0, 0)) (pK BK158.out)) : gb159 ≠ gb158)); clear BK158; clear HB; have BK158 := n0_; have HB := n1_; have BK159 := n2_; have GW159 := n3_; have GE159 := n4_; have NB158_159 := n5_; have NB159_158 := n6_; clear n0_ n1_ n2_ n3_ n4_ n5_ n6_; clear hb hbox hg; have hnb68 := NB158_159.out; have hnc68 := NB159_158.out; have hcz69_0 : w67.cell? ⟨gb158, 0, none⟩ = some (.slice A0_0 l0_0.length c0_0) := (blk_cell BK158.out 0).trans rfl; have hcz69_1 : w67.cell? ⟨gb158, 1, none⟩ = some (.slice A0_1 l0_1.length c0_1) := (blk_cell BK158.out 1).trans rfl; have hfz69_0 := blk_frozen BK158.out 0; have hfz69_1 := blk_frozen BK158.out 1) | ((with_reducible refine gate_callee (f := 26) rfl ?_); refine goesL_ (some 12) rfl rfl Try.func26 (by kernel_rfl) rfl #[.agg #[.slice A0_0 l0_0.length c0_0, .slice A0_1 l0_1.length c0_1], .int .i64 1048576] rfl pA ?_; (with_reducible refine (laws_szPacket.calls k _ _ l0_0 _ _ l0_1 1048576 t160 _ ?side1 ?side2 ?side3 ?side4 A3.out).mono ?_); (case side1 => exact pC (Kd.C_below HR0_0.out HB.out)); (case side2 => exact HC0_0.out); (case side3 => exact pC (Kd.C_below HR0_1.out HB.out)); (case side4 => exact HC0_1.out); rintro e w70 ⟨rfl, hb⟩; refine ⟨_, rfl, ?_⟩; have n0_ := Aside0.mk (blk_below (g := gb158) (o := .cells #[.slice A0_0 l0_0.length c0_0, .slice A0_1 l0_1.length c0_1] 40 (0, 0)) (pK BK158.out) hb); have n1_ := Aside0.mk (blk_below (g := gb159) (o := .cells #[.slice A1_0 l1_0.length c1_0, .slice A1_1 l1_1.length c1_1] 40 (0, 0)) (pK BK159.out) hb); have n2_ := Aside0.mk (below_step (pB2 HB.out GE158.out GE159.out) hb); clear BK158; clear BK159; clear HB; have BK158 := n0_; have BK159 := n1_; have HB := n2_; clear n0_ n1_ n2_; (try clear hb); (try clear hb2); (try clear hk); (try clear hi); have hcz71_0 : w70.cell? ⟨gb159, 0, none⟩ = some (.slice A1_0 l1_0.length c1_0) := (blk_cell BK159.out 0).trans rfl; have hcz71_1 : w70.cell? ⟨gb159, 1, none⟩ = some (.slice A1_1 l1_1.length c1_1) := (blk_cell BK159.out 1).trans rfl; have hfz71_0 := blk_frozen BK159.out 0; have hfz71_1 := blk_frozen BK159.out 1) | ((with_reducible refine gate_callee (f := 26) rfl ?_); refine goesL_ (some 17) rfl rfl Try.func26 (by kernel_rfl) rfl #[.agg #[.slice A1_0 l1_0.length c1_0, .slice A1_1 l1_1.length c1_1], .int .i64 t160] rfl pA ?_; (with_reducible refine (laws_szPacket.calls k _ _ l1_0 _ _ l1_1 t160 t161 _ ?side1 ?side2 ?side3 ?side4 A10.out).mono ?_); (case side1 => exact pC (Kd.C_below HR1_0.out HB.out)); (case side2 => exact HC1_0.out); (case side3 => exact pC (Kd.C_below HR1_1.out HB.out)); (case side4 => exact HC1_1.out); rintro e w72 ⟨rfl, hb⟩; refine ⟨_, rfl, ?_⟩; have n0_ := Aside0.mk (blk_below (g := gb158) (o := .cells #[.slice A0_0 l0_0.length c0_0, .slice A0_1 l0_1.length c0_1] 40 (0, 0)) (pK BK158.out) hb); have n1_ := Aside0.mk (blk_below (g := gb159) (o := .cells #[.slice A1_0 l1_0.length c1_0, .slice A1_1 l1_1.length c1_1] 40 (0, 0)) (pK BK159.out) hb); have n2_ := Aside0.mk (below_step (pB2 HB.out GE158.out GE159.out) hb); clear BK158; clear BK159; clear HB; have BK158 := n0_; have BK159 := n1_; have HB := n2_; clear n0_ n1_ n2_; (try clear hb); (try clear hb2); (try clear hk); (try clear hi)))
            have n0_ := Aside0.mk (blk_drew BK158.out)
            have n1_ := Aside0.mk (blk_drew BK159.out)
            have n2_ := Aside0.mk (below_drew1 HB.out)
            clear BK158
            clear BK159
            clear HB
            have BK158 := n0_
            have BK159 := n1_
            have HB := n2_
            clear n0_ n1_ n2_
            refine start_ (n := 6) (S := fun w' => w'.cell? ⟨gb158, 0, none⟩ = some (.slice A0_0 l0_0.length c0_0) ∧ w'.cell? ⟨gb158, 1, none⟩ = some (.slice A0_1 l0_1.length c0_1) ∧ w'.cell? ⟨gb159, 0, none⟩ = some (.slice A1_0 l1_0.length c1_0) ∧ w'.cell? ⟨gb159, 1, none⟩ = some (.slice A1_1 l1_1.length c1_1)) (ds := []) #[false, false, false, false, false, false] (by kernel_rfl) rfl rfl ⟨(blk_cell BK158.out 0).trans rfl, (blk_cell BK158.out 1).trans rfl, (blk_cell BK159.out 0).trans rfl, (blk_cell BK159.out 1).trans rfl⟩ (fun hHeld => ?_)
            generalize w72.drew = w73 at BK158 BK159 HB hHeld ⊢
            refine take_ (i := 0) (N := some 20) (v := ?_) (a' := ?_) #[true, false, false, false, false, false] rfl rfl (by kernel_rfl) (fun _ _ _ h => h) (Or.inl ⟨by rfl, ?_⟩) hHeld ?_ ?_
            rotate_left
            · rintro w' ⟨s0, s1, s2, s3⟩
              go_simp
              with_reducible rfl
            rotate_left
            · simp only [Act.put, List.setIfInBounds_toArray, List.set_cons_zero, List.set_cons_succ, i64_w, i32_w]
              rfl
            refine take_ (i := 2) (N := some 22) (v := ?_) (a' := ?_) #[true, false, true, false, false, false] rfl rfl (by kernel_rfl) (fun _ _ _ h => h) (Or.inl ⟨by rfl, ?_⟩) hHeld ?_ ?_
            rotate_left
            · rintro w' ⟨s0, s1, s2, s3⟩
              go_simp
              with_reducible rfl
            rotate_left
            · simp only [Act.put, List.setIfInBounds_toArray, List.set_cons_zero, List.set_cons_succ, i64_w, i32_w]
              rfl
            refine one_ (i := 1) (N := some 21) #[true, true, true, false, false, false] rfl rfl (by kernel_rfl) (by decide) (fun K hK => ?_)
            refine goes_ Try.func28 (by kernel_rfl) rfl #[.agg #[.slice A0_0 l0_0.length c0_0, .slice A0_1 l0_1.length c0_1]] (by rfl) rfl rfl pA ?_
            with_reducible refine (laws_toPacket.calls k _ _ l0_0 _ _ l0_1 t162 t165 _ ?side1 ?side2 ?side3 ?side4 A19.out).mono ?_
            (case side1 => exact pC (Kd.C_below HR0_0.out HB.out))
            (case side2 => exact HC0_0.out)
            (case side3 => exact pC (Kd.C_below HR0_1.out HB.out))
            (case side4 => exact HC0_1.out)
            rintro e w74 ⟨v163, v166, rfl, ho0, ho1, hb⟩
            refine ⟨_, rfl, ?_⟩
            have n0_ := Aside0.mk (Kd.R_lower ho0 (below_size (pB2 HB.out GE158.out GE159.out)))
            have n1_ := Aside0.mk (Kd.R_lower ho1 (below_size (pB2 HB.out GE158.out GE159.out)))
            have n2_ := Aside0.mk (blk_below (g := gb158) (o := .cells #[.slice A0_0 l0_0.length c0_0, .slice A0_1 l0_1.length c0_1] 40 (0, 0)) (pK BK158.out) hb)
            have n3_ := Aside0.mk (blk_below (g := gb159) (o := .cells #[.slice A1_0 l1_0.length c1_0, .slice A1_1 l1_1.length c1_1] 40 (0, 0)) (pK BK159.out) hb)
            have n4_ := Aside0.mk (below_step (pB2 HB.out GE158.out GE159.out) hb)
            clear BK158
            clear BK159
            clear HB
            have HO164 := n0_
            have HO167 := n1_
            have BK158 := n2_
            have BK159 := n3_
            have HB := n4_
            clear n0_ n1_ n2_ n3_ n4_
            (try clear hb)
            (try clear hb2)
            (try clear hk)
            (try clear hi)
            (try clear ho0)
            (try clear ho1)
            refine hK.out _ _ ⟨(blk_cell BK158.out 0).trans rfl, (blk_cell BK158.out 1).trans rfl, (blk_cell BK159.out 0).trans rfl, (blk_cell BK159.out 1).trans rfl⟩ (fun hHeld => ?_)
            clear hK K
            refine norm_ (a' := ?_) ?_ ?_
            rotate_left
            · show Act.put _ (some 21) _ = _
              simp only [Act.put, List.setIfInBounds_toArray, List.set_cons_zero, List.set_cons_succ, i64_w, i32_w]
              rfl
            refine one_ (i := 3) (N := some 23) #[true, true, true, true, false, false] rfl rfl (by kernel_rfl) (by decide) (fun K hK => ?_)
            refine goes_ Try.func28 (by kernel_rfl) rfl #[.agg #[.slice A1_0 l1_0.length c1_0, .slice A1_1 l1_1.length c1_1]] (by rfl) rfl rfl pA ?_
            with_reducible refine (laws_toPacket.calls k _ _ l1_0 _ _ l1_1 t168 t171 _ ?side1 ?side2 ?side3 ?side4 A20.out).mono ?_
            (case side1 => exact pC (Kd.C_below HR1_0.out HB.out))
            (case side2 => exact HC1_0.out)
            (case side3 => exact pC (Kd.C_below HR1_1.out HB.out))
            (case side4 => exact HC1_1.out)
            rintro e w75 ⟨v169, v172, rfl, ho0, ho1, hb⟩
            refine ⟨_, rfl, ?_⟩
            have n0_ := Aside0.mk (Kd.R_elder' (pR HO164.out) (Kd.R_base ho0) hb)
            have n1_ := Aside0.mk (Kd.R_elder' (pR HO167.out) (Kd.R_base ho1) hb)
            have n2_ := Aside0.mk (Kd.R_lower (Kd.R_new' ho0 (Kd.R_lt (pR HO164.out))) (below_size (pB2 HB.out GE158.out GE159.out)))
            have n3_ := Aside0.mk (Kd.R_lower (Kd.R_new' ho1 (Kd.R_lt (pR HO167.out))) (below_size (pB2 HB.out GE158.out GE159.out)))
            have n4_ := Aside0.mk (blk_below (g := gb158) (o := .cells #[.slice A0_0 l0_0.length c0_0, .slice A0_1 l0_1.length c0_1] 40 (0, 0)) (pK BK158.out) hb)
            have n5_ := Aside0.mk (blk_below (g := gb159) (o := .cells #[.slice A1_0 l1_0.length c1_0, .slice A1_1 l1_1.length c1_1] 40 (0, 0)) (pK BK159.out) hb)
            have n6_ := Aside0.mk (below_step (pB2 HB.out GE158.out GE159.out) hb)
            clear HO164
            clear HO167
            clear BK158
            clear BK159
            clear HB
            have HO164 := n0_
            have HO167 := n1_
            have HO170 := n2_
            have HO173 := n3_
            have BK158 := n4_
            have BK159 := n5_
            have HB := n6_
            clear n0_ n1_ n2_ n3_ n4_ n5_ n6_
            (try clear hb)
            (try clear hb2)
            (try clear hk)
            (try clear hi)
            (try clear ho0)
            (try clear ho1)
            obtain ⟨Ao76, co76, eo76⟩ := Kd.R_slice HO164.out
            (first | subst eo76 | (injection eo76 with f1_ f2_ f3_; have f4_ := f1_.symm; have f5_ := f3_.symm; clear f1_ f2_ f3_; subst f4_; subst f5_))
            obtain ⟨Ao77, co77, eo77⟩ := Kd.R_slice HO167.out
            (first | subst eo77 | (injection eo77 with f1_ f2_ f3_; have f4_ := f1_.symm; have f5_ := f3_.symm; clear f1_ f2_ f3_; subst f4_; subst f5_))
            obtain ⟨Ao78, co78, eo78⟩ := Kd.R_slice HO170.out
            (first | subst eo78 | (injection eo78 with f1_ f2_ f3_; have f4_ := f1_.symm; have f5_ := f3_.symm; clear f1_ f2_ f3_; subst f4_; subst f5_))
            obtain ⟨Ao79, co79, eo79⟩ := Kd.R_slice HO173.out
            (first | subst eo79 | (injection eo79 with f1_ f2_ f3_; have f4_ := f1_.symm; have f5_ := f3_.symm; clear f1_ f2_ f3_; subst f4_; subst f5_))
            refine hK.out _ _ ⟨(blk_cell BK158.out 0).trans rfl, (blk_cell BK158.out 1).trans rfl, (blk_cell BK159.out 0).trans rfl, (blk_cell BK159.out 1).trans rfl⟩ (fun hHeld => ?_)
            clear hK K
            refine norm_ (a' := ?_) ?_ ?_
            rotate_left
            · show Act.put _ (some 23) _ = _
              simp only [Act.put, List.setIfInBounds_toArray, List.set_cons_zero, List.set_cons_succ, i64_w, i32_w]
              rfl
            refine one_ (i := 4) (N := some 24) #[true, true, true, true, true, false] rfl rfl (by kernel_rfl) (by decide) (fun K hK => ?_)
            refine goes_ Try.func27 (by kernel_rfl) rfl #[.agg #[.slice Ao76 t162.length co76, .slice Ao77 t165.length co77], .agg #[.slice Ao78 t168.length co78, .slice Ao79 t171.length co79]] (by rfl) rfl rfl pA ?_
            with_reducible refine (spec_SamePacket.calls k _ _ t162 _ _ t165 _ _ t168 _ _ t171 t174 _ ?side1 ?side2 ?side3 ?side4 ?side5 ?side6 ?side7 ?side8 A21.out).mono ?_
            (case side1 => exact pC ((Kd.R_reads' HO164.out).2.2))
            (case side2 => exact (Kd.R_reads' HO164.out).2.1)
            (case side3 => exact pC ((Kd.R_reads' HO167.out).2.2))
            (case side4 => exact (Kd.R_reads' HO167.out).2.1)
            (case side5 => exact pC ((Kd.R_reads' HO170.out).2.2))
            (case side6 => exact (Kd.R_reads' HO170.out).2.1)
            (case side7 => exact pC ((Kd.R_reads' HO173.out).2.2))
            (case side8 => exact (Kd.R_reads' HO173.out).2.1)
            rintro e w80 ⟨rfl, hb⟩
            refine ⟨_, rfl, ?_⟩
            have n0_ := Aside0.mk (Kd.R_below (pR HO164.out) hb)
            have n1_ := Aside0.mk (Kd.R_below (pR HO167.out) hb)
            have n2_ := Aside0.mk (Kd.R_below (pR HO170.out) hb)
            have n3_ := Aside0.mk (Kd.R_below (pR HO173.out) hb)
            have n4_ := Aside0.mk (blk_below (g := gb158) (o := .cells #[.slice A0_0 l0_0.length c0_0, .slice A0_1 l0_1.length c0_1] 40 (0, 0)) (pK BK158.out) hb)
            have n5_ := Aside0.mk (blk_below (g := gb159) (o := .cells #[.slice A1_0 l1_0.length c1_0, .slice A1_1 l1_1.length c1_1] 40 (0, 0)) (pK BK159.out) hb)
            have n6_ := Aside0.mk (below_step (pB2 HB.out GE158.out GE159.out) hb)
            clear HO164
            clear HO167
            clear HO170
            clear HO173
            clear BK158
            clear BK159
            clear HB
            have HO164 := n0_
            have HO167 := n1_
            have HO170 := n2_
            have HO173 := n3_
            have BK158 := n4_
            have BK159 := n5_
            have HB := n6_
            clear n0_ n1_ n2_ n3_ n4_ n5_ n6_
            (try clear hb)
            (try clear hb2)
            (try clear hk)
            (try clear hi)
            refine hK.out _ _ ⟨(blk_cell BK158.out 0).trans rfl, (blk_cell BK158.out 1).trans rfl, (blk_cell BK159.out 0).trans rfl, (blk_cell BK159.out 1).trans rfl⟩ (fun hHeld => ?_)
            clear hK K
            refine norm_ (a' := ?_) ?_ ?_
            rotate_left
            · show Act.put _ (some 24) _ = _
              simp only [Act.put, List.setIfInBounds_toArray, List.set_cons_zero, List.set_cons_succ, i64_w, i32_w]
              rfl
            refine pure_ (i := 5) (N := some 6) (v := ?_) (a' := ?_) #[true, true, true, true, true, true] rfl rfl (by kernel_rfl) (fun _ _ _ h => h) (Or.inl ⟨by rfl, ?_⟩) ?_ ?_
            rotate_left
            · intro w'
              go_simp
              with_reducible rfl
            rotate_left
            · simp only [Act.put, List.setIfInBounds_toArray, List.set_cons_zero, List.set_cons_succ, i64_w, i32_w]
              rfl
            refine done_ (by kernel_rfl) ?_
            have hcz81_0 : w80.cell? ⟨gb158, 0, none⟩ = some (.slice A0_0 l0_0.length c0_0) := (blk_cell BK158.out 0).trans rfl
            have hcz81_1 : w80.cell? ⟨gb158, 1, none⟩ = some (.slice A0_1 l0_1.length c0_1) := (blk_cell BK158.out 1).trans rfl
            have hfz81_0 := blk_frozen BK158.out 0
            have hfz81_1 := blk_frozen BK158.out 1
            try go_wp2_with (first | ((with_reducible refine gate_callee (f := 28) rfl ?_); refine goesL_ (some 26) rfl rfl Try.func28 (by kernel_rfl) rfl #[.agg #[.slice A0_0 l0_0.length c0_0, .slice A0_1 l0_1.length c0_1]] rfl pA ?_; (with_reducible refine (laws_toPacket.calls k _ _ l0_0 _ _ l0_1 t175 t178 _ ?side1 ?side2 ?side3 ?side4 A22.out).mono ?_); (case side1 => exact pC (Kd.C_below HR0_0.out HB.out)); (case side2 => exact HC0_0.out); (case side3 => exact pC (Kd.C_below HR0_1.out HB.out)); (case side4 => exact HC0_1.out); rintro e w82 ⟨v176, v179, rfl, ho0, ho1, hb⟩; refine ⟨_, rfl, ?_⟩; have n0_ := Aside0.mk (Kd.R_elder' (pR HO164.out) (Kd.R_base ho0) hb); have n1_ := Aside0.mk (Kd.R_elder' (pR HO167.out) (Kd.R_base ho1) hb); have n2_ := Aside0.mk (Kd.R_elder' (pR HO170.out) (Kd.R_base ho0) hb); have n3_ := Aside0.mk (Kd.R_elder' (pR HO173.out) (Kd.R_base ho1) hb); have n4_ := Aside0.mk (Kd.R_lower (Kd.R_new' (Kd.R_new' ho0 (Kd.R_lt (pR HO164.out))) (Kd.R_lt (pR HO170.out))) (below_size (pB2 HB.out GE158.out GE159.out))); have n5_ := Aside0.mk (Kd.R_lower (Kd.R_new' (Kd.R_new' ho1 (Kd.R_lt (pR HO167.out))) (Kd.R_lt (pR HO173.out))) (below_size (pB2 HB.out GE158.out GE159.out))); have n6_ := Aside0.mk (blk_below (g := gb158) (o := .cells #[.slice A0_0 l0_0.length c0_0, .slice A0_1 l0_1.length c0_1] 40 (0, 0)) (pK BK158.out) hb); have n7_ := Aside0.mk (blk_below (g := gb159) (o := .cells #[.slice A1_0 l1_0.length c1_0, .slice A1_1 l1_1.length c1_1] 40 (0, 0)) (pK BK159.out) hb); have n8_ := Aside0.mk (below_step (pB2 HB.out GE158.out GE159.out) hb); clear HO164; clear HO167; clear HO170; clear HO173; clear BK158; clear BK159; clear HB; have HO164 := n0_; have HO167 := n1_; have HO170 := n2_; have HO173 := n3_; have HO177 := n4_; have HO180 := n5_; have BK158 := n6_; have BK159 := n7_; have HB := n8_; clear n0_ n1_ n2_ n3_ n4_ n5_ n6_ n7_ n8_; (try clear hb); (try clear hb2); (try clear hk); (try clear hi); (try clear ho0); (try clear ho1)) | ((with_reducible refine gate_dst (N := 7) rfl ?_); refine box_event ?hg (N := 7) ?hd (cs := #[.slice none 0 0, .slice none 0 0]) (t := 45) ?hr ?_; (case hd => rfl); (case hg => rfl); (case hr => first | (go_simp; done) | (go_simp; rfl)); intro gb181 hg w83 hbox hb; have n0_ := Aside0.mk (Kd.R_below (pR HO164.out) hb); have n1_ := Aside0.mk (Kd.R_below (pR HO167.out) hb); have n2_ := Aside0.mk (Kd.R_below (pR HO170.out) hb); have n3_ := Aside0.mk (Kd.R_below (pR HO173.out) hb); have n4_ := Aside0.mk (Kd.R_below (pR HO177.out) hb); have n5_ := Aside0.mk (Kd.R_below (pR HO180.out) hb); have n6_ := Aside0.mk (blk_below (g := gb158) (o := .cells #[.slice A0_0 l0_0.length c0_0, .slice A0_1 l0_1.length c0_1] 40 (0, 0)) (pK BK158.out) hb); have n7_ := Aside0.mk (blk_below (g := gb159) (o := .cells #[.slice A1_0 l1_0.length c1_0, .slice A1_1 l1_1.length c1_1] 40 (0, 0)) (pK BK159.out) hb); have n8_ := Aside0.mk (below_step (pB2 HB.out GE158.out GE159.out) hb); have n9_ := Aside0.mk (hbox); have n10_ := Aside0.mk ((by rw [hg]; exact (below_size (pB2 HB.out GE158.out GE159.out)) : w.heap.size ≤ gb181)); have n11_ := Aside0.mk ((by rw [hg]; exact (below_size (pB2 HB.out GE158.out GE159.out)) : w.heap.size ≤ gb181)); have n12_ := Aside0.mk ((by rw [hg]; exact Nat.ne_of_lt (blk_lt (g := gb158) (o := .cells #[.slice A0_0 l0_0.length c0_0, .slice A0_1 l0_1.length c0_1] 40 (0, 0)) (pK BK158.out)) : gb158 ≠ gb181)); have n13_ := Aside0.mk ((by rw [hg]; exact Nat.ne_of_gt (blk_lt (g := gb158) (o := .cells #[.slice A0_0 l0_0.length c0_0, .slice A0_1 l0_1.length c0_1] 40 (0, 0)) (pK BK158.out)) : gb181 ≠ gb158)); have n14_ := Aside0.mk ((by rw [hg]; exact Nat.ne_of_lt (blk_lt (g := gb159) (o := .cells #[.slice A1_0 l1_0.length c1_0, .slice A1_1 l1_1.length c1_1] 40 (0, 0)) (pK BK159.out)) : gb159 ≠ gb181)); have n15_ := Aside0.mk ((by rw [hg]; exact Nat.ne_of_gt (blk_lt (g := gb159) (o := .cells #[.slice A1_0 l1_0.length c1_0, .slice A1_1 l1_1.length c1_1] 40 (0, 0)) (pK BK159.out)) : gb181 ≠ gb159)); clear HO164; clear HO167; clear HO170; clear HO173; clear HO177; clear HO180; clear BK158; clear BK159; clear HB; have HO164 := n0_; have HO167 := n1_; have HO170 := n2_; have HO173 := n3_; have HO177 := n4_; have HO180 := n5_; have BK158 := n6_; have BK159 := n7_; have HB := n8_; have BK181 := n9_; have GW181 := n10_; have GE181 := n11_; have NB158_181 := n12_; have NB181_158 := n13_; have NB159_181 := n14_; have NB181_159 := n15_; clear n0_ n1_ n2_ n3_ n4_ n5_ n6_ n7_ n8_ n9_ n10_ n11_ n12_ n13_ n14_ n15_; clear hb hbox hg; obtain ⟨Ao84, co84, eo84⟩ := Kd.R_slice HO177.out; subst eo84; have hnb85 := NB181_158.out; have hnc85 := NB158_181.out; have hnb86 := NB181_159.out; have hnc86 := NB159_181.out; have hcz87_0 : w83.cell? ⟨gb181, 0, none⟩ = some (.slice none 0 0) := (blk_cell BK181.out 0).trans rfl; have hcz87_1 : w83.cell? ⟨gb181, 1, none⟩ = some (.slice none 0 0) := (blk_cell BK181.out 1).trans rfl; have hfz87_0 := blk_frozen BK181.out 0; have hfz87_1 := blk_frozen BK181.out 1; obtain ⟨Ao88, co88, eo88⟩ := Kd.R_slice HO180.out; subst eo88; have hcz89_0 : w83.cell? ⟨gb159, 0, none⟩ = some (.slice A1_0 l1_0.length c1_0) := (blk_cell BK159.out 0).trans rfl; have hcz89_1 : w83.cell? ⟨gb159, 1, none⟩ = some (.slice A1_1 l1_1.length c1_1) := (blk_cell BK159.out 1).trans rfl; have hfz89_0 := blk_frozen BK159.out 0; have hfz89_1 := blk_frozen BK159.out 1) | ((with_reducible refine gate_callee (f := 28) rfl ?_); refine goesL_ (some 28) rfl rfl Try.func28 (by kernel_rfl) rfl #[.agg #[.slice A1_0 l1_0.length c1_0, .slice A1_1 l1_1.length c1_1]] rfl pA ?_; (with_reducible refine (laws_toPacket.calls k _ _ l1_0 _ _ l1_1 t182 t185 _ ?side1 ?side2 ?side3 ?side4 A23.out).mono ?_); (case side1 => exact Kd.C_below HR1_0.out (pB3 HB.out GE158.out GE159.out GE181.out)); (case side2 => exact HC1_0.out); (case side3 => exact Kd.C_below HR1_1.out (pB3 HB.out GE158.out GE159.out GE181.out)); (case side4 => exact HC1_1.out); rintro e w90 ⟨v183, v186, rfl, ho0, ho1, hb⟩; refine ⟨_, rfl, ?_⟩; have n0_ := Aside0.mk (Kd.R_elder' (by (with_reducible repeat (first | apply Kd.R_alloc | apply Kd.R_drewN | apply Kd.R_drew)); exact (Kd.R_mono (Kd.R_far (p := ⟨gb181, 1, none⟩) (Kd.R_far (p := ⟨gb181, 0, none⟩) (Kd.R_types HO164.out BK181.out (by decide)) (fun _ hk => hk.2) (.slice Ao84 t175.length co84)) (fun _ hk => hk.2) (.slice Ao88 t178.length co88)) (fun _ h_ => h_.1))) (Kd.R_base ho0) hb); have n1_ := Aside0.mk (Kd.R_elder' (by (with_reducible repeat (first | apply Kd.R_alloc | apply Kd.R_drewN | apply Kd.R_drew)); exact (Kd.R_mono (Kd.R_far (p := ⟨gb181, 1, none⟩) (Kd.R_far (p := ⟨gb181, 0, none⟩) (Kd.R_types HO167.out BK181.out (by decide)) (fun _ hk => hk.2) (.slice Ao84 t175.length co84)) (fun _ hk => hk.2) (.slice Ao88 t178.length co88)) (fun _ h_ => h_.1))) (Kd.R_base ho1) hb); have n2_ := Aside0.mk (Kd.R_elder' (by (with_reducible repeat (first | apply Kd.R_alloc | apply Kd.R_drewN | apply Kd.R_drew)); exact (Kd.R_mono (Kd.R_far (p := ⟨gb181, 1, none⟩) (Kd.R_far (p := ⟨gb181, 0, none⟩) (Kd.R_types HO170.out BK181.out (by decide)) (fun _ hk => hk.2) (.slice Ao84 t175.length co84)) (fun _ hk => hk.2) (.slice Ao88 t178.length co88)) (fun _ h_ => h_.1))) (Kd.R_base ho0) hb); have n3_ := Aside0.mk (Kd.R_elder' (by (with_reducible repeat (first | apply Kd.R_alloc | apply Kd.R_drewN | apply Kd.R_drew)); exact (Kd.R_mono (Kd.R_far (p := ⟨gb181, 1, none⟩) (Kd.R_far (p := ⟨gb181, 0, none⟩) (Kd.R_types HO173.out BK181.out (by decide)) (fun _ hk => hk.2) (.slice Ao84 t175.length co84)) (fun _ hk => hk.2) (.slice Ao88 t178.length co88)) (fun _ h_ => h_.1))) (Kd.R_base ho1) hb); have n4_ := Aside0.mk (Kd.R_elder' (by (with_reducible repeat (first | apply Kd.R_alloc | apply Kd.R_drewN | apply Kd.R_drew)); exact (Kd.R_mono (Kd.R_far (p := ⟨gb181, 1, none⟩) (Kd.R_far (p := ⟨gb181, 0, none⟩) (Kd.R_types HO177.out BK181.out (by decide)) (fun _ hk => hk.2) (.slice Ao84 t175.length co84)) (fun _ hk => hk.2) (.slice Ao88 t178.length co88)) (fun _ h_ => h_.1))) (Kd.R_base ho0) hb); have n5_ := Aside0.mk (Kd.R_elder' (by (with_reducible repeat (first | apply Kd.R_alloc | apply Kd.R_drewN | apply Kd.R_drew)); exact (Kd.R_mono (Kd.R_far (p := ⟨gb181, 1, none⟩) (Kd.R_far (p := ⟨gb181, 0, none⟩) (Kd.R_types HO180.out BK181.out (by decide)) (fun _ hk => hk.2) (.slice Ao84 t175.length co84)) (fun _ hk => hk.2) (.slice Ao88 t178.length co88)) (fun _ h_ => h_.1))) (Kd.R_base ho1) hb); have n6_ := Aside0.mk (Kd.R_lower (Kd.R_new' (Kd.R_new' (Kd.R_new' ho0 (Kd.R_lt (by (with_reducible repeat (first | apply Kd.R_alloc | apply Kd.R_drewN | apply Kd.R_drew)); exact (Kd.R_mono (Kd.R_far (p := ⟨gb181, 1, none⟩) (Kd.R_far (p := ⟨gb181, 0, none⟩) (Kd.R_types HO164.out BK181.out (by decide)) (fun _ hk => hk.2) (.slice Ao84 t175.length co84)) (fun _ hk => hk.2) (.slice Ao88 t178.length co88)) (fun _ h_ => h_.1))))) (Kd.R_lt (by (with_reducible repeat (first | apply Kd.R_alloc | apply Kd.R_drewN | apply Kd.R_drew)); exact (Kd.R_mono (Kd.R_far (p := ⟨gb181, 1, none⟩) (Kd.R_far (p := ⟨gb181, 0, none⟩) (Kd.R_types HO170.out BK181.out (by decide)) (fun _ hk => hk.2) (.slice Ao84 t175.length co84)) (fun _ hk => hk.2) (.slice Ao88 t178.length co88)) (fun _ h_ => h_.1))))) (Kd.R_lt (by (with_reducible repeat (first | apply Kd.R_alloc | apply Kd.R_drewN | apply Kd.R_drew)); exact (Kd.R_mono (Kd.R_far (p := ⟨gb181, 1, none⟩) (Kd.R_far (p := ⟨gb181, 0, none⟩) (Kd.R_types HO177.out BK181.out (by decide)) (fun _ hk => hk.2) (.slice Ao84 t175.length co84)) (fun _ hk => hk.2) (.slice Ao88 t178.length co88)) (fun _ h_ => h_.1))))) (below_size (pB3 HB.out GE158.out GE159.out GE181.out))); have n7_ := Aside0.mk (Kd.R_lower (Kd.R_new' (Kd.R_new' (Kd.R_new' ho1 (Kd.R_lt (by (with_reducible repeat (first | apply Kd.R_alloc | apply Kd.R_drewN | apply Kd.R_drew)); exact (Kd.R_mono (Kd.R_far (p := ⟨gb181, 1, none⟩) (Kd.R_far (p := ⟨gb181, 0, none⟩) (Kd.R_types HO167.out BK181.out (by decide)) (fun _ hk => hk.2) (.slice Ao84 t175.length co84)) (fun _ hk => hk.2) (.slice Ao88 t178.length co88)) (fun _ h_ => h_.1))))) (Kd.R_lt (by (with_reducible repeat (first | apply Kd.R_alloc | apply Kd.R_drewN | apply Kd.R_drew)); exact (Kd.R_mono (Kd.R_far (p := ⟨gb181, 1, none⟩) (Kd.R_far (p := ⟨gb181, 0, none⟩) (Kd.R_types HO173.out BK181.out (by decide)) (fun _ hk => hk.2) (.slice Ao84 t175.length co84)) (fun _ hk => hk.2) (.slice Ao88 t178.length co88)) (fun _ h_ => h_.1))))) (Kd.R_lt (by (with_reducible repeat (first | apply Kd.R_alloc | apply Kd.R_drewN | apply Kd.R_drew)); exact (Kd.R_mono (Kd.R_far (p := ⟨gb181, 1, none⟩) (Kd.R_far (p := ⟨gb181, 0, none⟩) (Kd.R_types HO180.out BK181.out (by decide)) (fun _ hk => hk.2) (.slice Ao84 t175.length co84)) (fun _ hk => hk.2) (.slice Ao88 t178.length co88)) (fun _ h_ => h_.1))))) (below_size (pB3 HB.out GE158.out GE159.out GE181.out))); have n8_ := Aside0.mk (blk_below (g := gb158) (o := .cells #[.slice A0_0 l0_0.length c0_0, .slice A0_1 l0_1.length c0_1] 40 (0, 0)) (by (with_reducible repeat (first | refine blk_drewN ?_ _ | refine blk_drew ?_ | refine blk_alloc ?_ _)); refine blk_far ?_ NB158_181.out _; (with_reducible repeat (first | refine blk_drewN ?_ _ | refine blk_drew ?_ | refine blk_alloc ?_ _)); refine blk_far ?_ NB158_181.out _; (with_reducible repeat (first | refine blk_drewN ?_ _ | refine blk_drew ?_ | refine blk_alloc ?_ _)); exact BK158.out) hb); have n9_ := Aside0.mk (blk_below (g := gb159) (o := .cells #[.slice A1_0 l1_0.length c1_0, .slice A1_1 l1_1.length c1_1] 40 (0, 0)) (by (with_reducible repeat (first | refine blk_drewN ?_ _ | refine blk_drew ?_ | refine blk_alloc ?_ _)); refine blk_far ?_ NB159_181.out _; (with_reducible repeat (first | refine blk_drewN ?_ _ | refine blk_drew ?_ | refine blk_alloc ?_ _)); refine blk_far ?_ NB159_181.out _; (with_reducible repeat (first | refine blk_drewN ?_ _ | refine blk_drew ?_ | refine blk_alloc ?_ _)); exact BK159.out) hb); have n10_ := Aside0.mk (blk_below (g := gb181) (o := .cells #[.slice Ao84 t175.length co84, .slice Ao88 t178.length co88] 45 (0, 0)) (by (with_reducible repeat (first | refine blk_drewN ?_ _ | refine blk_drew ?_ | refine blk_alloc ?_ _)); refine blk_put (cs := #[.slice Ao84 t175.length co84, .slice none 0 0]) ?_ 1 _ rfl; (with_reducible repeat (first | refine blk_drewN ?_ _ | refine blk_drew ?_ | refine blk_alloc ?_ _)); refine blk_put (cs := #[.slice none 0 0, .slice none 0 0]) ?_ 0 _ rfl; (with_reducible repeat (first | refine blk_drewN ?_ _ | refine blk_drew ?_ | refine blk_alloc ?_ _)); exact BK181.out) hb); have n11_ := Aside0.mk (below_step (pB3 HB.out GE158.out GE159.out GE181.out) hb); clear HO164; clear HO167; clear HO170; clear HO173; clear HO177; clear HO180; clear BK158; clear BK159; clear BK181; clear HB; have HO164 := n0_; have HO167 := n1_; have HO170 := n2_; have HO173 := n3_; have HO177 := n4_; have HO180 := n5_; have HO184 := n6_; have HO187 := n7_; have BK158 := n8_; have BK159 := n9_; have BK181 := n10_; have HB := n11_; clear n0_ n1_ n2_ n3_ n4_ n5_ n6_ n7_ n8_ n9_ n10_ n11_; (try clear hb); (try clear hb2); (try clear hk); (try clear hi); (try clear ho0); (try clear ho1)) | ((with_reducible refine gate_dst (N := 8) rfl ?_); refine box_event ?hg (N := 8) ?hd (cs := #[.slice none 0 0, .slice none 0 0]) (t := 45) ?hr ?_; (case hd => rfl); (case hg => rfl); (case hr => first | (go_simp; done) | (go_simp; rfl)); intro gb188 hg w91 hbox hb; have n0_ := Aside0.mk (Kd.R_below (pR HO164.out) hb); have n1_ := Aside0.mk (Kd.R_below (pR HO167.out) hb); have n2_ := Aside0.mk (Kd.R_below (pR HO170.out) hb); have n3_ := Aside0.mk (Kd.R_below (pR HO173.out) hb); have n4_ := Aside0.mk (Kd.R_below (pR HO177.out) hb); have n5_ := Aside0.mk (Kd.R_below (pR HO180.out) hb); have n6_ := Aside0.mk (Kd.R_below (pR HO184.out) hb); have n7_ := Aside0.mk (Kd.R_below (pR HO187.out) hb); have n8_ := Aside0.mk (blk_below (g := gb158) (o := .cells #[.slice A0_0 l0_0.length c0_0, .slice A0_1 l0_1.length c0_1] 40 (0, 0)) (pK BK158.out) hb); have n9_ := Aside0.mk (blk_below (g := gb159) (o := .cells #[.slice A1_0 l1_0.length c1_0, .slice A1_1 l1_1.length c1_1] 40 (0, 0)) (pK BK159.out) hb); have n10_ := Aside0.mk (blk_below (g := gb181) (o := .cells #[.slice Ao84 t175.length co84, .slice Ao88 t178.length co88] 45 (0, 0)) (pK BK181.out) hb); have n11_ := Aside0.mk (below_step (pB3 HB.out GE158.out GE159.out GE181.out) hb); have n12_ := Aside0.mk (hbox); have n13_ := Aside0.mk ((by rw [hg]; exact (below_size (pB3 HB.out GE158.out GE159.out GE181.out)) : w.heap.size ≤ gb188)); have n14_ := Aside0.mk ((by rw [hg]; exact (below_size (pB3 HB.out GE158.out GE159.out GE181.out)) : w.heap.size ≤ gb188)); have n15_ := Aside0.mk ((by rw [hg]; exact Nat.ne_of_lt (blk_lt (g := gb158) (o := .cells #[.slice A0_0 l0_0.length c0_0, .slice A0_1 l0_1.length c0_1] 40 (0, 0)) (pK BK158.out)) : gb158 ≠ gb188)); have n16_ := Aside0.mk ((by rw [hg]; exact Nat.ne_of_gt (blk_lt (g := gb158) (o := .cells #[.slice A0_0 l0_0.length c0_0, .slice A0_1 l0_1.length c0_1] 40 (0, 0)) (pK BK158.out)) : gb188 ≠ gb158)); have n17_ := Aside0.mk ((by rw [hg]; exact Nat.ne_of_lt (blk_lt (g := gb159) (o := .cells #[.slice A1_0 l1_0.length c1_0, .slice A1_1 l1_1.length c1_1] 40 (0, 0)) (pK BK159.out)) : gb159 ≠ gb188)); have n18_ := Aside0.mk ((by rw [hg]; exact Nat.ne_of_gt (blk_lt (g := gb159) (o := .cells #[.slice A1_0 l1_0.length c1_0, .slice A1_1 l1_1.length c1_1] 40 (0, 0)) (pK BK159.out)) : gb188 ≠ gb159)); have n19_ := Aside0.mk ((by rw [hg]; exact Nat.ne_of_lt (blk_lt (g := gb181) (o := .cells #[.slice Ao84 t175.length co84, .slice Ao88 t178.length co88] 45 (0, 0)) (pK BK181.out)) : gb181 ≠ gb188)); have n20_ := Aside0.mk ((by rw [hg]; exact Nat.ne_of_gt (blk_lt (g := gb181) (o := .cells #[.slice Ao84 t175.length co84, .slice Ao88 t178.length co88] 45 (0, 0)) (pK BK181.out)) : gb188 ≠ gb181)); clear HO164; clear HO167; clear HO170; clear HO173; clear HO177; clear HO180; clear HO184; clear HO187; clear BK158; clear BK159; clear BK181; clear HB; have HO164 := n0_; have HO167 := n1_; have HO170 := n2_; have HO173 := n3_; have HO177 := n4_; have HO180 := n5_; have HO184 := n6_; have HO187 := n7_; have BK158 := n8_; have BK159 := n9_; have BK181 := n10_; have HB := n11_; have BK188 := n12_; have GW188 := n13_; have GE188 := n14_; have NB158_188 := n15_; have NB188_158 := n16_; have NB159_188 := n17_; have NB188_159 := n18_; have NB181_188 := n19_; have NB188_181 := n20_; clear n0_ n1_ n2_ n3_ n4_ n5_ n6_ n7_ n8_ n9_ n10_ n11_ n12_ n13_ n14_ n15_ n16_ n17_ n18_ n19_ n20_; clear hb hbox hg; obtain ⟨Ao92, co92, eo92⟩ := Kd.R_slice HO184.out; subst eo92; have hnb93 := NB188_158.out; have hnc93 := NB158_188.out; have hnb94 := NB188_159.out; have hnc94 := NB159_188.out; have hnb95 := NB188_181.out; have hnc95 := NB181_188.out; have hcz96_0 : w91.cell? ⟨gb188, 0, none⟩ = some (.slice none 0 0) := (blk_cell BK188.out 0).trans rfl; have hcz96_1 : w91.cell? ⟨gb188, 1, none⟩ = some (.slice none 0 0) := (blk_cell BK188.out 1).trans rfl; have hfz96_0 := blk_frozen BK188.out 0; have hfz96_1 := blk_frozen BK188.out 1; obtain ⟨Ao97, co97, eo97⟩ := Kd.R_slice HO187.out; subst eo97; have hcz98_0 : w91.cell? ⟨gb181, 0, none⟩ = some (.slice Ao84 t175.length co84) := (blk_cell BK181.out 0).trans rfl; have hcz98_1 : w91.cell? ⟨gb181, 1, none⟩ = some (.slice Ao88 t178.length co88) := (blk_cell BK181.out 1).trans rfl; have hfz98_0 := blk_frozen BK181.out 0; have hfz98_1 := blk_frozen BK181.out 1) | ((with_reducible refine gate_callee (f := 29) rfl ?_); refine goesL_ (some 31) rfl rfl Try.func29 (by kernel_rfl) rfl #[.agg #[.slice Ao84 t175.length co84, .slice Ao88 t178.length co88], .agg #[.slice Ao92 t182.length co92, .slice Ao97 t185.length co97]] rfl pA ?_; (with_reducible refine (impl_SamePacket.calls k _ _ t175 _ _ t178 _ _ t182 _ _ t185 t189 _ ?side1 ?side2 ?side3 ?side4 ?side5 ?side6 ?side7 ?side8 A24.out).mono ?_); (case side1 => refine (Kd.R_reads' (e := 84) (base := w.heap.size) (ok := fun k_ => (((True ∧ some k_ ≠ (.slice Ao76 t162.length co76 : Value).ownBlock) ∧ some k_ ≠ (.slice Ao78 t168.length co78 : Value).ownBlock) ∧ some k_ ≠ (.slice Ao92 t182.length co92 : Value).ownBlock)) (n := t175.length) (c := co84) ?_).2.2; exact (by (with_reducible repeat (first | apply Kd.R_alloc | apply Kd.R_drewN | apply Kd.R_drew)); exact (Kd.R_mono (Kd.R_far (p := ⟨gb188, 1, none⟩) (Kd.R_far (p := ⟨gb188, 0, none⟩) (Kd.R_types HO177.out BK188.out (by decide)) (fun _ hk => hk.2) (.slice Ao92 t182.length co92)) (fun _ hk => hk.2) (.slice Ao97 t185.length co97)) (fun _ h_ => h_.1)))); (case side2 => exact (Kd.R_reads' HO177.out).2.1); (case side3 => refine (Kd.R_reads' (e := 2) (base := w.heap.size) (ok := fun k_ => (((True ∧ some k_ ≠ (.slice Ao77 t165.length co77 : Value).ownBlock) ∧ some k_ ≠ (.slice Ao79 t171.length co79 : Value).ownBlock) ∧ some k_ ≠ (.slice Ao97 t185.length co97 : Value).ownBlock)) (n := t178.length) (c := co88) ?_).2.2; exact (by (with_reducible repeat (first | apply Kd.R_alloc | apply Kd.R_drewN | apply Kd.R_drew)); exact (Kd.R_mono (Kd.R_far (p := ⟨gb188, 1, none⟩) (Kd.R_far (p := ⟨gb188, 0, none⟩) (Kd.R_types HO180.out BK188.out (by decide)) (fun _ hk => hk.2) (.slice Ao92 t182.length co92)) (fun _ hk => hk.2) (.slice Ao97 t185.length co97)) (fun _ h_ => h_.1)))); (case side4 => exact (Kd.R_reads' HO180.out).2.1); (case side5 => refine (Kd.R_reads' (e := 84) (base := w.heap.size) (ok := fun k_ => (((True ∧ some k_ ≠ (.slice Ao76 t162.length co76 : Value).ownBlock) ∧ some k_ ≠ (.slice Ao78 t168.length co78 : Value).ownBlock) ∧ some k_ ≠ (.slice Ao84 t175.length co84 : Value).ownBlock)) (n := t182.length) (c := co92) ?_).2.2; exact (by (with_reducible repeat (first | apply Kd.R_alloc | apply Kd.R_drewN | apply Kd.R_drew)); exact (Kd.R_mono (Kd.R_far (p := ⟨gb188, 1, none⟩) (Kd.R_far (p := ⟨gb188, 0, none⟩) (Kd.R_types HO184.out BK188.out (by decide)) (fun _ hk => hk.2) (.slice Ao92 t182.length co92)) (fun _ hk => hk.2) (.slice Ao97 t185.length co97)) (fun _ h_ => h_.1)))); (case side6 => exact (Kd.R_reads' HO184.out).2.1); (case side7 => refine (Kd.R_reads' (e := 2) (base := w.heap.size) (ok := fun k_ => (((True ∧ some k_ ≠ (.slice Ao77 t165.length co77 : Value).ownBlock) ∧ some k_ ≠ (.slice Ao79 t171.length co79 : Value).ownBlock) ∧ some k_ ≠ (.slice Ao88 t178.length co88 : Value).ownBlock)) (n := t185.length) (c := co97) ?_).2.2; exact (by (with_reducible repeat (first | apply Kd.R_alloc | apply Kd.R_drewN | apply Kd.R_drew)); exact (Kd.R_mono (Kd.R_far (p := ⟨gb188, 1, none⟩) (Kd.R_far (p := ⟨gb188, 0, none⟩) (Kd.R_types HO187.out BK188.out (by decide)) (fun _ hk => hk.2) (.slice Ao92 t182.length co92)) (fun _ hk => hk.2) (.slice Ao97 t185.length co97)) (fun _ h_ => h_.1)))); (case side8 => exact (Kd.R_reads' HO187.out).2.1); rintro e w99 ⟨rfl, hb⟩; refine ⟨_, rfl, ?_⟩; have n0_ := Aside0.mk (Kd.R_below (by (with_reducible repeat (first | apply Kd.R_alloc | apply Kd.R_drewN | apply Kd.R_drew)); exact (Kd.R_mono (Kd.R_far (p := ⟨gb188, 1, none⟩) (Kd.R_far (p := ⟨gb188, 0, none⟩) (Kd.R_types HO164.out BK188.out (by decide)) (fun _ hk => hk.2) (.slice Ao92 t182.length co92)) (fun _ hk => hk.2) (.slice Ao97 t185.length co97)) (fun _ h_ => h_.1))) hb); have n1_ := Aside0.mk (Kd.R_below (by (with_reducible repeat (first | apply Kd.R_alloc | apply Kd.R_drewN | apply Kd.R_drew)); exact (Kd.R_mono (Kd.R_far (p := ⟨gb188, 1, none⟩) (Kd.R_far (p := ⟨gb188, 0, none⟩) (Kd.R_types HO167.out BK188.out (by decide)) (fun _ hk => hk.2) (.slice Ao92 t182.length co92)) (fun _ hk => hk.2) (.slice Ao97 t185.length co97)) (fun _ h_ => h_.1))) hb); have n2_ := Aside0.mk (Kd.R_below (by (with_reducible repeat (first | apply Kd.R_alloc | apply Kd.R_drewN | apply Kd.R_drew)); exact (Kd.R_mono (Kd.R_far (p := ⟨gb188, 1, none⟩) (Kd.R_far (p := ⟨gb188, 0, none⟩) (Kd.R_types HO170.out BK188.out (by decide)) (fun _ hk => hk.2) (.slice Ao92 t182.length co92)) (fun _ hk => hk.2) (.slice Ao97 t185.length co97)) (fun _ h_ => h_.1))) hb); have n3_ := Aside0.mk (Kd.R_below (by (with_reducible repeat (first | apply Kd.R_alloc | apply Kd.R_drewN | apply Kd.R_drew)); exact (Kd.R_mono (Kd.R_far (p := ⟨gb188, 1, none⟩) (Kd.R_far (p := ⟨gb188, 0, none⟩) (Kd.R_types HO173.out BK188.out (by decide)) (fun _ hk => hk.2) (.slice Ao92 t182.length co92)) (fun _ hk => hk.2) (.slice Ao97 t185.length co97)) (fun _ h_ => h_.1))) hb); have n4_ := Aside0.mk (Kd.R_below (by (with_reducible repeat (first | apply Kd.R_alloc | apply Kd.R_drewN | apply Kd.R_drew)); exact (Kd.R_mono (Kd.R_far (p := ⟨gb188, 1, none⟩) (Kd.R_far (p := ⟨gb188, 0, none⟩) (Kd.R_types HO177.out BK188.out (by decide)) (fun _ hk => hk.2) (.slice Ao92 t182.length co92)) (fun _ hk => hk.2) (.slice Ao97 t185.length co97)) (fun _ h_ => h_.1))) hb); have n5_ := Aside0.mk (Kd.R_below (by (with_reducible repeat (first | apply Kd.R_alloc | apply Kd.R_drewN | apply Kd.R_drew)); exact (Kd.R_mono (Kd.R_far (p := ⟨gb188, 1, none⟩) (Kd.R_far (p := ⟨gb188, 0, none⟩) (Kd.R_types HO180.out BK188.out (by decide)) (fun _ hk => hk.2) (.slice Ao92 t182.length co92)) (fun _ hk => hk.2) (.slice Ao97 t185.length co97)) (fun _ h_ => h_.1))) hb); have n6_ := Aside0.mk (Kd.R_below (by (with_reducible repeat (first | apply Kd.R_alloc | apply Kd.R_drewN | apply Kd.R_drew)); exact (Kd.R_mono (Kd.R_far (p := ⟨gb188, 1, none⟩) (Kd.R_far (p := ⟨gb188, 0, none⟩) (Kd.R_types HO184.out BK188.out (by decide)) (fun _ hk => hk.2) (.slice Ao92 t182.length co92)) (fun _ hk => hk.2) (.slice Ao97 t185.length co97)) (fun _ h_ => h_.1))) hb); have n7_ := Aside0.mk (Kd.R_below (by (with_reducible repeat (first | apply Kd.R_alloc | apply Kd.R_drewN | apply Kd.R_drew)); exact (Kd.R_mono (Kd.R_far (p := ⟨gb188, 1, none⟩) (Kd.R_far (p := ⟨gb188, 0, none⟩) (Kd.R_types HO187.out BK188.out (by decide)) (fun _ hk => hk.2) (.slice Ao92 t182.length co92)) (fun _ hk => hk.2) (.slice Ao97 t185.length co97)) (fun _ h_ => h_.1))) hb); have n8_ := Aside0.mk (blk_below (g := gb158) (o := .cells #[.slice A0_0 l0_0.length c0_0, .slice A0_1 l0_1.length c0_1] 40 (0, 0)) (by (with_reducible repeat (first | refine blk_drewN ?_ _ | refine blk_drew ?_ | refine blk_alloc ?_ _)); refine blk_far ?_ NB158_188.out _; (with_reducible repeat (first | refine blk_drewN ?_ _ | refine blk_drew ?_ | refine blk_alloc ?_ _)); refine blk_far ?_ NB158_188.out _; (with_reducible repeat (first | refine blk_drewN ?_ _ | refine blk_drew ?_ | refine blk_alloc ?_ _)); exact BK158.out) hb); have n9_ := Aside0.mk (blk_below (g := gb159) (o := .cells #[.slice A1_0 l1_0.length c1_0, .slice A1_1 l1_1.length c1_1] 40 (0, 0)) (by (with_reducible repeat (first | refine blk_drewN ?_ _ | refine blk_drew ?_ | refine blk_alloc ?_ _)); refine blk_far ?_ NB159_188.out _; (with_reducible repeat (first | refine blk_drewN ?_ _ | refine blk_drew ?_ | refine blk_alloc ?_ _)); refine blk_far ?_ NB159_188.out _; (with_reducible repeat (first | refine blk_drewN ?_ _ | refine blk_drew ?_ | refine blk_alloc ?_ _)); exact BK159.out) hb); have n10_ := Aside0.mk (blk_below (g := gb181) (o := .cells #[.slice Ao84 t175.length co84, .slice Ao88 t178.length co88] 45 (0, 0)) (by (with_reducible repeat (first | refine blk_drewN ?_ _ | refine blk_drew ?_ | refine blk_alloc ?_ _)); refine blk_far ?_ NB181_188.out _; (with_reducible repeat (first | refine blk_drewN ?_ _ | refine blk_drew ?_ | refine blk_alloc ?_ _)); refine blk_far ?_ NB181_188.out _; (with_reducible repeat (first | refine blk_drewN ?_ _ | refine blk_drew ?_ | refine blk_alloc ?_ _)); exact BK181.out) hb); have n11_ := Aside0.mk (blk_below (g := gb188) (o := .cells #[.slice Ao92 t182.length co92, .slice Ao97 t185.length co97] 45 (0, 0)) (by (with_reducible repeat (first | refine blk_drewN ?_ _ | refine blk_drew ?_ | refine blk_alloc ?_ _)); refine blk_put (cs := #[.slice Ao92 t182.length co92, .slice none 0 0]) ?_ 1 _ rfl; (with_reducible repeat (first | refine blk_drewN ?_ _ | refine blk_drew ?_ | refine blk_alloc ?_ _)); refine blk_put (cs := #[.slice none 0 0, .slice none 0 0]) ?_ 0 _ rfl; (with_reducible repeat (first | refine blk_drewN ?_ _ | refine blk_drew ?_ | refine blk_alloc ?_ _)); exact BK188.out) hb); have n12_ := Aside0.mk (below_step (pB4 HB.out GE158.out GE159.out GE181.out GE188.out) hb); clear HO164; clear HO167; clear HO170; clear HO173; clear HO177; clear HO180; clear HO184; clear HO187; clear BK158; clear BK159; clear BK181; clear BK188; clear HB; have HO164 := n0_; have HO167 := n1_; have HO170 := n2_; have HO173 := n3_; have HO177 := n4_; have HO180 := n5_; have HO184 := n6_; have HO187 := n7_; have BK158 := n8_; have BK159 := n9_; have BK181 := n10_; have BK188 := n11_; have HB := n12_; clear n0_ n1_ n2_ n3_ n4_ n5_ n6_ n7_ n8_ n9_ n10_ n11_ n12_; (try clear hb); (try clear hb2); (try clear hk); (try clear hi)))
            have n0_ := Aside0.mk (Kd.R_drew HO164.out)
            have n1_ := Aside0.mk (Kd.R_drew HO167.out)
            have n2_ := Aside0.mk (Kd.R_drew HO170.out)
            have n3_ := Aside0.mk (Kd.R_drew HO173.out)
            have n4_ := Aside0.mk (Kd.R_drew HO177.out)
            have n5_ := Aside0.mk (Kd.R_drew HO180.out)
            have n6_ := Aside0.mk (Kd.R_drew HO184.out)
            have n7_ := Aside0.mk (Kd.R_drew HO187.out)
            have n8_ := Aside0.mk (blk_drew BK158.out)
            have n9_ := Aside0.mk (blk_drew BK159.out)
            have n10_ := Aside0.mk (blk_drew BK181.out)
            have n11_ := Aside0.mk (blk_drew BK188.out)
            have n12_ := Aside0.mk (below_drew1 HB.out)
            clear HO164
            clear HO167
            clear HO170
            clear HO173
            clear HO177
            clear HO180
            clear HO184
            clear HO187
            clear BK158
            clear BK159
            clear BK181
            clear BK188
            clear HB
            have HO164 := n0_
            have HO167 := n1_
            have HO170 := n2_
            have HO173 := n3_
            have HO177 := n4_
            have HO180 := n5_
            have HO184 := n6_
            have HO187 := n7_
            have BK158 := n8_
            have BK159 := n9_
            have BK181 := n10_
            have BK188 := n11_
            have HB := n12_
            clear n0_ n1_ n2_ n3_ n4_ n5_ n6_ n7_ n8_ n9_ n10_ n11_ n12_
            refine start_ (n := 5) (S := fun w' => w'.cell? ⟨gb181, 0, none⟩ = some (.slice Ao84 t175.length co84) ∧ w'.cell? ⟨gb181, 1, none⟩ = some (.slice Ao88 t178.length co88) ∧ w'.cell? ⟨gb158, 0, none⟩ = some (.slice A0_0 l0_0.length c0_0) ∧ w'.cell? ⟨gb158, 1, none⟩ = some (.slice A0_1 l0_1.length c0_1)) (ds := []) #[false, false, false, false, false] (by kernel_rfl) rfl rfl ⟨(blk_cell BK181.out 0).trans rfl, (blk_cell BK181.out 1).trans rfl, (blk_cell BK158.out 0).trans rfl, (blk_cell BK158.out 1).trans rfl⟩ (fun hHeld => ?_)
            generalize w99.drew = w100 at HO164 HO167 HO170 HO173 HO177 HO180 HO184 HO187 BK158 BK159 BK181 BK188 HB hHeld ⊢
            refine take_ (i := 0) (N := some 35) (v := ?_) (a' := ?_) #[true, false, false, false, false] rfl rfl (by kernel_rfl) (fun _ _ _ h => h) (Or.inl ⟨by rfl, ?_⟩) hHeld ?_ ?_
            rotate_left
            · rintro w' ⟨s0, s1, s2, s3⟩
              go_simp
              with_reducible rfl
            rotate_left
            · simp only [Act.put, List.setIfInBounds_toArray, List.set_cons_zero, List.set_cons_succ, i64_w, i32_w]
              rfl
            refine take_ (i := 1) (N := some 36) (v := ?_) (a' := ?_) #[true, true, false, false, false] rfl rfl (by kernel_rfl) (fun _ _ _ h => h) (Or.inl ⟨by rfl, ?_⟩) hHeld ?_ ?_
            rotate_left
            · rintro w' ⟨s0, s1, s2, s3⟩
              go_simp
              with_reducible rfl
            rotate_left
            · simp only [Act.put, List.setIfInBounds_toArray, List.set_cons_zero, List.set_cons_succ, i64_w, i32_w]
              rfl
            refine one_ (i := 2) (N := some 37) #[true, true, true, false, false] rfl rfl (by kernel_rfl) (by decide) (fun K hK => ?_)
            refine goes_ Try.func28 (by kernel_rfl) rfl #[.agg #[.slice A0_0 l0_0.length c0_0, .slice A0_1 l0_1.length c0_1]] (by rfl) rfl rfl pA ?_
            with_reducible refine (laws_toPacket.calls k _ _ l0_0 _ _ l0_1 t190 t193 _ ?side1 ?side2 ?side3 ?side4 A60.out).mono ?_
            (case side1 => exact pC (Kd.C_below HR0_0.out HB.out))
            (case side2 => exact HC0_0.out)
            (case side3 => exact pC (Kd.C_below HR0_1.out HB.out))
            (case side4 => exact HC0_1.out)
            rintro e w101 ⟨v191, v194, rfl, ho0, ho1, hb⟩
            refine ⟨_, rfl, ?_⟩
            have n0_ := Aside0.mk (Kd.R_elder' (pR HO164.out) (Kd.R_base ho0) hb)
            have n1_ := Aside0.mk (Kd.R_elder' (pR HO167.out) (Kd.R_base ho1) hb)
            have n2_ := Aside0.mk (Kd.R_elder' (pR HO170.out) (Kd.R_base ho0) hb)
            have n3_ := Aside0.mk (Kd.R_elder' (pR HO173.out) (Kd.R_base ho1) hb)
            have n4_ := Aside0.mk (Kd.R_elder' (pR HO177.out) (Kd.R_base ho0) hb)
            have n5_ := Aside0.mk (Kd.R_elder' (pR HO180.out) (Kd.R_base ho1) hb)
            have n6_ := Aside0.mk (Kd.R_elder' (pR HO184.out) (Kd.R_base ho0) hb)
            have n7_ := Aside0.mk (Kd.R_elder' (pR HO187.out) (Kd.R_base ho1) hb)
            have n8_ := Aside0.mk (Kd.R_lower (Kd.R_new' (Kd.R_new' (Kd.R_new' (Kd.R_new' ho0 (Kd.R_lt (pR HO164.out))) (Kd.R_lt (pR HO170.out))) (Kd.R_lt (pR HO177.out))) (Kd.R_lt (pR HO184.out))) (below_size (pB4 HB.out GE158.out GE159.out GE181.out GE188.out)))
            have n9_ := Aside0.mk (Kd.R_lower (Kd.R_new' (Kd.R_new' (Kd.R_new' (Kd.R_new' ho1 (Kd.R_lt (pR HO167.out))) (Kd.R_lt (pR HO173.out))) (Kd.R_lt (pR HO180.out))) (Kd.R_lt (pR HO187.out))) (below_size (pB4 HB.out GE158.out GE159.out GE181.out GE188.out)))
            have n10_ := Aside0.mk (blk_below (g := gb158) (o := .cells #[.slice A0_0 l0_0.length c0_0, .slice A0_1 l0_1.length c0_1] 40 (0, 0)) (pK BK158.out) hb)
            have n11_ := Aside0.mk (blk_below (g := gb159) (o := .cells #[.slice A1_0 l1_0.length c1_0, .slice A1_1 l1_1.length c1_1] 40 (0, 0)) (pK BK159.out) hb)
            have n12_ := Aside0.mk (blk_below (g := gb181) (o := .cells #[.slice Ao84 t175.length co84, .slice Ao88 t178.length co88] 45 (0, 0)) (pK BK181.out) hb)
            have n13_ := Aside0.mk (blk_below (g := gb188) (o := .cells #[.slice Ao92 t182.length co92, .slice Ao97 t185.length co97] 45 (0, 0)) (pK BK188.out) hb)
            have n14_ := Aside0.mk (below_step (pB4 HB.out GE158.out GE159.out GE181.out GE188.out) hb)
            clear HO164
            clear HO167
            clear HO170
            clear HO173
            clear HO177
            clear HO180
            clear HO184
            clear HO187
            clear BK158
            clear BK159
            clear BK181
            clear BK188
            clear HB
            have HO164 := n0_
            have HO167 := n1_
            have HO170 := n2_
            have HO173 := n3_
            have HO177 := n4_
            have HO180 := n5_
            have HO184 := n6_
            have HO187 := n7_
            have HO192 := n8_
            have HO195 := n9_
            have BK158 := n10_
            have BK159 := n11_
            have BK181 := n12_
            have BK188 := n13_
            have HB := n14_
            clear n0_ n1_ n2_ n3_ n4_ n5_ n6_ n7_ n8_ n9_ n10_ n11_ n12_ n13_ n14_
            (try clear hb)
            (try clear hb2)
            (try clear hk)
            (try clear hi)
            (try clear ho0)
            (try clear ho1)
            obtain ⟨Ao102, co102, eo102⟩ := Kd.R_slice HO192.out
            (first | subst eo102 | (injection eo102 with f1_ f2_ f3_; have f4_ := f1_.symm; have f5_ := f3_.symm; clear f1_ f2_ f3_; subst f4_; subst f5_))
            obtain ⟨Ao103, co103, eo103⟩ := Kd.R_slice HO195.out
            (first | subst eo103 | (injection eo103 with f1_ f2_ f3_; have f4_ := f1_.symm; have f5_ := f3_.symm; clear f1_ f2_ f3_; subst f4_; subst f5_))
            refine hK.out _ _ ⟨(blk_cell BK181.out 0).trans rfl, (blk_cell BK181.out 1).trans rfl, (blk_cell BK158.out 0).trans rfl, (blk_cell BK158.out 1).trans rfl⟩ (fun hHeld => ?_)
            clear hK K
            refine norm_ (a' := ?_) ?_ ?_
            rotate_left
            · show Act.put _ (some 37) _ = _
              simp only [Act.put, List.setIfInBounds_toArray, List.set_cons_zero, List.set_cons_succ, i64_w, i32_w]
              rfl
            refine one_ (i := 3) (N := some 38) #[true, true, true, true, false] rfl rfl (by kernel_rfl) (by decide) (fun K hK => ?_)
            refine goes_ Try.func30 (by kernel_rfl) rfl #[.agg #[.slice Ao84 t175.length co84, .slice Ao88 t178.length co88], .agg #[.slice Ao102 t190.length co102, .slice Ao103 t193.length co103]] (by rfl) rfl rfl pA ?_
            with_reducible refine (laws_eqPacket.calls k _ _ t175 _ _ t178 _ _ t190 _ _ t193 true _ ?side1 ?side2 ?side3 ?side4 ?side5 ?side6 ?side7 ?side8 A61.out).mono ?_
            (case side1 => exact pC ((Kd.R_reads' HO177.out).2.2))
            (case side2 => exact (Kd.R_reads' HO177.out).2.1)
            (case side3 => exact pC ((Kd.R_reads' HO180.out).2.2))
            (case side4 => exact (Kd.R_reads' HO180.out).2.1)
            (case side5 => exact pC ((Kd.R_reads' HO192.out).2.2))
            (case side6 => exact (Kd.R_reads' HO192.out).2.1)
            (case side7 => exact pC ((Kd.R_reads' HO195.out).2.2))
            (case side8 => exact (Kd.R_reads' HO195.out).2.1)
            rintro e w104 ⟨rfl, hb⟩
            refine ⟨_, rfl, ?_⟩
            have n0_ := Aside0.mk (Kd.R_below (pR HO164.out) hb)
            have n1_ := Aside0.mk (Kd.R_below (pR HO167.out) hb)
            have n2_ := Aside0.mk (Kd.R_below (pR HO170.out) hb)
            have n3_ := Aside0.mk (Kd.R_below (pR HO173.out) hb)
            have n4_ := Aside0.mk (Kd.R_below (pR HO177.out) hb)
            have n5_ := Aside0.mk (Kd.R_below (pR HO180.out) hb)
            have n6_ := Aside0.mk (Kd.R_below (pR HO184.out) hb)
            have n7_ := Aside0.mk (Kd.R_below (pR HO187.out) hb)
            have n8_ := Aside0.mk (Kd.R_below (pR HO192.out) hb)
            have n9_ := Aside0.mk (Kd.R_below (pR HO195.out) hb)
            have n10_ := Aside0.mk (blk_below (g := gb158) (o := .cells #[.slice A0_0 l0_0.length c0_0, .slice A0_1 l0_1.length c0_1] 40 (0, 0)) (pK BK158.out) hb)
            have n11_ := Aside0.mk (blk_below (g := gb159) (o := .cells #[.slice A1_0 l1_0.length c1_0, .slice A1_1 l1_1.length c1_1] 40 (0, 0)) (pK BK159.out) hb)
            have n12_ := Aside0.mk (blk_below (g := gb181) (o := .cells #[.slice Ao84 t175.length co84, .slice Ao88 t178.length co88] 45 (0, 0)) (pK BK181.out) hb)
            have n13_ := Aside0.mk (blk_below (g := gb188) (o := .cells #[.slice Ao92 t182.length co92, .slice Ao97 t185.length co97] 45 (0, 0)) (pK BK188.out) hb)
            have n14_ := Aside0.mk (below_step (pB4 HB.out GE158.out GE159.out GE181.out GE188.out) hb)
            clear HO164
            clear HO167
            clear HO170
            clear HO173
            clear HO177
            clear HO180
            clear HO184
            clear HO187
            clear HO192
            clear HO195
            clear BK158
            clear BK159
            clear BK181
            clear BK188
            clear HB
            have HO164 := n0_
            have HO167 := n1_
            have HO170 := n2_
            have HO173 := n3_
            have HO177 := n4_
            have HO180 := n5_
            have HO184 := n6_
            have HO187 := n7_
            have HO192 := n8_
            have HO195 := n9_
            have BK158 := n10_
            have BK159 := n11_
            have BK181 := n12_
            have BK188 := n13_
            have HB := n14_
            clear n0_ n1_ n2_ n3_ n4_ n5_ n6_ n7_ n8_ n9_ n10_ n11_ n12_ n13_ n14_
            (try clear hb)
            (try clear hb2)
            (try clear hk)
            (try clear hi)
            refine hK.out _ _ ⟨(blk_cell BK181.out 0).trans rfl, (blk_cell BK181.out 1).trans rfl, (blk_cell BK158.out 0).trans rfl, (blk_cell BK158.out 1).trans rfl⟩ (fun hHeld => ?_)
            clear hK K
            refine norm_ (a' := ?_) ?_ ?_
            rotate_left
            · show Act.put _ (some 38) _ = _
              simp only [Act.put, List.setIfInBounds_toArray, List.set_cons_zero, List.set_cons_succ, i64_w, i32_w]
              rfl
            refine pure_ (i := 4) (N := some 39) (v := ?_) (a' := ?_) #[true, true, true, true, true] rfl rfl (by kernel_rfl) (fun _ _ _ h => h) (Or.inl ⟨by rfl, ?_⟩) ?_ ?_
            rotate_left
            · intro w'
              go_simp
              with_reducible rfl
            rotate_left
            · simp only [Act.put, List.setIfInBounds_toArray, List.set_cons_zero, List.set_cons_succ, i64_w, i32_w]
              rfl
            refine done_ (by kernel_rfl) ?_
            try go_wp2
            have n0_ := Aside0.mk (Kd.R_drew HO164.out)
            have n1_ := Aside0.mk (Kd.R_drew HO167.out)
            have n2_ := Aside0.mk (Kd.R_drew HO170.out)
            have n3_ := Aside0.mk (Kd.R_drew HO173.out)
            have n4_ := Aside0.mk (Kd.R_drew HO177.out)
            have n5_ := Aside0.mk (Kd.R_drew HO180.out)
            have n6_ := Aside0.mk (Kd.R_drew HO184.out)
            have n7_ := Aside0.mk (Kd.R_drew HO187.out)
            have n8_ := Aside0.mk (Kd.R_drew HO192.out)
            have n9_ := Aside0.mk (Kd.R_drew HO195.out)
            have n10_ := Aside0.mk (blk_drew BK158.out)
            have n11_ := Aside0.mk (blk_drew BK159.out)
            have n12_ := Aside0.mk (blk_drew BK181.out)
            have n13_ := Aside0.mk (blk_drew BK188.out)
            have n14_ := Aside0.mk (below_drew1 HB.out)
            clear HO164
            clear HO167
            clear HO170
            clear HO173
            clear HO177
            clear HO180
            clear HO184
            clear HO187
            clear HO192
            clear HO195
            clear BK158
            clear BK159
            clear BK181
            clear BK188
            clear HB
            have HO164 := n0_
            have HO167 := n1_
            have HO170 := n2_
            have HO173 := n3_
            have HO177 := n4_
            have HO180 := n5_
            have HO184 := n6_
            have HO187 := n7_
            have HO192 := n8_
            have HO195 := n9_
            have BK158 := n10_
            have BK159 := n11_
            have BK181 := n12_
            have BK188 := n13_
            have HB := n14_
            clear n0_ n1_ n2_ n3_ n4_ n5_ n6_ n7_ n8_ n9_ n10_ n11_ n12_ n13_ n14_
            refine start_ (n := 5) (S := fun w' => w'.cell? ⟨gb188, 0, none⟩ = some (.slice Ao92 t182.length co92) ∧ w'.cell? ⟨gb188, 1, none⟩ = some (.slice Ao97 t185.length co97) ∧ w'.cell? ⟨gb159, 0, none⟩ = some (.slice A1_0 l1_0.length c1_0) ∧ w'.cell? ⟨gb159, 1, none⟩ = some (.slice A1_1 l1_1.length c1_1)) (ds := []) #[false, false, false, false, false] (by kernel_rfl) rfl rfl ⟨(blk_cell BK188.out 0).trans rfl, (blk_cell BK188.out 1).trans rfl, (blk_cell BK159.out 0).trans rfl, (blk_cell BK159.out 1).trans rfl⟩ (fun hHeld => ?_)
            generalize w104.drew = w105 at HO164 HO167 HO170 HO173 HO177 HO180 HO184 HO187 HO192 HO195 BK158 BK159 BK181 BK188 HB hHeld ⊢
            refine take_ (i := 0) (N := some 40) (v := ?_) (a' := ?_) #[true, false, false, false, false] rfl rfl (by kernel_rfl) (fun _ _ _ h => h) (Or.inl ⟨by rfl, ?_⟩) hHeld ?_ ?_
            rotate_left
            · rintro w' ⟨s0, s1, s2, s3⟩
              go_simp
              with_reducible rfl
            rotate_left
            · simp only [Act.put, List.setIfInBounds_toArray, List.set_cons_zero, List.set_cons_succ, i64_w, i32_w]
              rfl
            refine take_ (i := 1) (N := some 41) (v := ?_) (a' := ?_) #[true, true, false, false, false] rfl rfl (by kernel_rfl) (fun _ _ _ h => h) (Or.inl ⟨by rfl, ?_⟩) hHeld ?_ ?_
            rotate_left
            · rintro w' ⟨s0, s1, s2, s3⟩
              go_simp
              with_reducible rfl
            rotate_left
            · simp only [Act.put, List.setIfInBounds_toArray, List.set_cons_zero, List.set_cons_succ, i64_w, i32_w]
              rfl
            refine one_ (i := 2) (N := some 42) #[true, true, true, false, false] rfl rfl (by kernel_rfl) (by decide) (fun K hK => ?_)
            refine goes_ Try.func28 (by kernel_rfl) rfl #[.agg #[.slice A1_0 l1_0.length c1_0, .slice A1_1 l1_1.length c1_1]] (by rfl) rfl rfl pA ?_
            with_reducible refine (laws_toPacket.calls k _ _ l1_0 _ _ l1_1 t197 t200 _ ?side1 ?side2 ?side3 ?side4 A63.out).mono ?_
            (case side1 => exact pC (Kd.C_below HR1_0.out HB.out))
            (case side2 => exact HC1_0.out)
            (case side3 => exact pC (Kd.C_below HR1_1.out HB.out))
            (case side4 => exact HC1_1.out)
            rintro e w106 ⟨v198, v201, rfl, ho0, ho1, hb⟩
            refine ⟨_, rfl, ?_⟩
            have n0_ := Aside0.mk (Kd.R_elder' (pR HO164.out) (Kd.R_base ho0) hb)
            have n1_ := Aside0.mk (Kd.R_elder' (pR HO167.out) (Kd.R_base ho1) hb)
            have n2_ := Aside0.mk (Kd.R_elder' (pR HO170.out) (Kd.R_base ho0) hb)
            have n3_ := Aside0.mk (Kd.R_elder' (pR HO173.out) (Kd.R_base ho1) hb)
            have n4_ := Aside0.mk (Kd.R_elder' (pR HO177.out) (Kd.R_base ho0) hb)
            have n5_ := Aside0.mk (Kd.R_elder' (pR HO180.out) (Kd.R_base ho1) hb)
            have n6_ := Aside0.mk (Kd.R_elder' (pR HO184.out) (Kd.R_base ho0) hb)
            have n7_ := Aside0.mk (Kd.R_elder' (pR HO187.out) (Kd.R_base ho1) hb)
            have n8_ := Aside0.mk (Kd.R_elder' (pR HO192.out) (Kd.R_base ho0) hb)
            have n9_ := Aside0.mk (Kd.R_elder' (pR HO195.out) (Kd.R_base ho1) hb)
            have n10_ := Aside0.mk (Kd.R_lower (Kd.R_new' (Kd.R_new' (Kd.R_new' (Kd.R_new' (Kd.R_new' ho0 (Kd.R_lt (pR HO164.out))) (Kd.R_lt (pR HO170.out))) (Kd.R_lt (pR HO177.out))) (Kd.R_lt (pR HO184.out))) (Kd.R_lt (pR HO192.out))) (below_size (pB4 HB.out GE158.out GE159.out GE181.out GE188.out)))
            have n11_ := Aside0.mk (Kd.R_lower (Kd.R_new' (Kd.R_new' (Kd.R_new' (Kd.R_new' (Kd.R_new' ho1 (Kd.R_lt (pR HO167.out))) (Kd.R_lt (pR HO173.out))) (Kd.R_lt (pR HO180.out))) (Kd.R_lt (pR HO187.out))) (Kd.R_lt (pR HO195.out))) (below_size (pB4 HB.out GE158.out GE159.out GE181.out GE188.out)))
            have n12_ := Aside0.mk (blk_below (g := gb158) (o := .cells #[.slice A0_0 l0_0.length c0_0, .slice A0_1 l0_1.length c0_1] 40 (0, 0)) (pK BK158.out) hb)
            have n13_ := Aside0.mk (blk_below (g := gb159) (o := .cells #[.slice A1_0 l1_0.length c1_0, .slice A1_1 l1_1.length c1_1] 40 (0, 0)) (pK BK159.out) hb)
            have n14_ := Aside0.mk (blk_below (g := gb181) (o := .cells #[.slice Ao84 t175.length co84, .slice Ao88 t178.length co88] 45 (0, 0)) (pK BK181.out) hb)
            have n15_ := Aside0.mk (blk_below (g := gb188) (o := .cells #[.slice Ao92 t182.length co92, .slice Ao97 t185.length co97] 45 (0, 0)) (pK BK188.out) hb)
            have n16_ := Aside0.mk (below_step (pB4 HB.out GE158.out GE159.out GE181.out GE188.out) hb)
            clear HO164
            clear HO167
            clear HO170
            clear HO173
            clear HO177
            clear HO180
            clear HO184
            clear HO187
            clear HO192
            clear HO195
            clear BK158
            clear BK159
            clear BK181
            clear BK188
            clear HB
            have HO164 := n0_
            have HO167 := n1_
            have HO170 := n2_
            have HO173 := n3_
            have HO177 := n4_
            have HO180 := n5_
            have HO184 := n6_
            have HO187 := n7_
            have HO192 := n8_
            have HO195 := n9_
            have HO199 := n10_
            have HO202 := n11_
            have BK158 := n12_
            have BK159 := n13_
            have BK181 := n14_
            have BK188 := n15_
            have HB := n16_
            clear n0_ n1_ n2_ n3_ n4_ n5_ n6_ n7_ n8_ n9_ n10_ n11_ n12_ n13_ n14_ n15_ n16_
            (try clear hb)
            (try clear hb2)
            (try clear hk)
            (try clear hi)
            (try clear ho0)
            (try clear ho1)
            obtain ⟨Ao107, co107, eo107⟩ := Kd.R_slice HO199.out
            (first | subst eo107 | (injection eo107 with f1_ f2_ f3_; have f4_ := f1_.symm; have f5_ := f3_.symm; clear f1_ f2_ f3_; subst f4_; subst f5_))
            obtain ⟨Ao108, co108, eo108⟩ := Kd.R_slice HO202.out
            (first | subst eo108 | (injection eo108 with f1_ f2_ f3_; have f4_ := f1_.symm; have f5_ := f3_.symm; clear f1_ f2_ f3_; subst f4_; subst f5_))
            refine hK.out _ _ ⟨(blk_cell BK188.out 0).trans rfl, (blk_cell BK188.out 1).trans rfl, (blk_cell BK159.out 0).trans rfl, (blk_cell BK159.out 1).trans rfl⟩ (fun hHeld => ?_)
            clear hK K
            refine norm_ (a' := ?_) ?_ ?_
            rotate_left
            · show Act.put _ (some 42) _ = _
              simp only [Act.put, List.setIfInBounds_toArray, List.set_cons_zero, List.set_cons_succ, i64_w, i32_w]
              rfl
            refine one_ (i := 3) (N := some 43) #[true, true, true, true, false] rfl rfl (by kernel_rfl) (by decide) (fun K hK => ?_)
            refine goes_ Try.func30 (by kernel_rfl) rfl #[.agg #[.slice Ao92 t182.length co92, .slice Ao97 t185.length co97], .agg #[.slice Ao107 t197.length co107, .slice Ao108 t200.length co108]] (by rfl) rfl rfl pA ?_
            with_reducible refine (laws_eqPacket.calls k _ _ t182 _ _ t185 _ _ t197 _ _ t200 true _ ?side1 ?side2 ?side3 ?side4 ?side5 ?side6 ?side7 ?side8 A64.out).mono ?_
            (case side1 => exact pC ((Kd.R_reads' HO184.out).2.2))
            (case side2 => exact (Kd.R_reads' HO184.out).2.1)
            (case side3 => exact pC ((Kd.R_reads' HO187.out).2.2))
            (case side4 => exact (Kd.R_reads' HO187.out).2.1)
            (case side5 => exact pC ((Kd.R_reads' HO199.out).2.2))
            (case side6 => exact (Kd.R_reads' HO199.out).2.1)
            (case side7 => exact pC ((Kd.R_reads' HO202.out).2.2))
            (case side8 => exact (Kd.R_reads' HO202.out).2.1)
            rintro e w109 ⟨rfl, hb⟩
            refine ⟨_, rfl, ?_⟩
            have n0_ := Aside0.mk (Kd.R_below (pR HO164.out) hb)
            have n1_ := Aside0.mk (Kd.R_below (pR HO167.out) hb)
            have n2_ := Aside0.mk (Kd.R_below (pR HO170.out) hb)
            have n3_ := Aside0.mk (Kd.R_below (pR HO173.out) hb)
            have n4_ := Aside0.mk (Kd.R_below (pR HO177.out) hb)
            have n5_ := Aside0.mk (Kd.R_below (pR HO180.out) hb)
            have n6_ := Aside0.mk (Kd.R_below (pR HO184.out) hb)
            have n7_ := Aside0.mk (Kd.R_below (pR HO187.out) hb)
            have n8_ := Aside0.mk (Kd.R_below (pR HO192.out) hb)
            have n9_ := Aside0.mk (Kd.R_below (pR HO195.out) hb)
            have n10_ := Aside0.mk (Kd.R_below (pR HO199.out) hb)
            have n11_ := Aside0.mk (Kd.R_below (pR HO202.out) hb)
            have n12_ := Aside0.mk (blk_below (g := gb158) (o := .cells #[.slice A0_0 l0_0.length c0_0, .slice A0_1 l0_1.length c0_1] 40 (0, 0)) (pK BK158.out) hb)
            have n13_ := Aside0.mk (blk_below (g := gb159) (o := .cells #[.slice A1_0 l1_0.length c1_0, .slice A1_1 l1_1.length c1_1] 40 (0, 0)) (pK BK159.out) hb)
            have n14_ := Aside0.mk (blk_below (g := gb181) (o := .cells #[.slice Ao84 t175.length co84, .slice Ao88 t178.length co88] 45 (0, 0)) (pK BK181.out) hb)
            have n15_ := Aside0.mk (blk_below (g := gb188) (o := .cells #[.slice Ao92 t182.length co92, .slice Ao97 t185.length co97] 45 (0, 0)) (pK BK188.out) hb)
            have n16_ := Aside0.mk (below_step (pB4 HB.out GE158.out GE159.out GE181.out GE188.out) hb)
            clear HO164
            clear HO167
            clear HO170
            clear HO173
            clear HO177
            clear HO180
            clear HO184
            clear HO187
            clear HO192
            clear HO195
            clear HO199
            clear HO202
            clear BK158
            clear BK159
            clear BK181
            clear BK188
            clear HB
            have HO164 := n0_
            have HO167 := n1_
            have HO170 := n2_
            have HO173 := n3_
            have HO177 := n4_
            have HO180 := n5_
            have HO184 := n6_
            have HO187 := n7_
            have HO192 := n8_
            have HO195 := n9_
            have HO199 := n10_
            have HO202 := n11_
            have BK158 := n12_
            have BK159 := n13_
            have BK181 := n14_
            have BK188 := n15_
            have HB := n16_
            clear n0_ n1_ n2_ n3_ n4_ n5_ n6_ n7_ n8_ n9_ n10_ n11_ n12_ n13_ n14_ n15_ n16_
            (try clear hb)
            (try clear hb2)
            (try clear hk)
            (try clear hi)
            refine hK.out _ _ ⟨(blk_cell BK188.out 0).trans rfl, (blk_cell BK188.out 1).trans rfl, (blk_cell BK159.out 0).trans rfl, (blk_cell BK159.out 1).trans rfl⟩ (fun hHeld => ?_)
            clear hK K
            refine norm_ (a' := ?_) ?_ ?_
            rotate_left
            · show Act.put _ (some 43) _ = _
              simp only [Act.put, List.setIfInBounds_toArray, List.set_cons_zero, List.set_cons_succ, i64_w, i32_w]
              rfl
            refine pure_ (i := 4) (N := some 44) (v := ?_) (a' := ?_) #[true, true, true, true, true] rfl rfl (by kernel_rfl) (fun _ _ _ h => h) (Or.inl ⟨by rfl, ?_⟩) ?_ ?_
            rotate_left
            · intro w'
              go_simp
              with_reducible rfl
            rotate_left
            · simp only [Act.put, List.setIfInBounds_toArray, List.set_cons_zero, List.set_cons_succ, i64_w, i32_w]
              rfl
            refine done_ (by kernel_rfl) ?_
            try go_wp2
            go_ret
            exact ⟨by first | rfl | (simp [errW_none, errW_some] <;> rfl) | (simp [*, errW_none, errW_some] <;> rfl), pB4 HB.out GE158.out GE159.out GE181.out GE188.out⟩
          · replace c65 := Bool.eq_false_iff.mpr c65
            subst c65
            have H1 : (some false) = some r := by rw [if_neg (show ¬ (false = true) by decide)] at H; exact H
            clear H
            have H := H1
            clear H1
            obtain rfl := Option.some.inj H
            go_enter Try.func6, Try.ntmps6
            try go_wp2_with (first | ((with_reducible refine gate_dst (N := 2) rfl ?_); refine box_event ?hg (N := 2) ?hd (cs := #[.slice A0_0 l0_0.length c0_0, .slice A0_1 l0_1.length c0_1]) (t := 40) ?hr ?_; (case hd => rfl); (case hg => rfl); (case hr => first | (go_simp; done) | (go_simp; rfl)); intro gb158 hg w110 hbox hb; have n0_ := Aside0.mk (below_step (pB0 HB.out) hb); have n1_ := Aside0.mk (hbox); have n2_ := Aside0.mk ((by rw [hg]; exact (below_size (pB0 HB.out)) : w.heap.size ≤ gb158)); have n3_ := Aside0.mk ((by rw [hg]; exact (below_size (pB0 HB.out)) : w.heap.size ≤ gb158)); clear HB; have HB := n0_; have BK158 := n1_; have GW158 := n2_; have GE158 := n3_; clear n0_ n1_ n2_ n3_; clear hb hbox hg) | ((with_reducible refine gate_dst (N := 3) rfl ?_); refine box_event ?hg (N := 3) ?hd (cs := #[.slice A1_0 l1_0.length c1_0, .slice A1_1 l1_1.length c1_1]) (t := 40) ?hr ?_; (case hd => rfl); (case hg => rfl); (case hr => first | (go_simp; done) | (go_simp; rfl)); intro gb159 hg w111 hbox hb; have n0_ := Aside0.mk (blk_below (g := gb158) (o := .cells #[.slice A0_0 l0_0.length c0_0, .slice A0_1 l0_1.length c0_1] 40 (0, 0)) (pK BK158.out) hb); have n1_ := Aside0.mk (below_step (pB1 HB.out GE158.out) hb); have n2_ := Aside0.mk (hbox); have n3_ := Aside0.mk ((by rw [hg]; exact (below_size (pB1 HB.out GE158.out)) : w.heap.size ≤ gb159)); have n4_ := Aside0.mk ((by rw [hg]; exact (below_size (pB1 HB.out GE158.out)) : w.heap.size ≤ gb159)); have n5_ := Aside0.mk ((by rw [hg]; exact Nat.ne_of_lt (blk_lt (g := gb158) (o := .cells #[.slice A0_0 l0_0.length c0_0, .slice A0_1 l0_1.length c0_1] 40 (0, 0)) (pK BK158.out)) : gb158 ≠ gb159)); have n6_ := Aside0.mk ((by rw [hg]; exact Nat.ne_of_gt (blk_lt (g := gb158) (o := .cells #[.slice A0_0 l0_0.length c0_0, .slice A0_1 l0_1.length c0_1] 40 (0, 0)) (pK BK158.out)) : gb159 ≠ gb158)); clear BK158; clear HB; have BK158 := n0_; have HB := n1_; have BK159 := n2_; have GW159 := n3_; have GE159 := n4_; have NB158_159 := n5_; have NB159_158 := n6_; clear n0_ n1_ n2_ n3_ n4_ n5_ n6_; clear hb hbox hg; have hnb112 := NB158_159.out; have hnc112 := NB159_158.out; have hcz113_0 : w111.cell? ⟨gb158, 0, none⟩ = some (.slice A0_0 l0_0.length c0_0) := (blk_cell BK158.out 0).trans rfl; have hcz113_1 : w111.cell? ⟨gb158, 1, none⟩ = some (.slice A0_1 l0_1.length c0_1) := (blk_cell BK158.out 1).trans rfl; have hfz113_0 := blk_frozen BK158.out 0; have hfz113_1 := blk_frozen BK158.out 1) | ((with_reducible refine gate_callee (f := 26) rfl ?_); refine goesL_ (some 12) rfl rfl Try.func26 (by kernel_rfl) rfl #[.agg #[.slice A0_0 l0_0.length c0_0, .slice A0_1 l0_1.length c0_1], .int .i64 1048576] rfl pA ?_; (with_reducible refine (laws_szPacket.calls k _ _ l0_0 _ _ l0_1 1048576 t160 _ ?side1 ?side2 ?side3 ?side4 A3.out).mono ?_); (case side1 => exact pC (Kd.C_below HR0_0.out HB.out)); (case side2 => exact HC0_0.out); (case side3 => exact pC (Kd.C_below HR0_1.out HB.out)); (case side4 => exact HC0_1.out); rintro e w114 ⟨rfl, hb⟩; refine ⟨_, rfl, ?_⟩; have n0_ := Aside0.mk (blk_below (g := gb158) (o := .cells #[.slice A0_0 l0_0.length c0_0, .slice A0_1 l0_1.length c0_1] 40 (0, 0)) (pK BK158.out) hb); have n1_ := Aside0.mk (blk_below (g := gb159) (o := .cells #[.slice A1_0 l1_0.length c1_0, .slice A1_1 l1_1.length c1_1] 40 (0, 0)) (pK BK159.out) hb); have n2_ := Aside0.mk (below_step (pB2 HB.out GE158.out GE159.out) hb); clear BK158; clear BK159; clear HB; have BK158 := n0_; have BK159 := n1_; have HB := n2_; clear n0_ n1_ n2_; (try clear hb); (try clear hb2); (try clear hk); (try clear hi); have hcz115_0 : w114.cell? ⟨gb159, 0, none⟩ = some (.slice A1_0 l1_0.length c1_0) := (blk_cell BK159.out 0).trans rfl; have hcz115_1 : w114.cell? ⟨gb159, 1, none⟩ = some (.slice A1_1 l1_1.length c1_1) := (blk_cell BK159.out 1).trans rfl; have hfz115_0 := blk_frozen BK159.out 0; have hfz115_1 := blk_frozen BK159.out 1) | ((with_reducible refine gate_callee (f := 26) rfl ?_); refine goesL_ (some 17) rfl rfl Try.func26 (by kernel_rfl) rfl #[.agg #[.slice A1_0 l1_0.length c1_0, .slice A1_1 l1_1.length c1_1], .int .i64 t160] rfl pA ?_; (with_reducible refine (laws_szPacket.calls k _ _ l1_0 _ _ l1_1 t160 t161 _ ?side1 ?side2 ?side3 ?side4 A10.out).mono ?_); (case side1 => exact pC (Kd.C_below HR1_0.out HB.out)); (case side2 => exact HC1_0.out); (case side3 => exact pC (Kd.C_below HR1_1.out HB.out)); (case side4 => exact HC1_1.out); rintro e w116 ⟨rfl, hb⟩; refine ⟨_, rfl, ?_⟩; have n0_ := Aside0.mk (blk_below (g := gb158) (o := .cells #[.slice A0_0 l0_0.length c0_0, .slice A0_1 l0_1.length c0_1] 40 (0, 0)) (pK BK158.out) hb); have n1_ := Aside0.mk (blk_below (g := gb159) (o := .cells #[.slice A1_0 l1_0.length c1_0, .slice A1_1 l1_1.length c1_1] 40 (0, 0)) (pK BK159.out) hb); have n2_ := Aside0.mk (below_step (pB2 HB.out GE158.out GE159.out) hb); clear BK158; clear BK159; clear HB; have BK158 := n0_; have BK159 := n1_; have HB := n2_; clear n0_ n1_ n2_; (try clear hb); (try clear hb2); (try clear hk); (try clear hi)))
            have n0_ := Aside0.mk (blk_drew BK158.out)
            have n1_ := Aside0.mk (blk_drew BK159.out)
            have n2_ := Aside0.mk (below_drew1 HB.out)
            clear BK158
            clear BK159
            clear HB
            have BK158 := n0_
            have BK159 := n1_
            have HB := n2_
            clear n0_ n1_ n2_
            refine start_ (n := 6) (S := fun w' => w'.cell? ⟨gb158, 0, none⟩ = some (.slice A0_0 l0_0.length c0_0) ∧ w'.cell? ⟨gb158, 1, none⟩ = some (.slice A0_1 l0_1.length c0_1) ∧ w'.cell? ⟨gb159, 0, none⟩ = some (.slice A1_0 l1_0.length c1_0) ∧ w'.cell? ⟨gb159, 1, none⟩ = some (.slice A1_1 l1_1.length c1_1)) (ds := []) #[false, false, false, false, false, false] (by kernel_rfl) rfl rfl ⟨(blk_cell BK158.out 0).trans rfl, (blk_cell BK158.out 1).trans rfl, (blk_cell BK159.out 0).trans rfl, (blk_cell BK159.out 1).trans rfl⟩ (fun hHeld => ?_)
            generalize w116.drew = w117 at BK158 BK159 HB hHeld ⊢
            refine take_ (i := 0) (N := some 20) (v := ?_) (a' := ?_) #[true, false, false, false, false, false] rfl rfl (by kernel_rfl) (fun _ _ _ h => h) (Or.inl ⟨by rfl, ?_⟩) hHeld ?_ ?_
            rotate_left
            · rintro w' ⟨s0, s1, s2, s3⟩
              go_simp
              with_reducible rfl
            rotate_left
            · simp only [Act.put, List.setIfInBounds_toArray, List.set_cons_zero, List.set_cons_succ, i64_w, i32_w]
              rfl
            refine take_ (i := 2) (N := some 22) (v := ?_) (a' := ?_) #[true, false, true, false, false, false] rfl rfl (by kernel_rfl) (fun _ _ _ h => h) (Or.inl ⟨by rfl, ?_⟩) hHeld ?_ ?_
            rotate_left
            · rintro w' ⟨s0, s1, s2, s3⟩
              go_simp
              with_reducible rfl
            rotate_left
            · simp only [Act.put, List.setIfInBounds_toArray, List.set_cons_zero, List.set_cons_succ, i64_w, i32_w]
              rfl
            refine one_ (i := 1) (N := some 21) #[true, true, true, false, false, false] rfl rfl (by kernel_rfl) (by decide) (fun K hK => ?_)
            refine goes_ Try.func28 (by kernel_rfl) rfl #[.agg #[.slice A0_0 l0_0.length c0_0, .slice A0_1 l0_1.length c0_1]] (by rfl) rfl rfl pA ?_
            with_reducible refine (laws_toPacket.calls k _ _ l0_0 _ _ l0_1 t162 t165 _ ?side1 ?side2 ?side3 ?side4 A19.out).mono ?_
            (case side1 => exact pC (Kd.C_below HR0_0.out HB.out))
            (case side2 => exact HC0_0.out)
            (case side3 => exact pC (Kd.C_below HR0_1.out HB.out))
            (case side4 => exact HC0_1.out)
            rintro e w118 ⟨v163, v166, rfl, ho0, ho1, hb⟩
            refine ⟨_, rfl, ?_⟩
            have n0_ := Aside0.mk (Kd.R_lower ho0 (below_size (pB2 HB.out GE158.out GE159.out)))
            have n1_ := Aside0.mk (Kd.R_lower ho1 (below_size (pB2 HB.out GE158.out GE159.out)))
            have n2_ := Aside0.mk (blk_below (g := gb158) (o := .cells #[.slice A0_0 l0_0.length c0_0, .slice A0_1 l0_1.length c0_1] 40 (0, 0)) (pK BK158.out) hb)
            have n3_ := Aside0.mk (blk_below (g := gb159) (o := .cells #[.slice A1_0 l1_0.length c1_0, .slice A1_1 l1_1.length c1_1] 40 (0, 0)) (pK BK159.out) hb)
            have n4_ := Aside0.mk (below_step (pB2 HB.out GE158.out GE159.out) hb)
            clear BK158
            clear BK159
            clear HB
            have HO164 := n0_
            have HO167 := n1_
            have BK158 := n2_
            have BK159 := n3_
            have HB := n4_
            clear n0_ n1_ n2_ n3_ n4_
            (try clear hb)
            (try clear hb2)
            (try clear hk)
            (try clear hi)
            (try clear ho0)
            (try clear ho1)
            refine hK.out _ _ ⟨(blk_cell BK158.out 0).trans rfl, (blk_cell BK158.out 1).trans rfl, (blk_cell BK159.out 0).trans rfl, (blk_cell BK159.out 1).trans rfl⟩ (fun hHeld => ?_)
            clear hK K
            refine norm_ (a' := ?_) ?_ ?_
            rotate_left
            · show Act.put _ (some 21) _ = _
              simp only [Act.put, List.setIfInBounds_toArray, List.set_cons_zero, List.set_cons_succ, i64_w, i32_w]
              rfl
            refine one_ (i := 3) (N := some 23) #[true, true, true, true, false, false] rfl rfl (by kernel_rfl) (by decide) (fun K hK => ?_)
            refine goes_ Try.func28 (by kernel_rfl) rfl #[.agg #[.slice A1_0 l1_0.length c1_0, .slice A1_1 l1_1.length c1_1]] (by rfl) rfl rfl pA ?_
            with_reducible refine (laws_toPacket.calls k _ _ l1_0 _ _ l1_1 t168 t171 _ ?side1 ?side2 ?side3 ?side4 A20.out).mono ?_
            (case side1 => exact pC (Kd.C_below HR1_0.out HB.out))
            (case side2 => exact HC1_0.out)
            (case side3 => exact pC (Kd.C_below HR1_1.out HB.out))
            (case side4 => exact HC1_1.out)
            rintro e w119 ⟨v169, v172, rfl, ho0, ho1, hb⟩
            refine ⟨_, rfl, ?_⟩
            have n0_ := Aside0.mk (Kd.R_elder' (pR HO164.out) (Kd.R_base ho0) hb)
            have n1_ := Aside0.mk (Kd.R_elder' (pR HO167.out) (Kd.R_base ho1) hb)
            have n2_ := Aside0.mk (Kd.R_lower (Kd.R_new' ho0 (Kd.R_lt (pR HO164.out))) (below_size (pB2 HB.out GE158.out GE159.out)))
            have n3_ := Aside0.mk (Kd.R_lower (Kd.R_new' ho1 (Kd.R_lt (pR HO167.out))) (below_size (pB2 HB.out GE158.out GE159.out)))
            have n4_ := Aside0.mk (blk_below (g := gb158) (o := .cells #[.slice A0_0 l0_0.length c0_0, .slice A0_1 l0_1.length c0_1] 40 (0, 0)) (pK BK158.out) hb)
            have n5_ := Aside0.mk (blk_below (g := gb159) (o := .cells #[.slice A1_0 l1_0.length c1_0, .slice A1_1 l1_1.length c1_1] 40 (0, 0)) (pK BK159.out) hb)
            have n6_ := Aside0.mk (below_step (pB2 HB.out GE158.out GE159.out) hb)
            clear HO164
            clear HO167
            clear BK158
            clear BK159
            clear HB
            have HO164 := n0_
            have HO167 := n1_
            have HO170 := n2_
            have HO173 := n3_
            have BK158 := n4_
            have BK159 := n5_
            have HB := n6_
            clear n0_ n1_ n2_ n3_ n4_ n5_ n6_
            (try clear hb)
            (try clear hb2)
            (try clear hk)
            (try clear hi)
            (try clear ho0)
            (try clear ho1)
            obtain ⟨Ao120, co120, eo120⟩ := Kd.R_slice HO164.out
            (first | subst eo120 | (injection eo120 with f1_ f2_ f3_; have f4_ := f1_.symm; have f5_ := f3_.symm; clear f1_ f2_ f3_; subst f4_; subst f5_))
            obtain ⟨Ao121, co121, eo121⟩ := Kd.R_slice HO167.out
            (first | subst eo121 | (injection eo121 with f1_ f2_ f3_; have f4_ := f1_.symm; have f5_ := f3_.symm; clear f1_ f2_ f3_; subst f4_; subst f5_))
            obtain ⟨Ao122, co122, eo122⟩ := Kd.R_slice HO170.out
            (first | subst eo122 | (injection eo122 with f1_ f2_ f3_; have f4_ := f1_.symm; have f5_ := f3_.symm; clear f1_ f2_ f3_; subst f4_; subst f5_))
            obtain ⟨Ao123, co123, eo123⟩ := Kd.R_slice HO173.out
            (first | subst eo123 | (injection eo123 with f1_ f2_ f3_; have f4_ := f1_.symm; have f5_ := f3_.symm; clear f1_ f2_ f3_; subst f4_; subst f5_))
            refine hK.out _ _ ⟨(blk_cell BK158.out 0).trans rfl, (blk_cell BK158.out 1).trans rfl, (blk_cell BK159.out 0).trans rfl, (blk_cell BK159.out 1).trans rfl⟩ (fun hHeld => ?_)
            clear hK K
            refine norm_ (a' := ?_) ?_ ?_
            rotate_left
            · show Act.put _ (some 23) _ = _
              simp only [Act.put, List.setIfInBounds_toArray, List.set_cons_zero, List.set_cons_succ, i64_w, i32_w]
              rfl
            refine one_ (i := 4) (N := some 24) #[true, true, true, true, true, false] rfl rfl (by kernel_rfl) (by decide) (fun K hK => ?_)
            refine goes_ Try.func27 (by kernel_rfl) rfl #[.agg #[.slice Ao120 t162.length co120, .slice Ao121 t165.length co121], .agg #[.slice Ao122 t168.length co122, .slice Ao123 t171.length co123]] (by rfl) rfl rfl pA ?_
            with_reducible refine (spec_SamePacket.calls k _ _ t162 _ _ t165 _ _ t168 _ _ t171 t174 _ ?side1 ?side2 ?side3 ?side4 ?side5 ?side6 ?side7 ?side8 A21.out).mono ?_
            (case side1 => exact pC ((Kd.R_reads' HO164.out).2.2))
            (case side2 => exact (Kd.R_reads' HO164.out).2.1)
            (case side3 => exact pC ((Kd.R_reads' HO167.out).2.2))
            (case side4 => exact (Kd.R_reads' HO167.out).2.1)
            (case side5 => exact pC ((Kd.R_reads' HO170.out).2.2))
            (case side6 => exact (Kd.R_reads' HO170.out).2.1)
            (case side7 => exact pC ((Kd.R_reads' HO173.out).2.2))
            (case side8 => exact (Kd.R_reads' HO173.out).2.1)
            rintro e w124 ⟨rfl, hb⟩
            refine ⟨_, rfl, ?_⟩
            have n0_ := Aside0.mk (Kd.R_below (pR HO164.out) hb)
            have n1_ := Aside0.mk (Kd.R_below (pR HO167.out) hb)
            have n2_ := Aside0.mk (Kd.R_below (pR HO170.out) hb)
            have n3_ := Aside0.mk (Kd.R_below (pR HO173.out) hb)
            have n4_ := Aside0.mk (blk_below (g := gb158) (o := .cells #[.slice A0_0 l0_0.length c0_0, .slice A0_1 l0_1.length c0_1] 40 (0, 0)) (pK BK158.out) hb)
            have n5_ := Aside0.mk (blk_below (g := gb159) (o := .cells #[.slice A1_0 l1_0.length c1_0, .slice A1_1 l1_1.length c1_1] 40 (0, 0)) (pK BK159.out) hb)
            have n6_ := Aside0.mk (below_step (pB2 HB.out GE158.out GE159.out) hb)
            clear HO164
            clear HO167
            clear HO170
            clear HO173
            clear BK158
            clear BK159
            clear HB
            have HO164 := n0_
            have HO167 := n1_
            have HO170 := n2_
            have HO173 := n3_
            have BK158 := n4_
            have BK159 := n5_
            have HB := n6_
            clear n0_ n1_ n2_ n3_ n4_ n5_ n6_
            (try clear hb)
            (try clear hb2)
            (try clear hk)
            (try clear hi)
            refine hK.out _ _ ⟨(blk_cell BK158.out 0).trans rfl, (blk_cell BK158.out 1).trans rfl, (blk_cell BK159.out 0).trans rfl, (blk_cell BK159.out 1).trans rfl⟩ (fun hHeld => ?_)
            clear hK K
            refine norm_ (a' := ?_) ?_ ?_
            rotate_left
            · show Act.put _ (some 24) _ = _
              simp only [Act.put, List.setIfInBounds_toArray, List.set_cons_zero, List.set_cons_succ, i64_w, i32_w]
              rfl
            refine pure_ (i := 5) (N := some 6) (v := ?_) (a' := ?_) #[true, true, true, true, true, true] rfl rfl (by kernel_rfl) (fun _ _ _ h => h) (Or.inl ⟨by rfl, ?_⟩) ?_ ?_
            rotate_left
            · intro w'
              go_simp
              with_reducible rfl
            rotate_left
            · simp only [Act.put, List.setIfInBounds_toArray, List.set_cons_zero, List.set_cons_succ, i64_w, i32_w]
              rfl
            refine done_ (by kernel_rfl) ?_
            have hcz125_0 : w124.cell? ⟨gb158, 0, none⟩ = some (.slice A0_0 l0_0.length c0_0) := (blk_cell BK158.out 0).trans rfl
            have hcz125_1 : w124.cell? ⟨gb158, 1, none⟩ = some (.slice A0_1 l0_1.length c0_1) := (blk_cell BK158.out 1).trans rfl
            have hfz125_0 := blk_frozen BK158.out 0
            have hfz125_1 := blk_frozen BK158.out 1
            try go_wp2_with (first | ((with_reducible refine gate_callee (f := 28) rfl ?_); refine goesL_ (some 26) rfl rfl Try.func28 (by kernel_rfl) rfl #[.agg #[.slice A0_0 l0_0.length c0_0, .slice A0_1 l0_1.length c0_1]] rfl pA ?_; (with_reducible refine (laws_toPacket.calls k _ _ l0_0 _ _ l0_1 t175 t178 _ ?side1 ?side2 ?side3 ?side4 A22.out).mono ?_); (case side1 => exact pC (Kd.C_below HR0_0.out HB.out)); (case side2 => exact HC0_0.out); (case side3 => exact pC (Kd.C_below HR0_1.out HB.out)); (case side4 => exact HC0_1.out); rintro e w126 ⟨v176, v179, rfl, ho0, ho1, hb⟩; refine ⟨_, rfl, ?_⟩; have n0_ := Aside0.mk (Kd.R_elder' (pR HO164.out) (Kd.R_base ho0) hb); have n1_ := Aside0.mk (Kd.R_elder' (pR HO167.out) (Kd.R_base ho1) hb); have n2_ := Aside0.mk (Kd.R_elder' (pR HO170.out) (Kd.R_base ho0) hb); have n3_ := Aside0.mk (Kd.R_elder' (pR HO173.out) (Kd.R_base ho1) hb); have n4_ := Aside0.mk (Kd.R_lower (Kd.R_new' (Kd.R_new' ho0 (Kd.R_lt (pR HO164.out))) (Kd.R_lt (pR HO170.out))) (below_size (pB2 HB.out GE158.out GE159.out))); have n5_ := Aside0.mk (Kd.R_lower (Kd.R_new' (Kd.R_new' ho1 (Kd.R_lt (pR HO167.out))) (Kd.R_lt (pR HO173.out))) (below_size (pB2 HB.out GE158.out GE159.out))); have n6_ := Aside0.mk (blk_below (g := gb158) (o := .cells #[.slice A0_0 l0_0.length c0_0, .slice A0_1 l0_1.length c0_1] 40 (0, 0)) (pK BK158.out) hb); have n7_ := Aside0.mk (blk_below (g := gb159) (o := .cells #[.slice A1_0 l1_0.length c1_0, .slice A1_1 l1_1.length c1_1] 40 (0, 0)) (pK BK159.out) hb); have n8_ := Aside0.mk (below_step (pB2 HB.out GE158.out GE159.out) hb); clear HO164; clear HO167; clear HO170; clear HO173; clear BK158; clear BK159; clear HB; have HO164 := n0_; have HO167 := n1_; have HO170 := n2_; have HO173 := n3_; have HO177 := n4_; have HO180 := n5_; have BK158 := n6_; have BK159 := n7_; have HB := n8_; clear n0_ n1_ n2_ n3_ n4_ n5_ n6_ n7_ n8_; (try clear hb); (try clear hb2); (try clear hk); (try clear hi); (try clear ho0); (try clear ho1)) | ((with_reducible refine gate_dst (N := 7) rfl ?_); refine box_event ?hg (N := 7) ?hd (cs := #[.slice none 0 0, .slice none 0 0]) (t := 45) ?hr ?_; (case hd => rfl); (case hg => rfl); (case hr => first | (go_simp; done) | (go_simp; rfl)); intro gb181 hg w127 hbox hb; have n0_ := Aside0.mk (Kd.R_below (pR HO164.out) hb); have n1_ := Aside0.mk (Kd.R_below (pR HO167.out) hb); have n2_ := Aside0.mk (Kd.R_below (pR HO170.out) hb); have n3_ := Aside0.mk (Kd.R_below (pR HO173.out) hb); have n4_ := Aside0.mk (Kd.R_below (pR HO177.out) hb); have n5_ := Aside0.mk (Kd.R_below (pR HO180.out) hb); have n6_ := Aside0.mk (blk_below (g := gb158) (o := .cells #[.slice A0_0 l0_0.length c0_0, .slice A0_1 l0_1.length c0_1] 40 (0, 0)) (pK BK158.out) hb); have n7_ := Aside0.mk (blk_below (g := gb159) (o := .cells #[.slice A1_0 l1_0.length c1_0, .slice A1_1 l1_1.length c1_1] 40 (0, 0)) (pK BK159.out) hb); have n8_ := Aside0.mk (below_step (pB2 HB.out GE158.out GE159.out) hb); have n9_ := Aside0.mk (hbox); have n10_ := Aside0.mk ((by rw [hg]; exact (below_size (pB2 HB.out GE158.out GE159.out)) : w.heap.size ≤ gb181)); have n11_ := Aside0.mk ((by rw [hg]; exact (below_size (pB2 HB.out GE158.out GE159.out)) : w.heap.size ≤ gb181)); have n12_ := Aside0.mk ((by rw [hg]; exact Nat.ne_of_lt (blk_lt (g := gb158) (o := .cells #[.slice A0_0 l0_0.length c0_0, .slice A0_1 l0_1.length c0_1] 40 (0, 0)) (pK BK158.out)) : gb158 ≠ gb181)); have n13_ := Aside0.mk ((by rw [hg]; exact Nat.ne_of_gt (blk_lt (g := gb158) (o := .cells #[.slice A0_0 l0_0.length c0_0, .slice A0_1 l0_1.length c0_1] 40 (0, 0)) (pK BK158.out)) : gb181 ≠ gb158)); have n14_ := Aside0.mk ((by rw [hg]; exact Nat.ne_of_lt (blk_lt (g := gb159) (o := .cells #[.slice A1_0 l1_0.length c1_0, .slice A1_1 l1_1.length c1_1] 40 (0, 0)) (pK BK159.out)) : gb159 ≠ gb181)); have n15_ := Aside0.mk ((by rw [hg]; exact Nat.ne_of_gt (blk_lt (g := gb159) (o := .cells #[.slice A1_0 l1_0.length c1_0, .slice A1_1 l1_1.length c1_1] 40 (0, 0)) (pK BK159.out)) : gb181 ≠ gb159)); clear HO164; clear HO167; clear HO170; clear HO173; clear HO177; clear HO180; clear BK158; clear BK159; clear HB; have HO164 := n0_; have HO167 := n1_; have HO170 := n2_; have HO173 := n3_; have HO177 := n4_; have HO180 := n5_; have BK158 := n6_; have BK159 := n7_; have HB := n8_; have BK181 := n9_; have GW181 := n10_; have GE181 := n11_; have NB158_181 := n12_; have NB181_158 := n13_; have NB159_181 := n14_; have NB181_159 := n15_; clear n0_ n1_ n2_ n3_ n4_ n5_ n6_ n7_ n8_ n9_ n10_ n11_ n12_ n13_ n14_ n15_; clear hb hbox hg; obtain ⟨Ao128, co128, eo128⟩ := Kd.R_slice HO177.out; subst eo128; have hnb129 := NB181_158.out; have hnc129 := NB158_181.out; have hnb130 := NB181_159.out; have hnc130 := NB159_181.out; have hcz131_0 : w127.cell? ⟨gb181, 0, none⟩ = some (.slice none 0 0) := (blk_cell BK181.out 0).trans rfl; have hcz131_1 : w127.cell? ⟨gb181, 1, none⟩ = some (.slice none 0 0) := (blk_cell BK181.out 1).trans rfl; have hfz131_0 := blk_frozen BK181.out 0; have hfz131_1 := blk_frozen BK181.out 1; obtain ⟨Ao132, co132, eo132⟩ := Kd.R_slice HO180.out; subst eo132; have hcz133_0 : w127.cell? ⟨gb159, 0, none⟩ = some (.slice A1_0 l1_0.length c1_0) := (blk_cell BK159.out 0).trans rfl; have hcz133_1 : w127.cell? ⟨gb159, 1, none⟩ = some (.slice A1_1 l1_1.length c1_1) := (blk_cell BK159.out 1).trans rfl; have hfz133_0 := blk_frozen BK159.out 0; have hfz133_1 := blk_frozen BK159.out 1) | ((with_reducible refine gate_callee (f := 28) rfl ?_); refine goesL_ (some 28) rfl rfl Try.func28 (by kernel_rfl) rfl #[.agg #[.slice A1_0 l1_0.length c1_0, .slice A1_1 l1_1.length c1_1]] rfl pA ?_; (with_reducible refine (laws_toPacket.calls k _ _ l1_0 _ _ l1_1 t182 t185 _ ?side1 ?side2 ?side3 ?side4 A23.out).mono ?_); (case side1 => exact Kd.C_below HR1_0.out (pB3 HB.out GE158.out GE159.out GE181.out)); (case side2 => exact HC1_0.out); (case side3 => exact Kd.C_below HR1_1.out (pB3 HB.out GE158.out GE159.out GE181.out)); (case side4 => exact HC1_1.out); rintro e w134 ⟨v183, v186, rfl, ho0, ho1, hb⟩; refine ⟨_, rfl, ?_⟩; have n0_ := Aside0.mk (Kd.R_elder' (by (with_reducible repeat (first | apply Kd.R_alloc | apply Kd.R_drewN | apply Kd.R_drew)); exact (Kd.R_mono (Kd.R_far (p := ⟨gb181, 1, none⟩) (Kd.R_far (p := ⟨gb181, 0, none⟩) (Kd.R_types HO164.out BK181.out (by decide)) (fun _ hk => hk.2) (.slice Ao128 t175.length co128)) (fun _ hk => hk.2) (.slice Ao132 t178.length co132)) (fun _ h_ => h_.1))) (Kd.R_base ho0) hb); have n1_ := Aside0.mk (Kd.R_elder' (by (with_reducible repeat (first | apply Kd.R_alloc | apply Kd.R_drewN | apply Kd.R_drew)); exact (Kd.R_mono (Kd.R_far (p := ⟨gb181, 1, none⟩) (Kd.R_far (p := ⟨gb181, 0, none⟩) (Kd.R_types HO167.out BK181.out (by decide)) (fun _ hk => hk.2) (.slice Ao128 t175.length co128)) (fun _ hk => hk.2) (.slice Ao132 t178.length co132)) (fun _ h_ => h_.1))) (Kd.R_base ho1) hb); have n2_ := Aside0.mk (Kd.R_elder' (by (with_reducible repeat (first | apply Kd.R_alloc | apply Kd.R_drewN | apply Kd.R_drew)); exact (Kd.R_mono (Kd.R_far (p := ⟨gb181, 1, none⟩) (Kd.R_far (p := ⟨gb181, 0, none⟩) (Kd.R_types HO170.out BK181.out (by decide)) (fun _ hk => hk.2) (.slice Ao128 t175.length co128)) (fun _ hk => hk.2) (.slice Ao132 t178.length co132)) (fun _ h_ => h_.1))) (Kd.R_base ho0) hb); have n3_ := Aside0.mk (Kd.R_elder' (by (with_reducible repeat (first | apply Kd.R_alloc | apply Kd.R_drewN | apply Kd.R_drew)); exact (Kd.R_mono (Kd.R_far (p := ⟨gb181, 1, none⟩) (Kd.R_far (p := ⟨gb181, 0, none⟩) (Kd.R_types HO173.out BK181.out (by decide)) (fun _ hk => hk.2) (.slice Ao128 t175.length co128)) (fun _ hk => hk.2) (.slice Ao132 t178.length co132)) (fun _ h_ => h_.1))) (Kd.R_base ho1) hb); have n4_ := Aside0.mk (Kd.R_elder' (by (with_reducible repeat (first | apply Kd.R_alloc | apply Kd.R_drewN | apply Kd.R_drew)); exact (Kd.R_mono (Kd.R_far (p := ⟨gb181, 1, none⟩) (Kd.R_far (p := ⟨gb181, 0, none⟩) (Kd.R_types HO177.out BK181.out (by decide)) (fun _ hk => hk.2) (.slice Ao128 t175.length co128)) (fun _ hk => hk.2) (.slice Ao132 t178.length co132)) (fun _ h_ => h_.1))) (Kd.R_base ho0) hb); have n5_ := Aside0.mk (Kd.R_elder' (by (with_reducible repeat (first | apply Kd.R_alloc | apply Kd.R_drewN | apply Kd.R_drew)); exact (Kd.R_mono (Kd.R_far (p := ⟨gb181, 1, none⟩) (Kd.R_far (p := ⟨gb181, 0, none⟩) (Kd.R_types HO180.out BK181.out (by decide)) (fun _ hk => hk.2) (.slice Ao128 t175.length co128)) (fun _ hk => hk.2) (.slice Ao132 t178.length co132)) (fun _ h_ => h_.1))) (Kd.R_base ho1) hb); have n6_ := Aside0.mk (Kd.R_lower (Kd.R_new' (Kd.R_new' (Kd.R_new' ho0 (Kd.R_lt (by (with_reducible repeat (first | apply Kd.R_alloc | apply Kd.R_drewN | apply Kd.R_drew)); exact (Kd.R_mono (Kd.R_far (p := ⟨gb181, 1, none⟩) (Kd.R_far (p := ⟨gb181, 0, none⟩) (Kd.R_types HO164.out BK181.out (by decide)) (fun _ hk => hk.2) (.slice Ao128 t175.length co128)) (fun _ hk => hk.2) (.slice Ao132 t178.length co132)) (fun _ h_ => h_.1))))) (Kd.R_lt (by (with_reducible repeat (first | apply Kd.R_alloc | apply Kd.R_drewN | apply Kd.R_drew)); exact (Kd.R_mono (Kd.R_far (p := ⟨gb181, 1, none⟩) (Kd.R_far (p := ⟨gb181, 0, none⟩) (Kd.R_types HO170.out BK181.out (by decide)) (fun _ hk => hk.2) (.slice Ao128 t175.length co128)) (fun _ hk => hk.2) (.slice Ao132 t178.length co132)) (fun _ h_ => h_.1))))) (Kd.R_lt (by (with_reducible repeat (first | apply Kd.R_alloc | apply Kd.R_drewN | apply Kd.R_drew)); exact (Kd.R_mono (Kd.R_far (p := ⟨gb181, 1, none⟩) (Kd.R_far (p := ⟨gb181, 0, none⟩) (Kd.R_types HO177.out BK181.out (by decide)) (fun _ hk => hk.2) (.slice Ao128 t175.length co128)) (fun _ hk => hk.2) (.slice Ao132 t178.length co132)) (fun _ h_ => h_.1))))) (below_size (pB3 HB.out GE158.out GE159.out GE181.out))); have n7_ := Aside0.mk (Kd.R_lower (Kd.R_new' (Kd.R_new' (Kd.R_new' ho1 (Kd.R_lt (by (with_reducible repeat (first | apply Kd.R_alloc | apply Kd.R_drewN | apply Kd.R_drew)); exact (Kd.R_mono (Kd.R_far (p := ⟨gb181, 1, none⟩) (Kd.R_far (p := ⟨gb181, 0, none⟩) (Kd.R_types HO167.out BK181.out (by decide)) (fun _ hk => hk.2) (.slice Ao128 t175.length co128)) (fun _ hk => hk.2) (.slice Ao132 t178.length co132)) (fun _ h_ => h_.1))))) (Kd.R_lt (by (with_reducible repeat (first | apply Kd.R_alloc | apply Kd.R_drewN | apply Kd.R_drew)); exact (Kd.R_mono (Kd.R_far (p := ⟨gb181, 1, none⟩) (Kd.R_far (p := ⟨gb181, 0, none⟩) (Kd.R_types HO173.out BK181.out (by decide)) (fun _ hk => hk.2) (.slice Ao128 t175.length co128)) (fun _ hk => hk.2) (.slice Ao132 t178.length co132)) (fun _ h_ => h_.1))))) (Kd.R_lt (by (with_reducible repeat (first | apply Kd.R_alloc | apply Kd.R_drewN | apply Kd.R_drew)); exact (Kd.R_mono (Kd.R_far (p := ⟨gb181, 1, none⟩) (Kd.R_far (p := ⟨gb181, 0, none⟩) (Kd.R_types HO180.out BK181.out (by decide)) (fun _ hk => hk.2) (.slice Ao128 t175.length co128)) (fun _ hk => hk.2) (.slice Ao132 t178.length co132)) (fun _ h_ => h_.1))))) (below_size (pB3 HB.out GE158.out GE159.out GE181.out))); have n8_ := Aside0.mk (blk_below (g := gb158) (o := .cells #[.slice A0_0 l0_0.length c0_0, .slice A0_1 l0_1.length c0_1] 40 (0, 0)) (by (with_reducible repeat (first | refine blk_drewN ?_ _ | refine blk_drew ?_ | refine blk_alloc ?_ _)); refine blk_far ?_ NB158_181.out _; (with_reducible repeat (first | refine blk_drewN ?_ _ | refine blk_drew ?_ | refine blk_alloc ?_ _)); refine blk_far ?_ NB158_181.out _; (with_reducible repeat (first | refine blk_drewN ?_ _ | refine blk_drew ?_ | refine blk_alloc ?_ _)); exact BK158.out) hb); have n9_ := Aside0.mk (blk_below (g := gb159) (o := .cells #[.slice A1_0 l1_0.length c1_0, .slice A1_1 l1_1.length c1_1] 40 (0, 0)) (by (with_reducible repeat (first | refine blk_drewN ?_ _ | refine blk_drew ?_ | refine blk_alloc ?_ _)); refine blk_far ?_ NB159_181.out _; (with_reducible repeat (first | refine blk_drewN ?_ _ | refine blk_drew ?_ | refine blk_alloc ?_ _)); refine blk_far ?_ NB159_181.out _; (with_reducible repeat (first | refine blk_drewN ?_ _ | refine blk_drew ?_ | refine blk_alloc ?_ _)); exact BK159.out) hb); have n10_ := Aside0.mk (blk_below (g := gb181) (o := .cells #[.slice Ao128 t175.length co128, .slice Ao132 t178.length co132] 45 (0, 0)) (by (with_reducible repeat (first | refine blk_drewN ?_ _ | refine blk_drew ?_ | refine blk_alloc ?_ _)); refine blk_put (cs := #[.slice Ao128 t175.length co128, .slice none 0 0]) ?_ 1 _ rfl; (with_reducible repeat (first | refine blk_drewN ?_ _ | refine blk_drew ?_ | refine blk_alloc ?_ _)); refine blk_put (cs := #[.slice none 0 0, .slice none 0 0]) ?_ 0 _ rfl; (with_reducible repeat (first | refine blk_drewN ?_ _ | refine blk_drew ?_ | refine blk_alloc ?_ _)); exact BK181.out) hb); have n11_ := Aside0.mk (below_step (pB3 HB.out GE158.out GE159.out GE181.out) hb); clear HO164; clear HO167; clear HO170; clear HO173; clear HO177; clear HO180; clear BK158; clear BK159; clear BK181; clear HB; have HO164 := n0_; have HO167 := n1_; have HO170 := n2_; have HO173 := n3_; have HO177 := n4_; have HO180 := n5_; have HO184 := n6_; have HO187 := n7_; have BK158 := n8_; have BK159 := n9_; have BK181 := n10_; have HB := n11_; clear n0_ n1_ n2_ n3_ n4_ n5_ n6_ n7_ n8_ n9_ n10_ n11_; (try clear hb); (try clear hb2); (try clear hk); (try clear hi); (try clear ho0); (try clear ho1)) | ((with_reducible refine gate_dst (N := 8) rfl ?_); refine box_event ?hg (N := 8) ?hd (cs := #[.slice none 0 0, .slice none 0 0]) (t := 45) ?hr ?_; (case hd => rfl); (case hg => rfl); (case hr => first | (go_simp; done) | (go_simp; rfl)); intro gb188 hg w135 hbox hb; have n0_ := Aside0.mk (Kd.R_below (pR HO164.out) hb); have n1_ := Aside0.mk (Kd.R_below (pR HO167.out) hb); have n2_ := Aside0.mk (Kd.R_below (pR HO170.out) hb); have n3_ := Aside0.mk (Kd.R_below (pR HO173.out) hb); have n4_ := Aside0.mk (Kd.R_below (pR HO177.out) hb); have n5_ := Aside0.mk (Kd.R_below (pR HO180.out) hb); have n6_ := Aside0.mk (Kd.R_below (pR HO184.out) hb); have n7_ := Aside0.mk (Kd.R_below (pR HO187.out) hb); have n8_ := Aside0.mk (blk_below (g := gb158) (o := .cells #[.slice A0_0 l0_0.length c0_0, .slice A0_1 l0_1.length c0_1] 40 (0, 0)) (pK BK158.out) hb); have n9_ := Aside0.mk (blk_below (g := gb159) (o := .cells #[.slice A1_0 l1_0.length c1_0, .slice A1_1 l1_1.length c1_1] 40 (0, 0)) (pK BK159.out) hb); have n10_ := Aside0.mk (blk_below (g := gb181) (o := .cells #[.slice Ao128 t175.length co128, .slice Ao132 t178.length co132] 45 (0, 0)) (pK BK181.out) hb); have n11_ := Aside0.mk (below_step (pB3 HB.out GE158.out GE159.out GE181.out) hb); have n12_ := Aside0.mk (hbox); have n13_ := Aside0.mk ((by rw [hg]; exact (below_size (pB3 HB.out GE158.out GE159.out GE181.out)) : w.heap.size ≤ gb188)); have n14_ := Aside0.mk ((by rw [hg]; exact (below_size (pB3 HB.out GE158.out GE159.out GE181.out)) : w.heap.size ≤ gb188)); have n15_ := Aside0.mk ((by rw [hg]; exact Nat.ne_of_lt (blk_lt (g := gb158) (o := .cells #[.slice A0_0 l0_0.length c0_0, .slice A0_1 l0_1.length c0_1] 40 (0, 0)) (pK BK158.out)) : gb158 ≠ gb188)); have n16_ := Aside0.mk ((by rw [hg]; exact Nat.ne_of_gt (blk_lt (g := gb158) (o := .cells #[.slice A0_0 l0_0.length c0_0, .slice A0_1 l0_1.length c0_1] 40 (0, 0)) (pK BK158.out)) : gb188 ≠ gb158)); have n17_ := Aside0.mk ((by rw [hg]; exact Nat.ne_of_lt (blk_lt (g := gb159) (o := .cells #[.slice A1_0 l1_0.length c1_0, .slice A1_1 l1_1.length c1_1] 40 (0, 0)) (pK BK159.out)) : gb159 ≠ gb188)); have n18_ := Aside0.mk ((by rw [hg]; exact Nat.ne_of_gt (blk_lt (g := gb159) (o := .cells #[.slice A1_0 l1_0.length c1_0, .slice A1_1 l1_1.length c1_1] 40 (0, 0)) (pK BK159.out)) : gb188 ≠ gb159)); have n19_ := Aside0.mk ((by rw [hg]; exact Nat.ne_of_lt (blk_lt (g := gb181) (o := .cells #[.slice Ao128 t175.length co128, .slice Ao132 t178.length co132] 45 (0, 0)) (pK BK181.out)) : gb181 ≠ gb188)); have n20_ := Aside0.mk ((by rw [hg]; exact Nat.ne_of_gt (blk_lt (g := gb181) (o := .cells #[.slice Ao128 t175.length co128, .slice Ao132 t178.length co132] 45 (0, 0)) (pK BK181.out)) : gb188 ≠ gb181)); clear HO164; clear HO167; clear HO170; clear HO173; clear HO177; clear HO180; clear HO184; clear HO187; clear BK158; clear BK159; clear BK181; clear HB; have HO164 := n0_; have HO167 := n1_; have HO170 := n2_; have HO173 := n3_; have HO177 := n4_; have HO180 := n5_; have HO184 := n6_; have HO187 := n7_; have BK158 := n8_; have BK159 := n9_; have BK181 := n10_; have HB := n11_; have BK188 := n12_; have GW188 := n13_; have GE188 := n14_; have NB158_188 := n15_; have NB188_158 := n16_; have NB159_188 := n17_; have NB188_159 := n18_; have NB181_188 := n19_; have NB188_181 := n20_; clear n0_ n1_ n2_ n3_ n4_ n5_ n6_ n7_ n8_ n9_ n10_ n11_ n12_ n13_ n14_ n15_ n16_ n17_ n18_ n19_ n20_; clear hb hbox hg; obtain ⟨Ao136, co136, eo136⟩ := Kd.R_slice HO184.out; subst eo136; have hnb137 := NB188_158.out; have hnc137 := NB158_188.out; have hnb138 := NB188_159.out; have hnc138 := NB159_188.out; have hnb139 := NB188_181.out; have hnc139 := NB181_188.out; have hcz140_0 : w135.cell? ⟨gb188, 0, none⟩ = some (.slice none 0 0) := (blk_cell BK188.out 0).trans rfl; have hcz140_1 : w135.cell? ⟨gb188, 1, none⟩ = some (.slice none 0 0) := (blk_cell BK188.out 1).trans rfl; have hfz140_0 := blk_frozen BK188.out 0; have hfz140_1 := blk_frozen BK188.out 1; obtain ⟨Ao141, co141, eo141⟩ := Kd.R_slice HO187.out; subst eo141; have hcz142_0 : w135.cell? ⟨gb181, 0, none⟩ = some (.slice Ao128 t175.length co128) := (blk_cell BK181.out 0).trans rfl; have hcz142_1 : w135.cell? ⟨gb181, 1, none⟩ = some (.slice Ao132 t178.length co132) := (blk_cell BK181.out 1).trans rfl; have hfz142_0 := blk_frozen BK181.out 0; have hfz142_1 := blk_frozen BK181.out 1) | ((with_reducible refine gate_callee (f := 29) rfl ?_); refine goesL_ (some 31) rfl rfl Try.func29 (by kernel_rfl) rfl #[.agg #[.slice Ao128 t175.length co128, .slice Ao132 t178.length co132], .agg #[.slice Ao136 t182.length co136, .slice Ao141 t185.length co141]] rfl pA ?_; (with_reducible refine (impl_SamePacket.calls k _ _ t175 _ _ t178 _ _ t182 _ _ t185 t189 _ ?side1 ?side2 ?side3 ?side4 ?side5 ?side6 ?side7 ?side8 A24.out).mono ?_); (case side1 => refine (Kd.R_reads' (e := 84) (base := w.heap.size) (ok := fun k_ => (((True ∧ some k_ ≠ (.slice Ao120 t162.length co120 : Value).ownBlock) ∧ some k_ ≠ (.slice Ao122 t168.length co122 : Value).ownBlock) ∧ some k_ ≠ (.slice Ao136 t182.length co136 : Value).ownBlock)) (n := t175.length) (c := co128) ?_).2.2; exact (by (with_reducible repeat (first | apply Kd.R_alloc | apply Kd.R_drewN | apply Kd.R_drew)); exact (Kd.R_mono (Kd.R_far (p := ⟨gb188, 1, none⟩) (Kd.R_far (p := ⟨gb188, 0, none⟩) (Kd.R_types HO177.out BK188.out (by decide)) (fun _ hk => hk.2) (.slice Ao136 t182.length co136)) (fun _ hk => hk.2) (.slice Ao141 t185.length co141)) (fun _ h_ => h_.1)))); (case side2 => exact (Kd.R_reads' HO177.out).2.1); (case side3 => refine (Kd.R_reads' (e := 2) (base := w.heap.size) (ok := fun k_ => (((True ∧ some k_ ≠ (.slice Ao121 t165.length co121 : Value).ownBlock) ∧ some k_ ≠ (.slice Ao123 t171.length co123 : Value).ownBlock) ∧ some k_ ≠ (.slice Ao141 t185.length co141 : Value).ownBlock)) (n := t178.length) (c := co132) ?_).2.2; exact (by (with_reducible repeat (first | apply Kd.R_alloc | apply Kd.R_drewN | apply Kd.R_drew)); exact (Kd.R_mono (Kd.R_far (p := ⟨gb188, 1, none⟩) (Kd.R_far (p := ⟨gb188, 0, none⟩) (Kd.R_types HO180.out BK188.out (by decide)) (fun _ hk => hk.2) (.slice Ao136 t182.length co136)) (fun _ hk => hk.2) (.slice Ao141 t185.length co141)) (fun _ h_ => h_.1)))); (case side4 => exact (Kd.R_reads' HO180.out).2.1); (case side5 => refine (Kd.R_reads' (e := 84) (base := w.heap.size) (ok := fun k_ => (((True ∧ some k_ ≠ (.slice Ao120 t162.length co120 : Value).ownBlock) ∧ some k_ ≠ (.slice Ao122 t168.length co122 : Value).ownBlock) ∧ some k_ ≠ (.slice Ao128 t175.length co128 : Value).ownBlock)) (n := t182.length) (c := co136) ?_).2.2; exact (by (with_reducible repeat (first | apply Kd.R_alloc | apply Kd.R_drewN | apply Kd.R_drew)); exact (Kd.R_mono (Kd.R_far (p := ⟨gb188, 1, none⟩) (Kd.R_far (p := ⟨gb188, 0, none⟩) (Kd.R_types HO184.out BK188.out (by decide)) (fun _ hk => hk.2) (.slice Ao136 t182.length co136)) (fun _ hk => hk.2) (.slice Ao141 t185.length co141)) (fun _ h_ => h_.1)))); (case side6 => exact (Kd.R_reads' HO184.out).2.1); (case side7 => refine (Kd.R_reads' (e := 2) (base := w.heap.size) (ok := fun k_ => (((True ∧ some k_ ≠ (.slice Ao121 t165.length co121 : Value).ownBlock) ∧ some k_ ≠ (.slice Ao123 t171.length co123 : Value).ownBlock) ∧ some k_ ≠ (.slice Ao132 t178.length co132 : Value).ownBlock)) (n := t185.length) (c := co141) ?_).2.2; exact (by (with_reducible repeat (first | apply Kd.R_alloc | apply Kd.R_drewN | apply Kd.R_drew)); exact (Kd.R_mono (Kd.R_far (p := ⟨gb188, 1, none⟩) (Kd.R_far (p := ⟨gb188, 0, none⟩) (Kd.R_types HO187.out BK188.out (by decide)) (fun _ hk => hk.2) (.slice Ao136 t182.length co136)) (fun _ hk => hk.2) (.slice Ao141 t185.length co141)) (fun _ h_ => h_.1)))); (case side8 => exact (Kd.R_reads' HO187.out).2.1); rintro e w143 ⟨rfl, hb⟩; refine ⟨_, rfl, ?_⟩; have n0_ := Aside0.mk (Kd.R_below (by (with_reducible repeat (first | apply Kd.R_alloc | apply Kd.R_drewN | apply Kd.R_drew)); exact (Kd.R_mono (Kd.R_far (p := ⟨gb188, 1, none⟩) (Kd.R_far (p := ⟨gb188, 0, none⟩) (Kd.R_types HO164.out BK188.out (by decide)) (fun _ hk => hk.2) (.slice Ao136 t182.length co136)) (fun _ hk => hk.2) (.slice Ao141 t185.length co141)) (fun _ h_ => h_.1))) hb); have n1_ := Aside0.mk (Kd.R_below (by (with_reducible repeat (first | apply Kd.R_alloc | apply Kd.R_drewN | apply Kd.R_drew)); exact (Kd.R_mono (Kd.R_far (p := ⟨gb188, 1, none⟩) (Kd.R_far (p := ⟨gb188, 0, none⟩) (Kd.R_types HO167.out BK188.out (by decide)) (fun _ hk => hk.2) (.slice Ao136 t182.length co136)) (fun _ hk => hk.2) (.slice Ao141 t185.length co141)) (fun _ h_ => h_.1))) hb); have n2_ := Aside0.mk (Kd.R_below (by (with_reducible repeat (first | apply Kd.R_alloc | apply Kd.R_drewN | apply Kd.R_drew)); exact (Kd.R_mono (Kd.R_far (p := ⟨gb188, 1, none⟩) (Kd.R_far (p := ⟨gb188, 0, none⟩) (Kd.R_types HO170.out BK188.out (by decide)) (fun _ hk => hk.2) (.slice Ao136 t182.length co136)) (fun _ hk => hk.2) (.slice Ao141 t185.length co141)) (fun _ h_ => h_.1))) hb); have n3_ := Aside0.mk (Kd.R_below (by (with_reducible repeat (first | apply Kd.R_alloc | apply Kd.R_drewN | apply Kd.R_drew)); exact (Kd.R_mono (Kd.R_far (p := ⟨gb188, 1, none⟩) (Kd.R_far (p := ⟨gb188, 0, none⟩) (Kd.R_types HO173.out BK188.out (by decide)) (fun _ hk => hk.2) (.slice Ao136 t182.length co136)) (fun _ hk => hk.2) (.slice Ao141 t185.length co141)) (fun _ h_ => h_.1))) hb); have n4_ := Aside0.mk (Kd.R_below (by (with_reducible repeat (first | apply Kd.R_alloc | apply Kd.R_drewN | apply Kd.R_drew)); exact (Kd.R_mono (Kd.R_far (p := ⟨gb188, 1, none⟩) (Kd.R_far (p := ⟨gb188, 0, none⟩) (Kd.R_types HO177.out BK188.out (by decide)) (fun _ hk => hk.2) (.slice Ao136 t182.length co136)) (fun _ hk => hk.2) (.slice Ao141 t185.length co141)) (fun _ h_ => h_.1))) hb); have n5_ := Aside0.mk (Kd.R_below (by (with_reducible repeat (first | apply Kd.R_alloc | apply Kd.R_drewN | apply Kd.R_drew)); exact (Kd.R_mono (Kd.R_far (p := ⟨gb188, 1, none⟩) (Kd.R_far (p := ⟨gb188, 0, none⟩) (Kd.R_types HO180.out BK188.out (by decide)) (fun _ hk => hk.2) (.slice Ao136 t182.length co136)) (fun _ hk => hk.2) (.slice Ao141 t185.length co141)) (fun _ h_ => h_.1))) hb); have n6_ := Aside0.mk (Kd.R_below (by (with_reducible repeat (first | apply Kd.R_alloc | apply Kd.R_drewN | apply Kd.R_drew)); exact (Kd.R_mono (Kd.R_far (p := ⟨gb188, 1, none⟩) (Kd.R_far (p := ⟨gb188, 0, none⟩) (Kd.R_types HO184.out BK188.out (by decide)) (fun _ hk => hk.2) (.slice Ao136 t182.length co136)) (fun _ hk => hk.2) (.slice Ao141 t185.length co141)) (fun _ h_ => h_.1))) hb); have n7_ := Aside0.mk (Kd.R_below (by (with_reducible repeat (first | apply Kd.R_alloc | apply Kd.R_drewN | apply Kd.R_drew)); exact (Kd.R_mono (Kd.R_far (p := ⟨gb188, 1, none⟩) (Kd.R_far (p := ⟨gb188, 0, none⟩) (Kd.R_types HO187.out BK188.out (by decide)) (fun _ hk => hk.2) (.slice Ao136 t182.length co136)) (fun _ hk => hk.2) (.slice Ao141 t185.length co141)) (fun _ h_ => h_.1))) hb); have n8_ := Aside0.mk (blk_below (g := gb158) (o := .cells #[.slice A0_0 l0_0.length c0_0, .slice A0_1 l0_1.length c0_1] 40 (0, 0)) (by (with_reducible repeat (first | refine blk_drewN ?_ _ | refine blk_drew ?_ | refine blk_alloc ?_ _)); refine blk_far ?_ NB158_188.out _; (with_reducible repeat (first | refine blk_drewN ?_ _ | refine blk_drew ?_ | refine blk_alloc ?_ _)); refine blk_far ?_ NB158_188.out _; (with_reducible repeat (first | refine blk_drewN ?_ _ | refine blk_drew ?_ | refine blk_alloc ?_ _)); exact BK158.out) hb); have n9_ := Aside0.mk (blk_below (g := gb159) (o := .cells #[.slice A1_0 l1_0.length c1_0, .slice A1_1 l1_1.length c1_1] 40 (0, 0)) (by (with_reducible repeat (first | refine blk_drewN ?_ _ | refine blk_drew ?_ | refine blk_alloc ?_ _)); refine blk_far ?_ NB159_188.out _; (with_reducible repeat (first | refine blk_drewN ?_ _ | refine blk_drew ?_ | refine blk_alloc ?_ _)); refine blk_far ?_ NB159_188.out _; (with_reducible repeat (first | refine blk_drewN ?_ _ | refine blk_drew ?_ | refine blk_alloc ?_ _)); exact BK159.out) hb); have n10_ := Aside0.mk (blk_below (g := gb181) (o := .cells #[.slice Ao128 t175.length co128, .slice Ao132 t178.length co132] 45 (0, 0)) (by (with_reducible repeat (first | refine blk_drewN ?_ _ | refine blk_drew ?_ | refine blk_alloc ?_ _)); refine blk_far ?_ NB181_188.out _; (with_reducible repeat (first | refine blk_drewN ?_ _ | refine blk_drew ?_ | refine blk_alloc ?_ _)); refine blk_far ?_ NB181_188.out _; (with_reducible repeat (first | refine blk_drewN ?_ _ | refine blk_drew ?_ | refine blk_alloc ?_ _)); exact BK181.out) hb); have n11_ := Aside0.mk (blk_below (g := gb188) (o := .cells #[.slice Ao136 t182.length co136, .slice Ao141 t185.length co141] 45 (0, 0)) (by (with_reducible repeat (first | refine blk_drewN ?_ _ | refine blk_drew ?_ | refine blk_alloc ?_ _)); refine blk_put (cs := #[.slice Ao136 t182.length co136, .slice none 0 0]) ?_ 1 _ rfl; (with_reducible repeat (first | refine blk_drewN ?_ _ | refine blk_drew ?_ | refine blk_alloc ?_ _)); refine blk_put (cs := #[.slice none 0 0, .slice none 0 0]) ?_ 0 _ rfl; (with_reducible repeat (first | refine blk_drewN ?_ _ | refine blk_drew ?_ | refine blk_alloc ?_ _)); exact BK188.out) hb); have n12_ := Aside0.mk (below_step (pB4 HB.out GE158.out GE159.out GE181.out GE188.out) hb); clear HO164; clear HO167; clear HO170; clear HO173; clear HO177; clear HO180; clear HO184; clear HO187; clear BK158; clear BK159; clear BK181; clear BK188; clear HB; have HO164 := n0_; have HO167 := n1_; have HO170 := n2_; have HO173 := n3_; have HO177 := n4_; have HO180 := n5_; have HO184 := n6_; have HO187 := n7_; have BK158 := n8_; have BK159 := n9_; have BK181 := n10_; have BK188 := n11_; have HB := n12_; clear n0_ n1_ n2_ n3_ n4_ n5_ n6_ n7_ n8_ n9_ n10_ n11_ n12_; (try clear hb); (try clear hb2); (try clear hk); (try clear hi)))
            have n0_ := Aside0.mk (Kd.R_drew HO164.out)
            have n1_ := Aside0.mk (Kd.R_drew HO167.out)
            have n2_ := Aside0.mk (Kd.R_drew HO170.out)
            have n3_ := Aside0.mk (Kd.R_drew HO173.out)
            have n4_ := Aside0.mk (Kd.R_drew HO177.out)
            have n5_ := Aside0.mk (Kd.R_drew HO180.out)
            have n6_ := Aside0.mk (Kd.R_drew HO184.out)
            have n7_ := Aside0.mk (Kd.R_drew HO187.out)
            have n8_ := Aside0.mk (blk_drew BK158.out)
            have n9_ := Aside0.mk (blk_drew BK159.out)
            have n10_ := Aside0.mk (blk_drew BK181.out)
            have n11_ := Aside0.mk (blk_drew BK188.out)
            have n12_ := Aside0.mk (below_drew1 HB.out)
            clear HO164
            clear HO167
            clear HO170
            clear HO173
            clear HO177
            clear HO180
            clear HO184
            clear HO187
            clear BK158
            clear BK159
            clear BK181
            clear BK188
            clear HB
            have HO164 := n0_
            have HO167 := n1_
            have HO170 := n2_
            have HO173 := n3_
            have HO177 := n4_
            have HO180 := n5_
            have HO184 := n6_
            have HO187 := n7_
            have BK158 := n8_
            have BK159 := n9_
            have BK181 := n10_
            have BK188 := n11_
            have HB := n12_
            clear n0_ n1_ n2_ n3_ n4_ n5_ n6_ n7_ n8_ n9_ n10_ n11_ n12_
            refine start_ (n := 5) (S := fun w' => w'.cell? ⟨gb181, 0, none⟩ = some (.slice Ao128 t175.length co128) ∧ w'.cell? ⟨gb181, 1, none⟩ = some (.slice Ao132 t178.length co132) ∧ w'.cell? ⟨gb158, 0, none⟩ = some (.slice A0_0 l0_0.length c0_0) ∧ w'.cell? ⟨gb158, 1, none⟩ = some (.slice A0_1 l0_1.length c0_1)) (ds := []) #[false, false, false, false, false] (by kernel_rfl) rfl rfl ⟨(blk_cell BK181.out 0).trans rfl, (blk_cell BK181.out 1).trans rfl, (blk_cell BK158.out 0).trans rfl, (blk_cell BK158.out 1).trans rfl⟩ (fun hHeld => ?_)
            generalize w143.drew = w144 at HO164 HO167 HO170 HO173 HO177 HO180 HO184 HO187 BK158 BK159 BK181 BK188 HB hHeld ⊢
            refine take_ (i := 0) (N := some 35) (v := ?_) (a' := ?_) #[true, false, false, false, false] rfl rfl (by kernel_rfl) (fun _ _ _ h => h) (Or.inl ⟨by rfl, ?_⟩) hHeld ?_ ?_
            rotate_left
            · rintro w' ⟨s0, s1, s2, s3⟩
              go_simp
              with_reducible rfl
            rotate_left
            · simp only [Act.put, List.setIfInBounds_toArray, List.set_cons_zero, List.set_cons_succ, i64_w, i32_w]
              rfl
            refine take_ (i := 1) (N := some 36) (v := ?_) (a' := ?_) #[true, true, false, false, false] rfl rfl (by kernel_rfl) (fun _ _ _ h => h) (Or.inl ⟨by rfl, ?_⟩) hHeld ?_ ?_
            rotate_left
            · rintro w' ⟨s0, s1, s2, s3⟩
              go_simp
              with_reducible rfl
            rotate_left
            · simp only [Act.put, List.setIfInBounds_toArray, List.set_cons_zero, List.set_cons_succ, i64_w, i32_w]
              rfl
            refine one_ (i := 2) (N := some 37) #[true, true, true, false, false] rfl rfl (by kernel_rfl) (by decide) (fun K hK => ?_)
            refine goes_ Try.func28 (by kernel_rfl) rfl #[.agg #[.slice A0_0 l0_0.length c0_0, .slice A0_1 l0_1.length c0_1]] (by rfl) rfl rfl pA ?_
            with_reducible refine (laws_toPacket.calls k _ _ l0_0 _ _ l0_1 t190 t193 _ ?side1 ?side2 ?side3 ?side4 A60.out).mono ?_
            (case side1 => exact pC (Kd.C_below HR0_0.out HB.out))
            (case side2 => exact HC0_0.out)
            (case side3 => exact pC (Kd.C_below HR0_1.out HB.out))
            (case side4 => exact HC0_1.out)
            rintro e w145 ⟨v191, v194, rfl, ho0, ho1, hb⟩
            refine ⟨_, rfl, ?_⟩
            have n0_ := Aside0.mk (Kd.R_elder' (pR HO164.out) (Kd.R_base ho0) hb)
            have n1_ := Aside0.mk (Kd.R_elder' (pR HO167.out) (Kd.R_base ho1) hb)
            have n2_ := Aside0.mk (Kd.R_elder' (pR HO170.out) (Kd.R_base ho0) hb)
            have n3_ := Aside0.mk (Kd.R_elder' (pR HO173.out) (Kd.R_base ho1) hb)
            have n4_ := Aside0.mk (Kd.R_elder' (pR HO177.out) (Kd.R_base ho0) hb)
            have n5_ := Aside0.mk (Kd.R_elder' (pR HO180.out) (Kd.R_base ho1) hb)
            have n6_ := Aside0.mk (Kd.R_elder' (pR HO184.out) (Kd.R_base ho0) hb)
            have n7_ := Aside0.mk (Kd.R_elder' (pR HO187.out) (Kd.R_base ho1) hb)
            have n8_ := Aside0.mk (Kd.R_lower (Kd.R_new' (Kd.R_new' (Kd.R_new' (Kd.R_new' ho0 (Kd.R_lt (pR HO164.out))) (Kd.R_lt (pR HO170.out))) (Kd.R_lt (pR HO177.out))) (Kd.R_lt (pR HO184.out))) (below_size (pB4 HB.out GE158.out GE159.out GE181.out GE188.out)))
            have n9_ := Aside0.mk (Kd.R_lower (Kd.R_new' (Kd.R_new' (Kd.R_new' (Kd.R_new' ho1 (Kd.R_lt (pR HO167.out))) (Kd.R_lt (pR HO173.out))) (Kd.R_lt (pR HO180.out))) (Kd.R_lt (pR HO187.out))) (below_size (pB4 HB.out GE158.out GE159.out GE181.out GE188.out)))
            have n10_ := Aside0.mk (blk_below (g := gb158) (o := .cells #[.slice A0_0 l0_0.length c0_0, .slice A0_1 l0_1.length c0_1] 40 (0, 0)) (pK BK158.out) hb)
            have n11_ := Aside0.mk (blk_below (g := gb159) (o := .cells #[.slice A1_0 l1_0.length c1_0, .slice A1_1 l1_1.length c1_1] 40 (0, 0)) (pK BK159.out) hb)
            have n12_ := Aside0.mk (blk_below (g := gb181) (o := .cells #[.slice Ao128 t175.length co128, .slice Ao132 t178.length co132] 45 (0, 0)) (pK BK181.out) hb)
            have n13_ := Aside0.mk (blk_below (g := gb188) (o := .cells #[.slice Ao136 t182.length co136, .slice Ao141 t185.length co141] 45 (0, 0)) (pK BK188.out) hb)
            have n14_ := Aside0.mk (below_step (pB4 HB.out GE158.out GE159.out GE181.out GE188.out) hb)
            clear HO164
            clear HO167
            clear HO170
            clear HO173
            clear HO177
            clear HO180
            clear HO184
            clear HO187
            clear BK158
            clear BK159
            clear BK181
            clear BK188
            clear HB
            have HO164 := n0_
            have HO167 := n1_
            have HO170 := n2_
            have HO173 := n3_
            have HO177 := n4_
            have HO180 := n5_
            have HO184 := n6_
            have HO187 := n7_
            have HO192 := n8_
            have HO195 := n9_
            have BK158 := n10_
            have BK159 := n11_
            have BK181 := n12_
            have BK188 := n13_
            have HB := n14_
            clear n0_ n1_ n2_ n3_ n4_ n5_ n6_ n7_ n8_ n9_ n10_ n11_ n12_ n13_ n14_
            (try clear hb)
            (try clear hb2)
            (try clear hk)
            (try clear hi)
            (try clear ho0)
            (try clear ho1)
            obtain ⟨Ao146, co146, eo146⟩ := Kd.R_slice HO192.out
            (first | subst eo146 | (injection eo146 with f1_ f2_ f3_; have f4_ := f1_.symm; have f5_ := f3_.symm; clear f1_ f2_ f3_; subst f4_; subst f5_))
            obtain ⟨Ao147, co147, eo147⟩ := Kd.R_slice HO195.out
            (first | subst eo147 | (injection eo147 with f1_ f2_ f3_; have f4_ := f1_.symm; have f5_ := f3_.symm; clear f1_ f2_ f3_; subst f4_; subst f5_))
            refine hK.out _ _ ⟨(blk_cell BK181.out 0).trans rfl, (blk_cell BK181.out 1).trans rfl, (blk_cell BK158.out 0).trans rfl, (blk_cell BK158.out 1).trans rfl⟩ (fun hHeld => ?_)
            clear hK K
            refine norm_ (a' := ?_) ?_ ?_
            rotate_left
            · show Act.put _ (some 37) _ = _
              simp only [Act.put, List.setIfInBounds_toArray, List.set_cons_zero, List.set_cons_succ, i64_w, i32_w]
              rfl
            refine one_ (i := 3) (N := some 38) #[true, true, true, true, false] rfl rfl (by kernel_rfl) (by decide) (fun K hK => ?_)
            refine goes_ Try.func30 (by kernel_rfl) rfl #[.agg #[.slice Ao128 t175.length co128, .slice Ao132 t178.length co132], .agg #[.slice Ao146 t190.length co146, .slice Ao147 t193.length co147]] (by rfl) rfl rfl pA ?_
            with_reducible refine (laws_eqPacket.calls k _ _ t175 _ _ t178 _ _ t190 _ _ t193 true _ ?side1 ?side2 ?side3 ?side4 ?side5 ?side6 ?side7 ?side8 A61.out).mono ?_
            (case side1 => exact pC ((Kd.R_reads' HO177.out).2.2))
            (case side2 => exact (Kd.R_reads' HO177.out).2.1)
            (case side3 => exact pC ((Kd.R_reads' HO180.out).2.2))
            (case side4 => exact (Kd.R_reads' HO180.out).2.1)
            (case side5 => exact pC ((Kd.R_reads' HO192.out).2.2))
            (case side6 => exact (Kd.R_reads' HO192.out).2.1)
            (case side7 => exact pC ((Kd.R_reads' HO195.out).2.2))
            (case side8 => exact (Kd.R_reads' HO195.out).2.1)
            rintro e w148 ⟨rfl, hb⟩
            refine ⟨_, rfl, ?_⟩
            have n0_ := Aside0.mk (Kd.R_below (pR HO164.out) hb)
            have n1_ := Aside0.mk (Kd.R_below (pR HO167.out) hb)
            have n2_ := Aside0.mk (Kd.R_below (pR HO170.out) hb)
            have n3_ := Aside0.mk (Kd.R_below (pR HO173.out) hb)
            have n4_ := Aside0.mk (Kd.R_below (pR HO177.out) hb)
            have n5_ := Aside0.mk (Kd.R_below (pR HO180.out) hb)
            have n6_ := Aside0.mk (Kd.R_below (pR HO184.out) hb)
            have n7_ := Aside0.mk (Kd.R_below (pR HO187.out) hb)
            have n8_ := Aside0.mk (Kd.R_below (pR HO192.out) hb)
            have n9_ := Aside0.mk (Kd.R_below (pR HO195.out) hb)
            have n10_ := Aside0.mk (blk_below (g := gb158) (o := .cells #[.slice A0_0 l0_0.length c0_0, .slice A0_1 l0_1.length c0_1] 40 (0, 0)) (pK BK158.out) hb)
            have n11_ := Aside0.mk (blk_below (g := gb159) (o := .cells #[.slice A1_0 l1_0.length c1_0, .slice A1_1 l1_1.length c1_1] 40 (0, 0)) (pK BK159.out) hb)
            have n12_ := Aside0.mk (blk_below (g := gb181) (o := .cells #[.slice Ao128 t175.length co128, .slice Ao132 t178.length co132] 45 (0, 0)) (pK BK181.out) hb)
            have n13_ := Aside0.mk (blk_below (g := gb188) (o := .cells #[.slice Ao136 t182.length co136, .slice Ao141 t185.length co141] 45 (0, 0)) (pK BK188.out) hb)
            have n14_ := Aside0.mk (below_step (pB4 HB.out GE158.out GE159.out GE181.out GE188.out) hb)
            clear HO164
            clear HO167
            clear HO170
            clear HO173
            clear HO177
            clear HO180
            clear HO184
            clear HO187
            clear HO192
            clear HO195
            clear BK158
            clear BK159
            clear BK181
            clear BK188
            clear HB
            have HO164 := n0_
            have HO167 := n1_
            have HO170 := n2_
            have HO173 := n3_
            have HO177 := n4_
            have HO180 := n5_
            have HO184 := n6_
            have HO187 := n7_
            have HO192 := n8_
            have HO195 := n9_
            have BK158 := n10_
            have BK159 := n11_
            have BK181 := n12_
            have BK188 := n13_
            have HB := n14_
            clear n0_ n1_ n2_ n3_ n4_ n5_ n6_ n7_ n8_ n9_ n10_ n11_ n12_ n13_ n14_
            (try clear hb)
            (try clear hb2)
            (try clear hk)
            (try clear hi)
            refine hK.out _ _ ⟨(blk_cell BK181.out 0).trans rfl, (blk_cell BK181.out 1).trans rfl, (blk_cell BK158.out 0).trans rfl, (blk_cell BK158.out 1).trans rfl⟩ (fun hHeld => ?_)
            clear hK K
            refine norm_ (a' := ?_) ?_ ?_
            rotate_left
            · show Act.put _ (some 38) _ = _
              simp only [Act.put, List.setIfInBounds_toArray, List.set_cons_zero, List.set_cons_succ, i64_w, i32_w]
              rfl
            refine pure_ (i := 4) (N := some 39) (v := ?_) (a' := ?_) #[true, true, true, true, true] rfl rfl (by kernel_rfl) (fun _ _ _ h => h) (Or.inl ⟨by rfl, ?_⟩) ?_ ?_
            rotate_left
            · intro w'
              go_simp
              with_reducible rfl
            rotate_left
            · simp only [Act.put, List.setIfInBounds_toArray, List.set_cons_zero, List.set_cons_succ, i64_w, i32_w]
              rfl
            refine done_ (by kernel_rfl) ?_
            try go_wp2
            have n0_ := Aside0.mk (Kd.R_drew HO164.out)
            have n1_ := Aside0.mk (Kd.R_drew HO167.out)
            have n2_ := Aside0.mk (Kd.R_drew HO170.out)
            have n3_ := Aside0.mk (Kd.R_drew HO173.out)
            have n4_ := Aside0.mk (Kd.R_drew HO177.out)
            have n5_ := Aside0.mk (Kd.R_drew HO180.out)
            have n6_ := Aside0.mk (Kd.R_drew HO184.out)
            have n7_ := Aside0.mk (Kd.R_drew HO187.out)
            have n8_ := Aside0.mk (Kd.R_drew HO192.out)
            have n9_ := Aside0.mk (Kd.R_drew HO195.out)
            have n10_ := Aside0.mk (blk_drew BK158.out)
            have n11_ := Aside0.mk (blk_drew BK159.out)
            have n12_ := Aside0.mk (blk_drew BK181.out)
            have n13_ := Aside0.mk (blk_drew BK188.out)
            have n14_ := Aside0.mk (below_drew1 HB.out)
            clear HO164
            clear HO167
            clear HO170
            clear HO173
            clear HO177
            clear HO180
            clear HO184
            clear HO187
            clear HO192
            clear HO195
            clear BK158
            clear BK159
            clear BK181
            clear BK188
            clear HB
            have HO164 := n0_
            have HO167 := n1_
            have HO170 := n2_
            have HO173 := n3_
            have HO177 := n4_
            have HO180 := n5_
            have HO184 := n6_
            have HO187 := n7_
            have HO192 := n8_
            have HO195 := n9_
            have BK158 := n10_
            have BK159 := n11_
            have BK181 := n12_
            have BK188 := n13_
            have HB := n14_
            clear n0_ n1_ n2_ n3_ n4_ n5_ n6_ n7_ n8_ n9_ n10_ n11_ n12_ n13_ n14_
            refine start_ (n := 5) (S := fun w' => w'.cell? ⟨gb188, 0, none⟩ = some (.slice Ao136 t182.length co136) ∧ w'.cell? ⟨gb188, 1, none⟩ = some (.slice Ao141 t185.length co141) ∧ w'.cell? ⟨gb159, 0, none⟩ = some (.slice A1_0 l1_0.length c1_0) ∧ w'.cell? ⟨gb159, 1, none⟩ = some (.slice A1_1 l1_1.length c1_1)) (ds := []) #[false, false, false, false, false] (by kernel_rfl) rfl rfl ⟨(blk_cell BK188.out 0).trans rfl, (blk_cell BK188.out 1).trans rfl, (blk_cell BK159.out 0).trans rfl, (blk_cell BK159.out 1).trans rfl⟩ (fun hHeld => ?_)
            generalize w148.drew = w149 at HO164 HO167 HO170 HO173 HO177 HO180 HO184 HO187 HO192 HO195 BK158 BK159 BK181 BK188 HB hHeld ⊢
            refine take_ (i := 0) (N := some 40) (v := ?_) (a' := ?_) #[true, false, false, false, false] rfl rfl (by kernel_rfl) (fun _ _ _ h => h) (Or.inl ⟨by rfl, ?_⟩) hHeld ?_ ?_
            rotate_left
            · rintro w' ⟨s0, s1, s2, s3⟩
              go_simp
              with_reducible rfl
            rotate_left
            · simp only [Act.put, List.setIfInBounds_toArray, List.set_cons_zero, List.set_cons_succ, i64_w, i32_w]
              rfl
            refine take_ (i := 1) (N := some 41) (v := ?_) (a' := ?_) #[true, true, false, false, false] rfl rfl (by kernel_rfl) (fun _ _ _ h => h) (Or.inl ⟨by rfl, ?_⟩) hHeld ?_ ?_
            rotate_left
            · rintro w' ⟨s0, s1, s2, s3⟩
              go_simp
              with_reducible rfl
            rotate_left
            · simp only [Act.put, List.setIfInBounds_toArray, List.set_cons_zero, List.set_cons_succ, i64_w, i32_w]
              rfl
            refine one_ (i := 2) (N := some 42) #[true, true, true, false, false] rfl rfl (by kernel_rfl) (by decide) (fun K hK => ?_)
            refine goes_ Try.func28 (by kernel_rfl) rfl #[.agg #[.slice A1_0 l1_0.length c1_0, .slice A1_1 l1_1.length c1_1]] (by rfl) rfl rfl pA ?_
            with_reducible refine (laws_toPacket.calls k _ _ l1_0 _ _ l1_1 t197 t200 _ ?side1 ?side2 ?side3 ?side4 A63.out).mono ?_
            (case side1 => exact pC (Kd.C_below HR1_0.out HB.out))
            (case side2 => exact HC1_0.out)
            (case side3 => exact pC (Kd.C_below HR1_1.out HB.out))
            (case side4 => exact HC1_1.out)
            rintro e w150 ⟨v198, v201, rfl, ho0, ho1, hb⟩
            refine ⟨_, rfl, ?_⟩
            have n0_ := Aside0.mk (Kd.R_elder' (pR HO164.out) (Kd.R_base ho0) hb)
            have n1_ := Aside0.mk (Kd.R_elder' (pR HO167.out) (Kd.R_base ho1) hb)
            have n2_ := Aside0.mk (Kd.R_elder' (pR HO170.out) (Kd.R_base ho0) hb)
            have n3_ := Aside0.mk (Kd.R_elder' (pR HO173.out) (Kd.R_base ho1) hb)
            have n4_ := Aside0.mk (Kd.R_elder' (pR HO177.out) (Kd.R_base ho0) hb)
            have n5_ := Aside0.mk (Kd.R_elder' (pR HO180.out) (Kd.R_base ho1) hb)
            have n6_ := Aside0.mk (Kd.R_elder' (pR HO184.out) (Kd.R_base ho0) hb)
            have n7_ := Aside0.mk (Kd.R_elder' (pR HO187.out) (Kd.R_base ho1) hb)
            have n8_ := Aside0.mk (Kd.R_elder' (pR HO192.out) (Kd.R_base ho0) hb)
            have n9_ := Aside0.mk (Kd.R_elder' (pR HO195.out) (Kd.R_base ho1) hb)
            have n10_ := Aside0.mk (Kd.R_lower (Kd.R_new' (Kd.R_new' (Kd.R_new' (Kd.R_new' (Kd.R_new' ho0 (Kd.R_lt (pR HO164.out))) (Kd.R_lt (pR HO170.out))) (Kd.R_lt (pR HO177.out))) (Kd.R_lt (pR HO184.out))) (Kd.R_lt (pR HO192.out))) (below_size (pB4 HB.out GE158.out GE159.out GE181.out GE188.out)))
            have n11_ := Aside0.mk (Kd.R_lower (Kd.R_new' (Kd.R_new' (Kd.R_new' (Kd.R_new' (Kd.R_new' ho1 (Kd.R_lt (pR HO167.out))) (Kd.R_lt (pR HO173.out))) (Kd.R_lt (pR HO180.out))) (Kd.R_lt (pR HO187.out))) (Kd.R_lt (pR HO195.out))) (below_size (pB4 HB.out GE158.out GE159.out GE181.out GE188.out)))
            have n12_ := Aside0.mk (blk_below (g := gb158) (o := .cells #[.slice A0_0 l0_0.length c0_0, .slice A0_1 l0_1.length c0_1] 40 (0, 0)) (pK BK158.out) hb)
            have n13_ := Aside0.mk (blk_below (g := gb159) (o := .cells #[.slice A1_0 l1_0.length c1_0, .slice A1_1 l1_1.length c1_1] 40 (0, 0)) (pK BK159.out) hb)
            have n14_ := Aside0.mk (blk_below (g := gb181) (o := .cells #[.slice Ao128 t175.length co128, .slice Ao132 t178.length co132] 45 (0, 0)) (pK BK181.out) hb)
            have n15_ := Aside0.mk (blk_below (g := gb188) (o := .cells #[.slice Ao136 t182.length co136, .slice Ao141 t185.length co141] 45 (0, 0)) (pK BK188.out) hb)
            have n16_ := Aside0.mk (below_step (pB4 HB.out GE158.out GE159.out GE181.out GE188.out) hb)
            clear HO164
            clear HO167
            clear HO170
            clear HO173
            clear HO177
            clear HO180
            clear HO184
            clear HO187
            clear HO192
            clear HO195
            clear BK158
            clear BK159
            clear BK181
            clear BK188
            clear HB
            have HO164 := n0_
            have HO167 := n1_
            have HO170 := n2_
            have HO173 := n3_
            have HO177 := n4_
            have HO180 := n5_
            have HO184 := n6_
            have HO187 := n7_
            have HO192 := n8_
            have HO195 := n9_
            have HO199 := n10_
            have HO202 := n11_
            have BK158 := n12_
            have BK159 := n13_
            have BK181 := n14_
            have BK188 := n15_
            have HB := n16_
            clear n0_ n1_ n2_ n3_ n4_ n5_ n6_ n7_ n8_ n9_ n10_ n11_ n12_ n13_ n14_ n15_ n16_
            (try clear hb)
            (try clear hb2)
            (try clear hk)
            (try clear hi)
            (try clear ho0)
            (try clear ho1)
            obtain ⟨Ao151, co151, eo151⟩ := Kd.R_slice HO199.out
            (first | subst eo151 | (injection eo151 with f1_ f2_ f3_; have f4_ := f1_.symm; have f5_ := f3_.symm; clear f1_ f2_ f3_; subst f4_; subst f5_))
            obtain ⟨Ao152, co152, eo152⟩ := Kd.R_slice HO202.out
            (first | subst eo152 | (injection eo152 with f1_ f2_ f3_; have f4_ := f1_.symm; have f5_ := f3_.symm; clear f1_ f2_ f3_; subst f4_; subst f5_))
            refine hK.out _ _ ⟨(blk_cell BK188.out 0).trans rfl, (blk_cell BK188.out 1).trans rfl, (blk_cell BK159.out 0).trans rfl, (blk_cell BK159.out 1).trans rfl⟩ (fun hHeld => ?_)
            clear hK K
            refine norm_ (a' := ?_) ?_ ?_
            rotate_left
            · show Act.put _ (some 42) _ = _
              simp only [Act.put, List.setIfInBounds_toArray, List.set_cons_zero, List.set_cons_succ, i64_w, i32_w]
              rfl
            refine one_ (i := 3) (N := some 43) #[true, true, true, true, false] rfl rfl (by kernel_rfl) (by decide) (fun K hK => ?_)
            refine goes_ Try.func30 (by kernel_rfl) rfl #[.agg #[.slice Ao136 t182.length co136, .slice Ao141 t185.length co141], .agg #[.slice Ao151 t197.length co151, .slice Ao152 t200.length co152]] (by rfl) rfl rfl pA ?_
            with_reducible refine (laws_eqPacket.calls k _ _ t182 _ _ t185 _ _ t197 _ _ t200 false _ ?side1 ?side2 ?side3 ?side4 ?side5 ?side6 ?side7 ?side8 A64.out).mono ?_
            (case side1 => exact pC ((Kd.R_reads' HO184.out).2.2))
            (case side2 => exact (Kd.R_reads' HO184.out).2.1)
            (case side3 => exact pC ((Kd.R_reads' HO187.out).2.2))
            (case side4 => exact (Kd.R_reads' HO187.out).2.1)
            (case side5 => exact pC ((Kd.R_reads' HO199.out).2.2))
            (case side6 => exact (Kd.R_reads' HO199.out).2.1)
            (case side7 => exact pC ((Kd.R_reads' HO202.out).2.2))
            (case side8 => exact (Kd.R_reads' HO202.out).2.1)
            rintro e w153 ⟨rfl, hb⟩
            refine ⟨_, rfl, ?_⟩
            have n0_ := Aside0.mk (Kd.R_below (pR HO164.out) hb)
            have n1_ := Aside0.mk (Kd.R_below (pR HO167.out) hb)
            have n2_ := Aside0.mk (Kd.R_below (pR HO170.out) hb)
            have n3_ := Aside0.mk (Kd.R_below (pR HO173.out) hb)
            have n4_ := Aside0.mk (Kd.R_below (pR HO177.out) hb)
            have n5_ := Aside0.mk (Kd.R_below (pR HO180.out) hb)
            have n6_ := Aside0.mk (Kd.R_below (pR HO184.out) hb)
            have n7_ := Aside0.mk (Kd.R_below (pR HO187.out) hb)
            have n8_ := Aside0.mk (Kd.R_below (pR HO192.out) hb)
            have n9_ := Aside0.mk (Kd.R_below (pR HO195.out) hb)
            have n10_ := Aside0.mk (Kd.R_below (pR HO199.out) hb)
            have n11_ := Aside0.mk (Kd.R_below (pR HO202.out) hb)
            have n12_ := Aside0.mk (blk_below (g := gb158) (o := .cells #[.slice A0_0 l0_0.length c0_0, .slice A0_1 l0_1.length c0_1] 40 (0, 0)) (pK BK158.out) hb)
            have n13_ := Aside0.mk (blk_below (g := gb159) (o := .cells #[.slice A1_0 l1_0.length c1_0, .slice A1_1 l1_1.length c1_1] 40 (0, 0)) (pK BK159.out) hb)
            have n14_ := Aside0.mk (blk_below (g := gb181) (o := .cells #[.slice Ao128 t175.length co128, .slice Ao132 t178.length co132] 45 (0, 0)) (pK BK181.out) hb)
            have n15_ := Aside0.mk (blk_below (g := gb188) (o := .cells #[.slice Ao136 t182.length co136, .slice Ao141 t185.length co141] 45 (0, 0)) (pK BK188.out) hb)
            have n16_ := Aside0.mk (below_step (pB4 HB.out GE158.out GE159.out GE181.out GE188.out) hb)
            clear HO164
            clear HO167
            clear HO170
            clear HO173
            clear HO177
            clear HO180
            clear HO184
            clear HO187
            clear HO192
            clear HO195
            clear HO199
            clear HO202
            clear BK158
            clear BK159
            clear BK181
            clear BK188
            clear HB
            have HO164 := n0_
            have HO167 := n1_
            have HO170 := n2_
            have HO173 := n3_
            have HO177 := n4_
            have HO180 := n5_
            have HO184 := n6_
            have HO187 := n7_
            have HO192 := n8_
            have HO195 := n9_
            have HO199 := n10_
            have HO202 := n11_
            have BK158 := n12_
            have BK159 := n13_
            have BK181 := n14_
            have BK188 := n15_
            have HB := n16_
            clear n0_ n1_ n2_ n3_ n4_ n5_ n6_ n7_ n8_ n9_ n10_ n11_ n12_ n13_ n14_ n15_ n16_
            (try clear hb)
            (try clear hb2)
            (try clear hk)
            (try clear hi)
            refine hK.out _ _ ⟨(blk_cell BK188.out 0).trans rfl, (blk_cell BK188.out 1).trans rfl, (blk_cell BK159.out 0).trans rfl, (blk_cell BK159.out 1).trans rfl⟩ (fun hHeld => ?_)
            clear hK K
            refine norm_ (a' := ?_) ?_ ?_
            rotate_left
            · show Act.put _ (some 43) _ = _
              simp only [Act.put, List.setIfInBounds_toArray, List.set_cons_zero, List.set_cons_succ, i64_w, i32_w]
              rfl
            refine pure_ (i := 4) (N := some 44) (v := ?_) (a' := ?_) #[true, true, true, true, true] rfl rfl (by kernel_rfl) (fun _ _ _ h => h) (Or.inl ⟨by rfl, ?_⟩) ?_ ?_
            rotate_left
            · intro w'
              go_simp
              with_reducible rfl
            rotate_left
            · simp only [Act.put, List.setIfInBounds_toArray, List.set_cons_zero, List.set_cons_succ, i64_w, i32_w]
              rfl
            refine done_ (by kernel_rfl) ?_
            try go_wp2
            go_ret
            exact ⟨by first | rfl | (simp [errW_none, errW_some] <;> rfl) | (simp [*, errW_none, errW_some] <;> rfl), pB4 HB.out GE158.out GE159.out GE181.out GE188.out⟩
        · replace c62 := Bool.eq_false_iff.mpr c62
          subst c62
          have H1 : (some false) = some r := by rw [if_neg (show ¬ (false = true) by decide)] at H; exact H
          clear H
          have H := H1
          clear H1
          obtain rfl := Option.some.inj H
          go_enter Try.func6, Try.ntmps6
          try go_wp2_with (first | ((with_reducible refine gate_dst (N := 2) rfl ?_); refine box_event ?hg (N := 2) ?hd (cs := #[.slice A0_0 l0_0.length c0_0, .slice A0_1 l0_1.length c0_1]) (t := 40) ?hr ?_; (case hd => rfl); (case hg => rfl); (case hr => first | (go_simp; done) | (go_simp; rfl)); intro gb158 hg w154 hbox hb; have n0_ := Aside0.mk (below_step (pB0 HB.out) hb); have n1_ := Aside0.mk (hbox); have n2_ := Aside0.mk ((by rw [hg]; exact (below_size (pB0 HB.out)) : w.heap.size ≤ gb158)); have n3_ := Aside0.mk ((by rw [hg]; exact (below_size (pB0 HB.out)) : w.heap.size ≤ gb158)); clear HB; have HB := n0_; have BK158 := n1_; have GW158 := n2_; have GE158 := n3_; clear n0_ n1_ n2_ n3_; clear hb hbox hg) | ((with_reducible refine gate_dst (N := 3) rfl ?_); refine box_event ?hg (N := 3) ?hd (cs := #[.slice A1_0 l1_0.length c1_0, .slice A1_1 l1_1.length c1_1]) (t := 40) ?hr ?_; (case hd => rfl); (case hg => rfl); (case hr => first | (go_simp; done) | (go_simp; rfl)); intro gb159 hg w155 hbox hb; have n0_ := Aside0.mk (blk_below (g := gb158) (o := .cells #[.slice A0_0 l0_0.length c0_0, .slice A0_1 l0_1.length c0_1] 40 (0, 0)) (pK BK158.out) hb); have n1_ := Aside0.mk (below_step (pB1 HB.out GE158.out) hb); have n2_ := Aside0.mk (hbox); have n3_ := Aside0.mk ((by rw [hg]; exact (below_size (pB1 HB.out GE158.out)) : w.heap.size ≤ gb159)); have n4_ := Aside0.mk ((by rw [hg]; exact (below_size (pB1 HB.out GE158.out)) : w.heap.size ≤ gb159)); have n5_ := Aside0.mk ((by rw [hg]; exact Nat.ne_of_lt (blk_lt (g := gb158) (o := .cells #[.slice A0_0 l0_0.length c0_0, .slice A0_1 l0_1.length c0_1] 40 (0, 0)) (pK BK158.out)) : gb158 ≠ gb159)); have n6_ := Aside0.mk ((by rw [hg]; exact Nat.ne_of_gt (blk_lt (g := gb158) (o := .cells #[.slice A0_0 l0_0.length c0_0, .slice A0_1 l0_1.length c0_1] 40 (0, 0)) (pK BK158.out)) : gb159 ≠ gb158)); clear BK158; clear HB; have BK158 := n0_; have HB := n1_; have BK159 := n2_; have GW159 := n3_; have GE159 := n4_; have NB158_159 := n5_; have NB159_158 := n6_; clear n0_ n1_ n2_ n3_ n4_ n5_ n6_; clear hb hbox hg; have hnb156 := NB158_159.out; have hnc156 := NB159_158.out; have hcz157_0 : w155.cell? ⟨gb158, 0, none⟩ = some (.slice A0_0 l0_0.length c0_0) := (blk_cell BK158.out 0).trans rfl; have hcz157_1 : w155.cell? ⟨gb158, 1, none⟩ = some (.slice A0_1 l0_1.length c0_1) := (blk_cell BK158.out 1).trans rfl; have hfz157_0 := blk_frozen BK158.out 0; have hfz157_1 := blk_frozen BK158.out 1) | ((with_reducible refine gate_callee (f := 26) rfl ?_); refine goesL_ (some 12) rfl rfl Try.func26 (by kernel_rfl) rfl #[.agg #[.slice A0_0 l0_0.length c0_0, .slice A0_1 l0_1.length c0_1], .int .i64 1048576] rfl pA ?_; (with_reducible refine (laws_szPacket.calls k _ _ l0_0 _ _ l0_1 1048576 t160 _ ?side1 ?side2 ?side3 ?side4 A3.out).mono ?_); (case side1 => exact pC (Kd.C_below HR0_0.out HB.out)); (case side2 => exact HC0_0.out); (case side3 => exact pC (Kd.C_below HR0_1.out HB.out)); (case side4 => exact HC0_1.out); rintro e w158 ⟨rfl, hb⟩; refine ⟨_, rfl, ?_⟩; have n0_ := Aside0.mk (blk_below (g := gb158) (o := .cells #[.slice A0_0 l0_0.length c0_0, .slice A0_1 l0_1.length c0_1] 40 (0, 0)) (pK BK158.out) hb); have n1_ := Aside0.mk (blk_below (g := gb159) (o := .cells #[.slice A1_0 l1_0.length c1_0, .slice A1_1 l1_1.length c1_1] 40 (0, 0)) (pK BK159.out) hb); have n2_ := Aside0.mk (below_step (pB2 HB.out GE158.out GE159.out) hb); clear BK158; clear BK159; clear HB; have BK158 := n0_; have BK159 := n1_; have HB := n2_; clear n0_ n1_ n2_; (try clear hb); (try clear hb2); (try clear hk); (try clear hi); have hcz159_0 : w158.cell? ⟨gb159, 0, none⟩ = some (.slice A1_0 l1_0.length c1_0) := (blk_cell BK159.out 0).trans rfl; have hcz159_1 : w158.cell? ⟨gb159, 1, none⟩ = some (.slice A1_1 l1_1.length c1_1) := (blk_cell BK159.out 1).trans rfl; have hfz159_0 := blk_frozen BK159.out 0; have hfz159_1 := blk_frozen BK159.out 1) | ((with_reducible refine gate_callee (f := 26) rfl ?_); refine goesL_ (some 17) rfl rfl Try.func26 (by kernel_rfl) rfl #[.agg #[.slice A1_0 l1_0.length c1_0, .slice A1_1 l1_1.length c1_1], .int .i64 t160] rfl pA ?_; (with_reducible refine (laws_szPacket.calls k _ _ l1_0 _ _ l1_1 t160 t161 _ ?side1 ?side2 ?side3 ?side4 A10.out).mono ?_); (case side1 => exact pC (Kd.C_below HR1_0.out HB.out)); (case side2 => exact HC1_0.out); (case side3 => exact pC (Kd.C_below HR1_1.out HB.out)); (case side4 => exact HC1_1.out); rintro e w160 ⟨rfl, hb⟩; refine ⟨_, rfl, ?_⟩; have n0_ := Aside0.mk (blk_below (g := gb158) (o := .cells #[.slice A0_0 l0_0.length c0_0, .slice A0_1 l0_1.length c0_1] 40 (0, 0)) (pK BK158.out) hb); have n1_ := Aside0.mk (blk_below (g := gb159) (o := .cells #[.slice A1_0 l1_0.length c1_0, .slice A1_1 l1_1.length c1_1] 40 (0, 0)) (pK BK159.out) hb); have n2_ := Aside0.mk (below_step (pB2 HB.out GE158.out GE159.out) hb); clear BK158; clear BK159; clear HB; have BK158 := n0_; have BK159 := n1_; have HB := n2_; clear n0_ n1_ n2_; (try clear hb); (try clear hb2); (try clear hk); (try clear hi)))
          have n0_ := Aside0.mk (blk_drew BK158.out)
          have n1_ := Aside0.mk (blk_drew BK159.out)
          have n2_ := Aside0.mk (below_drew1 HB.out)
          clear BK158
          clear BK159
          clear HB
          have BK158 := n0_
          have BK159 := n1_
          have HB := n2_
          clear n0_ n1_ n2_
          refine start_ (n := 6) (S := fun w' => w'.cell? ⟨gb158, 0, none⟩ = some (.slice A0_0 l0_0.length c0_0) ∧ w'.cell? ⟨gb158, 1, none⟩ = some (.slice A0_1 l0_1.length c0_1) ∧ w'.cell? ⟨gb159, 0, none⟩ = some (.slice A1_0 l1_0.length c1_0) ∧ w'.cell? ⟨gb159, 1, none⟩ = some (.slice A1_1 l1_1.length c1_1)) (ds := []) #[false, false, false, false, false, false] (by kernel_rfl) rfl rfl ⟨(blk_cell BK158.out 0).trans rfl, (blk_cell BK158.out 1).trans rfl, (blk_cell BK159.out 0).trans rfl, (blk_cell BK159.out 1).trans rfl⟩ (fun hHeld => ?_)
          generalize w160.drew = w161 at BK158 BK159 HB hHeld ⊢
          refine take_ (i := 0) (N := some 20) (v := ?_) (a' := ?_) #[true, false, false, false, false, false] rfl rfl (by kernel_rfl) (fun _ _ _ h => h) (Or.inl ⟨by rfl, ?_⟩) hHeld ?_ ?_
          rotate_left
          · rintro w' ⟨s0, s1, s2, s3⟩
            go_simp
            with_reducible rfl
          rotate_left
          · simp only [Act.put, List.setIfInBounds_toArray, List.set_cons_zero, List.set_cons_succ, i64_w, i32_w]
            rfl
          refine take_ (i := 2) (N := some 22) (v := ?_) (a' := ?_) #[true, false, true, false, false, false] rfl rfl (by kernel_rfl) (fun _ _ _ h => h) (Or.inl ⟨by rfl, ?_⟩) hHeld ?_ ?_
          rotate_left
          · rintro w' ⟨s0, s1, s2, s3⟩
            go_simp
            with_reducible rfl
          rotate_left
          · simp only [Act.put, List.setIfInBounds_toArray, List.set_cons_zero, List.set_cons_succ, i64_w, i32_w]
            rfl
          refine one_ (i := 1) (N := some 21) #[true, true, true, false, false, false] rfl rfl (by kernel_rfl) (by decide) (fun K hK => ?_)
          refine goes_ Try.func28 (by kernel_rfl) rfl #[.agg #[.slice A0_0 l0_0.length c0_0, .slice A0_1 l0_1.length c0_1]] (by rfl) rfl rfl pA ?_
          with_reducible refine (laws_toPacket.calls k _ _ l0_0 _ _ l0_1 t162 t165 _ ?side1 ?side2 ?side3 ?side4 A19.out).mono ?_
          (case side1 => exact pC (Kd.C_below HR0_0.out HB.out))
          (case side2 => exact HC0_0.out)
          (case side3 => exact pC (Kd.C_below HR0_1.out HB.out))
          (case side4 => exact HC0_1.out)
          rintro e w162 ⟨v163, v166, rfl, ho0, ho1, hb⟩
          refine ⟨_, rfl, ?_⟩
          have n0_ := Aside0.mk (Kd.R_lower ho0 (below_size (pB2 HB.out GE158.out GE159.out)))
          have n1_ := Aside0.mk (Kd.R_lower ho1 (below_size (pB2 HB.out GE158.out GE159.out)))
          have n2_ := Aside0.mk (blk_below (g := gb158) (o := .cells #[.slice A0_0 l0_0.length c0_0, .slice A0_1 l0_1.length c0_1] 40 (0, 0)) (pK BK158.out) hb)
          have n3_ := Aside0.mk (blk_below (g := gb159) (o := .cells #[.slice A1_0 l1_0.length c1_0, .slice A1_1 l1_1.length c1_1] 40 (0, 0)) (pK BK159.out) hb)
          have n4_ := Aside0.mk (below_step (pB2 HB.out GE158.out GE159.out) hb)
          clear BK158
          clear BK159
          clear HB
          have HO164 := n0_
          have HO167 := n1_
          have BK158 := n2_
          have BK159 := n3_
          have HB := n4_
          clear n0_ n1_ n2_ n3_ n4_
          (try clear hb)
          (try clear hb2)
          (try clear hk)
          (try clear hi)
          (try clear ho0)
          (try clear ho1)
          refine hK.out _ _ ⟨(blk_cell BK158.out 0).trans rfl, (blk_cell BK158.out 1).trans rfl, (blk_cell BK159.out 0).trans rfl, (blk_cell BK159.out 1).trans rfl⟩ (fun hHeld => ?_)
          clear hK K
          refine norm_ (a' := ?_) ?_ ?_
          rotate_left
          · show Act.put _ (some 21) _ = _
            simp only [Act.put, List.setIfInBounds_toArray, List.set_cons_zero, List.set_cons_succ, i64_w, i32_w]
            rfl
          refine one_ (i := 3) (N := some 23) #[true, true, true, true, false, false] rfl rfl (by kernel_rfl) (by decide) (fun K hK => ?_)
          refine goes_ Try.func28 (by kernel_rfl) rfl #[.agg #[.slice A1_0 l1_0.length c1_0, .slice A1_1 l1_1.length c1_1]] (by rfl) rfl rfl pA ?_
          with_reducible refine (laws_toPacket.calls k _ _ l1_0 _ _ l1_1 t168 t171 _ ?side1 ?side2 ?side3 ?side4 A20.out).mono ?_
          (case side1 => exact pC (Kd.C_below HR1_0.out HB.out))
          (case side2 => exact HC1_0.out)
          (case side3 => exact pC (Kd.C_below HR1_1.out HB.out))
          (case side4 => exact HC1_1.out)
          rintro e w163 ⟨v169, v172, rfl, ho0, ho1, hb⟩
          refine ⟨_, rfl, ?_⟩
          have n0_ := Aside0.mk (Kd.R_elder' (pR HO164.out) (Kd.R_base ho0) hb)
          have n1_ := Aside0.mk (Kd.R_elder' (pR HO167.out) (Kd.R_base ho1) hb)
          have n2_ := Aside0.mk (Kd.R_lower (Kd.R_new' ho0 (Kd.R_lt (pR HO164.out))) (below_size (pB2 HB.out GE158.out GE159.out)))
          have n3_ := Aside0.mk (Kd.R_lower (Kd.R_new' ho1 (Kd.R_lt (pR HO167.out))) (below_size (pB2 HB.out GE158.out GE159.out)))
          have n4_ := Aside0.mk (blk_below (g := gb158) (o := .cells #[.slice A0_0 l0_0.length c0_0, .slice A0_1 l0_1.length c0_1] 40 (0, 0)) (pK BK158.out) hb)
          have n5_ := Aside0.mk (blk_below (g := gb159) (o := .cells #[.slice A1_0 l1_0.length c1_0, .slice A1_1 l1_1.length c1_1] 40 (0, 0)) (pK BK159.out) hb)
          have n6_ := Aside0.mk (below_step (pB2 HB.out GE158.out GE159.out) hb)
          clear HO164
          clear HO167
          clear BK158
          clear BK159
          clear HB
          have HO164 := n0_
          have HO167 := n1_
          have HO170 := n2_
          have HO173 := n3_
          have BK158 := n4_
          have BK159 := n5_
          have HB := n6_
          clear n0_ n1_ n2_ n3_ n4_ n5_ n6_
          (try clear hb)
          (try clear hb2)
          (try clear hk)
          (try clear hi)
          (try clear ho0)
          (try clear ho1)
          obtain ⟨Ao164, co164, eo164⟩ := Kd.R_slice HO164.out
          (first | subst eo164 | (injection eo164 with f1_ f2_ f3_; have f4_ := f1_.symm; have f5_ := f3_.symm; clear f1_ f2_ f3_; subst f4_; subst f5_))
          obtain ⟨Ao165, co165, eo165⟩ := Kd.R_slice HO167.out
          (first | subst eo165 | (injection eo165 with f1_ f2_ f3_; have f4_ := f1_.symm; have f5_ := f3_.symm; clear f1_ f2_ f3_; subst f4_; subst f5_))
          obtain ⟨Ao166, co166, eo166⟩ := Kd.R_slice HO170.out
          (first | subst eo166 | (injection eo166 with f1_ f2_ f3_; have f4_ := f1_.symm; have f5_ := f3_.symm; clear f1_ f2_ f3_; subst f4_; subst f5_))
          obtain ⟨Ao167, co167, eo167⟩ := Kd.R_slice HO173.out
          (first | subst eo167 | (injection eo167 with f1_ f2_ f3_; have f4_ := f1_.symm; have f5_ := f3_.symm; clear f1_ f2_ f3_; subst f4_; subst f5_))
          refine hK.out _ _ ⟨(blk_cell BK158.out 0).trans rfl, (blk_cell BK158.out 1).trans rfl, (blk_cell BK159.out 0).trans rfl, (blk_cell BK159.out 1).trans rfl⟩ (fun hHeld => ?_)
          clear hK K
          refine norm_ (a' := ?_) ?_ ?_
          rotate_left
          · show Act.put _ (some 23) _ = _
            simp only [Act.put, List.setIfInBounds_toArray, List.set_cons_zero, List.set_cons_succ, i64_w, i32_w]
            rfl
          refine one_ (i := 4) (N := some 24) #[true, true, true, true, true, false] rfl rfl (by kernel_rfl) (by decide) (fun K hK => ?_)
          refine goes_ Try.func27 (by kernel_rfl) rfl #[.agg #[.slice Ao164 t162.length co164, .slice Ao165 t165.length co165], .agg #[.slice Ao166 t168.length co166, .slice Ao167 t171.length co167]] (by rfl) rfl rfl pA ?_
          with_reducible refine (spec_SamePacket.calls k _ _ t162 _ _ t165 _ _ t168 _ _ t171 t174 _ ?side1 ?side2 ?side3 ?side4 ?side5 ?side6 ?side7 ?side8 A21.out).mono ?_
          (case side1 => exact pC ((Kd.R_reads' HO164.out).2.2))
          (case side2 => exact (Kd.R_reads' HO164.out).2.1)
          (case side3 => exact pC ((Kd.R_reads' HO167.out).2.2))
          (case side4 => exact (Kd.R_reads' HO167.out).2.1)
          (case side5 => exact pC ((Kd.R_reads' HO170.out).2.2))
          (case side6 => exact (Kd.R_reads' HO170.out).2.1)
          (case side7 => exact pC ((Kd.R_reads' HO173.out).2.2))
          (case side8 => exact (Kd.R_reads' HO173.out).2.1)
          rintro e w168 ⟨rfl, hb⟩
          refine ⟨_, rfl, ?_⟩
          have n0_ := Aside0.mk (Kd.R_below (pR HO164.out) hb)
          have n1_ := Aside0.mk (Kd.R_below (pR HO167.out) hb)
          have n2_ := Aside0.mk (Kd.R_below (pR HO170.out) hb)
          have n3_ := Aside0.mk (Kd.R_below (pR HO173.out) hb)
          have n4_ := Aside0.mk (blk_below (g := gb158) (o := .cells #[.slice A0_0 l0_0.length c0_0, .slice A0_1 l0_1.length c0_1] 40 (0, 0)) (pK BK158.out) hb)
          have n5_ := Aside0.mk (blk_below (g := gb159) (o := .cells #[.slice A1_0 l1_0.length c1_0, .slice A1_1 l1_1.length c1_1] 40 (0, 0)) (pK BK159.out) hb)
          have n6_ := Aside0.mk (below_step (pB2 HB.out GE158.out GE159.out) hb)
          clear HO164
          clear HO167
          clear HO170
          clear HO173
          clear BK158
          clear BK159
          clear HB
          have HO164 := n0_
          have HO167 := n1_
          have HO170 := n2_
          have HO173 := n3_
          have BK158 := n4_
          have BK159 := n5_
          have HB := n6_
          clear n0_ n1_ n2_ n3_ n4_ n5_ n6_
          (try clear hb)
          (try clear hb2)
          (try clear hk)
          (try clear hi)
          refine hK.out _ _ ⟨(blk_cell BK158.out 0).trans rfl, (blk_cell BK158.out 1).trans rfl, (blk_cell BK159.out 0).trans rfl, (blk_cell BK159.out 1).trans rfl⟩ (fun hHeld => ?_)
          clear hK K
          refine norm_ (a' := ?_) ?_ ?_
          rotate_left
          · show Act.put _ (some 24) _ = _
            simp only [Act.put, List.setIfInBounds_toArray, List.set_cons_zero, List.set_cons_succ, i64_w, i32_w]
            rfl
          refine pure_ (i := 5) (N := some 6) (v := ?_) (a' := ?_) #[true, true, true, true, true, true] rfl rfl (by kernel_rfl) (fun _ _ _ h => h) (Or.inl ⟨by rfl, ?_⟩) ?_ ?_
          rotate_left
          · intro w'
            go_simp
            with_reducible rfl
          rotate_left
          · simp only [Act.put, List.setIfInBounds_toArray, List.set_cons_zero, List.set_cons_succ, i64_w, i32_w]
            rfl
          refine done_ (by kernel_rfl) ?_
          have hcz169_0 : w168.cell? ⟨gb158, 0, none⟩ = some (.slice A0_0 l0_0.length c0_0) := (blk_cell BK158.out 0).trans rfl
          have hcz169_1 : w168.cell? ⟨gb158, 1, none⟩ = some (.slice A0_1 l0_1.length c0_1) := (blk_cell BK158.out 1).trans rfl
          have hfz169_0 := blk_frozen BK158.out 0
          have hfz169_1 := blk_frozen BK158.out 1
          try go_wp2_with (first | ((with_reducible refine gate_callee (f := 28) rfl ?_); refine goesL_ (some 26) rfl rfl Try.func28 (by kernel_rfl) rfl #[.agg #[.slice A0_0 l0_0.length c0_0, .slice A0_1 l0_1.length c0_1]] rfl pA ?_; (with_reducible refine (laws_toPacket.calls k _ _ l0_0 _ _ l0_1 t175 t178 _ ?side1 ?side2 ?side3 ?side4 A22.out).mono ?_); (case side1 => exact pC (Kd.C_below HR0_0.out HB.out)); (case side2 => exact HC0_0.out); (case side3 => exact pC (Kd.C_below HR0_1.out HB.out)); (case side4 => exact HC0_1.out); rintro e w170 ⟨v176, v179, rfl, ho0, ho1, hb⟩; refine ⟨_, rfl, ?_⟩; have n0_ := Aside0.mk (Kd.R_elder' (pR HO164.out) (Kd.R_base ho0) hb); have n1_ := Aside0.mk (Kd.R_elder' (pR HO167.out) (Kd.R_base ho1) hb); have n2_ := Aside0.mk (Kd.R_elder' (pR HO170.out) (Kd.R_base ho0) hb); have n3_ := Aside0.mk (Kd.R_elder' (pR HO173.out) (Kd.R_base ho1) hb); have n4_ := Aside0.mk (Kd.R_lower (Kd.R_new' (Kd.R_new' ho0 (Kd.R_lt (pR HO164.out))) (Kd.R_lt (pR HO170.out))) (below_size (pB2 HB.out GE158.out GE159.out))); have n5_ := Aside0.mk (Kd.R_lower (Kd.R_new' (Kd.R_new' ho1 (Kd.R_lt (pR HO167.out))) (Kd.R_lt (pR HO173.out))) (below_size (pB2 HB.out GE158.out GE159.out))); have n6_ := Aside0.mk (blk_below (g := gb158) (o := .cells #[.slice A0_0 l0_0.length c0_0, .slice A0_1 l0_1.length c0_1] 40 (0, 0)) (pK BK158.out) hb); have n7_ := Aside0.mk (blk_below (g := gb159) (o := .cells #[.slice A1_0 l1_0.length c1_0, .slice A1_1 l1_1.length c1_1] 40 (0, 0)) (pK BK159.out) hb); have n8_ := Aside0.mk (below_step (pB2 HB.out GE158.out GE159.out) hb); clear HO164; clear HO167; clear HO170; clear HO173; clear BK158; clear BK159; clear HB; have HO164 := n0_; have HO167 := n1_; have HO170 := n2_; have HO173 := n3_; have HO177 := n4_; have HO180 := n5_; have BK158 := n6_; have BK159 := n7_; have HB := n8_; clear n0_ n1_ n2_ n3_ n4_ n5_ n6_ n7_ n8_; (try clear hb); (try clear hb2); (try clear hk); (try clear hi); (try clear ho0); (try clear ho1)) | ((with_reducible refine gate_dst (N := 7) rfl ?_); refine box_event ?hg (N := 7) ?hd (cs := #[.slice none 0 0, .slice none 0 0]) (t := 45) ?hr ?_; (case hd => rfl); (case hg => rfl); (case hr => first | (go_simp; done) | (go_simp; rfl)); intro gb181 hg w171 hbox hb; have n0_ := Aside0.mk (Kd.R_below (pR HO164.out) hb); have n1_ := Aside0.mk (Kd.R_below (pR HO167.out) hb); have n2_ := Aside0.mk (Kd.R_below (pR HO170.out) hb); have n3_ := Aside0.mk (Kd.R_below (pR HO173.out) hb); have n4_ := Aside0.mk (Kd.R_below (pR HO177.out) hb); have n5_ := Aside0.mk (Kd.R_below (pR HO180.out) hb); have n6_ := Aside0.mk (blk_below (g := gb158) (o := .cells #[.slice A0_0 l0_0.length c0_0, .slice A0_1 l0_1.length c0_1] 40 (0, 0)) (pK BK158.out) hb); have n7_ := Aside0.mk (blk_below (g := gb159) (o := .cells #[.slice A1_0 l1_0.length c1_0, .slice A1_1 l1_1.length c1_1] 40 (0, 0)) (pK BK159.out) hb); have n8_ := Aside0.mk (below_step (pB2 HB.out GE158.out GE159.out) hb); have n9_ := Aside0.mk (hbox); have n10_ := Aside0.mk ((by rw [hg]; exact (below_size (pB2 HB.out GE158.out GE159.out)) : w.heap.size ≤ gb181)); have n11_ := Aside0.mk ((by rw [hg]; exact (below_size (pB2 HB.out GE158.out GE159.out)) : w.heap.size ≤ gb181)); have n12_ := Aside0.mk ((by rw [hg]; exact Nat.ne_of_lt (blk_lt (g := gb158) (o := .cells #[.slice A0_0 l0_0.length c0_0, .slice A0_1 l0_1.length c0_1] 40 (0, 0)) (pK BK158.out)) : gb158 ≠ gb181)); have n13_ := Aside0.mk ((by rw [hg]; exact Nat.ne_of_gt (blk_lt (g := gb158) (o := .cells #[.slice A0_0 l0_0.length c0_0, .slice A0_1 l0_1.length c0_1] 40 (0, 0)) (pK BK158.out)) : gb181 ≠ gb158)); have n14_ := Aside0.mk ((by rw [hg]; exact Nat.ne_of_lt (blk_lt (g := gb159) (o := .cells #[.slice A1_0 l1_0.length c1_0, .slice A1_1 l1_1.length c1_1] 40 (0, 0)) (pK BK159.out)) : gb159 ≠ gb181)); have n15_ := Aside0.mk ((by rw [hg]; exact Nat.ne_of_gt (blk_lt (g := gb159) (o := .cells #[.slice A1_0 l1_0.length c1_0, .slice A1_1 l1_1.length c1_1] 40 (0, 0)) (pK BK159.out)) : gb181 ≠ gb159)); clear HO164; clear HO167; clear HO170; clear HO173; clear HO177; clear HO180; clear BK158; clear BK159; clear HB; have HO164 := n0_; have HO167 := n1_; have HO170 := n2_; have HO173 := n3_; have HO177 := n4_; have HO180 := n5_; have BK158 := n6_; have BK159 := n7_; have HB := n8_; have BK181 := n9_; have GW181 := n10_; have GE181 := n11_; have NB158_181 := n12_; have NB181_158 := n13_; have NB159_181 := n14_; have NB181_159 := n15_; clear n0_ n1_ n2_ n3_ n4_ n5_ n6_ n7_ n8_ n9_ n10_ n11_ n12_ n13_ n14_ n15_; clear hb hbox hg; obtain ⟨Ao172, co172, eo172⟩ := Kd.R_slice HO177.out; subst eo172; have hnb173 := NB181_158.out; have hnc173 := NB158_181.out; have hnb174 := NB181_159.out; have hnc174 := NB159_181.out; have hcz175_0 : w171.cell? ⟨gb181, 0, none⟩ = some (.slice none 0 0) := (blk_cell BK181.out 0).trans rfl; have hcz175_1 : w171.cell? ⟨gb181, 1, none⟩ = some (.slice none 0 0) := (blk_cell BK181.out 1).trans rfl; have hfz175_0 := blk_frozen BK181.out 0; have hfz175_1 := blk_frozen BK181.out 1; obtain ⟨Ao176, co176, eo176⟩ := Kd.R_slice HO180.out; subst eo176; have hcz177_0 : w171.cell? ⟨gb159, 0, none⟩ = some (.slice A1_0 l1_0.length c1_0) := (blk_cell BK159.out 0).trans rfl; have hcz177_1 : w171.cell? ⟨gb159, 1, none⟩ = some (.slice A1_1 l1_1.length c1_1) := (blk_cell BK159.out 1).trans rfl; have hfz177_0 := blk_frozen BK159.out 0; have hfz177_1 := blk_frozen BK159.out 1) | ((with_reducible refine gate_callee (f := 28) rfl ?_); refine goesL_ (some 28) rfl rfl Try.func28 (by kernel_rfl) rfl #[.agg #[.slice A1_0 l1_0.length c1_0, .slice A1_1 l1_1.length c1_1]] rfl pA ?_; (with_reducible refine (laws_toPacket.calls k _ _ l1_0 _ _ l1_1 t182 t185 _ ?side1 ?side2 ?side3 ?side4 A23.out).mono ?_); (case side1 => exact Kd.C_below HR1_0.out (pB3 HB.out GE158.out GE159.out GE181.out)); (case side2 => exact HC1_0.out); (case side3 => exact Kd.C_below HR1_1.out (pB3 HB.out GE158.out GE159.out GE181.out)); (case side4 => exact HC1_1.out); rintro e w178 ⟨v183, v186, rfl, ho0, ho1, hb⟩; refine ⟨_, rfl, ?_⟩; have n0_ := Aside0.mk (Kd.R_elder' (by (with_reducible repeat (first | apply Kd.R_alloc | apply Kd.R_drewN | apply Kd.R_drew)); exact (Kd.R_mono (Kd.R_far (p := ⟨gb181, 1, none⟩) (Kd.R_far (p := ⟨gb181, 0, none⟩) (Kd.R_types HO164.out BK181.out (by decide)) (fun _ hk => hk.2) (.slice Ao172 t175.length co172)) (fun _ hk => hk.2) (.slice Ao176 t178.length co176)) (fun _ h_ => h_.1))) (Kd.R_base ho0) hb); have n1_ := Aside0.mk (Kd.R_elder' (by (with_reducible repeat (first | apply Kd.R_alloc | apply Kd.R_drewN | apply Kd.R_drew)); exact (Kd.R_mono (Kd.R_far (p := ⟨gb181, 1, none⟩) (Kd.R_far (p := ⟨gb181, 0, none⟩) (Kd.R_types HO167.out BK181.out (by decide)) (fun _ hk => hk.2) (.slice Ao172 t175.length co172)) (fun _ hk => hk.2) (.slice Ao176 t178.length co176)) (fun _ h_ => h_.1))) (Kd.R_base ho1) hb); have n2_ := Aside0.mk (Kd.R_elder' (by (with_reducible repeat (first | apply Kd.R_alloc | apply Kd.R_drewN | apply Kd.R_drew)); exact (Kd.R_mono (Kd.R_far (p := ⟨gb181, 1, none⟩) (Kd.R_far (p := ⟨gb181, 0, none⟩) (Kd.R_types HO170.out BK181.out (by decide)) (fun _ hk => hk.2) (.slice Ao172 t175.length co172)) (fun _ hk => hk.2) (.slice Ao176 t178.length co176)) (fun _ h_ => h_.1))) (Kd.R_base ho0) hb); have n3_ := Aside0.mk (Kd.R_elder' (by (with_reducible repeat (first | apply Kd.R_alloc | apply Kd.R_drewN | apply Kd.R_drew)); exact (Kd.R_mono (Kd.R_far (p := ⟨gb181, 1, none⟩) (Kd.R_far (p := ⟨gb181, 0, none⟩) (Kd.R_types HO173.out BK181.out (by decide)) (fun _ hk => hk.2) (.slice Ao172 t175.length co172)) (fun _ hk => hk.2) (.slice Ao176 t178.length co176)) (fun _ h_ => h_.1))) (Kd.R_base ho1) hb); have n4_ := Aside0.mk (Kd.R_elder' (by (with_reducible repeat (first | apply Kd.R_alloc | apply Kd.R_drewN | apply Kd.R_drew)); exact (Kd.R_mono (Kd.R_far (p := ⟨gb181, 1, none⟩) (Kd.R_far (p := ⟨gb181, 0, none⟩) (Kd.R_types HO177.out BK181.out (by decide)) (fun _ hk => hk.2) (.slice Ao172 t175.length co172)) (fun _ hk => hk.2) (.slice Ao176 t178.length co176)) (fun _ h_ => h_.1))) (Kd.R_base ho0) hb); have n5_ := Aside0.mk (Kd.R_elder' (by (with_reducible repeat (first | apply Kd.R_alloc | apply Kd.R_drewN | apply Kd.R_drew)); exact (Kd.R_mono (Kd.R_far (p := ⟨gb181, 1, none⟩) (Kd.R_far (p := ⟨gb181, 0, none⟩) (Kd.R_types HO180.out BK181.out (by decide)) (fun _ hk => hk.2) (.slice Ao172 t175.length co172)) (fun _ hk => hk.2) (.slice Ao176 t178.length co176)) (fun _ h_ => h_.1))) (Kd.R_base ho1) hb); have n6_ := Aside0.mk (Kd.R_lower (Kd.R_new' (Kd.R_new' (Kd.R_new' ho0 (Kd.R_lt (by (with_reducible repeat (first | apply Kd.R_alloc | apply Kd.R_drewN | apply Kd.R_drew)); exact (Kd.R_mono (Kd.R_far (p := ⟨gb181, 1, none⟩) (Kd.R_far (p := ⟨gb181, 0, none⟩) (Kd.R_types HO164.out BK181.out (by decide)) (fun _ hk => hk.2) (.slice Ao172 t175.length co172)) (fun _ hk => hk.2) (.slice Ao176 t178.length co176)) (fun _ h_ => h_.1))))) (Kd.R_lt (by (with_reducible repeat (first | apply Kd.R_alloc | apply Kd.R_drewN | apply Kd.R_drew)); exact (Kd.R_mono (Kd.R_far (p := ⟨gb181, 1, none⟩) (Kd.R_far (p := ⟨gb181, 0, none⟩) (Kd.R_types HO170.out BK181.out (by decide)) (fun _ hk => hk.2) (.slice Ao172 t175.length co172)) (fun _ hk => hk.2) (.slice Ao176 t178.length co176)) (fun _ h_ => h_.1))))) (Kd.R_lt (by (with_reducible repeat (first | apply Kd.R_alloc | apply Kd.R_drewN | apply Kd.R_drew)); exact (Kd.R_mono (Kd.R_far (p := ⟨gb181, 1, none⟩) (Kd.R_far (p := ⟨gb181, 0, none⟩) (Kd.R_types HO177.out BK181.out (by decide)) (fun _ hk => hk.2) (.slice Ao172 t175.length co172)) (fun _ hk => hk.2) (.slice Ao176 t178.length co176)) (fun _ h_ => h_.1))))) (below_size (pB3 HB.out GE158.out GE159.out GE181.out))); have n7_ := Aside0.mk (Kd.R_lower (Kd.R_new' (Kd.R_new' (Kd.R_new' ho1 (Kd.R_lt (by (with_reducible repeat (first | apply Kd.R_alloc | apply Kd.R_drewN | apply Kd.R_drew)); exact (Kd.R_mono (Kd.R_far (p := ⟨gb181, 1, none⟩) (Kd.R_far (p := ⟨gb181, 0, none⟩) (Kd.R_types HO167.out BK181.out (by decide)) (fun _ hk => hk.2) (.slice Ao172 t175.length co172)) (fun _ hk => hk.2) (.slice Ao176 t178.length co176)) (fun _ h_ => h_.1))))) (Kd.R_lt (by (with_reducible repeat (first | apply Kd.R_alloc | apply Kd.R_drewN | apply Kd.R_drew)); exact (Kd.R_mono (Kd.R_far (p := ⟨gb181, 1, none⟩) (Kd.R_far (p := ⟨gb181, 0, none⟩) (Kd.R_types HO173.out BK181.out (by decide)) (fun _ hk => hk.2) (.slice Ao172 t175.length co172)) (fun _ hk => hk.2) (.slice Ao176 t178.length co176)) (fun _ h_ => h_.1))))) (Kd.R_lt (by (with_reducible repeat (first | apply Kd.R_alloc | apply Kd.R_drewN | apply Kd.R_drew)); exact (Kd.R_mono (Kd.R_far (p := ⟨gb181, 1, none⟩) (Kd.R_far (p := ⟨gb181, 0, none⟩) (Kd.R_types HO180.out BK181.out (by decide)) (fun _ hk => hk.2) (.slice Ao172 t175.length co172)) (fun _ hk => hk.2) (.slice Ao176 t178.length co176)) (fun _ h_ => h_.1))))) (below_size (pB3 HB.out GE158.out GE159.out GE181.out))); have n8_ := Aside0.mk (blk_below (g := gb158) (o := .cells #[.slice A0_0 l0_0.length c0_0, .slice A0_1 l0_1.length c0_1] 40 (0, 0)) (by (with_reducible repeat (first | refine blk_drewN ?_ _ | refine blk_drew ?_ | refine blk_alloc ?_ _)); refine blk_far ?_ NB158_181.out _; (with_reducible repeat (first | refine blk_drewN ?_ _ | refine blk_drew ?_ | refine blk_alloc ?_ _)); refine blk_far ?_ NB158_181.out _; (with_reducible repeat (first | refine blk_drewN ?_ _ | refine blk_drew ?_ | refine blk_alloc ?_ _)); exact BK158.out) hb); have n9_ := Aside0.mk (blk_below (g := gb159) (o := .cells #[.slice A1_0 l1_0.length c1_0, .slice A1_1 l1_1.length c1_1] 40 (0, 0)) (by (with_reducible repeat (first | refine blk_drewN ?_ _ | refine blk_drew ?_ | refine blk_alloc ?_ _)); refine blk_far ?_ NB159_181.out _; (with_reducible repeat (first | refine blk_drewN ?_ _ | refine blk_drew ?_ | refine blk_alloc ?_ _)); refine blk_far ?_ NB159_181.out _; (with_reducible repeat (first | refine blk_drewN ?_ _ | refine blk_drew ?_ | refine blk_alloc ?_ _)); exact BK159.out) hb); have n10_ := Aside0.mk (blk_below (g := gb181) (o := .cells #[.slice Ao172 t175.length co172, .slice Ao176 t178.length co176] 45 (0, 0)) (by (with_reducible repeat (first | refine blk_drewN ?_ _ | refine blk_drew ?_ | refine blk_alloc ?_ _)); refine blk_put (cs := #[.slice Ao172 t175.length co172, .slice none 0 0]) ?_ 1 _ rfl; (with_reducible repeat (first | refine blk_drewN ?_ _ | refine blk_drew ?_ | refine blk_alloc ?_ _)); refine blk_put (cs := #[.slice none 0 0, .slice none 0 0]) ?_ 0 _ rfl; (with_reducible repeat (first | refine blk_drewN ?_ _ | refine blk_drew ?_ | refine blk_alloc ?_ _)); exact BK181.out) hb); have n11_ := Aside0.mk (below_step (pB3 HB.out GE158.out GE159.out GE181.out) hb); clear HO164; clear HO167; clear HO170; clear HO173; clear HO177; clear HO180; clear BK158; clear BK159; clear BK181; clear HB; have HO164 := n0_; have HO167 := n1_; have HO170 := n2_; have HO173 := n3_; have HO177 := n4_; have HO180 := n5_; have HO184 := n6_; have HO187 := n7_; have BK158 := n8_; have BK159 := n9_; have BK181 := n10_; have HB := n11_; clear n0_ n1_ n2_ n3_ n4_ n5_ n6_ n7_ n8_ n9_ n10_ n11_; (try clear hb); (try clear hb2); (try clear hk); (try clear hi); (try clear ho0); (try clear ho1)) | ((with_reducible refine gate_dst (N := 8) rfl ?_); refine box_event ?hg (N := 8) ?hd (cs := #[.slice none 0 0, .slice none 0 0]) (t := 45) ?hr ?_; (case hd => rfl); (case hg => rfl); (case hr => first | (go_simp; done) | (go_simp; rfl)); intro gb188 hg w179 hbox hb; have n0_ := Aside0.mk (Kd.R_below (pR HO164.out) hb); have n1_ := Aside0.mk (Kd.R_below (pR HO167.out) hb); have n2_ := Aside0.mk (Kd.R_below (pR HO170.out) hb); have n3_ := Aside0.mk (Kd.R_below (pR HO173.out) hb); have n4_ := Aside0.mk (Kd.R_below (pR HO177.out) hb); have n5_ := Aside0.mk (Kd.R_below (pR HO180.out) hb); have n6_ := Aside0.mk (Kd.R_below (pR HO184.out) hb); have n7_ := Aside0.mk (Kd.R_below (pR HO187.out) hb); have n8_ := Aside0.mk (blk_below (g := gb158) (o := .cells #[.slice A0_0 l0_0.length c0_0, .slice A0_1 l0_1.length c0_1] 40 (0, 0)) (pK BK158.out) hb); have n9_ := Aside0.mk (blk_below (g := gb159) (o := .cells #[.slice A1_0 l1_0.length c1_0, .slice A1_1 l1_1.length c1_1] 40 (0, 0)) (pK BK159.out) hb); have n10_ := Aside0.mk (blk_below (g := gb181) (o := .cells #[.slice Ao172 t175.length co172, .slice Ao176 t178.length co176] 45 (0, 0)) (pK BK181.out) hb); have n11_ := Aside0.mk (below_step (pB3 HB.out GE158.out GE159.out GE181.out) hb); have n12_ := Aside0.mk (hbox); have n13_ := Aside0.mk ((by rw [hg]; exact (below_size (pB3 HB.out GE158.out GE159.out GE181.out)) : w.heap.size ≤ gb188)); have n14_ := Aside0.mk ((by rw [hg]; exact (below_size (pB3 HB.out GE158.out GE159.out GE181.out)) : w.heap.size ≤ gb188)); have n15_ := Aside0.mk ((by rw [hg]; exact Nat.ne_of_lt (blk_lt (g := gb158) (o := .cells #[.slice A0_0 l0_0.length c0_0, .slice A0_1 l0_1.length c0_1] 40 (0, 0)) (pK BK158.out)) : gb158 ≠ gb188)); have n16_ := Aside0.mk ((by rw [hg]; exact Nat.ne_of_gt (blk_lt (g := gb158) (o := .cells #[.slice A0_0 l0_0.length c0_0, .slice A0_1 l0_1.length c0_1] 40 (0, 0)) (pK BK158.out)) : gb188 ≠ gb158)); have n17_ := Aside0.mk ((by rw [hg]; exact Nat.ne_of_lt (blk_lt (g := gb159) (o := .cells #[.slice A1_0 l1_0.length c1_0, .slice A1_1 l1_1.length c1_1] 40 (0, 0)) (pK BK159.out)) : gb159 ≠ gb188)); have n18_ := Aside0.mk ((by rw [hg]; exact Nat.ne_of_gt (blk_lt (g := gb159) (o := .cells #[.slice A1_0 l1_0.length c1_0, .slice A1_1 l1_1.length c1_1] 40 (0, 0)) (pK BK159.out)) : gb188 ≠ gb159)); have n19_ := Aside0.mk ((by rw [hg]; exact Nat.ne_of_lt (blk_lt (g := gb181) (o := .cells #[.slice Ao172 t175.length co172, .slice Ao176 t178.length co176] 45 (0, 0)) (pK BK181.out)) : gb181 ≠ gb188)); have n20_ := Aside0.mk ((by rw [hg]; exact Nat.ne_of_gt (blk_lt (g := gb181) (o := .cells #[.slice Ao172 t175.length co172, .slice Ao176 t178.length co176] 45 (0, 0)) (pK BK181.out)) : gb188 ≠ gb181)); clear HO164; clear HO167; clear HO170; clear HO173; clear HO177; clear HO180; clear HO184; clear HO187; clear BK158; clear BK159; clear BK181; clear HB; have HO164 := n0_; have HO167 := n1_; have HO170 := n2_; have HO173 := n3_; have HO177 := n4_; have HO180 := n5_; have HO184 := n6_; have HO187 := n7_; have BK158 := n8_; have BK159 := n9_; have BK181 := n10_; have HB := n11_; have BK188 := n12_; have GW188 := n13_; have GE188 := n14_; have NB158_188 := n15_; have NB188_158 := n16_; have NB159_188 := n17_; have NB188_159 := n18_; have NB181_188 := n19_; have NB188_181 := n20_; clear n0_ n1_ n2_ n3_ n4_ n5_ n6_ n7_ n8_ n9_ n10_ n11_ n12_ n13_ n14_ n15_ n16_ n17_ n18_ n19_ n20_; clear hb hbox hg; obtain ⟨Ao180, co180, eo180⟩ := Kd.R_slice HO184.out; subst eo180; have hnb181 := NB188_158.out; have hnc181 := NB158_188.out; have hnb182 := NB188_159.out; have hnc182 := NB159_188.out; have hnb183 := NB188_181.out; have hnc183 := NB181_188.out; have hcz184_0 : w179.cell? ⟨gb188, 0, none⟩ = some (.slice none 0 0) := (blk_cell BK188.out 0).trans rfl; have hcz184_1 : w179.cell? ⟨gb188, 1, none⟩ = some (.slice none 0 0) := (blk_cell BK188.out 1).trans rfl; have hfz184_0 := blk_frozen BK188.out 0; have hfz184_1 := blk_frozen BK188.out 1; obtain ⟨Ao185, co185, eo185⟩ := Kd.R_slice HO187.out; subst eo185; have hcz186_0 : w179.cell? ⟨gb181, 0, none⟩ = some (.slice Ao172 t175.length co172) := (blk_cell BK181.out 0).trans rfl; have hcz186_1 : w179.cell? ⟨gb181, 1, none⟩ = some (.slice Ao176 t178.length co176) := (blk_cell BK181.out 1).trans rfl; have hfz186_0 := blk_frozen BK181.out 0; have hfz186_1 := blk_frozen BK181.out 1) | ((with_reducible refine gate_callee (f := 29) rfl ?_); refine goesL_ (some 31) rfl rfl Try.func29 (by kernel_rfl) rfl #[.agg #[.slice Ao172 t175.length co172, .slice Ao176 t178.length co176], .agg #[.slice Ao180 t182.length co180, .slice Ao185 t185.length co185]] rfl pA ?_; (with_reducible refine (impl_SamePacket.calls k _ _ t175 _ _ t178 _ _ t182 _ _ t185 t189 _ ?side1 ?side2 ?side3 ?side4 ?side5 ?side6 ?side7 ?side8 A24.out).mono ?_); (case side1 => refine (Kd.R_reads' (e := 84) (base := w.heap.size) (ok := fun k_ => (((True ∧ some k_ ≠ (.slice Ao164 t162.length co164 : Value).ownBlock) ∧ some k_ ≠ (.slice Ao166 t168.length co166 : Value).ownBlock) ∧ some k_ ≠ (.slice Ao180 t182.length co180 : Value).ownBlock)) (n := t175.length) (c := co172) ?_).2.2; exact (by (with_reducible repeat (first | apply Kd.R_alloc | apply Kd.R_drewN | apply Kd.R_drew)); exact (Kd.R_mono (Kd.R_far (p := ⟨gb188, 1, none⟩) (Kd.R_far (p := ⟨gb188, 0, none⟩) (Kd.R_types HO177.out BK188.out (by decide)) (fun _ hk => hk.2) (.slice Ao180 t182.length co180)) (fun _ hk => hk.2) (.slice Ao185 t185.length co185)) (fun _ h_ => h_.1)))); (case side2 => exact (Kd.R_reads' HO177.out).2.1); (case side3 => refine (Kd.R_reads' (e := 2) (base := w.heap.size) (ok := fun k_ => (((True ∧ some k_ ≠ (.slice Ao165 t165.length co165 : Value).ownBlock) ∧ some k_ ≠ (.slice Ao167 t171.length co167 : Value).ownBlock) ∧ some k_ ≠ (.slice Ao185 t185.length co185 : Value).ownBlock)) (n := t178.length) (c := co176) ?_).2.2; exact (by (with_reducible repeat (first | apply Kd.R_alloc | apply Kd.R_drewN | apply Kd.R_drew)); exact (Kd.R_mono (Kd.R_far (p := ⟨gb188, 1, none⟩) (Kd.R_far (p := ⟨gb188, 0, none⟩) (Kd.R_types HO180.out BK188.out (by decide)) (fun _ hk => hk.2) (.slice Ao180 t182.length co180)) (fun _ hk => hk.2) (.slice Ao185 t185.length co185)) (fun _ h_ => h_.1)))); (case side4 => exact (Kd.R_reads' HO180.out).2.1); (case side5 => refine (Kd.R_reads' (e := 84) (base := w.heap.size) (ok := fun k_ => (((True ∧ some k_ ≠ (.slice Ao164 t162.length co164 : Value).ownBlock) ∧ some k_ ≠ (.slice Ao166 t168.length co166 : Value).ownBlock) ∧ some k_ ≠ (.slice Ao172 t175.length co172 : Value).ownBlock)) (n := t182.length) (c := co180) ?_).2.2; exact (by (with_reducible repeat (first | apply Kd.R_alloc | apply Kd.R_drewN | apply Kd.R_drew)); exact (Kd.R_mono (Kd.R_far (p := ⟨gb188, 1, none⟩) (Kd.R_far (p := ⟨gb188, 0, none⟩) (Kd.R_types HO184.out BK188.out (by decide)) (fun _ hk => hk.2) (.slice Ao180 t182.length co180)) (fun _ hk => hk.2) (.slice Ao185 t185.length co185)) (fun _ h_ => h_.1)))); (case side6 => exact (Kd.R_reads' HO184.out).2.1); (case side7 => refine (Kd.R_reads' (e := 2) (base := w.heap.size) (ok := fun k_ => (((True ∧ some k_ ≠ (.slice Ao165 t165.length co165 : Value).ownBlock) ∧ some k_ ≠ (.slice Ao167 t171.length co167 : Value).ownBlock) ∧ some k_ ≠ (.slice Ao176 t178.length co176 : Value).ownBlock)) (n := t185.length) (c := co185) ?_).2.2; exact (by (with_reducible repeat (first | apply Kd.R_alloc | apply Kd.R_drewN | apply Kd.R_drew)); exact (Kd.R_mono (Kd.R_far (p := ⟨gb188, 1, none⟩) (Kd.R_far (p := ⟨gb188, 0, none⟩) (Kd.R_types HO187.out BK188.out (by decide)) (fun _ hk => hk.2) (.slice Ao180 t182.length co180)) (fun _ hk => hk.2) (.slice Ao185 t185.length co185)) (fun _ h_ => h_.1)))); (case side8 => exact (Kd.R_reads' HO187.out).2.1); rintro e w187 ⟨rfl, hb⟩; refine ⟨_, rfl, ?_⟩; have n0_ := Aside0.mk (Kd.R_below (by (with_reducible repeat (first | apply Kd.R_alloc | apply Kd.R_drewN | apply Kd.R_drew)); exact (Kd.R_mono (Kd.R_far (p := ⟨gb188, 1, none⟩) (Kd.R_far (p := ⟨gb188, 0, none⟩) (Kd.R_types HO164.out BK188.out (by decide)) (fun _ hk => hk.2) (.slice Ao180 t182.length co180)) (fun _ hk => hk.2) (.slice Ao185 t185.length co185)) (fun _ h_ => h_.1))) hb); have n1_ := Aside0.mk (Kd.R_below (by (with_reducible repeat (first | apply Kd.R_alloc | apply Kd.R_drewN | apply Kd.R_drew)); exact (Kd.R_mono (Kd.R_far (p := ⟨gb188, 1, none⟩) (Kd.R_far (p := ⟨gb188, 0, none⟩) (Kd.R_types HO167.out BK188.out (by decide)) (fun _ hk => hk.2) (.slice Ao180 t182.length co180)) (fun _ hk => hk.2) (.slice Ao185 t185.length co185)) (fun _ h_ => h_.1))) hb); have n2_ := Aside0.mk (Kd.R_below (by (with_reducible repeat (first | apply Kd.R_alloc | apply Kd.R_drewN | apply Kd.R_drew)); exact (Kd.R_mono (Kd.R_far (p := ⟨gb188, 1, none⟩) (Kd.R_far (p := ⟨gb188, 0, none⟩) (Kd.R_types HO170.out BK188.out (by decide)) (fun _ hk => hk.2) (.slice Ao180 t182.length co180)) (fun _ hk => hk.2) (.slice Ao185 t185.length co185)) (fun _ h_ => h_.1))) hb); have n3_ := Aside0.mk (Kd.R_below (by (with_reducible repeat (first | apply Kd.R_alloc | apply Kd.R_drewN | apply Kd.R_drew)); exact (Kd.R_mono (Kd.R_far (p := ⟨gb188, 1, none⟩) (Kd.R_far (p := ⟨gb188, 0, none⟩) (Kd.R_types HO173.out BK188.out (by decide)) (fun _ hk => hk.2) (.slice Ao180 t182.length co180)) (fun _ hk => hk.2) (.slice Ao185 t185.length co185)) (fun _ h_ => h_.1))) hb); have n4_ := Aside0.mk (Kd.R_below (by (with_reducible repeat (first | apply Kd.R_alloc | apply Kd.R_drewN | apply Kd.R_drew)); exact (Kd.R_mono (Kd.R_far (p := ⟨gb188, 1, none⟩) (Kd.R_far (p := ⟨gb188, 0, none⟩) (Kd.R_types HO177.out BK188.out (by decide)) (fun _ hk => hk.2) (.slice Ao180 t182.length co180)) (fun _ hk => hk.2) (.slice Ao185 t185.length co185)) (fun _ h_ => h_.1))) hb); have n5_ := Aside0.mk (Kd.R_below (by (with_reducible repeat (first | apply Kd.R_alloc | apply Kd.R_drewN | apply Kd.R_drew)); exact (Kd.R_mono (Kd.R_far (p := ⟨gb188, 1, none⟩) (Kd.R_far (p := ⟨gb188, 0, none⟩) (Kd.R_types HO180.out BK188.out (by decide)) (fun _ hk => hk.2) (.slice Ao180 t182.length co180)) (fun _ hk => hk.2) (.slice Ao185 t185.length co185)) (fun _ h_ => h_.1))) hb); have n6_ := Aside0.mk (Kd.R_below (by (with_reducible repeat (first | apply Kd.R_alloc | apply Kd.R_drewN | apply Kd.R_drew)); exact (Kd.R_mono (Kd.R_far (p := ⟨gb188, 1, none⟩) (Kd.R_far (p := ⟨gb188, 0, none⟩) (Kd.R_types HO184.out BK188.out (by decide)) (fun _ hk => hk.2) (.slice Ao180 t182.length co180)) (fun _ hk => hk.2) (.slice Ao185 t185.length co185)) (fun _ h_ => h_.1))) hb); have n7_ := Aside0.mk (Kd.R_below (by (with_reducible repeat (first | apply Kd.R_alloc | apply Kd.R_drewN | apply Kd.R_drew)); exact (Kd.R_mono (Kd.R_far (p := ⟨gb188, 1, none⟩) (Kd.R_far (p := ⟨gb188, 0, none⟩) (Kd.R_types HO187.out BK188.out (by decide)) (fun _ hk => hk.2) (.slice Ao180 t182.length co180)) (fun _ hk => hk.2) (.slice Ao185 t185.length co185)) (fun _ h_ => h_.1))) hb); have n8_ := Aside0.mk (blk_below (g := gb158) (o := .cells #[.slice A0_0 l0_0.length c0_0, .slice A0_1 l0_1.length c0_1] 40 (0, 0)) (by (with_reducible repeat (first | refine blk_drewN ?_ _ | refine blk_drew ?_ | refine blk_alloc ?_ _)); refine blk_far ?_ NB158_188.out _; (with_reducible repeat (first | refine blk_drewN ?_ _ | refine blk_drew ?_ | refine blk_alloc ?_ _)); refine blk_far ?_ NB158_188.out _; (with_reducible repeat (first | refine blk_drewN ?_ _ | refine blk_drew ?_ | refine blk_alloc ?_ _)); exact BK158.out) hb); have n9_ := Aside0.mk (blk_below (g := gb159) (o := .cells #[.slice A1_0 l1_0.length c1_0, .slice A1_1 l1_1.length c1_1] 40 (0, 0)) (by (with_reducible repeat (first | refine blk_drewN ?_ _ | refine blk_drew ?_ | refine blk_alloc ?_ _)); refine blk_far ?_ NB159_188.out _; (with_reducible repeat (first | refine blk_drewN ?_ _ | refine blk_drew ?_ | refine blk_alloc ?_ _)); refine blk_far ?_ NB159_188.out _; (with_reducible repeat (first | refine blk_drewN ?_ _ | refine blk_drew ?_ | refine blk_alloc ?_ _)); exact BK159.out) hb); have n10_ := Aside0.mk (blk_below (g := gb181) (o := .cells #[.slice Ao172 t175.length co172, .slice Ao176 t178.length co176] 45 (0, 0)) (by (with_reducible repeat (first | refine blk_drewN ?_ _ | refine blk_drew ?_ | refine blk_alloc ?_ _)); refine blk_far ?_ NB181_188.out _; (with_reducible repeat (first | refine blk_drewN ?_ _ | refine blk_drew ?_ | refine blk_alloc ?_ _)); refine blk_far ?_ NB181_188.out _; (with_reducible repeat (first | refine blk_drewN ?_ _ | refine blk_drew ?_ | refine blk_alloc ?_ _)); exact BK181.out) hb); have n11_ := Aside0.mk (blk_below (g := gb188) (o := .cells #[.slice Ao180 t182.length co180, .slice Ao185 t185.length co185] 45 (0, 0)) (by (with_reducible repeat (first | refine blk_drewN ?_ _ | refine blk_drew ?_ | refine blk_alloc ?_ _)); refine blk_put (cs := #[.slice Ao180 t182.length co180, .slice none 0 0]) ?_ 1 _ rfl; (with_reducible repeat (first | refine blk_drewN ?_ _ | refine blk_drew ?_ | refine blk_alloc ?_ _)); refine blk_put (cs := #[.slice none 0 0, .slice none 0 0]) ?_ 0 _ rfl; (with_reducible repeat (first | refine blk_drewN ?_ _ | refine blk_drew ?_ | refine blk_alloc ?_ _)); exact BK188.out) hb); have n12_ := Aside0.mk (below_step (pB4 HB.out GE158.out GE159.out GE181.out GE188.out) hb); clear HO164; clear HO167; clear HO170; clear HO173; clear HO177; clear HO180; clear HO184; clear HO187; clear BK158; clear BK159; clear BK181; clear BK188; clear HB; have HO164 := n0_; have HO167 := n1_; have HO170 := n2_; have HO173 := n3_; have HO177 := n4_; have HO180 := n5_; have HO184 := n6_; have HO187 := n7_; have BK158 := n8_; have BK159 := n9_; have BK181 := n10_; have BK188 := n11_; have HB := n12_; clear n0_ n1_ n2_ n3_ n4_ n5_ n6_ n7_ n8_ n9_ n10_ n11_ n12_; (try clear hb); (try clear hb2); (try clear hk); (try clear hi)))
          have n0_ := Aside0.mk (Kd.R_drew HO164.out)
          have n1_ := Aside0.mk (Kd.R_drew HO167.out)
          have n2_ := Aside0.mk (Kd.R_drew HO170.out)
          have n3_ := Aside0.mk (Kd.R_drew HO173.out)
          have n4_ := Aside0.mk (Kd.R_drew HO177.out)
          have n5_ := Aside0.mk (Kd.R_drew HO180.out)
          have n6_ := Aside0.mk (Kd.R_drew HO184.out)
          have n7_ := Aside0.mk (Kd.R_drew HO187.out)
          have n8_ := Aside0.mk (blk_drew BK158.out)
          have n9_ := Aside0.mk (blk_drew BK159.out)
          have n10_ := Aside0.mk (blk_drew BK181.out)
          have n11_ := Aside0.mk (blk_drew BK188.out)
          have n12_ := Aside0.mk (below_drew1 HB.out)
          clear HO164
          clear HO167
          clear HO170
          clear HO173
          clear HO177
          clear HO180
          clear HO184
          clear HO187
          clear BK158
          clear BK159
          clear BK181
          clear BK188
          clear HB
          have HO164 := n0_
          have HO167 := n1_
          have HO170 := n2_
          have HO173 := n3_
          have HO177 := n4_
          have HO180 := n5_
          have HO184 := n6_
          have HO187 := n7_
          have BK158 := n8_
          have BK159 := n9_
          have BK181 := n10_
          have BK188 := n11_
          have HB := n12_
          clear n0_ n1_ n2_ n3_ n4_ n5_ n6_ n7_ n8_ n9_ n10_ n11_ n12_
          refine start_ (n := 5) (S := fun w' => w'.cell? ⟨gb181, 0, none⟩ = some (.slice Ao172 t175.length co172) ∧ w'.cell? ⟨gb181, 1, none⟩ = some (.slice Ao176 t178.length co176) ∧ w'.cell? ⟨gb158, 0, none⟩ = some (.slice A0_0 l0_0.length c0_0) ∧ w'.cell? ⟨gb158, 1, none⟩ = some (.slice A0_1 l0_1.length c0_1)) (ds := []) #[false, false, false, false, false] (by kernel_rfl) rfl rfl ⟨(blk_cell BK181.out 0).trans rfl, (blk_cell BK181.out 1).trans rfl, (blk_cell BK158.out 0).trans rfl, (blk_cell BK158.out 1).trans rfl⟩ (fun hHeld => ?_)
          generalize w187.drew = w188 at HO164 HO167 HO170 HO173 HO177 HO180 HO184 HO187 BK158 BK159 BK181 BK188 HB hHeld ⊢
          refine take_ (i := 0) (N := some 35) (v := ?_) (a' := ?_) #[true, false, false, false, false] rfl rfl (by kernel_rfl) (fun _ _ _ h => h) (Or.inl ⟨by rfl, ?_⟩) hHeld ?_ ?_
          rotate_left
          · rintro w' ⟨s0, s1, s2, s3⟩
            go_simp
            with_reducible rfl
          rotate_left
          · simp only [Act.put, List.setIfInBounds_toArray, List.set_cons_zero, List.set_cons_succ, i64_w, i32_w]
            rfl
          refine take_ (i := 1) (N := some 36) (v := ?_) (a' := ?_) #[true, true, false, false, false] rfl rfl (by kernel_rfl) (fun _ _ _ h => h) (Or.inl ⟨by rfl, ?_⟩) hHeld ?_ ?_
          rotate_left
          · rintro w' ⟨s0, s1, s2, s3⟩
            go_simp
            with_reducible rfl
          rotate_left
          · simp only [Act.put, List.setIfInBounds_toArray, List.set_cons_zero, List.set_cons_succ, i64_w, i32_w]
            rfl
          refine one_ (i := 2) (N := some 37) #[true, true, true, false, false] rfl rfl (by kernel_rfl) (by decide) (fun K hK => ?_)
          refine goes_ Try.func28 (by kernel_rfl) rfl #[.agg #[.slice A0_0 l0_0.length c0_0, .slice A0_1 l0_1.length c0_1]] (by rfl) rfl rfl pA ?_
          with_reducible refine (laws_toPacket.calls k _ _ l0_0 _ _ l0_1 t190 t193 _ ?side1 ?side2 ?side3 ?side4 A60.out).mono ?_
          (case side1 => exact pC (Kd.C_below HR0_0.out HB.out))
          (case side2 => exact HC0_0.out)
          (case side3 => exact pC (Kd.C_below HR0_1.out HB.out))
          (case side4 => exact HC0_1.out)
          rintro e w189 ⟨v191, v194, rfl, ho0, ho1, hb⟩
          refine ⟨_, rfl, ?_⟩
          have n0_ := Aside0.mk (Kd.R_elder' (pR HO164.out) (Kd.R_base ho0) hb)
          have n1_ := Aside0.mk (Kd.R_elder' (pR HO167.out) (Kd.R_base ho1) hb)
          have n2_ := Aside0.mk (Kd.R_elder' (pR HO170.out) (Kd.R_base ho0) hb)
          have n3_ := Aside0.mk (Kd.R_elder' (pR HO173.out) (Kd.R_base ho1) hb)
          have n4_ := Aside0.mk (Kd.R_elder' (pR HO177.out) (Kd.R_base ho0) hb)
          have n5_ := Aside0.mk (Kd.R_elder' (pR HO180.out) (Kd.R_base ho1) hb)
          have n6_ := Aside0.mk (Kd.R_elder' (pR HO184.out) (Kd.R_base ho0) hb)
          have n7_ := Aside0.mk (Kd.R_elder' (pR HO187.out) (Kd.R_base ho1) hb)
          have n8_ := Aside0.mk (Kd.R_lower (Kd.R_new' (Kd.R_new' (Kd.R_new' (Kd.R_new' ho0 (Kd.R_lt (pR HO164.out))) (Kd.R_lt (pR HO170.out))) (Kd.R_lt (pR HO177.out))) (Kd.R_lt (pR HO184.out))) (below_size (pB4 HB.out GE158.out GE159.out GE181.out GE188.out)))
          have n9_ := Aside0.mk (Kd.R_lower (Kd.R_new' (Kd.R_new' (Kd.R_new' (Kd.R_new' ho1 (Kd.R_lt (pR HO167.out))) (Kd.R_lt (pR HO173.out))) (Kd.R_lt (pR HO180.out))) (Kd.R_lt (pR HO187.out))) (below_size (pB4 HB.out GE158.out GE159.out GE181.out GE188.out)))
          have n10_ := Aside0.mk (blk_below (g := gb158) (o := .cells #[.slice A0_0 l0_0.length c0_0, .slice A0_1 l0_1.length c0_1] 40 (0, 0)) (pK BK158.out) hb)
          have n11_ := Aside0.mk (blk_below (g := gb159) (o := .cells #[.slice A1_0 l1_0.length c1_0, .slice A1_1 l1_1.length c1_1] 40 (0, 0)) (pK BK159.out) hb)
          have n12_ := Aside0.mk (blk_below (g := gb181) (o := .cells #[.slice Ao172 t175.length co172, .slice Ao176 t178.length co176] 45 (0, 0)) (pK BK181.out) hb)
          have n13_ := Aside0.mk (blk_below (g := gb188) (o := .cells #[.slice Ao180 t182.length co180, .slice Ao185 t185.length co185] 45 (0, 0)) (pK BK188.out) hb)
          have n14_ := Aside0.mk (below_step (pB4 HB.out GE158.out GE159.out GE181.out GE188.out) hb)
          clear HO164
          clear HO167
          clear HO170
          clear HO173
          clear HO177
          clear HO180
          clear HO184
          clear HO187
          clear BK158
          clear BK159
          clear BK181
          clear BK188
          clear HB
          have HO164 := n0_
          have HO167 := n1_
          have HO170 := n2_
          have HO173 := n3_
          have HO177 := n4_
          have HO180 := n5_
          have HO184 := n6_
          have HO187 := n7_
          have HO192 := n8_
          have HO195 := n9_
          have BK158 := n10_
          have BK159 := n11_
          have BK181 := n12_
          have BK188 := n13_
          have HB := n14_
          clear n0_ n1_ n2_ n3_ n4_ n5_ n6_ n7_ n8_ n9_ n10_ n11_ n12_ n13_ n14_
          (try clear hb)
          (try clear hb2)
          (try clear hk)
          (try clear hi)
          (try clear ho0)
          (try clear ho1)
          obtain ⟨Ao190, co190, eo190⟩ := Kd.R_slice HO192.out
          (first | subst eo190 | (injection eo190 with f1_ f2_ f3_; have f4_ := f1_.symm; have f5_ := f3_.symm; clear f1_ f2_ f3_; subst f4_; subst f5_))
          obtain ⟨Ao191, co191, eo191⟩ := Kd.R_slice HO195.out
          (first | subst eo191 | (injection eo191 with f1_ f2_ f3_; have f4_ := f1_.symm; have f5_ := f3_.symm; clear f1_ f2_ f3_; subst f4_; subst f5_))
          refine hK.out _ _ ⟨(blk_cell BK181.out 0).trans rfl, (blk_cell BK181.out 1).trans rfl, (blk_cell BK158.out 0).trans rfl, (blk_cell BK158.out 1).trans rfl⟩ (fun hHeld => ?_)
          clear hK K
          refine norm_ (a' := ?_) ?_ ?_
          rotate_left
          · show Act.put _ (some 37) _ = _
            simp only [Act.put, List.setIfInBounds_toArray, List.set_cons_zero, List.set_cons_succ, i64_w, i32_w]
            rfl
          refine one_ (i := 3) (N := some 38) #[true, true, true, true, false] rfl rfl (by kernel_rfl) (by decide) (fun K hK => ?_)
          refine goes_ Try.func30 (by kernel_rfl) rfl #[.agg #[.slice Ao172 t175.length co172, .slice Ao176 t178.length co176], .agg #[.slice Ao190 t190.length co190, .slice Ao191 t193.length co191]] (by rfl) rfl rfl pA ?_
          with_reducible refine (laws_eqPacket.calls k _ _ t175 _ _ t178 _ _ t190 _ _ t193 false _ ?side1 ?side2 ?side3 ?side4 ?side5 ?side6 ?side7 ?side8 A61.out).mono ?_
          (case side1 => exact pC ((Kd.R_reads' HO177.out).2.2))
          (case side2 => exact (Kd.R_reads' HO177.out).2.1)
          (case side3 => exact pC ((Kd.R_reads' HO180.out).2.2))
          (case side4 => exact (Kd.R_reads' HO180.out).2.1)
          (case side5 => exact pC ((Kd.R_reads' HO192.out).2.2))
          (case side6 => exact (Kd.R_reads' HO192.out).2.1)
          (case side7 => exact pC ((Kd.R_reads' HO195.out).2.2))
          (case side8 => exact (Kd.R_reads' HO195.out).2.1)
          rintro e w192 ⟨rfl, hb⟩
          refine ⟨_, rfl, ?_⟩
          have n0_ := Aside0.mk (Kd.R_below (pR HO164.out) hb)
          have n1_ := Aside0.mk (Kd.R_below (pR HO167.out) hb)
          have n2_ := Aside0.mk (Kd.R_below (pR HO170.out) hb)
          have n3_ := Aside0.mk (Kd.R_below (pR HO173.out) hb)
          have n4_ := Aside0.mk (Kd.R_below (pR HO177.out) hb)
          have n5_ := Aside0.mk (Kd.R_below (pR HO180.out) hb)
          have n6_ := Aside0.mk (Kd.R_below (pR HO184.out) hb)
          have n7_ := Aside0.mk (Kd.R_below (pR HO187.out) hb)
          have n8_ := Aside0.mk (Kd.R_below (pR HO192.out) hb)
          have n9_ := Aside0.mk (Kd.R_below (pR HO195.out) hb)
          have n10_ := Aside0.mk (blk_below (g := gb158) (o := .cells #[.slice A0_0 l0_0.length c0_0, .slice A0_1 l0_1.length c0_1] 40 (0, 0)) (pK BK158.out) hb)
          have n11_ := Aside0.mk (blk_below (g := gb159) (o := .cells #[.slice A1_0 l1_0.length c1_0, .slice A1_1 l1_1.length c1_1] 40 (0, 0)) (pK BK159.out) hb)
          have n12_ := Aside0.mk (blk_below (g := gb181) (o := .cells #[.slice Ao172 t175.length co172, .slice Ao176 t178.length co176] 45 (0, 0)) (pK BK181.out) hb)
          have n13_ := Aside0.mk (blk_below (g := gb188) (o := .cells #[.slice Ao180 t182.length co180, .slice Ao185 t185.length co185] 45 (0, 0)) (pK BK188.out) hb)
          have n14_ := Aside0.mk (below_step (pB4 HB.out GE158.out GE159.out GE181.out GE188.out) hb)
          clear HO164
          clear HO167
          clear HO170
          clear HO173
          clear HO177
          clear HO180
          clear HO184
          clear HO187
          clear HO192
          clear HO195
          clear BK158
          clear BK159
          clear BK181
          clear BK188
          clear HB
          have HO164 := n0_
          have HO167 := n1_
          have HO170 := n2_
          have HO173 := n3_
          have HO177 := n4_
          have HO180 := n5_
          have HO184 := n6_
          have HO187 := n7_
          have HO192 := n8_
          have HO195 := n9_
          have BK158 := n10_
          have BK159 := n11_
          have BK181 := n12_
          have BK188 := n13_
          have HB := n14_
          clear n0_ n1_ n2_ n3_ n4_ n5_ n6_ n7_ n8_ n9_ n10_ n11_ n12_ n13_ n14_
          (try clear hb)
          (try clear hb2)
          (try clear hk)
          (try clear hi)
          refine hK.out _ _ ⟨(blk_cell BK181.out 0).trans rfl, (blk_cell BK181.out 1).trans rfl, (blk_cell BK158.out 0).trans rfl, (blk_cell BK158.out 1).trans rfl⟩ (fun hHeld => ?_)
          clear hK K
          refine norm_ (a' := ?_) ?_ ?_
          rotate_left
          · show Act.put _ (some 38) _ = _
            simp only [Act.put, List.setIfInBounds_toArray, List.set_cons_zero, List.set_cons_succ, i64_w, i32_w]
            rfl
          refine pure_ (i := 4) (N := some 39) (v := ?_) (a' := ?_) #[true, true, true, true, true] rfl rfl (by kernel_rfl) (fun _ _ _ h => h) (Or.inl ⟨by rfl, ?_⟩) ?_ ?_
          rotate_left
          · intro w'
            go_simp
            with_reducible rfl
          rotate_left
          · simp only [Act.put, List.setIfInBounds_toArray, List.set_cons_zero, List.set_cons_succ, i64_w, i32_w]
            rfl
          refine done_ (by kernel_rfl) ?_
          try go_wp2
          go_ret
          exact ⟨by first | rfl | (simp [errW_none, errW_some] <;> rfl) | (simp [*, errW_none, errW_some] <;> rfl), pB4 HB.out GE158.out GE159.out GE181.out GE188.out⟩
def B117 (x : S117) : Prop := x.f0.size ≤ maxLen ∧ (Lit.int .i64 x.f1).wf = true ∧ (Lit.int .i64 x.f2).wf = true
def B40 (x : S40) : Prop := (x.f0.length ≤ maxLen ∧ ∀ x_ ∈ x.f0, B117 x_) ∧ (x.f1.length ≤ maxLen ∧ ∀ x_ ∈ x.f1, (Lit.int .i64 x_).wf = true)
def laws_FnExactSamePacket.Pure : Prop := ∀ (l0_0 : List (S117)) (l0_1 : List Int) (l1_0 : List (S117)) (l1_1 : List Int), B40 (⟨l0_0, l0_1⟩ : S40) → B40 (⟨l1_0, l1_1⟩ : S40) → ∃ k, laws_FnExactSamePacket.f k l0_0 l0_1 l1_0 l1_1 = some true
end Go.Proofs.Ytmaipnbadfplfaa.PFnExactSamePacket

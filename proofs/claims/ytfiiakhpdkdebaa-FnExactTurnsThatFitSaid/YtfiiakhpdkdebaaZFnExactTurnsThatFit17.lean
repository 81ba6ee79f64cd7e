/- What each function that a law reaches comes to, and the proof that its walk comes to it; laid by a program of this session. No condition. -/
import Derived.Test.YtfiiakhpdkdebaaZFnExactTurnsThatFit0
namespace Go.Proofs.Ytfiiakhpdkdebaa.PFnExactTurnsThatFit
open Go.RowKit Go.Proofs.YtfiiakhpdkdebaaW.PrintWords Go.Proofs.YtfiiakhpdkdebaaW.PrintLast Go.Proofs.YtfiiakhpdkdebaaW.PrintMore
attribute [local go_sem] max2_int min2_int max_two min_two max_three min_three max_four min_four
set_option linter.unusedVariables false
set_option linter.unusedSimpArgs false
def impl_bounds.l0 : Nat → List (S91) → Int → Int → Int → Int → Int → Int → Option (Int × Int × Int × Int)
 | 0, _, _, _, _, _, _, _ => none
 | k + 1, x14, x15, x16, x403000, x403001, x404000, x404001 => if x16 < x15 then (if 0 ≤ x16 then (if x16 < (x14.length : Int) then (impl_bounds.l0 k x14 x15 (wrap64 (x16 + 1)) (mn x403000 ((rd_T91 x14 x16).f0)) (mn x403001 ((rd_T91 x14 x16).f1)) (mx x404000 ((rd_T91 x14 x16).f0)) (mx x404001 ((rd_T91 x14 x16).f1))) else (none)) else (none)) else (some (x403000, x403001, x404000, x404001))
def impl_bounds.f (k : Nat) (l0 : List (S91)) : Option (Int × Int × Int × Int) := if 0 < (l0.length : Int) then (impl_bounds.l0 k l0 (l0.length : Int) 0 ((rd_T91 l0 0).f0) ((rd_T91 l0 0).f1) ((rd_T91 l0 0).f0) ((rd_T91 l0 0).f1)) else (none)
theorem impl_bounds.mono_l : ∀ k, (∀ y0 y1 y2 y3 y4 y5 y6, LeO (impl_bounds.l0 k y0 y1 y2 y3 y4 y5 y6) (impl_bounds.l0 (k + 1) y0 y1 y2 y3 y4 y5 y6))
 | 0 => fun _ _ _ _ _ _ _ r h => by simp [impl_bounds.l0] at h
 | k + 1 => by
   have ih0 := impl_bounds.mono_l k
   · intro y0 y1 y2 y3 y4 y5 y6
     unfold impl_bounds.l0
     repeat' first
     | (with_reducible exact ih0 _ _ _ _ _ _ _)
     | (with_reducible exact LeO.refl _)
     | (with_reducible exact LeO.none _)
     | (with_reducible refine LeO.ite ?_ ?_)
     | (with_reducible refine LeO.bind ?_ (fun _ => ?_))
     | exact ih0 _ _ _ _ _ _ _
     | exact LeO.none _
     | refine LeO.ite ?_ ?_
     | refine LeO.bind ?_ (fun _ => ?_)
theorem impl_bounds.mono : ∀ a0 k, LeO (impl_bounds.f k a0) (impl_bounds.f (k + 1) a0) := by
 intro a0 k
 have ih0 := impl_bounds.mono_l k
 unfold impl_bounds.f
 repeat' first
  | (with_reducible exact ih0 _ _ _ _ _ _ _)
  | (with_reducible exact LeO.refl _)
  | (with_reducible exact LeO.none _)
  | (with_reducible refine LeO.ite ?_ ?_)
  | (with_reducible refine LeO.bind ?_ (fun _ => ?_))
  | exact ih0 _ _ _ _ _ _ _
  | exact LeO.none _
  | refine LeO.ite ?_ ?_
  | refine LeO.bind ?_ (fun _ => ?_)
def impl_bounds.T1 : Bool × List (List Nat × List Nat) := (true, [([], []), ([0], [0]), ([1], [1]), ([], []), ([3], [3]), ([4], [4]), ([], []), ([], []), ([6, 2, 0, 1, 2, 6, 7], [2, 6]), ([7, 5, 8, 0, 1, 2, 3, 4, 5, 6, 7, 8], [5, 7])])
def impl_bounds.B1 : List Nat := [0, 1, 3, 0, 8, 24, 0, 0, 199, 511]
theorem impl_bounds.tab1 : rtab .any (opsOf Try.f61 1) = impl_bounds.T1 := by kernel_rfl
theorem impl_bounds.bits1 : waitsOk impl_bounds.T1.2 impl_bounds.B1 = true := by kernel_rfl
set_option maxHeartbeats 8000000 in
set_option maxRecDepth 100000 in
theorem impl_bounds.calls (k : Nat) (A0 : Option Addr) (c0 : Nat) (l0 : List (S91)) (r1 : Int) (r2 : Int) (r3 : Int) (r4 : Int) (w : World) (hr0 : Kd.C k91 w A0 l0.length l0) (hc0 : l0.length ≤ c0) (h : impl_bounds.f k l0 = some (r1, r2, r3, r4)) :
 Calls Try.prog 61 #[.slice A0 l0.length c0] w fun e w' => e = .returned (.tuple #[.agg #[.int .i64 r1, .int .i64 r2], .agg #[.int .i64 r3, .int .i64 r4]]) ∧ Below w.heap.size w w' := by
 have hu91 := Try.underlying91
 have HR0 := Aside0.mk hr0
 have HC0 := Aside0.mk hc0
 clear hr0 hc0
 have HB := Aside0.mk (Below.refl w.heap.size w)
 have H : (if 0 < (l0.length : Int) then (impl_bounds.l0 k l0 (l0.length : Int) 0 ((rd_T91 l0 0).f0) ((rd_T91 l0 0).f1) ((rd_T91 l0 0).f0) ((rd_T91 l0 0).f1)) else (none)) = some (r1, r2, r3, r4) := h
 clear h
 by_cases c2 : 0 < (l0.length : Int)
 rotate_left
 · rw [if_neg c2] at H
   exact absurd H (by simp)
 rw [if_pos c2] at H
 have c2b0 := decide_eq_true c2
 have c2b1 : decide (0 < l0.length) = true := decide_eq_true (by omega)
 clear c2
 have H' := Aside0.mk H
 clear H
 go_enter Try.func61, Try.ntmps61
 try go_wp2_with (first | ((with_reducible refine gate_dst (N := 2) rfl ?_); refine zB 2 #[.int .i64 0, .int .i64 0] 91 ?_; intro gb398 hg w3 hbox hb; have BK398 := Aside0.mk (hbox); have GW398 := zS (pB0 HB.out) hg; have GE398 := zS (pB0 HB.out) hg; replace HB := zW (pB0 HB.out) hb; clear hb hbox hg) | ((with_reducible refine gate_dst (N := 3) rfl ?_); refine zB 3 #[.int .i64 0, .int .i64 0] 91 ?_; intro gb399 hg w4 hbox hb; have BK399 := Aside0.mk (hbox); have GW399 := zS (pB1 HB.out GE398.out) hg; have GE399 := zS (pB1 HB.out GE398.out) hg; have NB398_399 := zL BK398 hg; have NB399_398 := zM BK398 hg; replace BK398 := zK BK398 hb; replace HB := zW (pB1 HB.out GE398.out) hb; clear hb hbox hg))
 replace BK398 := Aside0.mk (blk_drew BK398.out)
 replace BK399 := Aside0.mk (blk_drew BK399.out)
 replace HB := Aside0.mk (below_drew1 HB.out)
 have p400 : 0 ≤ (0 : Int) := (by omega)
 have q400 : 0 < (l0.length : Int) := zD
 obtain ⟨ad400, e400, hx400_0, hx400_1⟩ := at_T91 HR0.out 0 p400 q400
 have hw400_1 := hx400_1
 (try rw [z0, Nat.zero_mul, Addr.add_zero'] at hw400_1)
 have hw400_0 := hx400_0
 (try rw [z0, Nat.zero_mul, Addr.add_zero'] at hw400_0)
 cases e400
 have qi400 : (0 < l0.length) = True := eq_true (by omega)
 (try rw [z0, Nat.zero_mul, Addr.add_zero'] at hx400_0)
 (try rw [z0, Nat.zero_mul, Addr.add_zero'] at hx400_1)
 try replace hx400_0 := zH HB hx400_0
 try replace hx400_1 := zH HB hx400_1
 replace p400 := eq_true p400
 replace q400 := eq_true q400
 have p401 : 0 ≤ (0 : Int) := (by omega)
 have q401 : 0 < (l0.length : Int) := zD
 obtain ⟨ad401, e401, hx401_0, hx401_1⟩ := at_T91 HR0.out 0 p401 q401
 have hw401_1 := hx401_1
 (try rw [z0, Nat.zero_mul, Addr.add_zero'] at hw401_1)
 have hw401_0 := hx401_0
 (try rw [z0, Nat.zero_mul, Addr.add_zero'] at hw401_0)
 obtain rfl : ad400 = ad401 := (by injection e401)
 have qi401 : (0 < l0.length) = True := eq_true (by omega)
 (try rw [z0, Nat.zero_mul, Addr.add_zero'] at hx401_0)
 (try rw [z0, Nat.zero_mul, Addr.add_zero'] at hx401_1)
 try replace hx401_0 := zH HB hx401_0
 try replace hx401_1 := zH HB hx401_1
 replace p401 := eq_true p401
 replace q401 := eq_true q401
 refine start_ (n := 10) (S := fun w' => w'.cell? ad400 = some (.int .i64 ((rd_T91 l0 0).f0)) ∧ w'.cell? ⟨ad400.block, ad400.off + 1, none⟩ = some (.int .i64 ((rd_T91 l0 0).f1)) ∧ w'.cell? ad400 = some (.int .i64 ((rd_T91 l0 0).f0)) ∧ w'.cell? ⟨ad400.block, ad400.off + 1, none⟩ = some (.int .i64 ((rd_T91 l0 0).f1))) (ds := []) (Array.replicate 10 false) (by kernel_rfl) rfl rfl ⟨(zH HB hw400_0), (zH HB hw400_1), (zH HB hw401_0), (zH HB hw401_1)⟩ (fun hHeld => ?_); refine with_tabW impl_bounds.tab1 impl_bounds.bits1 (fun HT_ HW_ => ?_)
 generalize w4.drew = w5 at BK398 BK399 HB hx400_0 hx400_1 hx401_0 hx401_1 hHeld ⊢
 refine zP 0 (some 8) (zb 10 1) HT_ ?_
 refine zP 1 (some 9) (zb 10 3) HT_ ?_
 refine zP 3 (some 11) (zb 10 11) HT_ ?_
 refine zP 4 (some 12) (zb 10 27) HT_ ?_
 refine zT4 2 (some 10) (zb 10 31) HT_ HW_ hHeld ?_
 refine zT4 5 (some 13) (zb 10 63) HT_ HW_ hHeld ?_
 refine join_ (σ := Nat × Nat) 2 #[true, true, true, true, true, true, true, true, false, false] (fun s_ => [(4, .pointer (some ⟨s_.1, 0, none⟩)), (5, .pointer (some ⟨s_.2, 0, none⟩))]) (fun s_ w' => (w'.cell? ad400 = some (.int .i64 ((rd_T91 l0 0).f0)) ∧ w'.cell? ⟨ad400.block, ad400.off + 1, none⟩ = some (.int .i64 ((rd_T91 l0 0).f1)) ∧ w'.cell? ad400 = some (.int .i64 ((rd_T91 l0 0).f0)) ∧ w'.cell? ⟨ad400.block, ad400.off + 1, none⟩ = some (.int .i64 ((rd_T91 l0 0).f1))) ∧ (w'.heap[gb398]? = some (.cells #[.int .i64 0, .int .i64 0] 91 (0, 0))) ∧ (w'.heap[gb399]? = some (.cells #[.int .i64 0, .int .i64 0] 91 (0, 0))) ∧ (w'.heap[s_.1]? = some (.cells #[.int .i64 0, .int .i64 0] 91 (0, 0))) ∧ (w'.heap[s_.2]? = some (.cells #[.int .i64 0, .int .i64 0] 91 (0, 0))) ∧ (w.heap.size ≤ s_.1) ∧ (w.heap.size ≤ s_.1) ∧ (gb398 ≠ s_.1) ∧ (s_.1 ≠ gb398) ∧ (gb399 ≠ s_.1) ∧ (s_.1 ≠ gb399) ∧ (s_.2 ≠ s_.1) ∧ (s_.1 ≠ s_.2) ∧ (w.heap.size ≤ s_.2) ∧ (w.heap.size ≤ s_.2) ∧ (gb398 ≠ s_.2) ∧ (s_.2 ≠ gb398) ∧ (gb399 ≠ s_.2) ∧ (s_.2 ≠ gb399) ∧ (Below w.heap.size w w')) ?_ ?_
 rotate_left
 · intro hCont
   refine two_ (i := 6) (j := 7) (Ni := some 4) (Nj := some 5) #[true, true, true, true, true, true, true, false, false, false] #[true, true, true, true, true, true, false, true, false, false] rfl rfl rfl rfl (two_of HT_.out (by kernel_rfl)) (by decide) (by decide) (fun K hK => ?_) (fun K hK => ?_)
   · skip
     refine box_step ?hg (N := 4) ?hd (cs := #[.int .i64 0, .int .i64 0]) (t := 91) ?hr ?_; (case hd => rfl); (case hg => rfl); (case hr => first | (go_simp; done) | (go_simp; rfl))
     intro gb402 hg w6 hbox hb
     have BK402 := Aside0.mk (hbox)
     have GW402 := zS (pB2 HB.out GE398.out GE399.out) hg
     have GE402 := zS (pB2 HB.out GE398.out GE399.out) hg
     have NB398_402 := zL BK398 hg
     have NB402_398 := zM BK398 hg
     have NB399_402 := zL BK399 hg
     have NB402_399 := zM BK399 hg
     replace BK398 := zK BK398 hb
     replace BK399 := zK BK399 hb
     replace HB := zW (pB2 HB.out GE398.out GE399.out) hb
     clear hb hbox hg
     refine hK.out _ _ ⟨(zH HB hw400_0), (zH HB hw400_1), (zH HB hw401_0), (zH HB hw401_1)⟩ (fun hHeld => ?_)
     clear hK K
     refine zN ?_
     refine one_ (i := 7) (N := some 5) (zb 10 255) rfl rfl (one_of HT_.out (by kernel_rfl)) (by decide) (fun K hK => ?_)
     refine box_step ?hg (N := 5) ?hd (cs := #[.int .i64 0, .int .i64 0]) (t := 91) ?hr ?_; (case hd => rfl); (case hg => rfl); (case hr => first | (go_simp; done) | (go_simp; rfl))
     intro gb403 hg w7 hbox hb
     have BK403 := Aside0.mk (hbox)
     have GW403 := zS (pB3 HB.out GE398.out GE399.out GE402.out) hg
     have GE403 := zS (pB3 HB.out GE398.out GE399.out GE402.out) hg
     have NB398_403 := zL BK398 hg
     have NB403_398 := zM BK398 hg
     have NB399_403 := zL BK399 hg
     have NB403_399 := zM BK399 hg
     have NB402_403 := zL BK402 hg
     have NB403_402 := zM BK402 hg
     replace BK398 := zK BK398 hb
     replace BK399 := zK BK399 hb
     replace BK402 := zK BK402 hb
     replace HB := zW (pB3 HB.out GE398.out GE399.out GE402.out) hb
     clear hb hbox hg
     refine hK.out _ _ ⟨(zH HB hw400_0), (zH HB hw400_1), (zH HB hw401_0), (zH HB hw401_1)⟩ (fun hHeld => ?_)
     clear hK K
     refine zN ?_
     exact norm_ (by simp only [putAll, Act.put, List.setIfInBounds_toArray, List.set_cons_zero, List.set_cons_succ]) (hCont (gb402, gb403) _ ⟨hHeld, (pK BK398.out), (pK BK399.out), (pK BK402.out), (pK BK403.out), GW402.out, GE402.out, NB398_402.out, NB402_398.out, NB399_402.out, NB402_399.out, NB403_402.out, NB402_403.out, GW403.out, GE403.out, NB398_403.out, NB403_398.out, NB399_403.out, NB403_399.out, (pB4 HB.out GE398.out GE399.out GE402.out GE403.out)⟩)
   · skip
     refine box_step ?hg (N := 5) ?hd (cs := #[.int .i64 0, .int .i64 0]) (t := 91) ?hr ?_; (case hd => rfl); (case hg => rfl); (case hr => first | (go_simp; done) | (go_simp; rfl))
     intro gb403 hg w6 hbox hb
     have BK403 := Aside0.mk (hbox)
     have GW403 := zS (pB2 HB.out GE398.out GE399.out) hg
     have GE403 := zS (pB2 HB.out GE398.out GE399.out) hg
     have NB398_403 := zL BK398 hg
     have NB403_398 := zM BK398 hg
     have NB399_403 := zL BK399 hg
     have NB403_399 := zM BK399 hg
     replace BK398 := zK BK398 hb
     replace BK399 := zK BK399 hb
     replace HB := zW (pB2 HB.out GE398.out GE399.out) hb
     clear hb hbox hg
     refine hK.out _ _ ⟨(zH HB hw400_0), (zH HB hw400_1), (zH HB hw401_0), (zH HB hw401_1)⟩ (fun hHeld => ?_)
     clear hK K
     refine zN ?_
     refine one_ (i := 6) (N := some 4) (zb 10 255) rfl rfl (one_of HT_.out (by kernel_rfl)) (by decide) (fun K hK => ?_)
     refine box_step ?hg (N := 4) ?hd (cs := #[.int .i64 0, .int .i64 0]) (t := 91) ?hr ?_; (case hd => rfl); (case hg => rfl); (case hr => first | (go_simp; done) | (go_simp; rfl))
     intro gb402 hg w7 hbox hb
     have BK402 := Aside0.mk (hbox)
     have GW402 := zS (pB3 HB.out GE398.out GE399.out GE403.out) hg
     have GE402 := zS (pB3 HB.out GE398.out GE399.out GE403.out) hg
     have NB398_402 := zL BK398 hg
     have NB402_398 := zM BK398 hg
     have NB399_402 := zL BK399 hg
     have NB402_399 := zM BK399 hg
     have NB403_402 := zL BK403 hg
     have NB402_403 := zM BK403 hg
     replace BK398 := zK BK398 hb
     replace BK399 := zK BK399 hb
     replace BK403 := zK BK403 hb
     replace HB := zW (pB3 HB.out GE398.out GE399.out GE403.out) hb
     clear hb hbox hg
     refine hK.out _ _ ⟨(zH HB hw400_0), (zH HB hw400_1), (zH HB hw401_0), (zH HB hw401_1)⟩ (fun hHeld => ?_)
     clear hK K
     refine zN ?_
     exact norm_ (by simp only [putAll, Act.put, List.setIfInBounds_toArray, List.set_cons_zero, List.set_cons_succ]) (hCont (gb402, gb403) _ ⟨hHeld, (pK BK398.out), (pK BK399.out), (pK BK402.out), (pK BK403.out), GW402.out, GE402.out, NB398_402.out, NB402_398.out, NB399_402.out, NB402_399.out, NB403_402.out, NB402_403.out, GW403.out, GE403.out, NB398_403.out, NB403_398.out, NB399_403.out, NB403_399.out, (pB4 HB.out GE398.out GE399.out GE403.out GE402.out)⟩)
 rintro ⟨gb402, gb403⟩ w8 ⟨hS_, h0_, h1_, h2_, h3_, h4_, h5_, h6_, h7_, h8_, h9_, h10_, h11_, h12_, h13_, h14_, h15_, h16_, h17_, h18_⟩
 have n0_ : Aside0 (w8.heap[gb398]? = some (.cells #[.int .i64 0, .int .i64 0] 91 (0, 0))) := ⟨h0_⟩
 have n1_ : Aside0 (w8.heap[gb399]? = some (.cells #[.int .i64 0, .int .i64 0] 91 (0, 0))) := ⟨h1_⟩
 have n2_ : Aside0 (w8.heap[gb402]? = some (.cells #[.int .i64 0, .int .i64 0] 91 (0, 0))) := ⟨h2_⟩
 have n3_ : Aside0 (w8.heap[gb403]? = some (.cells #[.int .i64 0, .int .i64 0] 91 (0, 0))) := ⟨h3_⟩
 have n4_ : Aside0 (w.heap.size ≤ gb402) := ⟨h4_⟩
 have n5_ : Aside0 (w.heap.size ≤ gb402) := ⟨h5_⟩
 have n6_ : Aside0 (gb398 ≠ gb402) := ⟨h6_⟩
 have n7_ : Aside0 (gb402 ≠ gb398) := ⟨h7_⟩
 have n8_ : Aside0 (gb399 ≠ gb402) := ⟨h8_⟩
 have n9_ : Aside0 (gb402 ≠ gb399) := ⟨h9_⟩
 have n10_ : Aside0 (gb403 ≠ gb402) := ⟨h10_⟩
 have n11_ : Aside0 (gb402 ≠ gb403) := ⟨h11_⟩
 have n12_ : Aside0 (w.heap.size ≤ gb403) := ⟨h12_⟩
 have n13_ : Aside0 (w.heap.size ≤ gb403) := ⟨h13_⟩
 have n14_ : Aside0 (gb398 ≠ gb403) := ⟨h14_⟩
 have n15_ : Aside0 (gb403 ≠ gb398) := ⟨h15_⟩
 have n16_ : Aside0 (gb399 ≠ gb403) := ⟨h16_⟩
 have n17_ : Aside0 (gb403 ≠ gb399) := ⟨h17_⟩
 have n18_ : Aside0 (Below w.heap.size w w8) := ⟨h18_⟩
 clear BK398
 clear BK399
 clear HB
 clear h0_ h1_ h2_ h3_ h4_ h5_ h6_ h7_ h8_ h9_ h10_ h11_ h12_ h13_ h14_ h15_ h16_ h17_ h18_
 have BK398 := n0_
 have BK399 := n1_
 have BK402 := n2_
 have BK403 := n3_
 have GW402 := n4_
 have GE402 := n5_
 have NB398_402 := n6_
 have NB402_398 := n7_
 have NB399_402 := n8_
 have NB402_399 := n9_
 have NB403_402 := n10_
 have NB402_403 := n11_
 have GW403 := n12_
 have GE403 := n13_
 have NB398_403 := n14_
 have NB403_398 := n15_
 have NB399_403 := n16_
 have NB403_399 := n17_
 have HB := n18_
 clear n0_ n1_ n2_ n3_ n4_ n5_ n6_ n7_ n8_ n9_ n10_ n11_ n12_ n13_ n14_ n15_ n16_ n17_ n18_
 have hHeld : w8.cell? ad400 = some (.int .i64 ((rd_T91 l0 0).f0)) ∧ w8.cell? ⟨ad400.block, ad400.off + 1, none⟩ = some (.int .i64 ((rd_T91 l0 0).f1)) ∧ w8.cell? ad400 = some (.int .i64 ((rd_T91 l0 0).f0)) ∧ w8.cell? ⟨ad400.block, ad400.off + 1, none⟩ = some (.int .i64 ((rd_T91 l0 0).f1)) := hS_
 refine norm_ (a' := ?_) ?_ ?_
 rotate_left
 · simp only [putAll, Act.put, List.setIfInBounds_toArray, List.set_cons_zero, List.set_cons_succ]
   rfl
 refine one_ (i := 8) (N := none) (zb 10 511) rfl rfl (one_of HT_.out (by kernel_rfl)) (by decide) (fun K hK => ?_)
 have hs9 : w8.cell? ⟨gb402, 0, none⟩ = some (.int .i64 0) := zQ BK402 0
 have hfs9 := blk_frozen BK402.out 0
 have hns9_0 := NB398_402.out
 have hns9_1 := NB399_402.out
 have hns9_3 := NB403_402.out
 have hms9_0 := NB402_398.out
 have hms9_1 := NB402_399.out
 have hms9_3 := NB402_403.out
 have hs10 : w8.cell? ⟨gb402, 1, none⟩ = some (.int .i64 0) := zQ BK402 1
 have hfs10 := blk_frozen BK402.out 1
 have hns10_0 := NB398_402.out
 have hns10_1 := NB399_402.out
 have hns10_3 := NB403_402.out
 have hms10_0 := NB402_398.out
 have hms10_1 := NB402_399.out
 have hms10_3 := NB402_403.out
 refine skip_ (w1 := ?_) (by rfl) rfl ?_ ?_
 rotate_left
 · go_simp
   rfl
 refine hK.out _ _ ⟨((cell_far (p := ⟨gb402, _, none⟩) (zF hw400_0 GW402) _).trans (((cell_far (p := ⟨gb402, _, none⟩) (zF hw400_0 GW402) _).trans (hHeld.1)))), ((cell_far (p := ⟨gb402, _, none⟩) (zF hw400_1 GW402) _).trans (((cell_far (p := ⟨gb402, _, none⟩) (zF hw400_1 GW402) _).trans (hHeld.2.1)))), ((cell_far (p := ⟨gb402, _, none⟩) (zF hw401_0 GW402) _).trans (((cell_far (p := ⟨gb402, _, none⟩) (zF hw401_0 GW402) _).trans (hHeld.2.2.1)))), ((cell_far (p := ⟨gb402, _, none⟩) (zF hw401_1 GW402) _).trans (((cell_far (p := ⟨gb402, _, none⟩) (zF hw401_1 GW402) _).trans (hHeld.2.2.2))))⟩ (fun hHeld => ?_)
 clear hK K
 refine one_ (i := 9) (N := none) (zb 10 1023) rfl rfl (one_of HT_.out (by kernel_rfl)) (by decide) (fun K hK => ?_)
 have hs11 : w8.cell? ⟨gb403, 0, none⟩ = some (.int .i64 0) := zQ BK403 0
 have hfs11 := blk_frozen BK403.out 0
 have hns11_0 := NB398_403.out
 have hns11_1 := NB399_403.out
 have hns11_2 := NB402_403.out
 have hms11_0 := NB403_398.out
 have hms11_1 := NB403_399.out
 have hms11_2 := NB403_402.out
 have hs12 : w8.cell? ⟨gb403, 1, none⟩ = some (.int .i64 0) := zQ BK403 1
 have hfs12 := blk_frozen BK403.out 1
 have hns12_0 := NB398_403.out
 have hns12_1 := NB399_403.out
 have hns12_2 := NB402_403.out
 have hms12_0 := NB403_398.out
 have hms12_1 := NB403_399.out
 have hms12_2 := NB403_402.out
 refine skip_ (w1 := ?_) (by rfl) rfl ?_ ?_
 rotate_left
 · go_simp
   rfl
 refine hK.out _ _ ⟨((cell_far (p := ⟨gb403, _, none⟩) (zF hw400_0 GW403) _).trans (((cell_far (p := ⟨gb403, _, none⟩) (zF hw400_0 GW403) _).trans (hHeld.1)))), ((cell_far (p := ⟨gb403, _, none⟩) (zF hw400_1 GW403) _).trans (((cell_far (p := ⟨gb403, _, none⟩) (zF hw400_1 GW403) _).trans (hHeld.2.1)))), ((cell_far (p := ⟨gb403, _, none⟩) (zF hw401_0 GW403) _).trans (((cell_far (p := ⟨gb403, _, none⟩) (zF hw401_0 GW403) _).trans (hHeld.2.2.1)))), ((cell_far (p := ⟨gb403, _, none⟩) (zF hw401_1 GW403) _).trans (((cell_far (p := ⟨gb403, _, none⟩) (zF hw401_1 GW403) _).trans (hHeld.2.2.2))))⟩ (fun hHeld => ?_)
 clear hK K
 refine done_ (done_of HT_.out (by kernel_rfl)) ?_
 try go_wp2
 go_loopg [16] k (fun kq v16 w' => ∃ (x16_1 : Int) (x403000_1 : Int) (x403001_1 : Int) (x404000_1 : Int) (x404001_1 : Int), v16 = .int .i64 x16_1 ∧ Aside0 (impl_bounds.l0 kq l0 (l0.length : Int) x16_1 x403000_1 x403001_1 x404000_1 x404001_1 = some (r1, r2, r3, r4)) ∧ Aside0 (kq ≤ k) ∧ Aside0 (w'.heap[gb398]? = some (.cells #[.int .i64 0, .int .i64 0] 91 (0, 0))) ∧ Aside0 (w'.heap[gb399]? = some (.cells #[.int .i64 0, .int .i64 0] 91 (0, 0))) ∧ Aside0 (w'.heap[gb402]? = some (.cells #[.int .i64 x403000_1, .int .i64 x403001_1] 91 (0, 0))) ∧ Aside0 (w'.heap[gb403]? = some (.cells #[.int .i64 x404000_1, .int .i64 x404001_1] 91 (0, 0))) ∧ Aside0 (Below w.heap.size w w'))
 case atStart => exact ⟨(0), ((rd_T91 l0 0).f0), ((rd_T91 l0 0).f1), ((rd_T91 l0 0).f0), ((rd_T91 l0 0).f1), zR, H', ⟨Nat.le_refl _⟩, ⟨by refine zf ?_ NB398_403; refine zf ?_ NB398_403; refine zf ?_ NB398_402; refine zf ?_ NB398_402; exact pK BK398.out⟩, ⟨by refine zf ?_ NB399_403; refine zf ?_ NB399_403; refine zf ?_ NB399_402; refine zf ?_ NB399_402; exact pK BK399.out⟩, ⟨by refine zf ?_ NB402_403; refine zf ?_ NB402_403; refine zg #[.int .i64 ((rd_T91 l0 0).f0), .int .i64 0] 1 ?_; refine zg #[.int .i64 0, .int .i64 0] 0 ?_; exact pK BK402.out⟩, ⟨by refine zg #[.int .i64 ((rd_T91 l0 0).f0), .int .i64 0] 1 ?_; refine zg #[.int .i64 0, .int .i64 0] 0 ?_; refine zf ?_ NB403_402; refine zf ?_ NB403_402; exact pK BK403.out⟩, ⟨pB4 HB.out GE398.out GE399.out GE402.out GE403.out⟩⟩
 case round =>
  clear H'
  try clear c2
  try clear c2b0
  try clear c2b1
  try clear p2
  try clear p4
  try clear q4
  try clear hx4
  try clear qi4
  try clear c6
  try clear hx400_0
  try clear hx400_1
  try clear hx401_0
  try clear hx401_1
  try clear p400
  try clear p401
  try clear q400
  try clear q401
  obtain ⟨x16_1, x403000_1, x403001_1, x404000_1, x404001_1, rfl, HA, HK1, BK398, BK399, BK402, BK403, HB⟩ := hrel
  cases gk with
  | zero => exact absurd HA.out (by simp [impl_bounds.l0])
  | succ k1 =>
    have H := HA.out
    clear HA
    simp only [impl_bounds.l0] at H
    by_cases c13 : x16_1 < (l0.length : Int)
    · rw [if_pos c13] at H
      have c13b0 := decide_eq_true c13
      clear c13
      by_cases c14 : 0 ≤ x16_1
      rotate_left
      · rw [if_neg c14] at H
        exact absurd H (by simp)
      rw [if_pos c14] at H
      have c14b0 := decide_eq_true c14
      clear c14
      by_cases c15 : x16_1 < (l0.length : Int)
      rotate_left
      · rw [if_neg c15] at H
        exact absurd H (by simp)
      rw [if_pos c15] at H
      have c15b0 := decide_eq_true c15
      clear c15
      obtain ⟨ji16, hji16⟩ : ∃ j_ : Int, (mn x403000_1 ((rd_T91 l0 x16_1).f0)) = j_ := ⟨_, rfl⟩
      replace H : (impl_bounds.l0 k1 l0 (l0.length : Int) (wrap64 (x16_1 + 1)) ji16 (mn x403001_1 ((rd_T91 l0 x16_1).f1)) (mx x404000_1 ((rd_T91 l0 x16_1).f0)) (mx x404001_1 ((rd_T91 l0 x16_1).f1))) = some (r1, r2, r3, r4) := by first | (rw [hji16] at H; exact H) | (simp only [hji16] at H ⊢; exact H)
      have hji16_ : (if ((rd_T91 l0 x16_1).f0) < x403000_1 then ((rd_T91 l0 x16_1).f0) else x403000_1) = ji16 := hji16
      obtain ⟨ji17, hji17⟩ : ∃ j_ : Int, (mn x403001_1 ((rd_T91 l0 x16_1).f1)) = j_ := ⟨_, rfl⟩
      replace H : (impl_bounds.l0 k1 l0 (l0.length : Int) (wrap64 (x16_1 + 1)) ji16 ji17 (mx x404000_1 ((rd_T91 l0 x16_1).f0)) (mx x404001_1 ((rd_T91 l0 x16_1).f1))) = some (r1, r2, r3, r4) := by first | (rw [hji17] at H; exact H) | (simp only [hji17] at H ⊢; exact H)
      have hji17_ : (if ((rd_T91 l0 x16_1).f1) < x403001_1 then ((rd_T91 l0 x16_1).f1) else x403001_1) = ji17 := hji17
      obtain ⟨ji18, hji18⟩ : ∃ j_ : Int, (mx x404000_1 ((rd_T91 l0 x16_1).f0)) = j_ := ⟨_, rfl⟩
      replace H : (impl_bounds.l0 k1 l0 (l0.length : Int) (wrap64 (x16_1 + 1)) ji16 ji17 ji18 (mx x404001_1 ((rd_T91 l0 x16_1).f1))) = some (r1, r2, r3, r4) := by first | (rw [hji18] at H; exact H) | (simp only [hji18] at H ⊢; exact H)
      have hji18_ : (if x404000_1 < ((rd_T91 l0 x16_1).f0) then ((rd_T91 l0 x16_1).f0) else x404000_1) = ji18 := hji18
      obtain ⟨ji19, hji19⟩ : ∃ j_ : Int, (mx x404001_1 ((rd_T91 l0 x16_1).f1)) = j_ := ⟨_, rfl⟩
      replace H : (impl_bounds.l0 k1 l0 (l0.length : Int) (wrap64 (x16_1 + 1)) ji16 ji17 ji18 ji19) = some (r1, r2, r3, r4) := by first | (rw [hji19] at H; exact H) | (simp only [hji19] at H ⊢; exact H)
      have hji19_ : (if x404001_1 < ((rd_T91 l0 x16_1).f1) then ((rd_T91 l0 x16_1).f1) else x404001_1) = ji19 := hji19
      have H' := Aside0.mk H
      clear H
      have p404 : 0 ≤ (x16_1 : Int) := zD
      have q404 : x16_1 < (l0.length : Int) := zD
      obtain ⟨ad404, e404, hx404_0, hx404_1⟩ := at_T91 HR0.out x16_1 p404 q404
      obtain rfl : ad400 = ad404 := (by injection e404)
      try replace hx404_0 := zH HB hx404_0
      try replace hx404_1 := zH HB hx404_1
      replace p404 := eq_true p404
      replace q404 := eq_true q404
      go_wp2_with (first | ((with_reducible refine gate_dst (N := 7) rfl ?_); refine zB 7 #[.int .i64 0, .int .i64 0] 91 ?_; intro gb405 hg w20 hbox hb; have BK405 := Aside0.mk (hbox); have GW405 := zS (pB4 HB.out GE398.out GE399.out GE402.out GE403.out) hg; have GE405 := zS (pB4 HB.out GE398.out GE399.out GE402.out GE403.out) hg; have NB398_405 := zL BK398 hg; have NB405_398 := zM BK398 hg; have NB399_405 := zL BK399 hg; have NB405_399 := zM BK399 hg; have NB402_405 := zL BK402 hg; have NB405_402 := zM BK402 hg; have NB403_405 := zL BK403 hg; have NB405_403 := zM BK403 hg; replace BK398 := zK BK398 hb; replace BK399 := zK BK399 hb; replace BK402 := zK BK402 hb; replace BK403 := zK BK403 hb; replace HB := zW (pB4 HB.out GE398.out GE399.out GE402.out GE403.out) hb; clear hb hbox hg; have hnb21 := NB405_398.out; have hnc21 := NB398_405.out; have hnb22 := NB405_399.out; have hnc22 := NB399_405.out; have hnb23 := NB405_402.out; have hnc23 := NB402_405.out; have hnb24 := NB405_403.out; have hnc24 := NB403_405.out; obtain ⟨hcz25_0, hfz25_0, hcz25_1, hfz25_1⟩ := zw2 BK405; have hnb26 := NB402_398.out; have hnc26 := NB398_402.out; have hnb27 := NB402_399.out; have hnc27 := NB399_402.out; have hnb28 := NB402_403.out; have hnc28 := NB403_402.out; obtain ⟨hcz29_0, hfz29_0, hcz29_1, hfz29_1⟩ := zw2 BK402; have hnb30 := NB403_398.out; have hnc30 := NB398_403.out; have hnb31 := NB403_399.out; have hnc31 := NB399_403.out; obtain ⟨hcz32_0, hfz32_0, hcz32_1, hfz32_1⟩ := zw2 BK403))
      go_roundg k1
      case measure => have := HK1.out; omega
      case rel => exact ⟨(wrap64 (x16_1 + 1)), (ji16), (ji17), (ji18), (ji19), zR, H', ⟨by have := HK1.out; omega⟩, ⟨by refine zf ?_ NB398_403; refine zf ?_ NB398_403; refine zf ?_ NB398_402; refine zf ?_ NB398_402; refine zf ?_ NB398_405; refine zf ?_ NB398_405; exact pK BK398.out⟩, ⟨by refine zf ?_ NB399_403; refine zf ?_ NB399_403; refine zf ?_ NB399_402; refine zf ?_ NB399_402; refine zf ?_ NB399_405; refine zf ?_ NB399_405; exact pK BK399.out⟩, ⟨by refine zf ?_ NB402_403; refine zf ?_ NB402_403; refine zg #[.int .i64 ji16, .int .i64 x403001_1] 1 ?_; refine zg #[.int .i64 x403000_1, .int .i64 x403001_1] 0 ?_; refine zf ?_ NB402_405; refine zf ?_ NB402_405; exact pK BK402.out⟩, ⟨by refine zg #[.int .i64 ji18, .int .i64 x404001_1] 1 ?_; refine zg #[.int .i64 x404000_1, .int .i64 x404001_1] 0 ?_; refine zf ?_ NB403_402; refine zf ?_ NB403_402; refine zf ?_ NB403_405; refine zf ?_ NB403_405; exact pK BK403.out⟩, ⟨pB5 HB.out GE398.out GE399.out GE402.out GE403.out GE405.out⟩⟩
    rw [if_neg c13] at H
    have c13b0 : decide (x16_1 < (l0.length : Int)) = false := decide_eq_false c13
    clear c13
    simp only [Option.some.injEq, Prod.mk.injEq] at H
    obtain ⟨rfl, rfl, rfl, rfl⟩ := H
    try go_wp2
    replace BK398 := Aside0.mk (blk_drew BK398.out)
    replace BK399 := Aside0.mk (blk_drew BK399.out)
    replace BK402 := Aside0.mk (blk_drew BK402.out)
    replace BK403 := Aside0.mk (blk_drew BK403.out)
    replace HB := Aside0.mk (below_drew1 HB.out)
    refine start_ (n := 4) (S := fun w' => w'.cell? ⟨gb402, 0, none⟩ = some (.int .i64 x403000_1) ∧ w'.cell? ⟨gb402, 1, none⟩ = some (.int .i64 x403001_1) ∧ w'.cell? ⟨gb403, 0, none⟩ = some (.int .i64 x404000_1) ∧ w'.cell? ⟨gb403, 1, none⟩ = some (.int .i64 x404001_1)) (ds := []) (Array.replicate 4 false) (by kernel_rfl) rfl rfl ⟨zQ BK402 0, zQ BK402 1, zQ BK403 0, zQ BK403 1⟩ (fun hHeld => ?_)
    generalize wr.drew = w33 at BK398 BK399 BK402 BK403 HB hHeld ⊢
    refine take_ (i := 0) (N := some 43) (v := ?_) (a' := ?_) #[true, false, false, false] rfl rfl (by kernel_rfl) (fun _ _ _ h => h) (Or.inl ⟨by rfl, ?_⟩) hHeld ?_ ?_
    rotate_left
    · rintro w' ⟨s0, s1, s2, s3⟩
      go_simp
      with_reducible rfl
    rotate_left
    · simp only [Act.put, List.setIfInBounds_toArray, List.set_cons_zero, List.set_cons_succ, i64_w, i32_w]
      rfl
    refine take_ (i := 1) (N := some 44) (v := ?_) (a' := ?_) #[true, true, false, false] rfl rfl (by kernel_rfl) (fun _ _ _ h => h) (Or.inl ⟨by rfl, ?_⟩) hHeld ?_ ?_
    rotate_left
    · rintro w' ⟨s0, s1, s2, s3⟩
      go_simp
      with_reducible rfl
    rotate_left
    · simp only [Act.put, List.setIfInBounds_toArray, List.set_cons_zero, List.set_cons_succ, i64_w, i32_w]
      rfl
    refine one_ (i := 2) (N := none) (zb 4 7) rfl rfl (by kernel_rfl) (by decide) (fun K hK => ?_)
    have hs34 : w33.cell? ⟨gb398, 0, none⟩ = some (.int .i64 0) := zQ BK398 0
    have hfs34 := blk_frozen BK398.out 0
    have hns34_1 := NB399_398.out
    have hns34_2 := NB402_398.out
    have hns34_3 := NB403_398.out
    have hms34_1 := NB398_399.out
    have hms34_2 := NB398_402.out
    have hms34_3 := NB398_403.out
    have hs35 : w33.cell? ⟨gb398, 1, none⟩ = some (.int .i64 0) := zQ BK398 1
    have hfs35 := blk_frozen BK398.out 1
    have hns35_1 := NB399_398.out
    have hns35_2 := NB402_398.out
    have hns35_3 := NB403_398.out
    have hms35_1 := NB398_399.out
    have hms35_2 := NB398_402.out
    have hms35_3 := NB398_403.out
    refine skip_ (w1 := ?_) (by rfl) rfl ?_ ?_
    rotate_left
    · go_simp
      rfl
    refine hK.out _ _ ⟨((cell_far (p := ⟨gb398, _, none⟩) NB402_398.out _).trans (((cell_far (p := ⟨gb398, _, none⟩) NB402_398.out _).trans (hHeld.1)))), ((cell_far (p := ⟨gb398, _, none⟩) NB402_398.out _).trans (((cell_far (p := ⟨gb398, _, none⟩) NB402_398.out _).trans (hHeld.2.1)))), ((cell_far (p := ⟨gb398, _, none⟩) NB403_398.out _).trans (((cell_far (p := ⟨gb398, _, none⟩) NB403_398.out _).trans (hHeld.2.2.1)))), ((cell_far (p := ⟨gb398, _, none⟩) NB403_398.out _).trans (((cell_far (p := ⟨gb398, _, none⟩) NB403_398.out _).trans (hHeld.2.2.2))))⟩ (fun hHeld => ?_)
    clear hK K
    refine one_ (i := 3) (N := none) (zb 4 15) rfl rfl (by kernel_rfl) (by decide) (fun K hK => ?_)
    have hs36 : w33.cell? ⟨gb399, 0, none⟩ = some (.int .i64 0) := zQ BK399 0
    have hfs36 := blk_frozen BK399.out 0
    have hns36_0 := NB398_399.out
    have hns36_2 := NB402_399.out
    have hns36_3 := NB403_399.out
    have hms36_0 := NB399_398.out
    have hms36_2 := NB399_402.out
    have hms36_3 := NB399_403.out
    have hs37 : w33.cell? ⟨gb399, 1, none⟩ = some (.int .i64 0) := zQ BK399 1
    have hfs37 := blk_frozen BK399.out 1
    have hns37_0 := NB398_399.out
    have hns37_2 := NB402_399.out
    have hns37_3 := NB403_399.out
    have hms37_0 := NB399_398.out
    have hms37_2 := NB399_402.out
    have hms37_3 := NB399_403.out
    refine skip_ (w1 := ?_) (by rfl) rfl ?_ ?_
    rotate_left
    · go_simp
      rfl
    refine hK.out _ _ ⟨((cell_far (p := ⟨gb399, _, none⟩) NB402_399.out _).trans (((cell_far (p := ⟨gb399, _, none⟩) NB402_399.out _).trans (hHeld.1)))), ((cell_far (p := ⟨gb399, _, none⟩) NB402_399.out _).trans (((cell_far (p := ⟨gb399, _, none⟩) NB402_399.out _).trans (hHeld.2.1)))), ((cell_far (p := ⟨gb399, _, none⟩) NB403_399.out _).trans (((cell_far (p := ⟨gb399, _, none⟩) NB403_399.out _).trans (hHeld.2.2.1)))), ((cell_far (p := ⟨gb399, _, none⟩) NB403_399.out _).trans (((cell_far (p := ⟨gb399, _, none⟩) NB403_399.out _).trans (hHeld.2.2.2))))⟩ (fun hHeld => ?_)
    clear hK K
    refine done_ (by kernel_rfl) ?_
    try go_wp2
    refine bodyPost_ret (results_cc rfl _ _ gb398 gb399 91 91 #[.int .i64 x403000_1, .int .i64 x403001_1] #[.int .i64 x404000_1, .int .i64 x404001_1] (0, 0) (0, 0) _ _ rfl (by refine zf ?_ NB398_399; refine zf ?_ NB398_399; refine zg #[.int .i64 x403000_1, .int .i64 0] 1 ?_; refine zg #[.int .i64 0, .int .i64 0] 0 ?_; exact pK BK398.out) Try.underlying91 rfl (by kernel_rfl) rfl (by refine zg #[.int .i64 x404000_1, .int .i64 0] 1 ?_; refine zg #[.int .i64 0, .int .i64 0] 0 ?_; refine zf ?_ NB399_398; refine zf ?_ NB399_398; exact pK BK399.out) Try.underlying91 rfl (by kernel_rfl)) rfl ?_
    exact ⟨zE, pB4 HB.out GE398.out GE399.out GE402.out GE403.out⟩
end Go.Proofs.Ytfiiakhpdkdebaa.PFnExactTurnsThatFit

/- What each function that a law reaches comes to, and the proof that its walk comes to it; laid by a program of this session. No condition. -/
import Derived.Test.YtfiiakhpdkdebaaZFnExactOffcutsOf0
namespace Go.Proofs.Ytfiiakhpdkdebaa.PFnExactOffcutsOf
open Go.RowKit Go.Proofs.YtfiiakhpdkdebaaW.PrintWords Go.Proofs.YtfiiakhpdkdebaaW.PrintLast Go.Proofs.YtfiiakhpdkdebaaW.PrintMore
attribute [local go_sem] max2_int min2_int max_two min_two max_three min_three max_four min_four
set_option linter.unusedVariables false
set_option linter.unusedSimpArgs false
def impl_bounds.l0 : Nat → List (S91) → Int → Int → Int → Int → Int → Int → Option (Int × Int × Int × Int)
 | 0, _, _, _, _, _, _, _ => none
 | k + 1, x14, x15, x16, x431000, x431001, x432000, x432001 => if x16 < x15 then (if 0 ≤ x16 then (if x16 < (x14.length : Int) then (impl_bounds.l0 k x14 x15 (wrap64 (x16 + 1)) (mn x431000 ((rd_T91 x14 x16).f0)) (mn x431001 ((rd_T91 x14 x16).f1)) (mx x432000 ((rd_T91 x14 x16).f0)) (mx x432001 ((rd_T91 x14 x16).f1))) else (none)) else (none)) else (some (x431000, x431001, x432000, x432001))
def impl_bounds.f (k : Nat) (l0 : List (S91)) : Option (Int × Int × Int × Int) := if 0 < (l0.length : Int) then (impl_bounds.l0 k l0 (l0.length : Int) 0 ((rd_T91 l0 0).f0) ((rd_T91 l0 0).f1) ((rd_T91 l0 0).f0) ((rd_T91 l0 0).f1)) else (none)
theorem impl_bounds.mono_l : ∀ k, (∀ y0 y1 y2 y3 y4 y5 y6, LeO (impl_bounds.l0 k y0 y1 y2 y3 y4 y5 y6) (impl_bounds.l0 (k + 1) y0 y1 y2 y3 y4 y5 y6))
 | 0 => fun _ _ _ _ _ _ _ r h => by simp [impl_bounds.l0] at h
 | k + 1 => by
   have ih0 := impl_bounds.mono_l k
   · intro y0 y1 y2 y3 y4 y5 y6
     unfold impl_bounds.l0
     repeat' first
     | (with_reducible exact ih0 _ _ _ _ _ _ _)
     | (with_reducible exact LeO.refl _)
     | (with_reducible exact LeO.none _)
     | (with_reducible refine LeO.ite ?_ ?_)
     | (with_reducible refine LeO.bind ?_ (fun _ => ?_))
     | exact ih0 _ _ _ _ _ _ _
     | exact LeO.none _
     | refine LeO.ite ?_ ?_
     | refine LeO.bind ?_ (fun _ => ?_)
theorem impl_bounds.mono : ∀ a0 k, LeO (impl_bounds.f k a0) (impl_bounds.f (k + 1) a0) := by
 intro a0 k; have ih0 := impl_bounds.mono_l k; unfold impl_bounds.f
 repeat' first
  | (with_reducible exact ih0 _ _ _ _ _ _ _)
  | (with_reducible exact LeO.refl _)
  | (with_reducible exact LeO.none _)
  | (with_reducible refine LeO.ite ?_ ?_)
  | (with_reducible refine LeO.bind ?_ (fun _ => ?_))
  | exact ih0 _ _ _ _ _ _ _
  | exact LeO.none _
  | refine LeO.ite ?_ ?_
  | refine LeO.bind ?_ (fun _ => ?_)
def impl_bounds.T1 : Bool × List (List Nat × List Nat) := (true, [([], []), ([0], [0]), ([1], [1]), ([], []), ([3], [3]), ([4], [4]), ([], []), ([], []), ([6, 2, 0, 1, 2, 6, 7], [2, 6]), ([7, 5, 8, 0, 1, 2, 3, 4, 5, 6, 7, 8], [5, 7])])
def impl_bounds.B1 : List Nat := [0, 1, 3, 0, 8, 24, 0, 0, 199, 511]
theorem impl_bounds.tab1 : rtab .any (opsOf Try.f61 1) = impl_bounds.T1 := by kernel_rfl
theorem impl_bounds.bits1 : waitsOk impl_bounds.T1.2 impl_bounds.B1 = true := by kernel_rfl
set_option maxHeartbeats 8000000 in
set_option maxRecDepth 100000 in
theorem impl_bounds.calls (k : Nat) (A0 : Option Addr) (c0 : Nat) (l0 : List (S91)) (r1 : Int) (r2 : Int) (r3 : Int) (r4 : Int) (w : World) (hr0 : Kd.C k91 w A0 l0.length l0) (hc0 : l0.length ≤ c0) (h : impl_bounds.f k l0 = some (r1, r2, r3, r4)) :
 Calls Try.prog 61 #[.slice A0 l0.length c0] w fun e w' => e = .returned (.tuple #[.agg #[.int .i64 r1, .int .i64 r2], .agg #[.int .i64 r3, .int .i64 r4]]) ∧ Below w.heap.size w w' := by
 have hu91 := Try.underlying91; have HR0 := Aside0.mk hr0; have HC0 := Aside0.mk hc0; clear hr0 hc0; have HB := Aside0.mk (Below.refl w.heap.size w); have H : (if 0 < (l0.length : Int) then (impl_bounds.l0 k l0 (l0.length : Int) 0 ((rd_T91 l0 0).f0) ((rd_T91 l0 0).f1) ((rd_T91 l0 0).f0) ((rd_T91 l0 0).f1)) else (none)) = some (r1, r2, r3, r4) := h; clear h
 by_cases c2 : 0 < (l0.length : Int)
 rotate_left
 · rw [if_neg c2] at H
   exact absurd H (by simp)
 rw [if_pos c2] at H; have c2b0 := decide_eq_true c2
 have c2b1 : decide (0 < l0.length) = true := decide_eq_true (by omega)
 clear c2; have H' := Aside0.mk H; clear H
 go_enter Try.func61, Try.ntmps61
 try go_wp2_with (first | ((with_reducible refine zI 2 rfl ?_); refine zB 2 #[.int .i64 0, .int .i64 0] 91 ?_; intro gb426 hg w3 hbox hb; have BK426 := Aside0.mk (hbox); have GW426 := zS (pB0 HB.out) hg; have GE426 := GW426; replace HB := zW (pB0 HB.out) hb; clear hb hbox hg) | ((with_reducible refine zI 3 rfl ?_); refine zB 3 #[.int .i64 0, .int .i64 0] 91 ?_; intro gb427 hg w4 hbox hb; have BK427 := Aside0.mk (hbox); have GW427 := zS (pB1 HB.out GE426.out) hg; have GE427 := GW427; have NB426_427 := zL BK426 hg; have NB427_426 := zM BK426 hg; replace BK426 := zK BK426 hb; replace HB := zW (pB1 HB.out GE426.out) hb; clear hb hbox hg))
 replace BK426 := Aside0.mk (blk_drew BK426.out); replace BK427 := Aside0.mk (blk_drew BK427.out); replace HB := Aside0.mk (below_drew1 HB.out)
 have p428 : 0 ≤ (0 : Int) := (by omega)
 have q428 : 0 < (l0.length : Int) := zD; obtain ⟨ad428, e428, hx428_0, hx428_1⟩ := at_T91 HR0.out 0 p428 q428; have hw428_1 := hx428_1; (try rw [z0, Nat.zero_mul, Addr.add_zero'] at hw428_1); have hw428_0 := hx428_0; (try rw [z0, Nat.zero_mul, Addr.add_zero'] at hw428_0); cases e428
 have qi428 : (0 < l0.length) = True := eq_true (by omega)
 (try rw [z0, Nat.zero_mul, Addr.add_zero'] at hx428_0); (try rw [z0, Nat.zero_mul, Addr.add_zero'] at hx428_1)
 try replace hx428_0 := zH HB hx428_0
 try replace hx428_1 := zH HB hx428_1
 replace p428 := eq_true p428; replace q428 := eq_true q428
 have p429 : 0 ≤ (0 : Int) := (by omega)
 have q429 : 0 < (l0.length : Int) := zD; obtain ⟨ad429, e429, hx429_0, hx429_1⟩ := at_T91 HR0.out 0 p429 q429; have hw429_1 := hx429_1; (try rw [z0, Nat.zero_mul, Addr.add_zero'] at hw429_1); have hw429_0 := hx429_0; (try rw [z0, Nat.zero_mul, Addr.add_zero'] at hw429_0)
 obtain rfl : ad428 = ad429 := (by injection e429)
 have qi429 : (0 < l0.length) = True := eq_true (by omega)
 (try rw [z0, Nat.zero_mul, Addr.add_zero'] at hx429_0); (try rw [z0, Nat.zero_mul, Addr.add_zero'] at hx429_1)
 try replace hx429_0 := zH HB hx429_0
 try replace hx429_1 := zH HB hx429_1
 replace p429 := eq_true p429; replace q429 := eq_true q429
 refine start_ (n := 10) (S := fun w' => w'.cell? ad428 = some (.int .i64 ((rd_T91 l0 0).f0)) ∧ w'.cell? ⟨ad428.block, ad428.off + 1, none⟩ = some (.int .i64 ((rd_T91 l0 0).f1)) ∧ w'.cell? ad428 = some (.int .i64 ((rd_T91 l0 0).f0)) ∧ w'.cell? ⟨ad428.block, ad428.off + 1, none⟩ = some (.int .i64 ((rd_T91 l0 0).f1))) (ds := []) (Array.replicate 10 false) (by kernel_rfl) rfl rfl ⟨(zH HB hw428_0), (zH HB hw428_1), (zH HB hw429_0), (zH HB hw429_1)⟩ (fun hHeld => ?_); refine with_tabW impl_bounds.tab1 impl_bounds.bits1 (fun HT_ HW_ => ?_)
 generalize w4.drew = w5 at BK426 BK427 HB hx428_0 hx428_1 hx429_0 hx429_1 hHeld ⊢
 refine zP 0 (some 8) (zb 10 1) HT_ ?_; refine zP 1 (some 9) (zb 10 3) HT_ ?_; refine zP 3 (some 11) (zb 10 11) HT_ ?_; refine zP 4 (some 12) (zb 10 27) HT_ ?_; refine zT4 2 (some 10) (zb 10 31) HT_ HW_ hHeld ?_; refine zT4 5 (some 13) (zb 10 63) HT_ HW_ hHeld ?_
 refine join_ (σ := Nat × Nat) 2 #[true, true, true, true, true, true, true, true, false, false] (fun s_ => [(4, .pointer (some ⟨s_.1, 0, none⟩)), (5, .pointer (some ⟨s_.2, 0, none⟩))]) (fun s_ w' => (w'.cell? ad428 = some (.int .i64 ((rd_T91 l0 0).f0)) ∧ w'.cell? ⟨ad428.block, ad428.off + 1, none⟩ = some (.int .i64 ((rd_T91 l0 0).f1)) ∧ w'.cell? ad428 = some (.int .i64 ((rd_T91 l0 0).f0)) ∧ w'.cell? ⟨ad428.block, ad428.off + 1, none⟩ = some (.int .i64 ((rd_T91 l0 0).f1))) ∧ (w'.heap[gb426]? = some (.cells #[.int .i64 0, .int .i64 0] 91 (0, 0))) ∧ (w'.heap[gb427]? = some (.cells #[.int .i64 0, .int .i64 0] 91 (0, 0))) ∧ (w'.heap[s_.1]? = some (.cells #[.int .i64 0, .int .i64 0] 91 (0, 0))) ∧ (w'.heap[s_.2]? = some (.cells #[.int .i64 0, .int .i64 0] 91 (0, 0))) ∧ (w.heap.size ≤ s_.1) ∧ (w.heap.size ≤ s_.1) ∧ (gb426 ≠ s_.1) ∧ (s_.1 ≠ gb426) ∧ (gb427 ≠ s_.1) ∧ (s_.1 ≠ gb427) ∧ (s_.2 ≠ s_.1) ∧ (s_.1 ≠ s_.2) ∧ (w.heap.size ≤ s_.2) ∧ (w.heap.size ≤ s_.2) ∧ (gb426 ≠ s_.2) ∧ (s_.2 ≠ gb426) ∧ (gb427 ≠ s_.2) ∧ (s_.2 ≠ gb427) ∧ (Below w.heap.size w w')) ?_ ?_
 rotate_left
 · intro hCont
   refine two_ (i := 6) (j := 7) (Ni := some 4) (Nj := some 5) #[true, true, true, true, true, true, true, false, false, false] #[true, true, true, true, true, true, false, true, false, false] rfl rfl rfl rfl (two_of HT_.out (by kernel_rfl)) (by decide) (by decide) (fun K hK => ?_) (fun K hK => ?_)
   · skip
     refine box_step ?hg (N := 4) ?hd (cs := #[.int .i64 0, .int .i64 0]) (t := 91) ?hr ?_; (case hd => rfl); (case hg => rfl); (case hr => first | (go_simp; done) | (go_simp; rfl))
     intro gb430 hg w6 hbox hb; have BK430 := Aside0.mk (hbox); have GW430 := zS (pB2 HB.out GE426.out GE427.out) hg; have GE430 := GW430; have NB426_430 := zL BK426 hg; have NB430_426 := zM BK426 hg; have NB427_430 := zL BK427 hg; have NB430_427 := zM BK427 hg; replace BK426 := zK BK426 hb; replace BK427 := zK BK427 hb; replace HB := zW (pB2 HB.out GE426.out GE427.out) hb; clear hb hbox hg
     refine hK.out _ _ ⟨(zH HB hw428_0), (zH HB hw428_1), (zH HB hw429_0), (zH HB hw429_1)⟩ (fun hHeld => ?_)
     clear hK K; refine zN ?_
     refine one_ (i := 7) (N := some 5) (zb 10 255) rfl rfl (one_of HT_.out (by kernel_rfl)) (by decide) (fun K hK => ?_)
     refine box_step ?hg (N := 5) ?hd (cs := #[.int .i64 0, .int .i64 0]) (t := 91) ?hr ?_; (case hd => rfl); (case hg => rfl); (case hr => first | (go_simp; done) | (go_simp; rfl))
     intro gb431 hg w7 hbox hb; have BK431 := Aside0.mk (hbox); have GW431 := zS (pB3 HB.out GE426.out GE427.out GE430.out) hg; have GE431 := GW431; have NB426_431 := zL BK426 hg; have NB431_426 := zM BK426 hg; have NB427_431 := zL BK427 hg; have NB431_427 := zM BK427 hg; have NB430_431 := zL BK430 hg; have NB431_430 := zM BK430 hg; replace BK426 := zK BK426 hb; replace BK427 := zK BK427 hb; replace BK430 := zK BK430 hb; replace HB := zW (pB3 HB.out GE426.out GE427.out GE430.out) hb; clear hb hbox hg
     refine hK.out _ _ ⟨(zH HB hw428_0), (zH HB hw428_1), (zH HB hw429_0), (zH HB hw429_1)⟩ (fun hHeld => ?_)
     clear hK K; refine zN ?_
     exact norm_ (by simp only [putAll, Act.put, List.setIfInBounds_toArray, List.set_cons_zero, List.set_cons_succ]) (hCont (gb430, gb431) _ ⟨hHeld, (pK BK426.out), (pK BK427.out), (pK BK430.out), (pK BK431.out), GW430.out, GE430.out, NB426_430.out, NB430_426.out, NB427_430.out, NB430_427.out, NB431_430.out, NB430_431.out, GW431.out, GE431.out, NB426_431.out, NB431_426.out, NB427_431.out, NB431_427.out, (pB4 HB.out GE426.out GE427.out GE430.out GE431.out)⟩)
   · skip
     refine box_step ?hg (N := 5) ?hd (cs := #[.int .i64 0, .int .i64 0]) (t := 91) ?hr ?_; (case hd => rfl); (case hg => rfl); (case hr => first | (go_simp; done) | (go_simp; rfl))
     intro gb431 hg w6 hbox hb; have BK431 := Aside0.mk (hbox); have GW431 := zS (pB2 HB.out GE426.out GE427.out) hg; have GE431 := GW431; have NB426_431 := zL BK426 hg; have NB431_426 := zM BK426 hg; have NB427_431 := zL BK427 hg; have NB431_427 := zM BK427 hg; replace BK426 := zK BK426 hb; replace BK427 := zK BK427 hb; replace HB := zW (pB2 HB.out GE426.out GE427.out) hb; clear hb hbox hg
     refine hK.out _ _ ⟨(zH HB hw428_0), (zH HB hw428_1), (zH HB hw429_0), (zH HB hw429_1)⟩ (fun hHeld => ?_)
     clear hK K; refine zN ?_
     refine one_ (i := 6) (N := some 4) (zb 10 255) rfl rfl (one_of HT_.out (by kernel_rfl)) (by decide) (fun K hK => ?_)
     refine box_step ?hg (N := 4) ?hd (cs := #[.int .i64 0, .int .i64 0]) (t := 91) ?hr ?_; (case hd => rfl); (case hg => rfl); (case hr => first | (go_simp; done) | (go_simp; rfl))
     intro gb430 hg w7 hbox hb; have BK430 := Aside0.mk (hbox); have GW430 := zS (pB3 HB.out GE426.out GE427.out GE431.out) hg; have GE430 := GW430; have NB426_430 := zL BK426 hg; have NB430_426 := zM BK426 hg; have NB427_430 := zL BK427 hg; have NB430_427 := zM BK427 hg; have NB431_430 := zL BK431 hg; have NB430_431 := zM BK431 hg; replace BK426 := zK BK426 hb; replace BK427 := zK BK427 hb; replace BK431 := zK BK431 hb; replace HB := zW (pB3 HB.out GE426.out GE427.out GE431.out) hb; clear hb hbox hg
     refine hK.out _ _ ⟨(zH HB hw428_0), (zH HB hw428_1), (zH HB hw429_0), (zH HB hw429_1)⟩ (fun hHeld => ?_)
     clear hK K; refine zN ?_
     exact norm_ (by simp only [putAll, Act.put, List.setIfInBounds_toArray, List.set_cons_zero, List.set_cons_succ]) (hCont (gb430, gb431) _ ⟨hHeld, (pK BK426.out), (pK BK427.out), (pK BK430.out), (pK BK431.out), GW430.out, GE430.out, NB426_430.out, NB430_426.out, NB427_430.out, NB430_427.out, NB431_430.out, NB430_431.out, GW431.out, GE431.out, NB426_431.out, NB431_426.out, NB427_431.out, NB431_427.out, (pB4 HB.out GE426.out GE427.out GE431.out GE430.out)⟩)
 rintro ⟨gb430, gb431⟩ w8 ⟨hS_, h0_, h1_, h2_, h3_, h4_, h5_, h6_, h7_, h8_, h9_, h10_, h11_, h12_, h13_, h14_, h15_, h16_, h17_, h18_⟩; have n0_ : Aside0 (w8.heap[gb426]? = some (.cells #[.int .i64 0, .int .i64 0] 91 (0, 0))) := ⟨h0_⟩; have n1_ : Aside0 (w8.heap[gb427]? = some (.cells #[.int .i64 0, .int .i64 0] 91 (0, 0))) := ⟨h1_⟩; have n2_ : Aside0 (w8.heap[gb430]? = some (.cells #[.int .i64 0, .int .i64 0] 91 (0, 0))) := ⟨h2_⟩; have n3_ : Aside0 (w8.heap[gb431]? = some (.cells #[.int .i64 0, .int .i64 0] 91 (0, 0))) := ⟨h3_⟩; have n4_ : Aside0 (w.heap.size ≤ gb430) := ⟨h4_⟩; have n5_ : Aside0 (w.heap.size ≤ gb430) := ⟨h5_⟩; have n6_ : Aside0 (gb426 ≠ gb430) := ⟨h6_⟩; have n7_ : Aside0 (gb430 ≠ gb426) := ⟨h7_⟩; have n8_ : Aside0 (gb427 ≠ gb430) := ⟨h8_⟩; have n9_ : Aside0 (gb430 ≠ gb427) := ⟨h9_⟩; have n10_ : Aside0 (gb431 ≠ gb430) := ⟨h10_⟩; have n11_ : Aside0 (gb430 ≠ gb431) := ⟨h11_⟩; have n12_ : Aside0 (w.heap.size ≤ gb431) := ⟨h12_⟩; have n13_ : Aside0 (w.heap.size ≤ gb431) := ⟨h13_⟩; have n14_ : Aside0 (gb426 ≠ gb431) := ⟨h14_⟩; have n15_ : Aside0 (gb431 ≠ gb426) := ⟨h15_⟩; have n16_ : Aside0 (gb427 ≠ gb431) := ⟨h16_⟩; have n17_ : Aside0 (gb431 ≠ gb427) := ⟨h17_⟩; have n18_ : Aside0 (Below w.heap.size w w8) := ⟨h18_⟩; clear BK426; clear BK427; clear HB; clear h0_ h1_ h2_ h3_ h4_ h5_ h6_ h7_ h8_ h9_ h10_ h11_ h12_ h13_ h14_ h15_ h16_ h17_ h18_; have BK426 := n0_; have BK427 := n1_; have BK430 := n2_; have BK431 := n3_; have GW430 := n4_; have GE430 := n5_; have NB426_430 := n6_; have NB430_426 := n7_; have NB427_430 := n8_; have NB430_427 := n9_; have NB431_430 := n10_; have NB430_431 := n11_; have GW431 := n12_; have GE431 := n13_; have NB426_431 := n14_; have NB431_426 := n15_; have NB427_431 := n16_; have NB431_427 := n17_; have HB := n18_; clear n0_ n1_ n2_ n3_ n4_ n5_ n6_ n7_ n8_ n9_ n10_ n11_ n12_ n13_ n14_ n15_ n16_ n17_ n18_; have hHeld : w8.cell? ad428 = some (.int .i64 ((rd_T91 l0 0).f0)) ∧ w8.cell? ⟨ad428.block, ad428.off + 1, none⟩ = some (.int .i64 ((rd_T91 l0 0).f1)) ∧ w8.cell? ad428 = some (.int .i64 ((rd_T91 l0 0).f0)) ∧ w8.cell? ⟨ad428.block, ad428.off + 1, none⟩ = some (.int .i64 ((rd_T91 l0 0).f1)) := hS_; refine norm_ (a' := ?_) ?_ ?_; rotate_left
 · simp only [putAll, Act.put, List.setIfInBounds_toArray, List.set_cons_zero, List.set_cons_succ]
   rfl
 refine one_ (i := 8) (N := none) (zb 10 511) rfl rfl (one_of HT_.out (by kernel_rfl)) (by decide) (fun K hK => ?_)
 have hs9 : w8.cell? ⟨gb430, 0, none⟩ = some (.int .i64 0) := zQ BK430 0; have hfs9 := blk_frozen BK430.out 0; have hns9_0 := NB426_430.out; have hns9_1 := NB427_430.out; have hns9_3 := NB431_430.out; have hms9_0 := NB430_426.out; have hms9_1 := NB430_427.out; have hms9_3 := NB430_431.out; have hs10 : w8.cell? ⟨gb430, 1, none⟩ = some (.int .i64 0) := zQ BK430 1; have hfs10 := blk_frozen BK430.out 1; have hns10_0 := NB426_430.out; have hns10_1 := NB427_430.out; have hns10_3 := NB431_430.out; have hms10_0 := NB430_426.out; have hms10_1 := NB430_427.out; have hms10_3 := NB430_431.out
 refine skip_ (w1 := ?_) (by rfl) rfl ?_ ?_
 rotate_left
 · go_simp
   rfl
 refine hK.out _ _ ⟨((cell_far (p := ⟨gb430, _, none⟩) (zF hw428_0 GW430) _).trans (((cell_far (p := ⟨gb430, _, none⟩) (zF hw428_0 GW430) _).trans (hHeld.1)))), ((cell_far (p := ⟨gb430, _, none⟩) (zF hw428_1 GW430) _).trans (((cell_far (p := ⟨gb430, _, none⟩) (zF hw428_1 GW430) _).trans (hHeld.2.1)))), ((cell_far (p := ⟨gb430, _, none⟩) (zF hw429_0 GW430) _).trans (((cell_far (p := ⟨gb430, _, none⟩) (zF hw429_0 GW430) _).trans (hHeld.2.2.1)))), ((cell_far (p := ⟨gb430, _, none⟩) (zF hw429_1 GW430) _).trans (((cell_far (p := ⟨gb430, _, none⟩) (zF hw429_1 GW430) _).trans (hHeld.2.2.2))))⟩ (fun hHeld => ?_)
 clear hK K
 refine one_ (i := 9) (N := none) (zb 10 1023) rfl rfl (one_of HT_.out (by kernel_rfl)) (by decide) (fun K hK => ?_)
 have hs11 : w8.cell? ⟨gb431, 0, none⟩ = some (.int .i64 0) := zQ BK431 0; have hfs11 := blk_frozen BK431.out 0; have hns11_0 := NB426_431.out; have hns11_1 := NB427_431.out; have hns11_2 := NB430_431.out; have hms11_0 := NB431_426.out; have hms11_1 := NB431_427.out; have hms11_2 := NB431_430.out; have hs12 : w8.cell? ⟨gb431, 1, none⟩ = some (.int .i64 0) := zQ BK431 1; have hfs12 := blk_frozen BK431.out 1; have hns12_0 := NB426_431.out; have hns12_1 := NB427_431.out; have hns12_2 := NB430_431.out; have hms12_0 := NB431_426.out; have hms12_1 := NB431_427.out; have hms12_2 := NB431_430.out
 refine skip_ (w1 := ?_) (by rfl) rfl ?_ ?_
 rotate_left
 · go_simp
   rfl
 refine hK.out _ _ ⟨((cell_far (p := ⟨gb431, _, none⟩) (zF hw428_0 GW431) _).trans (((cell_far (p := ⟨gb431, _, none⟩) (zF hw428_0 GW431) _).trans (hHeld.1)))), ((cell_far (p := ⟨gb431, _, none⟩) (zF hw428_1 GW431) _).trans (((cell_far (p := ⟨gb431, _, none⟩) (zF hw428_1 GW431) _).trans (hHeld.2.1)))), ((cell_far (p := ⟨gb431, _, none⟩) (zF hw429_0 GW431) _).trans (((cell_far (p := ⟨gb431, _, none⟩) (zF hw429_0 GW431) _).trans (hHeld.2.2.1)))), ((cell_far (p := ⟨gb431, _, none⟩) (zF hw429_1 GW431) _).trans (((cell_far (p := ⟨gb431, _, none⟩) (zF hw429_1 GW431) _).trans (hHeld.2.2.2))))⟩ (fun hHeld => ?_)
 clear hK K
 refine done_ (done_of HT_.out (by kernel_rfl)) ?_
 try go_wp2
 go_loopg [16] k (fun kq v16 w' => ∃ (x16_1 : Int) (x431000_1 : Int) (x431001_1 : Int) (x432000_1 : Int) (x432001_1 : Int), v16 = .int .i64 x16_1 ∧ Aside0 (impl_bounds.l0 kq l0 (l0.length : Int) x16_1 x431000_1 x431001_1 x432000_1 x432001_1 = some (r1, r2, r3, r4)) ∧ Aside0 (kq ≤ k) ∧ Aside0 (w'.heap[gb426]? = some (.cells #[.int .i64 0, .int .i64 0] 91 (0, 0))) ∧ Aside0 (w'.heap[gb427]? = some (.cells #[.int .i64 0, .int .i64 0] 91 (0, 0))) ∧ Aside0 (w'.heap[gb430]? = some (.cells #[.int .i64 x431000_1, .int .i64 x431001_1] 91 (0, 0))) ∧ Aside0 (w'.heap[gb431]? = some (.cells #[.int .i64 x432000_1, .int .i64 x432001_1] 91 (0, 0))) ∧ Aside0 (Below w.heap.size w w'))
 case atStart => exact ⟨(0), ((rd_T91 l0 0).f0), ((rd_T91 l0 0).f1), ((rd_T91 l0 0).f0), ((rd_T91 l0 0).f1), zR, H', ⟨Nat.le_refl _⟩, ⟨by refine zf ?_ NB426_431; refine zf ?_ NB426_431; refine zf ?_ NB426_430; refine zf ?_ NB426_430; exact pK BK426.out⟩, ⟨by refine zf ?_ NB427_431; refine zf ?_ NB427_431; refine zf ?_ NB427_430; refine zf ?_ NB427_430; exact pK BK427.out⟩, ⟨by refine zf ?_ NB430_431; refine zf ?_ NB430_431; refine zg #[.int .i64 ((rd_T91 l0 0).f0), .int .i64 0] 1 ?_; refine zg #[.int .i64 0, .int .i64 0] 0 ?_; exact pK BK430.out⟩, ⟨by refine zg #[.int .i64 ((rd_T91 l0 0).f0), .int .i64 0] 1 ?_; refine zg #[.int .i64 0, .int .i64 0] 0 ?_; refine zf ?_ NB431_430; refine zf ?_ NB431_430; exact pK BK431.out⟩, ⟨pB4 HB.out GE426.out GE427.out GE430.out GE431.out⟩⟩
 case round =>
  clear H'; (try clear c2); (try clear c2b0); (try clear c2b1); (try clear p2); (try clear p4); (try clear q4); (try clear hx4); (try clear qi4); (try clear c6); (try clear hx428_0); (try clear hx428_1); (try clear hx429_0); (try clear hx429_1); (try clear p428); (try clear p429); (try clear q428); (try clear q429); obtain ⟨x16_1, x431000_1, x431001_1, x432000_1, x432001_1, rfl, HA, HK1, BK426, BK427, BK430, BK431, HB⟩ := hrel
  cases gk with
  | zero => exact absurd HA.out (by simp [impl_bounds.l0])
  | succ k1 =>
    have H := HA.out; clear HA; simp only [impl_bounds.l0] at H
    by_cases c13 : x16_1 < (l0.length : Int)
    · rw [if_pos c13] at H
      have c13b0 := decide_eq_true c13; clear c13
      by_cases c14 : 0 ≤ x16_1
      rotate_left
      · rw [if_neg c14] at H
        exact absurd H (by simp)
      rw [if_pos c14] at H; have c14b0 := decide_eq_true c14; clear c14
      by_cases c15 : x16_1 < (l0.length : Int)
      rotate_left
      · rw [if_neg c15] at H
        exact absurd H (by simp)
      rw [if_pos c15] at H; have c15b0 := decide_eq_true c15; clear c15; obtain ⟨ji16, hji16⟩ : ∃ j_ : Int, (mn x431000_1 ((rd_T91 l0 x16_1).f0)) = j_ := ⟨_, rfl⟩
      replace H : (impl_bounds.l0 k1 l0 (l0.length : Int) (wrap64 (x16_1 + 1)) ji16 (mn x431001_1 ((rd_T91 l0 x16_1).f1)) (mx x432000_1 ((rd_T91 l0 x16_1).f0)) (mx x432001_1 ((rd_T91 l0 x16_1).f1))) = some (r1, r2, r3, r4) := by first | (rw [hji16] at H; exact H) | (simp only [hji16] at H ⊢; exact H)
      have hji16_ : (if ((rd_T91 l0 x16_1).f0) < x431000_1 then ((rd_T91 l0 x16_1).f0) else x431000_1) = ji16 := hji16; obtain ⟨ji17, hji17⟩ : ∃ j_ : Int, (mn x431001_1 ((rd_T91 l0 x16_1).f1)) = j_ := ⟨_, rfl⟩
      replace H : (impl_bounds.l0 k1 l0 (l0.length : Int) (wrap64 (x16_1 + 1)) ji16 ji17 (mx x432000_1 ((rd_T91 l0 x16_1).f0)) (mx x432001_1 ((rd_T91 l0 x16_1).f1))) = some (r1, r2, r3, r4) := by first | (rw [hji17] at H; exact H) | (simp only [hji17] at H ⊢; exact H)
      have hji17_ : (if ((rd_T91 l0 x16_1).f1) < x431001_1 then ((rd_T91 l0 x16_1).f1) else x431001_1) = ji17 := hji17; obtain ⟨ji18, hji18⟩ : ∃ j_ : Int, (mx x432000_1 ((rd_T91 l0 x16_1).f0)) = j_ := ⟨_, rfl⟩
      replace H : (impl_bounds.l0 k1 l0 (l0.length : Int) (wrap64 (x16_1 + 1)) ji16 ji17 ji18 (mx x432001_1 ((rd_T91 l0 x16_1).f1))) = some (r1, r2, r3, r4) := by first | (rw [hji18] at H; exact H) | (simp only [hji18] at H ⊢; exact H)
      have hji18_ : (if x432000_1 < ((rd_T91 l0 x16_1).f0) then ((rd_T91 l0 x16_1).f0) else x432000_1) = ji18 := hji18; obtain ⟨ji19, hji19⟩ : ∃ j_ : Int, (mx x432001_1 ((rd_T91 l0 x16_1).f1)) = j_ := ⟨_, rfl⟩
      replace H : (impl_bounds.l0 k1 l0 (l0.length : Int) (wrap64 (x16_1 + 1)) ji16 ji17 ji18 ji19) = some (r1, r2, r3, r4) := by first | (rw [hji19] at H; exact H) | (simp only [hji19] at H ⊢; exact H)
      have hji19_ : (if x432001_1 < ((rd_T91 l0 x16_1).f1) then ((rd_T91 l0 x16_1).f1) else x432001_1) = ji19 := hji19; have H' := Aside0.mk H; clear H; have p432 : 0 ≤ (x16_1 : Int) := zD; have q432 : x16_1 < (l0.length : Int) := zD; obtain ⟨ad432, e432, hx432_0, hx432_1⟩ := at_T91 HR0.out x16_1 p432 q432
      obtain rfl : ad428 = ad432 := (by injection e432)
      try replace hx432_0 := zH HB hx432_0
      try replace hx432_1 := zH HB hx432_1
      replace p432 := eq_true p432; replace q432 := eq_true q432
      go_wp2_with (first | ((with_reducible refine zI 7 rfl ?_); refine zB 7 #[.int .i64 0, .int .i64 0] 91 ?_; intro gb433 hg w20 hbox hb; have BK433 := Aside0.mk (hbox); have GW433 := zS (pB4 HB.out GE426.out GE427.out GE430.out GE431.out) hg; have GE433 := GW433; have NB426_433 := zL BK426 hg; have NB433_426 := zM BK426 hg; have NB427_433 := zL BK427 hg; have NB433_427 := zM BK427 hg; have NB430_433 := zL BK430 hg; have NB433_430 := zM BK430 hg; have NB431_433 := zL BK431 hg; have NB433_431 := zM BK431 hg; replace BK426 := zK BK426 hb; replace BK427 := zK BK427 hb; replace BK430 := zK BK430 hb; replace BK431 := zK BK431 hb; replace HB := zW (pB4 HB.out GE426.out GE427.out GE430.out GE431.out) hb; clear hb hbox hg; have hnb21 := NB433_426.out; have hnc21 := NB426_433.out; have hnb22 := NB433_427.out; have hnc22 := NB427_433.out; have hnb23 := NB433_430.out; have hnc23 := NB430_433.out; have hnb24 := NB433_431.out; have hnc24 := NB431_433.out; obtain ⟨Y25_0, X25_0, Y25_1, X25_1⟩ := zw2 BK433; have hnb26 := NB430_426.out; have hnc26 := NB426_430.out; have hnb27 := NB430_427.out; have hnc27 := NB427_430.out; have hnb28 := NB430_431.out; have hnc28 := NB431_430.out; obtain ⟨Y29_0, X29_0, Y29_1, X29_1⟩ := zw2 BK430; have hnb30 := NB431_426.out; have hnc30 := NB426_431.out; have hnb31 := NB431_427.out; have hnc31 := NB427_431.out; obtain ⟨Y32_0, X32_0, Y32_1, X32_1⟩ := zw2 BK431))
      go_roundg k1
      case measure => have := HK1.out; omega
      case rel => exact ⟨(wrap64 (x16_1 + 1)), (ji16), (ji17), (ji18), (ji19), zR, H', ⟨by have := HK1.out; omega⟩, ⟨by refine zf ?_ NB426_431; refine zf ?_ NB426_431; refine zf ?_ NB426_430; refine zf ?_ NB426_430; refine zf ?_ NB426_433; refine zf ?_ NB426_433; exact pK BK426.out⟩, ⟨by refine zf ?_ NB427_431; refine zf ?_ NB427_431; refine zf ?_ NB427_430; refine zf ?_ NB427_430; refine zf ?_ NB427_433; refine zf ?_ NB427_433; exact pK BK427.out⟩, ⟨by refine zf ?_ NB430_431; refine zf ?_ NB430_431; refine zg #[.int .i64 ji16, .int .i64 x431001_1] 1 ?_; refine zg #[.int .i64 x431000_1, .int .i64 x431001_1] 0 ?_; refine zf ?_ NB430_433; refine zf ?_ NB430_433; exact pK BK430.out⟩, ⟨by refine zg #[.int .i64 ji18, .int .i64 x432001_1] 1 ?_; refine zg #[.int .i64 x432000_1, .int .i64 x432001_1] 0 ?_; refine zf ?_ NB431_430; refine zf ?_ NB431_430; refine zf ?_ NB431_433; refine zf ?_ NB431_433; exact pK BK431.out⟩, ⟨pB5 HB.out GE426.out GE427.out GE430.out GE431.out GE433.out⟩⟩
    rw [if_neg c13] at H; have c13b0 := decide_eq_false c13; clear c13; simp only [Option.some.injEq, Prod.mk.injEq] at H; obtain ⟨rfl, rfl, rfl, rfl⟩ := H
    try go_wp2
    replace BK426 := Aside0.mk (blk_drew BK426.out); replace BK427 := Aside0.mk (blk_drew BK427.out); replace BK430 := Aside0.mk (blk_drew BK430.out); replace BK431 := Aside0.mk (blk_drew BK431.out); replace HB := Aside0.mk (below_drew1 HB.out)
    refine start_ (n := 4) (S := fun w' => w'.cell? ⟨gb430, 0, none⟩ = some (.int .i64 x431000_1) ∧ w'.cell? ⟨gb430, 1, none⟩ = some (.int .i64 x431001_1) ∧ w'.cell? ⟨gb431, 0, none⟩ = some (.int .i64 x432000_1) ∧ w'.cell? ⟨gb431, 1, none⟩ = some (.int .i64 x432001_1)) (ds := []) (Array.replicate 4 false) (by kernel_rfl) rfl rfl ⟨zQ BK430 0, zQ BK430 1, zQ BK431 0, zQ BK431 1⟩ (fun hHeld => ?_)
    generalize wr.drew = w33 at BK426 BK427 BK430 BK431 HB hHeld ⊢
    refine take_ (i := 0) (N := some 43) (v := ?_) (a' := ?_) #[true, false, false, false] rfl rfl (by kernel_rfl) (fun _ _ _ h => h) (Or.inl ⟨by rfl, ?_⟩) hHeld ?_ ?_
    rotate_left
    · rintro w' ⟨s0, s1, s2, s3⟩
      go_simp; with_reducible rfl
    rotate_left
    · simp only [Act.put, List.setIfInBounds_toArray, List.set_cons_zero, List.set_cons_succ, i64_w, i32_w]
      rfl
    refine take_ (i := 1) (N := some 44) (v := ?_) (a' := ?_) #[true, true, false, false] rfl rfl (by kernel_rfl) (fun _ _ _ h => h) (Or.inl ⟨by rfl, ?_⟩) hHeld ?_ ?_
    rotate_left
    · rintro w' ⟨s0, s1, s2, s3⟩
      go_simp; with_reducible rfl
    rotate_left
    · simp only [Act.put, List.setIfInBounds_toArray, List.set_cons_zero, List.set_cons_succ, i64_w, i32_w]
      rfl
    refine one_ (i := 2) (N := none) (zb 4 7) rfl rfl (by kernel_rfl) (by decide) (fun K hK => ?_)
    have hs34 : w33.cell? ⟨gb426, 0, none⟩ = some (.int .i64 0) := zQ BK426 0; have hfs34 := blk_frozen BK426.out 0; have hns34_1 := NB427_426.out; have hns34_2 := NB430_426.out; have hns34_3 := NB431_426.out; have hms34_1 := NB426_427.out; have hms34_2 := NB426_430.out; have hms34_3 := NB426_431.out; have hs35 : w33.cell? ⟨gb426, 1, none⟩ = some (.int .i64 0) := zQ BK426 1; have hfs35 := blk_frozen BK426.out 1; have hns35_1 := NB427_426.out; have hns35_2 := NB430_426.out; have hns35_3 := NB431_426.out; have hms35_1 := NB426_427.out; have hms35_2 := NB426_430.out; have hms35_3 := NB426_431.out
    refine skip_ (w1 := ?_) (by rfl) rfl ?_ ?_
    rotate_left
    · go_simp
      rfl
    refine hK.out _ _ ⟨((cell_far (p := ⟨gb426, _, none⟩) NB430_426.out _).trans (((cell_far (p := ⟨gb426, _, none⟩) NB430_426.out _).trans (hHeld.1)))), ((cell_far (p := ⟨gb426, _, none⟩) NB430_426.out _).trans (((cell_far (p := ⟨gb426, _, none⟩) NB430_426.out _).trans (hHeld.2.1)))), ((cell_far (p := ⟨gb426, _, none⟩) NB431_426.out _).trans (((cell_far (p := ⟨gb426, _, none⟩) NB431_426.out _).trans (hHeld.2.2.1)))), ((cell_far (p := ⟨gb426, _, none⟩) NB431_426.out _).trans (((cell_far (p := ⟨gb426, _, none⟩) NB431_426.out _).trans (hHeld.2.2.2))))⟩ (fun hHeld => ?_)
    clear hK K
    refine one_ (i := 3) (N := none) (zb 4 15) rfl rfl (by kernel_rfl) (by decide) (fun K hK => ?_)
    have hs36 : w33.cell? ⟨gb427, 0, none⟩ = some (.int .i64 0) := zQ BK427 0; have hfs36 := blk_frozen BK427.out 0; have hns36_0 := NB426_427.out; have hns36_2 := NB430_427.out; have hns36_3 := NB431_427.out; have hms36_0 := NB427_426.out; have hms36_2 := NB427_430.out; have hms36_3 := NB427_431.out; have hs37 : w33.cell? ⟨gb427, 1, none⟩ = some (.int .i64 0) := zQ BK427 1; have hfs37 := blk_frozen BK427.out 1; have hns37_0 := NB426_427.out; have hns37_2 := NB430_427.out; have hns37_3 := NB431_427.out; have hms37_0 := NB427_426.out; have hms37_2 := NB427_430.out; have hms37_3 := NB427_431.out
    refine skip_ (w1 := ?_) (by rfl) rfl ?_ ?_
    rotate_left
    · go_simp
      rfl
    refine hK.out _ _ ⟨((cell_far (p := ⟨gb427, _, none⟩) NB430_427.out _).trans (((cell_far (p := ⟨gb427, _, none⟩) NB430_427.out _).trans (hHeld.1)))), ((cell_far (p := ⟨gb427, _, none⟩) NB430_427.out _).trans (((cell_far (p := ⟨gb427, _, none⟩) NB430_427.out _).trans (hHeld.2.1)))), ((cell_far (p := ⟨gb427, _, none⟩) NB431_427.out _).trans (((cell_far (p := ⟨gb427, _, none⟩) NB431_427.out _).trans (hHeld.2.2.1)))), ((cell_far (p := ⟨gb427, _, none⟩) NB431_427.out _).trans (((cell_far (p := ⟨gb427, _, none⟩) NB431_427.out _).trans (hHeld.2.2.2))))⟩ (fun hHeld => ?_)
    clear hK K
    refine done_ (by kernel_rfl) ?_
    try go_wp2
    refine bodyPost_ret (results_cc rfl _ _ gb426 gb427 91 91 #[.int .i64 x431000_1, .int .i64 x431001_1] #[.int .i64 x432000_1, .int .i64 x432001_1] (0, 0) (0, 0) _ _ rfl (by refine zf ?_ NB426_427; refine zf ?_ NB426_427; refine zg #[.int .i64 x431000_1, .int .i64 0] 1 ?_; refine zg #[.int .i64 0, .int .i64 0] 0 ?_; exact pK BK426.out) Try.underlying91 rfl (by kernel_rfl) rfl (by refine zg #[.int .i64 x432000_1, .int .i64 0] 1 ?_; refine zg #[.int .i64 0, .int .i64 0] 0 ?_; refine zf ?_ NB427_426; refine zf ?_ NB427_426; exact pK BK427.out) Try.underlying91 rfl (by kernel_rfl)) rfl ?_
    exact ⟨zE, pB4 HB.out GE426.out GE427.out GE430.out GE431.out⟩
end Go.Proofs.Ytfiiakhpdkdebaa.PFnExactOffcutsOf

/- What each function that a law reaches comes to, and the proof that its walk comes to it; laid by a program of this session. No condition. -/
import Derived.Test.YtfiiakhpdkdebaaZFnExactFitsLeaf0
import Derived.Test.YtfiiakhpdkdebaaZFnExactFitsLeaf2
namespace Go.Proofs.Ytfiiakhpdkdebaa.PFnExactFitsLeaf
open Go.RowKit Go.Proofs.YtfiiakhpdkdebaaW.PrintWords Go.Proofs.YtfiiakhpdkdebaaW.PrintLast Go.Proofs.YtfiiakhpdkdebaaW.PrintMore
attribute [local go_sem] max2_int min2_int max_two min_two max_three min_three max_four min_four
set_option linter.unusedVariables false
set_option linter.unusedSimpArgs false
def spec_l03Bounds.l0 : Nat → List (S91) → Int → Int → Int → Int → Int → Option (Int × Int × Int × Int)
 | 0, _, _, _, _, _, _ => none
 | k + 1, x0, x6, x237000, x237001, x239000, x239001 => if x6 < (x0.length : Int) then (if 0 ≤ x6 then ((spec_l00Min.f x237000 ((rd_T91 x0 x6).f0)).bind fun t240 => ((spec_l00Min.f x237001 ((rd_T91 x0 x6).f1)).bind fun t242 => ((spec_l00Max.f x239000 ((rd_T91 x0 x6).f0)).bind fun t244 => ((spec_l00Max.f x239001 ((rd_T91 x0 x6).f1)).bind fun t246 => (spec_l03Bounds.l0 k x0 (wrap64 (x6 + 1)) t240 t242 t244 t246))))) else (none)) else (some (x237000, x237001, x239000, x239001))
def spec_l03Bounds.f (k : Nat) (l0 : List (S91)) : Option (Int × Int × Int × Int) := if 0 < (l0.length : Int) then (spec_l03Bounds.l0 k l0 1 ((rd_T91 l0 0).f0) ((rd_T91 l0 0).f1) ((rd_T91 l0 0).f0) ((rd_T91 l0 0).f1)) else (none)
theorem spec_l03Bounds.mono_l : ∀ k, (∀ y0 y1 y2 y3 y4 y5, LeO (spec_l03Bounds.l0 k y0 y1 y2 y3 y4 y5) (spec_l03Bounds.l0 (k + 1) y0 y1 y2 y3 y4 y5))
 | 0 => fun _ _ _ _ _ _ r h => by simp [spec_l03Bounds.l0] at h
 | k + 1 => by
   have ih0 := spec_l03Bounds.mono_l k
   · intro y0 y1 y2 y3 y4 y5
     unfold spec_l03Bounds.l0
     repeat' first
     | (with_reducible exact ih0 _ _ _ _ _ _)
     | (with_reducible exact LeO.refl _)
     | (with_reducible exact LeO.none _)
     | (with_reducible refine LeO.ite ?_ ?_)
     | (with_reducible refine LeO.bind ?_ (fun _ => ?_))
     | exact ih0 _ _ _ _ _ _
     | exact LeO.none _
     | refine LeO.ite ?_ ?_
     | refine LeO.bind ?_ (fun _ => ?_)
theorem spec_l03Bounds.mono : ∀ a0 k, LeO (spec_l03Bounds.f k a0) (spec_l03Bounds.f (k + 1) a0) := by
 intro a0 k
 have ih0 := spec_l03Bounds.mono_l k
 unfold spec_l03Bounds.f
 repeat' first
  | (with_reducible exact ih0 _ _ _ _ _ _)
  | (with_reducible exact LeO.refl _)
  | (with_reducible exact LeO.none _)
  | (with_reducible refine LeO.ite ?_ ?_)
  | (with_reducible refine LeO.bind ?_ (fun _ => ?_))
  | exact ih0 _ _ _ _ _ _
  | exact LeO.none _
  | refine LeO.ite ?_ ?_
  | refine LeO.bind ?_ (fun _ => ?_)
def spec_l03Bounds.T6 : Bool × List (List Nat × List Nat) := (true, [([], []), ([0], [0]), ([], []), ([], []), ([2, 3], [2, 3]), ([4], [4]), ([5], [5]), ([1, 6], [1, 6]), ([0, 1, 2, 3, 4, 5, 6, 7], []), ([8, 7, 7, 0, 1, 2, 3, 4, 5, 6, 7], [7, 8])])
def spec_l03Bounds.B6 : List Nat := [0, 1, 0, 0, 12, 28, 60, 127, 255, 511]
theorem spec_l03Bounds.tab6 : rtab .any (opsOf Try.f60 6) = spec_l03Bounds.T6 := by kernel_rfl
theorem spec_l03Bounds.bits6 : waitsOk spec_l03Bounds.T6.2 spec_l03Bounds.B6 = true := by kernel_rfl
def spec_l03Bounds.T7 : Bool × List (List Nat × List Nat) := (true, [([], []), ([0], [0]), ([], []), ([], []), ([2, 3], [2, 3]), ([4], [4]), ([5], [5]), ([1, 6], [1, 6]), ([0, 1, 2, 3, 4, 5, 6, 7], []), ([8, 7, 7, 0, 1, 2, 3, 4, 5, 6, 7], [7, 8])])
def spec_l03Bounds.B7 : List Nat := [0, 1, 0, 0, 12, 28, 60, 127, 255, 511]
theorem spec_l03Bounds.tab7 : rtab .any (opsOf Try.f60 7) = spec_l03Bounds.T7 := by kernel_rfl
theorem spec_l03Bounds.bits7 : waitsOk spec_l03Bounds.T7.2 spec_l03Bounds.B7 = true := by kernel_rfl
def spec_l03Bounds.T8 : Bool × List (List Nat × List Nat) := (true, [([], []), ([0], [0]), ([], []), ([], []), ([2, 3], [2, 3]), ([4], [4]), ([5], [5]), ([1, 6], [1, 6]), ([0, 1, 2, 3, 4, 5, 6, 7], []), ([8, 7, 7, 0, 1, 2, 3, 4, 5, 6, 7], [7, 8])])
def spec_l03Bounds.B8 : List Nat := [0, 1, 0, 0, 12, 28, 60, 127, 255, 511]
theorem spec_l03Bounds.tab8 : rtab .any (opsOf Try.f60 8) = spec_l03Bounds.T8 := by kernel_rfl
theorem spec_l03Bounds.bits8 : waitsOk spec_l03Bounds.T8.2 spec_l03Bounds.B8 = true := by kernel_rfl
def spec_l03Bounds.T9 : Bool × List (List Nat × List Nat) := (true, [([], []), ([0], [0]), ([], []), ([], []), ([2, 3], [2, 3]), ([4], [4]), ([5], [5]), ([1, 6], [1, 6]), ([0, 1, 2, 3, 4, 5, 6, 7], []), ([8, 7, 7, 0, 1, 2, 3, 4, 5, 6, 7], [7, 8])])
def spec_l03Bounds.B9 : List Nat := [0, 1, 0, 0, 12, 28, 60, 127, 255, 511]
theorem spec_l03Bounds.tab9 : rtab .any (opsOf Try.f60 9) = spec_l03Bounds.T9 := by kernel_rfl
theorem spec_l03Bounds.bits9 : waitsOk spec_l03Bounds.T9.2 spec_l03Bounds.B9 = true := by kernel_rfl
set_option maxHeartbeats 8000000 in
set_option maxRecDepth 100000 in
theorem spec_l03Bounds.calls (k : Nat) (A0 : Option Addr) (c0 : Nat) (l0 : List (S91)) (r1 : Int) (r2 : Int) (r3 : Int) (r4 : Int) (w : World) (hr0 : Kd.C k91 w A0 l0.length l0) (hc0 : l0.length ≤ c0) (h : spec_l03Bounds.f k l0 = some (r1, r2, r3, r4)) :
 Calls Try.prog 60 #[.slice A0 l0.length c0] w fun e w' => e = .returned (.tuple #[.agg #[.int .i64 r1, .int .i64 r2], .agg #[.int .i64 r3, .int .i64 r4]]) ∧ Below w.heap.size w w' := by
 have hu91 := Try.underlying91
 have HR0 := Aside0.mk hr0
 have HC0 := Aside0.mk hc0
 clear hr0 hc0
 have HB := Aside0.mk (Below.refl w.heap.size w)
 have H : (if 0 < (l0.length : Int) then (spec_l03Bounds.l0 k l0 1 ((rd_T91 l0 0).f0) ((rd_T91 l0 0).f1) ((rd_T91 l0 0).f0) ((rd_T91 l0 0).f1)) else (none)) = some (r1, r2, r3, r4) := h
 clear h
 by_cases c2 : 0 < (l0.length : Int)
 rotate_left
 · rw [if_neg c2] at H
   exact absurd H (by simp)
 rw [if_pos c2] at H
 have c2b0 := decide_eq_true c2
 have c2b1 : decide (0 < l0.length) = true := decide_eq_true (by omega)
 clear c2
 have H' := Aside0.mk H
 clear H
 go_enter Try.func60, Try.ntmps60
 go_wp2_with (first | ((with_reducible refine gate_dst (N := 2) rfl ?_); refine zB 2 #[.int .i64 0, .int .i64 0] 91 ?_; intro gb233 hg w3 hbox hb; have BK233 := Aside0.mk (hbox); have GW233 := zS (pB0 HB.out) hg; have GE233 := zS (pB0 HB.out) hg; replace HB := zW (pB0 HB.out) hb; clear hb hbox hg) | ((with_reducible refine gate_dst (N := 3) rfl ?_); refine zB 3 #[.int .i64 0, .int .i64 0] 91 ?_; intro gb234 hg w4 hbox hb; have BK234 := Aside0.mk (hbox); have GW234 := zS (pB1 HB.out GE233.out) hg; have GE234 := zS (pB1 HB.out GE233.out) hg; have NB233_234 := zL BK233 hg; have NB234_233 := zM BK233 hg; replace BK233 := zK BK233 hb; replace HB := zW (pB1 HB.out GE233.out) hb; clear hb hbox hg; have p235 : 0 ≤ (0 : Int) := (by omega); have q235 : 0 < (l0.length : Int) := zD; obtain ⟨ad235, e235, hx235_0, hx235_1⟩ := at_T91 HR0.out 0 p235 q235; cases e235; have qi235 : (0 < l0.length) = True := eq_true (by omega); (try rw [z0] at hx235_0); (try rw [Nat.zero_mul] at hx235_0); (try rw [Addr.add_zero'] at hx235_0); (try rw [z0] at hx235_1); (try rw [Nat.zero_mul] at hx235_1); (try rw [Addr.add_zero'] at hx235_1); try replace hx235_0 := zH HB hx235_0; try replace hx235_1 := zH HB hx235_1; replace p235 := eq_true p235; replace q235 := eq_true q235) | ((with_reducible refine gate_dst (N := 4) rfl ?_); refine zB 4 #[.int .i64 0, .int .i64 0] 91 ?_; intro gb236 hg w5 hbox hb; have BK236 := Aside0.mk (hbox); have GW236 := zS (pB2 HB.out GE233.out GE234.out) hg; have GE236 := zS (pB2 HB.out GE233.out GE234.out) hg; have NB233_236 := zL BK233 hg; have NB236_233 := zM BK233 hg; have NB234_236 := zL BK234 hg; have NB236_234 := zM BK234 hg; replace BK233 := zK BK233 hb; replace BK234 := zK BK234 hb; replace HB := zW (pB2 HB.out GE233.out GE234.out) hb; clear hb hbox hg; have hnb6 := NB236_233.out; have hnc6 := NB233_236.out; have hnb7 := NB236_234.out; have hnc7 := NB234_236.out; obtain ⟨hcz8_0, hfz8_0, hcz8_1, hfz8_1⟩ := zw2 BK236; have p237 : 0 ≤ (0 : Int) := (by omega); have q237 : 0 < (l0.length : Int) := zD; obtain ⟨ad237, e237, hx237_0, hx237_1⟩ := at_T91 HR0.out 0 p237 q237; obtain rfl : ad235 = ad237 := (by injection e237); have qi237 : (0 < l0.length) = True := eq_true (by omega); (try rw [z0] at hx237_0); (try rw [Nat.zero_mul] at hx237_0); (try rw [Addr.add_zero'] at hx237_0); (try rw [z0] at hx237_1); (try rw [Nat.zero_mul] at hx237_1); (try rw [Addr.add_zero'] at hx237_1); have hn237_0 : ad235.block ≠ gb236 := Nat.ne_of_lt (Nat.lt_of_lt_of_le (by have := World.block_lt_of_cell? _ _ hx237_0; first | rwa [add_block] at this | exact this) GW236.out); have hn237_1 : ad235.block ≠ gb236 := Nat.ne_of_lt (Nat.lt_of_lt_of_le (by have := World.block_lt_of_cell? _ _ hx237_0; first | rwa [add_block] at this | exact this) GW236.out); try replace hx237_0 := zH HB hx237_0; try replace hx237_1 := zH HB hx237_1; replace hx237_0 := (cell_far (p := ⟨gb236, 0, none⟩) (by first | (rw [add_block]; exact hn237_0) | (show (Addr.add _ _).block ≠ _; rw [add_block]; exact hn237_0) | exact hn237_0) (.int .i64 ((rd_T91 l0 0).f0))).trans hx237_0; replace hx237_1 := (cell_far (p := ⟨gb236, 0, none⟩) (by first | (rw [add_block]; exact hn237_0) | (show (Addr.add _ _).block ≠ _; rw [add_block]; exact hn237_0) | exact hn237_0) (.int .i64 ((rd_T91 l0 0).f0))).trans hx237_1; replace hx237_0 := (cell_far (p := ⟨gb236, 1, none⟩) (by first | (rw [add_block]; exact hn237_1) | (show (Addr.add _ _).block ≠ _; rw [add_block]; exact hn237_1) | exact hn237_1) (.int .i64 ((rd_T91 l0 0).f1))).trans hx237_0; replace hx237_1 := (cell_far (p := ⟨gb236, 1, none⟩) (by first | (rw [add_block]; exact hn237_1) | (show (Addr.add _ _).block ≠ _; rw [add_block]; exact hn237_1) | exact hn237_1) (.int .i64 ((rd_T91 l0 0).f1))).trans hx237_1; clear hn237_0; clear hn237_1; replace p237 := eq_true p237; replace q237 := eq_true q237) | ((with_reducible refine gate_dst (N := 5) rfl ?_); refine zB 5 #[.int .i64 0, .int .i64 0] 91 ?_; intro gb238 hg w9 hbox hb; have BK238 := Aside0.mk (hbox); have GW238 := zS (pB3 HB.out GE233.out GE234.out GE236.out) hg; have GE238 := zS (pB3 HB.out GE233.out GE234.out GE236.out) hg; have NB233_238 := Aside0.mk ((by rw [hg]; exact Nat.ne_of_lt (blk_lt (g := gb233) (o := .cells #[.int .i64 0, .int .i64 0] 91 (0, 0)) (by refine zf ?_ NB233_236; refine zf ?_ NB233_236; exact pK BK233.out)) : gb233 ≠ gb238)); have NB238_233 := Aside0.mk ((by rw [hg]; exact Nat.ne_of_gt (blk_lt (g := gb233) (o := .cells #[.int .i64 0, .int .i64 0] 91 (0, 0)) (by refine zf ?_ NB233_236; refine zf ?_ NB233_236; exact pK BK233.out)) : gb238 ≠ gb233)); have NB234_238 := Aside0.mk ((by rw [hg]; exact Nat.ne_of_lt (blk_lt (g := gb234) (o := .cells #[.int .i64 0, .int .i64 0] 91 (0, 0)) (by refine zf ?_ NB234_236; refine zf ?_ NB234_236; exact pK BK234.out)) : gb234 ≠ gb238)); have NB238_234 := Aside0.mk ((by rw [hg]; exact Nat.ne_of_gt (blk_lt (g := gb234) (o := .cells #[.int .i64 0, .int .i64 0] 91 (0, 0)) (by refine zf ?_ NB234_236; refine zf ?_ NB234_236; exact pK BK234.out)) : gb238 ≠ gb234)); have NB236_238 := Aside0.mk ((by rw [hg]; exact Nat.ne_of_lt (blk_lt (g := gb236) (o := .cells #[.int .i64 ((rd_T91 l0 0).f0), .int .i64 ((rd_T91 l0 0).f1)] 91 (0, 0)) (by refine zg #[.int .i64 ((rd_T91 l0 0).f0), .int .i64 0] 1 ?_; refine zg #[.int .i64 0, .int .i64 0] 0 ?_; exact pK BK236.out)) : gb236 ≠ gb238)); have NB238_236 := Aside0.mk ((by rw [hg]; exact Nat.ne_of_gt (blk_lt (g := gb236) (o := .cells #[.int .i64 ((rd_T91 l0 0).f0), .int .i64 ((rd_T91 l0 0).f1)] 91 (0, 0)) (by refine zg #[.int .i64 ((rd_T91 l0 0).f0), .int .i64 0] 1 ?_; refine zg #[.int .i64 0, .int .i64 0] 0 ?_; exact pK BK236.out)) : gb238 ≠ gb236)); replace BK233 := Aside0.mk (blk_below (g := gb233) (o := .cells #[.int .i64 0, .int .i64 0] 91 (0, 0)) (by refine zf ?_ NB233_236; refine zf ?_ NB233_236; exact pK BK233.out) hb); replace BK234 := Aside0.mk (blk_below (g := gb234) (o := .cells #[.int .i64 0, .int .i64 0] 91 (0, 0)) (by refine zf ?_ NB234_236; refine zf ?_ NB234_236; exact pK BK234.out) hb); replace BK236 := Aside0.mk (blk_below (g := gb236) (o := .cells #[.int .i64 ((rd_T91 l0 0).f0), .int .i64 ((rd_T91 l0 0).f1)] 91 (0, 0)) (by refine zg #[.int .i64 ((rd_T91 l0 0).f0), .int .i64 0] 1 ?_; refine zg #[.int .i64 0, .int .i64 0] 0 ?_; exact pK BK236.out) hb); replace HB := zW (pB3 HB.out GE233.out GE234.out GE236.out) hb; clear hb hbox hg; have hnb10 := NB238_233.out; have hnc10 := NB233_238.out; have hnb11 := NB238_234.out; have hnc11 := NB234_238.out; have hnb12 := NB238_236.out; have hnc12 := NB236_238.out; obtain ⟨hcz13_0, hfz13_0, hcz13_1, hfz13_1⟩ := zw2 BK238))
 go_loopg [6] k (fun kq v6 w' => ∃ (x6_1 : Int) (x237000_1 : Int) (x237001_1 : Int) (x239000_1 : Int) (x239001_1 : Int), v6 = .int .i64 x6_1 ∧ Aside0 (spec_l03Bounds.l0 kq l0 x6_1 x237000_1 x237001_1 x239000_1 x239001_1 = some (r1, r2, r3, r4)) ∧ Aside0 (kq ≤ k) ∧ Aside0 (w'.heap[gb233]? = some (.cells #[.int .i64 0, .int .i64 0] 91 (0, 0))) ∧ Aside0 (w'.heap[gb234]? = some (.cells #[.int .i64 0, .int .i64 0] 91 (0, 0))) ∧ Aside0 (w'.heap[gb236]? = some (.cells #[.int .i64 x237000_1, .int .i64 x237001_1] 91 (0, 0))) ∧ Aside0 (w'.heap[gb238]? = some (.cells #[.int .i64 x239000_1, .int .i64 x239001_1] 91 (0, 0))) ∧ Aside0 (Below w.heap.size w w'))
 case atStart => exact ⟨(1), ((rd_T91 l0 0).f0), ((rd_T91 l0 0).f1), ((rd_T91 l0 0).f0), ((rd_T91 l0 0).f1), zR, H', ⟨Nat.le_refl _⟩, ⟨by refine zf ?_ NB233_238; refine zf ?_ NB233_238; exact pK BK233.out⟩, ⟨by refine zf ?_ NB234_238; refine zf ?_ NB234_238; exact pK BK234.out⟩, ⟨by refine zf ?_ NB236_238; refine zf ?_ NB236_238; exact pK BK236.out⟩, ⟨by refine zg #[.int .i64 ((rd_T91 l0 0).f0), .int .i64 0] 1 ?_; refine zg #[.int .i64 0, .int .i64 0] 0 ?_; exact pK BK238.out⟩, ⟨pB4 HB.out GE233.out GE234.out GE236.out GE238.out⟩⟩
 case round =>
  clear H'
  try clear c1
  try clear c2
  try clear c2b0
  try clear c2b1
  try clear p2
  try clear q2
  try clear hx2
  try clear qi2
  try clear c6
  try clear c7
  try clear c10
  try clear c11
  try clear c12
  try clear hcz13_0
  try clear hcz13_1
  try clear hcz8_0
  try clear hcz8_1
  try clear hfz13_0
  try clear hfz13_1
  try clear hfz8_0
  try clear hfz8_1
  try clear hx235_0
  try clear hx235_1
  try clear hx237_0
  try clear hx237_1
  try clear p235
  try clear p237
  try clear q235
  try clear q237
  obtain ⟨x6_1, x237000_1, x237001_1, x239000_1, x239001_1, rfl, HA, HK1, BK233, BK234, BK236, BK238, HB⟩ := hrel
  cases gk with
  | zero => exact absurd HA.out (by simp [spec_l03Bounds.l0])
  | succ k1 =>
    have H := HA.out
    clear HA
    simp only [spec_l03Bounds.l0] at H
    by_cases c14 : x6_1 < (l0.length : Int)
    rotate_left
    · rw [if_neg c14] at H
      have c14b0 : decide (x6_1 < (l0.length : Int)) = false := decide_eq_false c14
      clear c14
      simp only [Option.some.injEq, Prod.mk.injEq] at H
      obtain ⟨rfl, rfl, rfl, rfl⟩ := H
      try go_wp2
      replace BK233 := Aside0.mk (blk_drew BK233.out)
      replace BK234 := Aside0.mk (blk_drew BK234.out)
      replace BK236 := Aside0.mk (blk_drew BK236.out)
      replace BK238 := Aside0.mk (blk_drew BK238.out)
      replace HB := Aside0.mk (below_drew1 HB.out)
      refine start_ (n := 4) (S := fun w' => w'.cell? ⟨gb236, 0, none⟩ = some (.int .i64 x237000_1) ∧ w'.cell? ⟨gb236, 1, none⟩ = some (.int .i64 x237001_1) ∧ w'.cell? ⟨gb238, 0, none⟩ = some (.int .i64 x239000_1) ∧ w'.cell? ⟨gb238, 1, none⟩ = some (.int .i64 x239001_1)) (ds := []) (Array.replicate 4 false) (by kernel_rfl) rfl rfl ⟨zQ BK236 0, zQ BK236 1, zQ BK238 0, zQ BK238 1⟩ (fun hHeld => ?_)
      generalize wr.drew = w31 at BK233 BK234 BK236 BK238 HB hHeld ⊢
      refine take_ (i := 0) (N := some 55) (v := ?_) (a' := ?_) #[true, false, false, false] rfl rfl (by kernel_rfl) (fun _ _ _ h => h) (Or.inl ⟨by rfl, ?_⟩) hHeld ?_ ?_
      rotate_left
      · rintro w' ⟨s0, s1, s2, s3⟩
        go_simp
        with_reducible rfl
      rotate_left
      · simp only [Act.put, List.setIfInBounds_toArray, List.set_cons_zero, List.set_cons_succ, i64_w, i32_w]
        rfl
      refine take_ (i := 1) (N := some 56) (v := ?_) (a' := ?_) #[true, true, false, false] rfl rfl (by kernel_rfl) (fun _ _ _ h => h) (Or.inl ⟨by rfl, ?_⟩) hHeld ?_ ?_
      rotate_left
      · rintro w' ⟨s0, s1, s2, s3⟩
        go_simp
        with_reducible rfl
      rotate_left
      · simp only [Act.put, List.setIfInBounds_toArray, List.set_cons_zero, List.set_cons_succ, i64_w, i32_w]
        rfl
      refine one_ (i := 2) (N := none) (zb 4 7) rfl rfl (by kernel_rfl) (by decide) (fun K hK => ?_)
      have hs32 : w31.cell? ⟨gb233, 0, none⟩ = some (.int .i64 0) := zQ BK233 0
      have hfs32 := blk_frozen BK233.out 0
      have hns32_1 := NB234_233.out
      have hns32_2 := NB236_233.out
      have hns32_3 := NB238_233.out
      have hms32_1 := NB233_234.out
      have hms32_2 := NB233_236.out
      have hms32_3 := NB233_238.out
      have hs33 : w31.cell? ⟨gb233, 1, none⟩ = some (.int .i64 0) := zQ BK233 1
      have hfs33 := blk_frozen BK233.out 1
      have hns33_1 := NB234_233.out
      have hns33_2 := NB236_233.out
      have hns33_3 := NB238_233.out
      have hms33_1 := NB233_234.out
      have hms33_2 := NB233_236.out
      have hms33_3 := NB233_238.out
      refine skip_ (w1 := ?_) (by rfl) rfl ?_ ?_
      rotate_left
      · go_simp
        rfl
      refine hK.out _ _ ⟨((cell_far (p := ⟨gb233, _, none⟩) NB236_233.out _).trans (((cell_far (p := ⟨gb233, _, none⟩) NB236_233.out _).trans (hHeld.1)))), ((cell_far (p := ⟨gb233, _, none⟩) NB236_233.out _).trans (((cell_far (p := ⟨gb233, _, none⟩) NB236_233.out _).trans (hHeld.2.1)))), ((cell_far (p := ⟨gb233, _, none⟩) NB238_233.out _).trans (((cell_far (p := ⟨gb233, _, none⟩) NB238_233.out _).trans (hHeld.2.2.1)))), ((cell_far (p := ⟨gb233, _, none⟩) NB238_233.out _).trans (((cell_far (p := ⟨gb233, _, none⟩) NB238_233.out _).trans (hHeld.2.2.2))))⟩ (fun hHeld => ?_)
      clear hK K
      refine one_ (i := 3) (N := none) (zb 4 15) rfl rfl (by kernel_rfl) (by decide) (fun K hK => ?_)
      have hs34 : w31.cell? ⟨gb234, 0, none⟩ = some (.int .i64 0) := zQ BK234 0
      have hfs34 := blk_frozen BK234.out 0
      have hns34_0 := NB233_234.out
      have hns34_2 := NB236_234.out
      have hns34_3 := NB238_234.out
      have hms34_0 := NB234_233.out
      have hms34_2 := NB234_236.out
      have hms34_3 := NB234_238.out
      have hs35 : w31.cell? ⟨gb234, 1, none⟩ = some (.int .i64 0) := zQ BK234 1
      have hfs35 := blk_frozen BK234.out 1
      have hns35_0 := NB233_234.out
      have hns35_2 := NB236_234.out
      have hns35_3 := NB238_234.out
      have hms35_0 := NB234_233.out
      have hms35_2 := NB234_236.out
      have hms35_3 := NB234_238.out
      refine skip_ (w1 := ?_) (by rfl) rfl ?_ ?_
      rotate_left
      · go_simp
        rfl
      refine hK.out _ _ ⟨((cell_far (p := ⟨gb234, _, none⟩) NB236_234.out _).trans (((cell_far (p := ⟨gb234, _, none⟩) NB236_234.out _).trans (hHeld.1)))), ((cell_far (p := ⟨gb234, _, none⟩) NB236_234.out _).trans (((cell_far (p := ⟨gb234, _, none⟩) NB236_234.out _).trans (hHeld.2.1)))), ((cell_far (p := ⟨gb234, _, none⟩) NB238_234.out _).trans (((cell_far (p := ⟨gb234, _, none⟩) NB238_234.out _).trans (hHeld.2.2.1)))), ((cell_far (p := ⟨gb234, _, none⟩) NB238_234.out _).trans (((cell_far (p := ⟨gb234, _, none⟩) NB238_234.out _).trans (hHeld.2.2.2))))⟩ (fun hHeld => ?_)
      clear hK K
      refine done_ (by kernel_rfl) ?_
      try go_wp2
      refine bodyPost_ret (results_cc rfl _ _ gb233 gb234 91 91 #[.int .i64 x237000_1, .int .i64 x237001_1] #[.int .i64 x239000_1, .int .i64 x239001_1] (0, 0) (0, 0) _ _ rfl (by refine zf ?_ NB233_234; refine zf ?_ NB233_234; refine zg #[.int .i64 x237000_1, .int .i64 0] 1 ?_; refine zg #[.int .i64 0, .int .i64 0] 0 ?_; exact pK BK233.out) Try.underlying91 rfl (by kernel_rfl) rfl (by refine zg #[.int .i64 x239000_1, .int .i64 0] 1 ?_; refine zg #[.int .i64 0, .int .i64 0] 0 ?_; refine zf ?_ NB234_233; refine zf ?_ NB234_233; exact pK BK234.out) Try.underlying91 rfl (by kernel_rfl)) rfl ?_
      exact ⟨zE, pB4 HB.out GE233.out GE234.out GE236.out GE238.out⟩
    rw [if_pos c14] at H
    have c14b0 := decide_eq_true c14
    clear c14
    by_cases c15 : 0 ≤ x6_1
    rotate_left
    · rw [if_neg c15] at H
      exact absurd H (by simp)
    rw [if_pos c15] at H
    have c15b0 := decide_eq_true c15
    clear c15
    replace H := Option.bind_eq_some_iff.mp H
    obtain ⟨t240, A160, H⟩ := H
    have A16 := Aside0.mk A160
    clear A160
    replace H := Option.bind_eq_some_iff.mp H
    obtain ⟨t242, A170, H⟩ := H
    have A17 := Aside0.mk A170
    clear A170
    replace H := Option.bind_eq_some_iff.mp H
    obtain ⟨t244, A180, H⟩ := H
    have A18 := Aside0.mk A180
    clear A180
    replace H := Option.bind_eq_some_iff.mp H
    obtain ⟨t246, A190, H⟩ := H
    have A19 := Aside0.mk A190
    clear A190
    have H' := Aside0.mk H
    clear H
    try go_wp2
    replace BK233 := Aside0.mk (blk_drew BK233.out)
    replace BK234 := Aside0.mk (blk_drew BK234.out)
    replace BK236 := Aside0.mk (blk_drew BK236.out)
    replace BK238 := Aside0.mk (blk_drew BK238.out)
    replace HB := Aside0.mk (below_drew1 HB.out)
    have p239 : 0 ≤ (x6_1 : Int) := zD
    have q239 : x6_1 < (l0.length : Int) := zD
    obtain ⟨ad239, e239, hx239_0, hx239_1⟩ := at_T91 HR0.out x6_1 p239 q239
    have hw239_1 := hx239_1
    have hw239_0 := hx239_0
    obtain rfl : ad235 = ad239 := (by injection e239)
    try replace hx239_0 := zH HB hx239_0
    try replace hx239_1 := zH HB hx239_1
    replace p239 := eq_true p239
    replace q239 := eq_true q239
    refine start_ (n := 10) (S := fun w' => w'.cell? ⟨gb236, 0, none⟩ = some (.int .i64 x237000_1) ∧ w'.cell? ⟨gb236, 1, none⟩ = some (.int .i64 x237001_1) ∧ w'.cell? (ad235.add ((x6_1).toNat * 2)) = some (.int .i64 ((rd_T91 l0 x6_1).f0)) ∧ w'.cell? ⟨(ad235.add ((x6_1).toNat * 2)).block, (ad235.add ((x6_1).toNat * 2)).off + 1, none⟩ = some (.int .i64 ((rd_T91 l0 x6_1).f1))) (ds := [9]) (Array.replicate 10 false) (by kernel_rfl) rfl rfl ⟨zQ BK236 0, zQ BK236 1, (zH HB hw239_0), (zH HB hw239_1)⟩ (fun hHeld => ?_); refine with_tabW spec_l03Bounds.tab6 spec_l03Bounds.bits6 (fun HT_ HW_ => ?_)
    generalize wr.drew = w20 at BK233 BK234 BK236 BK238 HB hx239_0 hx239_1 hHeld ⊢
    refine zP 0 (some 19) (zb 10 1) HT_ ?_
    refine zP 2 (some 21) (zb 10 5) HT_ ?_
    refine zP 3 (some 22) (zb 10 13) HT_ ?_
    refine zP 4 (some 23) (zb 10 29) HT_ ?_
    refine zP 5 (some 24) (zb 10 61) HT_ ?_
    refine zT4 1 (some 20) (zb 10 63) HT_ HW_ hHeld ?_
    refine zT4 6 (some 25) (zb 10 127) HT_ HW_ hHeld ?_
    refine one_ (i := 7) (N := some 26) (zb 10 255) rfl rfl (one_of HT_.out (by kernel_rfl)) (by decide) (fun K hK => ?_)
    refine goes_ Try.func104 (by kernel_rfl) rfl #[.int .i64 x237000_1, .int .i64 ((rd_T91 l0 x6_1).f0)] (by rfl) rfl rfl pA ?_
    with_reducible refine (spec_l00Min.calls x237000_1 ((rd_T91 l0 x6_1).f0) t240 _ A16.out).mono ?_
    rintro e w' ⟨rfl, ⟨nd, rfl⟩⟩
    refine ⟨_, rfl, ?_⟩
    refine hK.out _ _ ⟨zQ BK236 0, zQ BK236 1, (zH HB hw239_0), (zH HB hw239_1)⟩ (fun hHeld => ?_)
    clear hK K
    refine zN ?_
    refine zP 8 (some 27) (zb 10 511) HT_ ?_
    refine last_ (i := 9) (N := none) (zb 10 1023) rfl rfl (one_of HT_.out (by kernel_rfl)) (by decide) (fun K hK => ?_)
    have hs21 : w20.cell? ⟨gb236, 0, none⟩ = some (.int .i64 x237000_1) := zQ BK236 0
    have hfs21 := blk_frozen BK236.out 0
    have hns21_0 := NB233_236.out
    have hns21_1 := NB234_236.out
    have hns21_3 := NB238_236.out
    have hms21_0 := NB236_233.out
    have hms21_1 := NB236_234.out
    have hms21_3 := NB236_238.out
    refine skip_ (w1 := ?_) (by rfl) rfl ?_ ?_
    rotate_left
    · go_simp
      rfl
    refine hK.out _ _ ?_
    clear hK K
    refine done_ (done_of HT_.out (by kernel_rfl)) ?_
    try go_wp2
    have n0_ : Aside0 ((w20.setCell ⟨gb236, 0, none⟩ (.int .i64 t240)).heap[gb233]? = some (.cells #[.int .i64 0, .int .i64 0] 91 (0, 0))) := ⟨by refine zf ?_ NB233_236; exact pK BK233.out⟩
    have n1_ : Aside0 ((w20.setCell ⟨gb236, 0, none⟩ (.int .i64 t240)).heap[gb234]? = some (.cells #[.int .i64 0, .int .i64 0] 91 (0, 0))) := ⟨by refine zf ?_ NB234_236; exact pK BK234.out⟩
    have n2_ : Aside0 ((w20.setCell ⟨gb236, 0, none⟩ (.int .i64 t240)).heap[gb236]? = some (.cells #[.int .i64 t240, .int .i64 x237001_1] 91 (0, 0))) := ⟨by refine zg #[.int .i64 x237000_1, .int .i64 x237001_1] 0 ?_; exact pK BK236.out⟩
    have n3_ : Aside0 ((w20.setCell ⟨gb236, 0, none⟩ (.int .i64 t240)).heap[gb238]? = some (.cells #[.int .i64 x239000_1, .int .i64 x239001_1] 91 (0, 0))) := ⟨by refine zf ?_ NB238_236; exact pK BK238.out⟩
    have n4_ : Aside0 (Below w.heap.size w (w20.setCell ⟨gb236, 0, none⟩ (.int .i64 t240))) := ⟨pB4 HB.out GE233.out GE234.out GE236.out GE238.out⟩
    (try clear BK233)
    (try clear BK234)
    (try clear BK236)
    (try clear BK238)
    (try clear HB)
    (try (repeat rw [mine_setCell_drewN]))
    generalize (w20.setCell ⟨gb236, 0, none⟩ (.int .i64 t240)) = w22 at n0_ n1_ n2_ n3_ n4_ ⊢
    have BK233 := n0_
    have BK234 := n1_
    have BK236 := n2_
    have BK238 := n3_
    have HB := n4_
    clear n0_ n1_ n2_ n3_ n4_
    (try (rw [drewN_self w22]; generalize hq_ : World.drewN w22 _ = w22; have n0_ : Aside0 (w22.heap[gb233]? = some (.cells #[.int .i64 0, .int .i64 0] 91 (0, 0))) := ⟨by rw [← hq_]; exact (pK BK233.out)⟩; have n1_ : Aside0 (w22.heap[gb234]? = some (.cells #[.int .i64 0, .int .i64 0] 91 (0, 0))) := ⟨by rw [← hq_]; exact (pK BK234.out)⟩; have n2_ : Aside0 (w22.heap[gb236]? = some (.cells #[.int .i64 t240, .int .i64 x237001_1] 91 (0, 0))) := ⟨by rw [← hq_]; exact (pK BK236.out)⟩; have n3_ : Aside0 (w22.heap[gb238]? = some (.cells #[.int .i64 x239000_1, .int .i64 x239001_1] 91 (0, 0))) := ⟨by rw [← hq_]; exact (pK BK238.out)⟩; have n4_ : Aside0 (Below w.heap.size w w22) := ⟨by rw [← hq_]; exact (pB4 HB.out GE233.out GE234.out GE236.out GE238.out)⟩; clear BK233 BK234 BK236 BK238 HB hq_; have BK233 := n0_; have BK234 := n1_; have BK236 := n2_; have BK238 := n3_; have HB := n4_; clear n0_ n1_ n2_ n3_ n4_))
    (try (obtain ⟨hcq233_0, hfq233_0, hcq233_1, hfq233_1⟩ := zw2 BK233; obtain ⟨hcq234_0, hfq234_0, hcq234_1, hfq234_1⟩ := zw2 BK234; obtain ⟨hcq236_0, hfq236_0, hcq236_1, hfq236_1⟩ := zw2 BK236; obtain ⟨hcq238_0, hfq238_0, hcq238_1, hfq238_1⟩ := zw2 BK238))
    replace BK233 := Aside0.mk (blk_drew BK233.out)
    replace BK234 := Aside0.mk (blk_drew BK234.out)
    replace BK236 := Aside0.mk (blk_drew BK236.out)
    replace BK238 := Aside0.mk (blk_drew BK238.out)
    replace HB := Aside0.mk (below_drew1 HB.out)
    have p241 : 0 ≤ (x6_1 : Int) := zD
    have q241 : x6_1 < (l0.length : Int) := zD
    obtain ⟨ad241, e241, hx241_0, hx241_1⟩ := at_T91 HR0.out x6_1 p241 q241
    have hw241_1 := hx241_1
    have hw241_0 := hx241_0
    obtain rfl : ad235 = ad241 := (by injection e241)
    try replace hx241_0 := zH HB hx241_0
    try replace hx241_1 := zH HB hx241_1
    replace p241 := eq_true p241
    replace q241 := eq_true q241
    refine start_ (n := 10) (S := fun w' => w'.cell? ⟨gb236, 0, none⟩ = some (.int .i64 t240) ∧ w'.cell? ⟨gb236, 1, none⟩ = some (.int .i64 x237001_1) ∧ w'.cell? (ad235.add ((x6_1).toNat * 2)) = some (.int .i64 ((rd_T91 l0 x6_1).f0)) ∧ w'.cell? ⟨(ad235.add ((x6_1).toNat * 2)).block, (ad235.add ((x6_1).toNat * 2)).off + 1, none⟩ = some (.int .i64 ((rd_T91 l0 x6_1).f1))) (ds := [9]) (Array.replicate 10 false) (by kernel_rfl) rfl rfl ⟨zQ BK236 0, zQ BK236 1, (zH HB hw241_0), (zH HB hw241_1)⟩ (fun hHeld => ?_); refine with_tabW spec_l03Bounds.tab7 spec_l03Bounds.bits7 (fun HT_ HW_ => ?_)
    generalize w22.drew = w23 at BK233 BK234 BK236 BK238 HB hx241_0 hx241_1 hHeld ⊢
    refine zP 0 (some 28) (zb 10 1) HT_ ?_
    refine zP 2 (some 30) (zb 10 5) HT_ ?_
    refine zP 3 (some 31) (zb 10 13) HT_ ?_
    refine zP 4 (some 32) (zb 10 29) HT_ ?_
    refine zP 5 (some 33) (zb 10 61) HT_ ?_
    refine zT4 1 (some 29) (zb 10 63) HT_ HW_ hHeld ?_
    refine zT4 6 (some 34) (zb 10 127) HT_ HW_ hHeld ?_
    refine one_ (i := 7) (N := some 35) (zb 10 255) rfl rfl (one_of HT_.out (by kernel_rfl)) (by decide) (fun K hK => ?_)
    refine goes_ Try.func104 (by kernel_rfl) rfl #[.int .i64 x237001_1, .int .i64 ((rd_T91 l0 x6_1).f1)] (by rfl) rfl rfl pA ?_
    with_reducible refine (spec_l00Min.calls x237001_1 ((rd_T91 l0 x6_1).f1) t242 _ A17.out).mono ?_
    rintro e w' ⟨rfl, ⟨nd, rfl⟩⟩
    refine ⟨_, rfl, ?_⟩
    refine hK.out _ _ ⟨zQ BK236 0, zQ BK236 1, (zH HB hw241_0), (zH HB hw241_1)⟩ (fun hHeld => ?_)
    clear hK K
    refine zN ?_
    refine zP 8 (some 36) (zb 10 511) HT_ ?_
    refine last_ (i := 9) (N := none) (zb 10 1023) rfl rfl (one_of HT_.out (by kernel_rfl)) (by decide) (fun K hK => ?_)
    have hs24 : w23.cell? ⟨gb236, 1, none⟩ = some (.int .i64 x237001_1) := zQ BK236 1
    have hfs24 := blk_frozen BK236.out 1
    have hns24_0 := NB233_236.out
    have hns24_1 := NB234_236.out
    have hns24_3 := NB238_236.out
    have hms24_0 := NB236_233.out
    have hms24_1 := NB236_234.out
    have hms24_3 := NB236_238.out
    refine skip_ (w1 := ?_) (by rfl) rfl ?_ ?_
    rotate_left
    · go_simp
      rfl
    refine hK.out _ _ ?_
    clear hK K
    refine done_ (done_of HT_.out (by kernel_rfl)) ?_
    try go_wp2
    have n0_ : Aside0 ((w23.setCell ⟨gb236, 1, none⟩ (.int .i64 t242)).heap[gb233]? = some (.cells #[.int .i64 0, .int .i64 0] 91 (0, 0))) := ⟨by refine zf ?_ NB233_236; exact pK BK233.out⟩
    have n1_ : Aside0 ((w23.setCell ⟨gb236, 1, none⟩ (.int .i64 t242)).heap[gb234]? = some (.cells #[.int .i64 0, .int .i64 0] 91 (0, 0))) := ⟨by refine zf ?_ NB234_236; exact pK BK234.out⟩
    have n2_ : Aside0 ((w23.setCell ⟨gb236, 1, none⟩ (.int .i64 t242)).heap[gb236]? = some (.cells #[.int .i64 t240, .int .i64 t242] 91 (0, 0))) := ⟨by refine zg #[.int .i64 t240, .int .i64 x237001_1] 1 ?_; exact pK BK236.out⟩
    have n3_ : Aside0 ((w23.setCell ⟨gb236, 1, none⟩ (.int .i64 t242)).heap[gb238]? = some (.cells #[.int .i64 x239000_1, .int .i64 x239001_1] 91 (0, 0))) := ⟨by refine zf ?_ NB238_236; exact pK BK238.out⟩
    have n4_ : Aside0 (Below w.heap.size w (w23.setCell ⟨gb236, 1, none⟩ (.int .i64 t242))) := ⟨pB4 HB.out GE233.out GE234.out GE236.out GE238.out⟩
    (try clear BK233)
    (try clear BK234)
    (try clear BK236)
    (try clear BK238)
    (try clear HB)
    (try (repeat rw [mine_setCell_drewN]))
    generalize (w23.setCell ⟨gb236, 1, none⟩ (.int .i64 t242)) = w25 at n0_ n1_ n2_ n3_ n4_ ⊢
    have BK233 := n0_
    have BK234 := n1_
    have BK236 := n2_
    have BK238 := n3_
    have HB := n4_
    clear n0_ n1_ n2_ n3_ n4_
    (try (rw [drewN_self w25]; generalize hq_ : World.drewN w25 _ = w25; have n0_ : Aside0 (w25.heap[gb233]? = some (.cells #[.int .i64 0, .int .i64 0] 91 (0, 0))) := ⟨by rw [← hq_]; exact (pK BK233.out)⟩; have n1_ : Aside0 (w25.heap[gb234]? = some (.cells #[.int .i64 0, .int .i64 0] 91 (0, 0))) := ⟨by rw [← hq_]; exact (pK BK234.out)⟩; have n2_ : Aside0 (w25.heap[gb236]? = some (.cells #[.int .i64 t240, .int .i64 t242] 91 (0, 0))) := ⟨by rw [← hq_]; exact (pK BK236.out)⟩; have n3_ : Aside0 (w25.heap[gb238]? = some (.cells #[.int .i64 x239000_1, .int .i64 x239001_1] 91 (0, 0))) := ⟨by rw [← hq_]; exact (pK BK238.out)⟩; have n4_ : Aside0 (Below w.heap.size w w25) := ⟨by rw [← hq_]; exact (pB4 HB.out GE233.out GE234.out GE236.out GE238.out)⟩; clear BK233 BK234 BK236 BK238 HB hq_; have BK233 := n0_; have BK234 := n1_; have BK236 := n2_; have BK238 := n3_; have HB := n4_; clear n0_ n1_ n2_ n3_ n4_))
    (try (obtain ⟨hcq233_0, hfq233_0, hcq233_1, hfq233_1⟩ := zw2 BK233; obtain ⟨hcq234_0, hfq234_0, hcq234_1, hfq234_1⟩ := zw2 BK234; obtain ⟨hcq236_0, hfq236_0, hcq236_1, hfq236_1⟩ := zw2 BK236; obtain ⟨hcq238_0, hfq238_0, hcq238_1, hfq238_1⟩ := zw2 BK238))
    replace BK233 := Aside0.mk (blk_drew BK233.out)
    replace BK234 := Aside0.mk (blk_drew BK234.out)
    replace BK236 := Aside0.mk (blk_drew BK236.out)
    replace BK238 := Aside0.mk (blk_drew BK238.out)
    replace HB := Aside0.mk (below_drew1 HB.out)
    have p243 : 0 ≤ (x6_1 : Int) := zD
    have q243 : x6_1 < (l0.length : Int) := zD
    obtain ⟨ad243, e243, hx243_0, hx243_1⟩ := at_T91 HR0.out x6_1 p243 q243
    have hw243_1 := hx243_1
    have hw243_0 := hx243_0
    obtain rfl : ad235 = ad243 := (by injection e243)
    try replace hx243_0 := zH HB hx243_0
    try replace hx243_1 := zH HB hx243_1
    replace p243 := eq_true p243
    replace q243 := eq_true q243
    refine start_ (n := 10) (S := fun w' => w'.cell? ⟨gb238, 0, none⟩ = some (.int .i64 x239000_1) ∧ w'.cell? ⟨gb238, 1, none⟩ = some (.int .i64 x239001_1) ∧ w'.cell? (ad235.add ((x6_1).toNat * 2)) = some (.int .i64 ((rd_T91 l0 x6_1).f0)) ∧ w'.cell? ⟨(ad235.add ((x6_1).toNat * 2)).block, (ad235.add ((x6_1).toNat * 2)).off + 1, none⟩ = some (.int .i64 ((rd_T91 l0 x6_1).f1))) (ds := [9]) (Array.replicate 10 false) (by kernel_rfl) rfl rfl ⟨zQ BK238 0, zQ BK238 1, (zH HB hw243_0), (zH HB hw243_1)⟩ (fun hHeld => ?_); refine with_tabW spec_l03Bounds.tab8 spec_l03Bounds.bits8 (fun HT_ HW_ => ?_)
    generalize w25.drew = w26 at BK233 BK234 BK236 BK238 HB hx243_0 hx243_1 hHeld ⊢
    refine zP 0 (some 37) (zb 10 1) HT_ ?_
    refine zP 2 (some 39) (zb 10 5) HT_ ?_
    refine zP 3 (some 40) (zb 10 13) HT_ ?_
    refine zP 4 (some 41) (zb 10 29) HT_ ?_
    refine zP 5 (some 42) (zb 10 61) HT_ ?_
    refine zT4 1 (some 38) (zb 10 63) HT_ HW_ hHeld ?_
    refine zT4 6 (some 43) (zb 10 127) HT_ HW_ hHeld ?_
    refine one_ (i := 7) (N := some 44) (zb 10 255) rfl rfl (one_of HT_.out (by kernel_rfl)) (by decide) (fun K hK => ?_)
    refine goes_ Try.func105 (by kernel_rfl) rfl #[.int .i64 x239000_1, .int .i64 ((rd_T91 l0 x6_1).f0)] (by rfl) rfl rfl pA ?_
    with_reducible refine (spec_l00Max.calls x239000_1 ((rd_T91 l0 x6_1).f0) t244 _ A18.out).mono ?_
    rintro e w' ⟨rfl, ⟨nd, rfl⟩⟩
    refine ⟨_, rfl, ?_⟩
    refine hK.out _ _ ⟨zQ BK238 0, zQ BK238 1, (zH HB hw243_0), (zH HB hw243_1)⟩ (fun hHeld => ?_)
    clear hK K
    refine zN ?_
    refine zP 8 (some 45) (zb 10 511) HT_ ?_
    refine last_ (i := 9) (N := none) (zb 10 1023) rfl rfl (one_of HT_.out (by kernel_rfl)) (by decide) (fun K hK => ?_)
    have hs27 : w26.cell? ⟨gb238, 0, none⟩ = some (.int .i64 x239000_1) := zQ BK238 0
    have hfs27 := blk_frozen BK238.out 0
    have hns27_0 := NB233_238.out
    have hns27_1 := NB234_238.out
    have hns27_2 := NB236_238.out
    have hms27_0 := NB238_233.out
    have hms27_1 := NB238_234.out
    have hms27_2 := NB238_236.out
    refine skip_ (w1 := ?_) (by rfl) rfl ?_ ?_
    rotate_left
    · go_simp
      rfl
    refine hK.out _ _ ?_
    clear hK K
    refine done_ (done_of HT_.out (by kernel_rfl)) ?_
    try go_wp2
    have n0_ : Aside0 ((w26.setCell ⟨gb238, 0, none⟩ (.int .i64 t244)).heap[gb233]? = some (.cells #[.int .i64 0, .int .i64 0] 91 (0, 0))) := ⟨by refine zf ?_ NB233_238; exact pK BK233.out⟩
    have n1_ : Aside0 ((w26.setCell ⟨gb238, 0, none⟩ (.int .i64 t244)).heap[gb234]? = some (.cells #[.int .i64 0, .int .i64 0] 91 (0, 0))) := ⟨by refine zf ?_ NB234_238; exact pK BK234.out⟩
    have n2_ : Aside0 ((w26.setCell ⟨gb238, 0, none⟩ (.int .i64 t244)).heap[gb236]? = some (.cells #[.int .i64 t240, .int .i64 t242] 91 (0, 0))) := ⟨by refine zf ?_ NB236_238; exact pK BK236.out⟩
    have n3_ : Aside0 ((w26.setCell ⟨gb238, 0, none⟩ (.int .i64 t244)).heap[gb238]? = some (.cells #[.int .i64 t244, .int .i64 x239001_1] 91 (0, 0))) := ⟨by refine zg #[.int .i64 x239000_1, .int .i64 x239001_1] 0 ?_; exact pK BK238.out⟩
    have n4_ : Aside0 (Below w.heap.size w (w26.setCell ⟨gb238, 0, none⟩ (.int .i64 t244))) := ⟨pB4 HB.out GE233.out GE234.out GE236.out GE238.out⟩
    (try clear BK233)
    (try clear BK234)
    (try clear BK236)
    (try clear BK238)
    (try clear HB)
    (try (repeat rw [mine_setCell_drewN]))
    generalize (w26.setCell ⟨gb238, 0, none⟩ (.int .i64 t244)) = w28 at n0_ n1_ n2_ n3_ n4_ ⊢
    have BK233 := n0_
    have BK234 := n1_
    have BK236 := n2_
    have BK238 := n3_
    have HB := n4_
    clear n0_ n1_ n2_ n3_ n4_
    (try (rw [drewN_self w28]; generalize hq_ : World.drewN w28 _ = w28; have n0_ : Aside0 (w28.heap[gb233]? = some (.cells #[.int .i64 0, .int .i64 0] 91 (0, 0))) := ⟨by rw [← hq_]; exact (pK BK233.out)⟩; have n1_ : Aside0 (w28.heap[gb234]? = some (.cells #[.int .i64 0, .int .i64 0] 91 (0, 0))) := ⟨by rw [← hq_]; exact (pK BK234.out)⟩; have n2_ : Aside0 (w28.heap[gb236]? = some (.cells #[.int .i64 t240, .int .i64 t242] 91 (0, 0))) := ⟨by rw [← hq_]; exact (pK BK236.out)⟩; have n3_ : Aside0 (w28.heap[gb238]? = some (.cells #[.int .i64 t244, .int .i64 x239001_1] 91 (0, 0))) := ⟨by rw [← hq_]; exact (pK BK238.out)⟩; have n4_ : Aside0 (Below w.heap.size w w28) := ⟨by rw [← hq_]; exact (pB4 HB.out GE233.out GE234.out GE236.out GE238.out)⟩; clear BK233 BK234 BK236 BK238 HB hq_; have BK233 := n0_; have BK234 := n1_; have BK236 := n2_; have BK238 := n3_; have HB := n4_; clear n0_ n1_ n2_ n3_ n4_))
    (try (obtain ⟨hcq233_0, hfq233_0, hcq233_1, hfq233_1⟩ := zw2 BK233; obtain ⟨hcq234_0, hfq234_0, hcq234_1, hfq234_1⟩ := zw2 BK234; obtain ⟨hcq236_0, hfq236_0, hcq236_1, hfq236_1⟩ := zw2 BK236; obtain ⟨hcq238_0, hfq238_0, hcq238_1, hfq238_1⟩ := zw2 BK238))
    replace BK233 := Aside0.mk (blk_drew BK233.out)
    replace BK234 := Aside0.mk (blk_drew BK234.out)
    replace BK236 := Aside0.mk (blk_drew BK236.out)
    replace BK238 := Aside0.mk (blk_drew BK238.out)
    replace HB := Aside0.mk (below_drew1 HB.out)
    have p245 : 0 ≤ (x6_1 : Int) := zD
    have q245 : x6_1 < (l0.length : Int) := zD
    obtain ⟨ad245, e245, hx245_0, hx245_1⟩ := at_T91 HR0.out x6_1 p245 q245
    have hw245_1 := hx245_1
    have hw245_0 := hx245_0
    obtain rfl : ad235 = ad245 := (by injection e245)
    try replace hx245_0 := zH HB hx245_0
    try replace hx245_1 := zH HB hx245_1
    replace p245 := eq_true p245
    replace q245 := eq_true q245
    refine start_ (n := 10) (S := fun w' => w'.cell? ⟨gb238, 0, none⟩ = some (.int .i64 t244) ∧ w'.cell? ⟨gb238, 1, none⟩ = some (.int .i64 x239001_1) ∧ w'.cell? (ad235.add ((x6_1).toNat * 2)) = some (.int .i64 ((rd_T91 l0 x6_1).f0)) ∧ w'.cell? ⟨(ad235.add ((x6_1).toNat * 2)).block, (ad235.add ((x6_1).toNat * 2)).off + 1, none⟩ = some (.int .i64 ((rd_T91 l0 x6_1).f1))) (ds := [9]) (Array.replicate 10 false) (by kernel_rfl) rfl rfl ⟨zQ BK238 0, zQ BK238 1, (zH HB hw245_0), (zH HB hw245_1)⟩ (fun hHeld => ?_); refine with_tabW spec_l03Bounds.tab9 spec_l03Bounds.bits9 (fun HT_ HW_ => ?_)
    generalize w28.drew = w29 at BK233 BK234 BK236 BK238 HB hx245_0 hx245_1 hHeld ⊢
    refine zP 0 (some 46) (zb 10 1) HT_ ?_
    refine zP 2 (some 48) (zb 10 5) HT_ ?_
    refine zP 3 (some 49) (zb 10 13) HT_ ?_
    refine zP 4 (some 50) (zb 10 29) HT_ ?_
    refine zP 5 (some 51) (zb 10 61) HT_ ?_
    refine zT4 1 (some 47) (zb 10 63) HT_ HW_ hHeld ?_
    refine zT4 6 (some 52) (zb 10 127) HT_ HW_ hHeld ?_
    refine one_ (i := 7) (N := some 53) (zb 10 255) rfl rfl (one_of HT_.out (by kernel_rfl)) (by decide) (fun K hK => ?_)
    refine goes_ Try.func105 (by kernel_rfl) rfl #[.int .i64 x239001_1, .int .i64 ((rd_T91 l0 x6_1).f1)] (by rfl) rfl rfl pA ?_
    with_reducible refine (spec_l00Max.calls x239001_1 ((rd_T91 l0 x6_1).f1) t246 _ A19.out).mono ?_
    rintro e w' ⟨rfl, ⟨nd, rfl⟩⟩
    refine ⟨_, rfl, ?_⟩
    refine hK.out _ _ ⟨zQ BK238 0, zQ BK238 1, (zH HB hw245_0), (zH HB hw245_1)⟩ (fun hHeld => ?_)
    clear hK K
    refine zN ?_
    refine zP 8 (some 54) (zb 10 511) HT_ ?_
    refine last_ (i := 9) (N := none) (zb 10 1023) rfl rfl (one_of HT_.out (by kernel_rfl)) (by decide) (fun K hK => ?_)
    have hs30 : w29.cell? ⟨gb238, 1, none⟩ = some (.int .i64 x239001_1) := zQ BK238 1
    have hfs30 := blk_frozen BK238.out 1
    have hns30_0 := NB233_238.out
    have hns30_1 := NB234_238.out
    have hns30_2 := NB236_238.out
    have hms30_0 := NB238_233.out
    have hms30_1 := NB238_234.out
    have hms30_2 := NB238_236.out
    refine skip_ (w1 := ?_) (by rfl) rfl ?_ ?_
    rotate_left
    · go_simp
      rfl
    refine hK.out _ _ ?_
    clear hK K
    refine done_ (done_of HT_.out (by kernel_rfl)) ?_
    try go_wp2
    go_roundg k1
    case measure => have := HK1.out; omega
    case rel => exact ⟨(wrap64 (x6_1 + 1)), (t240), (t242), (t244), (t246), zR, H', ⟨by have := HK1.out; omega⟩, ⟨by refine zf ?_ NB233_238; exact pK BK233.out⟩, ⟨by refine zf ?_ NB234_238; exact pK BK234.out⟩, ⟨by refine zf ?_ NB236_238; exact pK BK236.out⟩, ⟨by refine zg #[.int .i64 t244, .int .i64 x239001_1] 1 ?_; exact pK BK238.out⟩, ⟨pB4 HB.out GE233.out GE234.out GE236.out GE238.out⟩⟩
end Go.Proofs.Ytfiiakhpdkdebaa.PFnExactFitsLeaf

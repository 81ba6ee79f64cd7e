/- What each function that a law reaches comes to, and the proof that its walk comes to it; laid by a program of this session. No condition. -/
import Derived.Test.YtfiiakhpdkdebaaZFnExactTurnsThatFit0
import Derived.Test.YtfiiakhpdkdebaaZFnExactTurnsThatFit4
namespace Go.Proofs.Ytfiiakhpdkdebaa.PFnExactTurnsThatFit
open Go.RowKit Go.Proofs.YtfiiakhpdkdebaaW.PrintWords Go.Proofs.YtfiiakhpdkdebaaW.PrintLast Go.Proofs.YtfiiakhpdkdebaaW.PrintMore
attribute [local go_sem] max2_int min2_int max_two min_two max_three min_three max_four min_four
set_option linter.unusedVariables false
set_option linter.unusedSimpArgs false
def spec_l03Bounds.l0 : Nat → List (S91) → Int → Int → Int → Int → Int → Option (Int × Int × Int × Int)
 | 0, _, _, _, _, _, _ => none
 | k + 1, x0, x6, x287000, x287001, x289000, x289001 => if x6 < (x0.length : Int) then (if 0 ≤ x6 then ((spec_l00Min.f x287000 ((rd_T91 x0 x6).f0)).bind fun t290 => ((spec_l00Min.f x287001 ((rd_T91 x0 x6).f1)).bind fun t292 => ((spec_l00Max.f x289000 ((rd_T91 x0 x6).f0)).bind fun t294 => ((spec_l00Max.f x289001 ((rd_T91 x0 x6).f1)).bind fun t296 => (spec_l03Bounds.l0 k x0 (wrap64 (x6 + 1)) t290 t292 t294 t296))))) else (none)) else (some (x287000, x287001, x289000, x289001))
def spec_l03Bounds.f (k : Nat) (l0 : List (S91)) : Option (Int × Int × Int × Int) := if 0 < (l0.length : Int) then (spec_l03Bounds.l0 k l0 1 ((rd_T91 l0 0).f0) ((rd_T91 l0 0).f1) ((rd_T91 l0 0).f0) ((rd_T91 l0 0).f1)) else (none)
theorem spec_l03Bounds.mono_l : ∀ k, (∀ y0 y1 y2 y3 y4 y5, LeO (spec_l03Bounds.l0 k y0 y1 y2 y3 y4 y5) (spec_l03Bounds.l0 (k + 1) y0 y1 y2 y3 y4 y5))
 | 0 => fun _ _ _ _ _ _ r h => by simp [spec_l03Bounds.l0] at h
 | k + 1 => by
   have ih0 := spec_l03Bounds.mono_l k
   · intro y0 y1 y2 y3 y4 y5
     unfold spec_l03Bounds.l0
     repeat' first
     | (with_reducible exact ih0 _ _ _ _ _ _)
     | (with_reducible exact LeO.refl _)
     | (with_reducible exact LeO.none _)
     | (with_reducible refine LeO.ite ?_ ?_)
     | (with_reducible refine LeO.bind ?_ (fun _ => ?_))
     | exact ih0 _ _ _ _ _ _
     | exact LeO.none _
     | refine LeO.ite ?_ ?_
     | refine LeO.bind ?_ (fun _ => ?_)
theorem spec_l03Bounds.mono : ∀ a0 k, LeO (spec_l03Bounds.f k a0) (spec_l03Bounds.f (k + 1) a0) := by
 intro a0 k
 have ih0 := spec_l03Bounds.mono_l k
 unfold spec_l03Bounds.f
 repeat' first
  | (with_reducible exact ih0 _ _ _ _ _ _)
  | (with_reducible exact LeO.refl _)
  | (with_reducible exact LeO.none _)
  | (with_reducible refine LeO.ite ?_ ?_)
  | (with_reducible refine LeO.bind ?_ (fun _ => ?_))
  | exact ih0 _ _ _ _ _ _
  | exact LeO.none _
  | refine LeO.ite ?_ ?_
  | refine LeO.bind ?_ (fun _ => ?_)
def spec_l03Bounds.T6 : Bool × List (List Nat × List Nat) := (true, [([], []), ([0], [0]), ([], []), ([], []), ([2, 3], [2, 3]), ([4], [4]), ([5], [5]), ([1, 6], [1, 6]), ([0, 1, 2, 3, 4, 5, 6, 7], []), ([8, 7, 7, 0, 1, 2, 3, 4, 5, 6, 7], [7, 8])])
def spec_l03Bounds.B6 : List Nat := [0, 1, 0, 0, 12, 28, 60, 127, 255, 511]
theorem spec_l03Bounds.tab6 : rtab .any (opsOf Try.f60 6) = spec_l03Bounds.T6 := by kernel_rfl
theorem spec_l03Bounds.bits6 : waitsOk spec_l03Bounds.T6.2 spec_l03Bounds.B6 = true := by kernel_rfl
def spec_l03Bounds.T7 : Bool × List (List Nat × List Nat) := (true, [([], []), ([0], [0]), ([], []), ([], []), ([2, 3], [2, 3]), ([4], [4]), ([5], [5]), ([1, 6], [1, 6]), ([0, 1, 2, 3, 4, 5, 6, 7], []), ([8, 7, 7, 0, 1, 2, 3, 4, 5, 6, 7], [7, 8])])
def spec_l03Bounds.B7 : List Nat := [0, 1, 0, 0, 12, 28, 60, 127, 255, 511]
theorem spec_l03Bounds.tab7 : rtab .any (opsOf Try.f60 7) = spec_l03Bounds.T7 := by kernel_rfl
theorem spec_l03Bounds.bits7 : waitsOk spec_l03Bounds.T7.2 spec_l03Bounds.B7 = true := by kernel_rfl
def spec_l03Bounds.T8 : Bool × List (List Nat × List Nat) := (true, [([], []), ([0], [0]), ([], []), ([], []), ([2, 3], [2, 3]), ([4], [4]), ([5], [5]), ([1, 6], [1, 6]), ([0, 1, 2, 3, 4, 5, 6, 7], []), ([8, 7, 7, 0, 1, 2, 3, 4, 5, 6, 7], [7, 8])])
def spec_l03Bounds.B8 : List Nat := [0, 1, 0, 0, 12, 28, 60, 127, 255, 511]
theorem spec_l03Bounds.tab8 : rtab .any (opsOf Try.f60 8) = spec_l03Bounds.T8 := by kernel_rfl
theorem spec_l03Bounds.bits8 : waitsOk spec_l03Bounds.T8.2 spec_l03Bounds.B8 = true := by kernel_rfl
def spec_l03Bounds.T9 : Bool × List (List Nat × List Nat) := (true, [([], []), ([0], [0]), ([], []), ([], []), ([2, 3], [2, 3]), ([4], [4]), ([5], [5]), ([1, 6], [1, 6]), ([0, 1, 2, 3, 4, 5, 6, 7], []), ([8, 7, 7, 0, 1, 2, 3, 4, 5, 6, 7], [7, 8])])
def spec_l03Bounds.B9 : List Nat := [0, 1, 0, 0, 12, 28, 60, 127, 255, 511]
theorem spec_l03Bounds.tab9 : rtab .any (opsOf Try.f60 9) = spec_l03Bounds.T9 := by kernel_rfl
theorem spec_l03Bounds.bits9 : waitsOk spec_l03Bounds.T9.2 spec_l03Bounds.B9 = true := by kernel_rfl
set_option maxHeartbeats 8000000 in
set_option maxRecDepth 100000 in
theorem spec_l03Bounds.calls (k : Nat) (A0 : Option Addr) (c0 : Nat) (l0 : List (S91)) (r1 : Int) (r2 : Int) (r3 : Int) (r4 : Int) (w : World) (hr0 : Kd.C k91 w A0 l0.length l0) (hc0 : l0.length ≤ c0) (h : spec_l03Bounds.f k l0 = some (r1, r2, r3, r4)) :
 Calls Try.prog 60 #[.slice A0 l0.length c0] w fun e w' => e = .returned (.tuple #[.agg #[.int .i64 r1, .int .i64 r2], .agg #[.int .i64 r3, .int .i64 r4]]) ∧ Below w.heap.size w w' := by
 have hu91 := Try.underlying91
 have HR0 := Aside0.mk hr0
 have HC0 := Aside0.mk hc0
 clear hr0 hc0
 have HB := Aside0.mk (Below.refl w.heap.size w)
 have H : (if 0 < (l0.length : Int) then (spec_l03Bounds.l0 k l0 1 ((rd_T91 l0 0).f0) ((rd_T91 l0 0).f1) ((rd_T91 l0 0).f0) ((rd_T91 l0 0).f1)) else (none)) = some (r1, r2, r3, r4) := h
 clear h
 by_cases c2 : 0 < (l0.length : Int)
 rotate_left
 · rw [if_neg c2] at H
   exact absurd H (by simp)
 rw [if_pos c2] at H
 have c2b0 := decide_eq_true c2
 have c2b1 : decide (0 < l0.length) = true := decide_eq_true (by omega)
 clear c2
 have H' := Aside0.mk H
 clear H
 go_enter Try.func60, Try.ntmps60
 go_wp2_with (first | ((with_reducible refine gate_dst (N := 2) rfl ?_); refine zB 2 #[.int .i64 0, .int .i64 0] 91 ?_; intro gb283 hg w3 hbox hb; have BK283 := Aside0.mk (hbox); have GW283 := zS (pB0 HB.out) hg; have GE283 := zS (pB0 HB.out) hg; replace HB := zW (pB0 HB.out) hb; clear hb hbox hg) | ((with_reducible refine gate_dst (N := 3) rfl ?_); refine zB 3 #[.int .i64 0, .int .i64 0] 91 ?_; intro gb284 hg w4 hbox hb; have BK284 := Aside0.mk (hbox); have GW284 := zS (pB1 HB.out GE283.out) hg; have GE284 := zS (pB1 HB.out GE283.out) hg; have NB283_284 := zL BK283 hg; have NB284_283 := zM BK283 hg; replace BK283 := zK BK283 hb; replace HB := zW (pB1 HB.out GE283.out) hb; clear hb hbox hg; have p285 : 0 ≤ (0 : Int) := (by omega); have q285 : 0 < (l0.length : Int) := zD; obtain ⟨ad285, e285, hx285_0, hx285_1⟩ := at_T91 HR0.out 0 p285 q285; cases e285; have qi285 : (0 < l0.length) = True := eq_true (by omega); (try rw [z0] at hx285_0); (try rw [Nat.zero_mul] at hx285_0); (try rw [Addr.add_zero'] at hx285_0); (try rw [z0] at hx285_1); (try rw [Nat.zero_mul] at hx285_1); (try rw [Addr.add_zero'] at hx285_1); try replace hx285_0 := zH HB hx285_0; try replace hx285_1 := zH HB hx285_1; replace p285 := eq_true p285; replace q285 := eq_true q285) | ((with_reducible refine gate_dst (N := 4) rfl ?_); refine zB 4 #[.int .i64 0, .int .i64 0] 91 ?_; intro gb286 hg w5 hbox hb; have BK286 := Aside0.mk (hbox); have GW286 := zS (pB2 HB.out GE283.out GE284.out) hg; have GE286 := zS (pB2 HB.out GE283.out GE284.out) hg; have NB283_286 := zL BK283 hg; have NB286_283 := zM BK283 hg; have NB284_286 := zL BK284 hg; have NB286_284 := zM BK284 hg; replace BK283 := zK BK283 hb; replace BK284 := zK BK284 hb; replace HB := zW (pB2 HB.out GE283.out GE284.out) hb; clear hb hbox hg; have hnb6 := NB286_283.out; have hnc6 := NB283_286.out; have hnb7 := NB286_284.out; have hnc7 := NB284_286.out; obtain ⟨hcz8_0, hfz8_0, hcz8_1, hfz8_1⟩ := zw2 BK286; have p287 : 0 ≤ (0 : Int) := (by omega); have q287 : 0 < (l0.length : Int) := zD; obtain ⟨ad287, e287, hx287_0, hx287_1⟩ := at_T91 HR0.out 0 p287 q287; obtain rfl : ad285 = ad287 := (by injection e287); have qi287 : (0 < l0.length) = True := eq_true (by omega); (try rw [z0] at hx287_0); (try rw [Nat.zero_mul] at hx287_0); (try rw [Addr.add_zero'] at hx287_0); (try rw [z0] at hx287_1); (try rw [Nat.zero_mul] at hx287_1); (try rw [Addr.add_zero'] at hx287_1); have hn287_0 : ad285.block ≠ gb286 := Nat.ne_of_lt (Nat.lt_of_lt_of_le (by have := World.block_lt_of_cell? _ _ hx287_0; first | rwa [add_block] at this | exact this) GW286.out); have hn287_1 : ad285.block ≠ gb286 := Nat.ne_of_lt (Nat.lt_of_lt_of_le (by have := World.block_lt_of_cell? _ _ hx287_0; first | rwa [add_block] at this | exact this) GW286.out); try replace hx287_0 := zH HB hx287_0; try replace hx287_1 := zH HB hx287_1; replace hx287_0 := (cell_far (p := ⟨gb286, 0, none⟩) (by first | (rw [add_block]; exact hn287_0) | (show (Addr.add _ _).block ≠ _; rw [add_block]; exact hn287_0) | exact hn287_0) (.int .i64 ((rd_T91 l0 0).f0))).trans hx287_0; replace hx287_1 := (cell_far (p := ⟨gb286, 0, none⟩) (by first | (rw [add_block]; exact hn287_0) | (show (Addr.add _ _).block ≠ _; rw [add_block]; exact hn287_0) | exact hn287_0) (.int .i64 ((rd_T91 l0 0).f0))).trans hx287_1; replace hx287_0 := (cell_far (p := ⟨gb286, 1, none⟩) (by first | (rw [add_block]; exact hn287_1) | (show (Addr.add _ _).block ≠ _; rw [add_block]; exact hn287_1) | exact hn287_1) (.int .i64 ((rd_T91 l0 0).f1))).trans hx287_0; replace hx287_1 := (cell_far (p := ⟨gb286, 1, none⟩) (by first | (rw [add_block]; exact hn287_1) | (show (Addr.add _ _).block ≠ _; rw [add_block]; exact hn287_1) | exact hn287_1) (.int .i64 ((rd_T91 l0 0).f1))).trans hx287_1; clear hn287_0; clear hn287_1; replace p287 := eq_true p287; replace q287 := eq_true q287) | ((with_reducible refine gate_dst (N := 5) rfl ?_); refine zB 5 #[.int .i64 0, .int .i64 0] 91 ?_; intro gb288 hg w9 hbox hb; have BK288 := Aside0.mk (hbox); have GW288 := zS (pB3 HB.out GE283.out GE284.out GE286.out) hg; have GE288 := zS (pB3 HB.out GE283.out GE284.out GE286.out) hg; have NB283_288 := Aside0.mk ((by rw [hg]; exact Nat.ne_of_lt (blk_lt (g := gb283) (o := .cells #[.int .i64 0, .int .i64 0] 91 (0, 0)) (by refine zf ?_ NB283_286; refine zf ?_ NB283_286; exact pK BK283.out)) : gb283 ≠ gb288)); have NB288_283 := Aside0.mk ((by rw [hg]; exact Nat.ne_of_gt (blk_lt (g := gb283) (o := .cells #[.int .i64 0, .int .i64 0] 91 (0, 0)) (by refine zf ?_ NB283_286; refine zf ?_ NB283_286; exact pK BK283.out)) : gb288 ≠ gb283)); have NB284_288 := Aside0.mk ((by rw [hg]; exact Nat.ne_of_lt (blk_lt (g := gb284) (o := .cells #[.int .i64 0, .int .i64 0] 91 (0, 0)) (by refine zf ?_ NB284_286; refine zf ?_ NB284_286; exact pK BK284.out)) : gb284 ≠ gb288)); have NB288_284 := Aside0.mk ((by rw [hg]; exact Nat.ne_of_gt (blk_lt (g := gb284) (o := .cells #[.int .i64 0, .int .i64 0] 91 (0, 0)) (by refine zf ?_ NB284_286; refine zf ?_ NB284_286; exact pK BK284.out)) : gb288 ≠ gb284)); have NB286_288 := Aside0.mk ((by rw [hg]; exact Nat.ne_of_lt (blk_lt (g := gb286) (o := .cells #[.int .i64 ((rd_T91 l0 0).f0), .int .i64 ((rd_T91 l0 0).f1)] 91 (0, 0)) (by refine zg #[.int .i64 ((rd_T91 l0 0).f0), .int .i64 0] 1 ?_; refine zg #[.int .i64 0, .int .i64 0] 0 ?_; exact pK BK286.out)) : gb286 ≠ gb288)); have NB288_286 := Aside0.mk ((by rw [hg]; exact Nat.ne_of_gt (blk_lt (g := gb286) (o := .cells #[.int .i64 ((rd_T91 l0 0).f0), .int .i64 ((rd_T91 l0 0).f1)] 91 (0, 0)) (by refine zg #[.int .i64 ((rd_T91 l0 0).f0), .int .i64 0] 1 ?_; refine zg #[.int .i64 0, .int .i64 0] 0 ?_; exact pK BK286.out)) : gb288 ≠ gb286)); replace BK283 := Aside0.mk (blk_below (g := gb283) (o := .cells #[.int .i64 0, .int .i64 0] 91 (0, 0)) (by refine zf ?_ NB283_286; refine zf ?_ NB283_286; exact pK BK283.out) hb); replace BK284 := Aside0.mk (blk_below (g := gb284) (o := .cells #[.int .i64 0, .int .i64 0] 91 (0, 0)) (by refine zf ?_ NB284_286; refine zf ?_ NB284_286; exact pK BK284.out) hb); replace BK286 := Aside0.mk (blk_below (g := gb286) (o := .cells #[.int .i64 ((rd_T91 l0 0).f0), .int .i64 ((rd_T91 l0 0).f1)] 91 (0, 0)) (by refine zg #[.int .i64 ((rd_T91 l0 0).f0), .int .i64 0] 1 ?_; refine zg #[.int .i64 0, .int .i64 0] 0 ?_; exact pK BK286.out) hb); replace HB := zW (pB3 HB.out GE283.out GE284.out GE286.out) hb; clear hb hbox hg; have hnb10 := NB288_283.out; have hnc10 := NB283_288.out; have hnb11 := NB288_284.out; have hnc11 := NB284_288.out; have hnb12 := NB288_286.out; have hnc12 := NB286_288.out; obtain ⟨hcz13_0, hfz13_0, hcz13_1, hfz13_1⟩ := zw2 BK288))
 go_loopg [6] k (fun kq v6 w' => ∃ (x6_1 : Int) (x287000_1 : Int) (x287001_1 : Int) (x289000_1 : Int) (x289001_1 : Int), v6 = .int .i64 x6_1 ∧ Aside0 (spec_l03Bounds.l0 kq l0 x6_1 x287000_1 x287001_1 x289000_1 x289001_1 = some (r1, r2, r3, r4)) ∧ Aside0 (kq ≤ k) ∧ Aside0 (w'.heap[gb283]? = some (.cells #[.int .i64 0, .int .i64 0] 91 (0, 0))) ∧ Aside0 (w'.heap[gb284]? = some (.cells #[.int .i64 0, .int .i64 0] 91 (0, 0))) ∧ Aside0 (w'.heap[gb286]? = some (.cells #[.int .i64 x287000_1, .int .i64 x287001_1] 91 (0, 0))) ∧ Aside0 (w'.heap[gb288]? = some (.cells #[.int .i64 x289000_1, .int .i64 x289001_1] 91 (0, 0))) ∧ Aside0 (Below w.heap.size w w'))
 case atStart => exact ⟨(1), ((rd_T91 l0 0).f0), ((rd_T91 l0 0).f1), ((rd_T91 l0 0).f0), ((rd_T91 l0 0).f1), zR, H', ⟨Nat.le_refl _⟩, ⟨by refine zf ?_ NB283_288; refine zf ?_ NB283_288; exact pK BK283.out⟩, ⟨by refine zf ?_ NB284_288; refine zf ?_ NB284_288; exact pK BK284.out⟩, ⟨by refine zf ?_ NB286_288; refine zf ?_ NB286_288; exact pK BK286.out⟩, ⟨by refine zg #[.int .i64 ((rd_T91 l0 0).f0), .int .i64 0] 1 ?_; refine zg #[.int .i64 0, .int .i64 0] 0 ?_; exact pK BK288.out⟩, ⟨pB4 HB.out GE283.out GE284.out GE286.out GE288.out⟩⟩
 case round =>
  clear H'
  try clear c1
  try clear c2
  try clear c2b0
  try clear c2b1
  try clear p2
  try clear q2
  try clear hx2
  try clear qi2
  try clear c6
  try clear c7
  try clear c10
  try clear c11
  try clear c12
  try clear hcz13_0
  try clear hcz13_1
  try clear hcz8_0
  try clear hcz8_1
  try clear hfz13_0
  try clear hfz13_1
  try clear hfz8_0
  try clear hfz8_1
  try clear hx285_0
  try clear hx285_1
  try clear hx287_0
  try clear hx287_1
  try clear p285
  try clear p287
  try clear q285
  try clear q287
  obtain ⟨x6_1, x287000_1, x287001_1, x289000_1, x289001_1, rfl, HA, HK1, BK283, BK284, BK286, BK288, HB⟩ := hrel
  cases gk with
  | zero => exact absurd HA.out (by simp [spec_l03Bounds.l0])
  | succ k1 =>
    have H := HA.out
    clear HA
    simp only [spec_l03Bounds.l0] at H
    by_cases c14 : x6_1 < (l0.length : Int)
    rotate_left
    · rw [if_neg c14] at H
      have c14b0 : decide (x6_1 < (l0.length : Int)) = false := decide_eq_false c14
      clear c14
      simp only [Option.some.injEq, Prod.mk.injEq] at H
      obtain ⟨rfl, rfl, rfl, rfl⟩ := H
      try go_wp2
      replace BK283 := Aside0.mk (blk_drew BK283.out)
      replace BK284 := Aside0.mk (blk_drew BK284.out)
      replace BK286 := Aside0.mk (blk_drew BK286.out)
      replace BK288 := Aside0.mk (blk_drew BK288.out)
      replace HB := Aside0.mk (below_drew1 HB.out)
      refine start_ (n := 4) (S := fun w' => w'.cell? ⟨gb286, 0, none⟩ = some (.int .i64 x287000_1) ∧ w'.cell? ⟨gb286, 1, none⟩ = some (.int .i64 x287001_1) ∧ w'.cell? ⟨gb288, 0, none⟩ = some (.int .i64 x289000_1) ∧ w'.cell? ⟨gb288, 1, none⟩ = some (.int .i64 x289001_1)) (ds := []) (Array.replicate 4 false) (by kernel_rfl) rfl rfl ⟨zQ BK286 0, zQ BK286 1, zQ BK288 0, zQ BK288 1⟩ (fun hHeld => ?_)
      generalize wr.drew = w31 at BK283 BK284 BK286 BK288 HB hHeld ⊢
      refine take_ (i := 0) (N := some 55) (v := ?_) (a' := ?_) #[true, false, false, false] rfl rfl (by kernel_rfl) (fun _ _ _ h => h) (Or.inl ⟨by rfl, ?_⟩) hHeld ?_ ?_
      rotate_left
      · rintro w' ⟨s0, s1, s2, s3⟩
        go_simp
        with_reducible rfl
      rotate_left
      · simp only [Act.put, List.setIfInBounds_toArray, List.set_cons_zero, List.set_cons_succ, i64_w, i32_w]
        rfl
      refine take_ (i := 1) (N := some 56) (v := ?_) (a' := ?_) #[true, true, false, false] rfl rfl (by kernel_rfl) (fun _ _ _ h => h) (Or.inl ⟨by rfl, ?_⟩) hHeld ?_ ?_
      rotate_left
      · rintro w' ⟨s0, s1, s2, s3⟩
        go_simp
        with_reducible rfl
      rotate_left
      · simp only [Act.put, List.setIfInBounds_toArray, List.set_cons_zero, List.set_cons_succ, i64_w, i32_w]
        rfl
      refine one_ (i := 2) (N := none) (zb 4 7) rfl rfl (by kernel_rfl) (by decide) (fun K hK => ?_)
      have hs32 : w31.cell? ⟨gb283, 0, none⟩ = some (.int .i64 0) := zQ BK283 0
      have hfs32 := blk_frozen BK283.out 0
      have hns32_1 := NB284_283.out
      have hns32_2 := NB286_283.out
      have hns32_3 := NB288_283.out
      have hms32_1 := NB283_284.out
      have hms32_2 := NB283_286.out
      have hms32_3 := NB283_288.out
      have hs33 : w31.cell? ⟨gb283, 1, none⟩ = some (.int .i64 0) := zQ BK283 1
      have hfs33 := blk_frozen BK283.out 1
      have hns33_1 := NB284_283.out
      have hns33_2 := NB286_283.out
      have hns33_3 := NB288_283.out
      have hms33_1 := NB283_284.out
      have hms33_2 := NB283_286.out
      have hms33_3 := NB283_288.out
      refine skip_ (w1 := ?_) (by rfl) rfl ?_ ?_
      rotate_left
      · go_simp
        rfl
      refine hK.out _ _ ⟨((cell_far (p := ⟨gb283, _, none⟩) NB286_283.out _).trans (((cell_far (p := ⟨gb283, _, none⟩) NB286_283.out _).trans (hHeld.1)))), ((cell_far (p := ⟨gb283, _, none⟩) NB286_283.out _).trans (((cell_far (p := ⟨gb283, _, none⟩) NB286_283.out _).trans (hHeld.2.1)))), ((cell_far (p := ⟨gb283, _, none⟩) NB288_283.out _).trans (((cell_far (p := ⟨gb283, _, none⟩) NB288_283.out _).trans (hHeld.2.2.1)))), ((cell_far (p := ⟨gb283, _, none⟩) NB288_283.out _).trans (((cell_far (p := ⟨gb283, _, none⟩) NB288_283.out _).trans (hHeld.2.2.2))))⟩ (fun hHeld => ?_)
      clear hK K
      refine one_ (i := 3) (N := none) (zb 4 15) rfl rfl (by kernel_rfl) (by decide) (fun K hK => ?_)
      have hs34 : w31.cell? ⟨gb284, 0, none⟩ = some (.int .i64 0) := zQ BK284 0
      have hfs34 := blk_frozen BK284.out 0
      have hns34_0 := NB283_284.out
      have hns34_2 := NB286_284.out
      have hns34_3 := NB288_284.out
      have hms34_0 := NB284_283.out
      have hms34_2 := NB284_286.out
      have hms34_3 := NB284_288.out
      have hs35 : w31.cell? ⟨gb284, 1, none⟩ = some (.int .i64 0) := zQ BK284 1
      have hfs35 := blk_frozen BK284.out 1
      have hns35_0 := NB283_284.out
      have hns35_2 := NB286_284.out
      have hns35_3 := NB288_284.out
      have hms35_0 := NB284_283.out
      have hms35_2 := NB284_286.out
      have hms35_3 := NB284_288.out
      refine skip_ (w1 := ?_) (by rfl) rfl ?_ ?_
      rotate_left
      · go_simp
        rfl
      refine hK.out _ _ ⟨((cell_far (p := ⟨gb284, _, none⟩) NB286_284.out _).trans (((cell_far (p := ⟨gb284, _, none⟩) NB286_284.out _).trans (hHeld.1)))), ((cell_far (p := ⟨gb284, _, none⟩) NB286_284.out _).trans (((cell_far (p := ⟨gb284, _, none⟩) NB286_284.out _).trans (hHeld.2.1)))), ((cell_far (p := ⟨gb284, _, none⟩) NB288_284.out _).trans (((cell_far (p := ⟨gb284, _, none⟩) NB288_284.out _).trans (hHeld.2.2.1)))), ((cell_far (p := ⟨gb284, _, none⟩) NB288_284.out _).trans (((cell_far (p := ⟨gb284, _, none⟩) NB288_284.out _).trans (hHeld.2.2.2))))⟩ (fun hHeld => ?_)
      clear hK K
      refine done_ (by kernel_rfl) ?_
      try go_wp2
      refine bodyPost_ret (results_cc rfl _ _ gb283 gb284 91 91 #[.int .i64 x287000_1, .int .i64 x287001_1] #[.int .i64 x289000_1, .int .i64 x289001_1] (0, 0) (0, 0) _ _ rfl (by refine zf ?_ NB283_284; refine zf ?_ NB283_284; refine zg #[.int .i64 x287000_1, .int .i64 0] 1 ?_; refine zg #[.int .i64 0, .int .i64 0] 0 ?_; exact pK BK283.out) Try.underlying91 rfl (by kernel_rfl) rfl (by refine zg #[.int .i64 x289000_1, .int .i64 0] 1 ?_; refine zg #[.int .i64 0, .int .i64 0] 0 ?_; refine zf ?_ NB284_283; refine zf ?_ NB284_283; exact pK BK284.out) Try.underlying91 rfl (by kernel_rfl)) rfl ?_
      exact ⟨zE, pB4 HB.out GE283.out GE284.out GE286.out GE288.out⟩
    rw [if_pos c14] at H
    have c14b0 := decide_eq_true c14
    clear c14
    by_cases c15 : 0 ≤ x6_1
    rotate_left
    · rw [if_neg c15] at H
      exact absurd H (by simp)
    rw [if_pos c15] at H
    have c15b0 := decide_eq_true c15
    clear c15
    replace H := Option.bind_eq_some_iff.mp H
    obtain ⟨t290, A160, H⟩ := H
    have A16 := Aside0.mk A160
    clear A160
    replace H := Option.bind_eq_some_iff.mp H
    obtain ⟨t292, A170, H⟩ := H
    have A17 := Aside0.mk A170
    clear A170
    replace H := Option.bind_eq_some_iff.mp H
    obtain ⟨t294, A180, H⟩ := H
    have A18 := Aside0.mk A180
    clear A180
    replace H := Option.bind_eq_some_iff.mp H
    obtain ⟨t296, A190, H⟩ := H
    have A19 := Aside0.mk A190
    clear A190
    have H' := Aside0.mk H
    clear H
    try go_wp2
    replace BK283 := Aside0.mk (blk_drew BK283.out)
    replace BK284 := Aside0.mk (blk_drew BK284.out)
    replace BK286 := Aside0.mk (blk_drew BK286.out)
    replace BK288 := Aside0.mk (blk_drew BK288.out)
    replace HB := Aside0.mk (below_drew1 HB.out)
    have p289 : 0 ≤ (x6_1 : Int) := zD
    have q289 : x6_1 < (l0.length : Int) := zD
    obtain ⟨ad289, e289, hx289_0, hx289_1⟩ := at_T91 HR0.out x6_1 p289 q289
    have hw289_1 := hx289_1
    have hw289_0 := hx289_0
    obtain rfl : ad285 = ad289 := (by injection e289)
    try replace hx289_0 := zH HB hx289_0
    try replace hx289_1 := zH HB hx289_1
    replace p289 := eq_true p289
    replace q289 := eq_true q289
    refine start_ (n := 10) (S := fun w' => w'.cell? ⟨gb286, 0, none⟩ = some (.int .i64 x287000_1) ∧ w'.cell? ⟨gb286, 1, none⟩ = some (.int .i64 x287001_1) ∧ w'.cell? (ad285.add ((x6_1).toNat * 2)) = some (.int .i64 ((rd_T91 l0 x6_1).f0)) ∧ w'.cell? ⟨(ad285.add ((x6_1).toNat * 2)).block, (ad285.add ((x6_1).toNat * 2)).off + 1, none⟩ = some (.int .i64 ((rd_T91 l0 x6_1).f1))) (ds := [9]) (Array.replicate 10 false) (by kernel_rfl) rfl rfl ⟨zQ BK286 0, zQ BK286 1, (zH HB hw289_0), (zH HB hw289_1)⟩ (fun hHeld => ?_); refine with_tabW spec_l03Bounds.tab6 spec_l03Bounds.bits6 (fun HT_ HW_ => ?_)
    generalize wr.drew = w20 at BK283 BK284 BK286 BK288 HB hx289_0 hx289_1 hHeld ⊢
    refine zP 0 (some 19) (zb 10 1) HT_ ?_
    refine zP 2 (some 21) (zb 10 5) HT_ ?_
    refine zP 3 (some 22) (zb 10 13) HT_ ?_
    refine zP 4 (some 23) (zb 10 29) HT_ ?_
    refine zP 5 (some 24) (zb 10 61) HT_ ?_
    refine zT4 1 (some 20) (zb 10 63) HT_ HW_ hHeld ?_
    refine zT4 6 (some 25) (zb 10 127) HT_ HW_ hHeld ?_
    refine one_ (i := 7) (N := some 26) (zb 10 255) rfl rfl (one_of HT_.out (by kernel_rfl)) (by decide) (fun K hK => ?_)
    refine goes_ Try.func104 (by kernel_rfl) rfl #[.int .i64 x287000_1, .int .i64 ((rd_T91 l0 x6_1).f0)] (by rfl) rfl rfl pA ?_
    with_reducible refine (spec_l00Min.calls x287000_1 ((rd_T91 l0 x6_1).f0) t290 _ A16.out).mono ?_
    rintro e w' ⟨rfl, ⟨nd, rfl⟩⟩
    refine ⟨_, rfl, ?_⟩
    refine hK.out _ _ ⟨zQ BK286 0, zQ BK286 1, (zH HB hw289_0), (zH HB hw289_1)⟩ (fun hHeld => ?_)
    clear hK K
    refine zN ?_
    refine zP 8 (some 27) (zb 10 511) HT_ ?_
    refine last_ (i := 9) (N := none) (zb 10 1023) rfl rfl (one_of HT_.out (by kernel_rfl)) (by decide) (fun K hK => ?_)
    have hs21 : w20.cell? ⟨gb286, 0, none⟩ = some (.int .i64 x287000_1) := zQ BK286 0
    have hfs21 := blk_frozen BK286.out 0
    have hns21_0 := NB283_286.out
    have hns21_1 := NB284_286.out
    have hns21_3 := NB288_286.out
    have hms21_0 := NB286_283.out
    have hms21_1 := NB286_284.out
    have hms21_3 := NB286_288.out
    refine skip_ (w1 := ?_) (by rfl) rfl ?_ ?_
    rotate_left
    · go_simp
      rfl
    refine hK.out _ _ ?_
    clear hK K
    refine done_ (done_of HT_.out (by kernel_rfl)) ?_
    try go_wp2
    have n0_ : Aside0 ((w20.setCell ⟨gb286, 0, none⟩ (.int .i64 t290)).heap[gb283]? = some (.cells #[.int .i64 0, .int .i64 0] 91 (0, 0))) := ⟨by refine zf ?_ NB283_286; exact pK BK283.out⟩
    have n1_ : Aside0 ((w20.setCell ⟨gb286, 0, none⟩ (.int .i64 t290)).heap[gb284]? = some (.cells #[.int .i64 0, .int .i64 0] 91 (0, 0))) := ⟨by refine zf ?_ NB284_286; exact pK BK284.out⟩
    have n2_ : Aside0 ((w20.setCell ⟨gb286, 0, none⟩ (.int .i64 t290)).heap[gb286]? = some (.cells #[.int .i64 t290, .int .i64 x287001_1] 91 (0, 0))) := ⟨by refine zg #[.int .i64 x287000_1, .int .i64 x287001_1] 0 ?_; exact pK BK286.out⟩
    have n3_ : Aside0 ((w20.setCell ⟨gb286, 0, none⟩ (.int .i64 t290)).heap[gb288]? = some (.cells #[.int .i64 x289000_1, .int .i64 x289001_1] 91 (0, 0))) := ⟨by refine zf ?_ NB288_286; exact pK BK288.out⟩
    have n4_ : Aside0 (Below w.heap.size w (w20.setCell ⟨gb286, 0, none⟩ (.int .i64 t290))) := ⟨pB4 HB.out GE283.out GE284.out GE286.out GE288.out⟩
    (try clear BK283)
    (try clear BK284)
    (try clear BK286)
    (try clear BK288)
    (try clear HB)
    (try (repeat rw [mine_setCell_drewN]))
    generalize (w20.setCell ⟨gb286, 0, none⟩ (.int .i64 t290)) = w22 at n0_ n1_ n2_ n3_ n4_ ⊢
    have BK283 := n0_
    have BK284 := n1_
    have BK286 := n2_
    have BK288 := n3_
    have HB := n4_
    clear n0_ n1_ n2_ n3_ n4_
    (try (rw [drewN_self w22]; generalize hq_ : World.drewN w22 _ = w22; have n0_ : Aside0 (w22.heap[gb283]? = some (.cells #[.int .i64 0, .int .i64 0] 91 (0, 0))) := ⟨by rw [← hq_]; exact (pK BK283.out)⟩; have n1_ : Aside0 (w22.heap[gb284]? = some (.cells #[.int .i64 0, .int .i64 0] 91 (0, 0))) := ⟨by rw [← hq_]; exact (pK BK284.out)⟩; have n2_ : Aside0 (w22.heap[gb286]? = some (.cells #[.int .i64 t290, .int .i64 x287001_1] 91 (0, 0))) := ⟨by rw [← hq_]; exact (pK BK286.out)⟩; have n3_ : Aside0 (w22.heap[gb288]? = some (.cells #[.int .i64 x289000_1, .int .i64 x289001_1] 91 (0, 0))) := ⟨by rw [← hq_]; exact (pK BK288.out)⟩; have n4_ : Aside0 (Below w.heap.size w w22) := ⟨by rw [← hq_]; exact (pB4 HB.out GE283.out GE284.out GE286.out GE288.out)⟩; clear BK283 BK284 BK286 BK288 HB hq_; have BK283 := n0_; have BK284 := n1_; have BK286 := n2_; have BK288 := n3_; have HB := n4_; clear n0_ n1_ n2_ n3_ n4_))
    (try (obtain ⟨hcq283_0, hfq283_0, hcq283_1, hfq283_1⟩ := zw2 BK283; obtain ⟨hcq284_0, hfq284_0, hcq284_1, hfq284_1⟩ := zw2 BK284; obtain ⟨hcq286_0, hfq286_0, hcq286_1, hfq286_1⟩ := zw2 BK286; obtain ⟨hcq288_0, hfq288_0, hcq288_1, hfq288_1⟩ := zw2 BK288))
    replace BK283 := Aside0.mk (blk_drew BK283.out)
    replace BK284 := Aside0.mk (blk_drew BK284.out)
    replace BK286 := Aside0.mk (blk_drew BK286.out)
    replace BK288 := Aside0.mk (blk_drew BK288.out)
    replace HB := Aside0.mk (below_drew1 HB.out)
    have p291 : 0 ≤ (x6_1 : Int) := zD
    have q291 : x6_1 < (l0.length : Int) := zD
    obtain ⟨ad291, e291, hx291_0, hx291_1⟩ := at_T91 HR0.out x6_1 p291 q291
    have hw291_1 := hx291_1
    have hw291_0 := hx291_0
    obtain rfl : ad285 = ad291 := (by injection e291)
    try replace hx291_0 := zH HB hx291_0
    try replace hx291_1 := zH HB hx291_1
    replace p291 := eq_true p291
    replace q291 := eq_true q291
    refine start_ (n := 10) (S := fun w' => w'.cell? ⟨gb286, 0, none⟩ = some (.int .i64 t290) ∧ w'.cell? ⟨gb286, 1, none⟩ = some (.int .i64 x287001_1) ∧ w'.cell? (ad285.add ((x6_1).toNat * 2)) = some (.int .i64 ((rd_T91 l0 x6_1).f0)) ∧ w'.cell? ⟨(ad285.add ((x6_1).toNat * 2)).block, (ad285.add ((x6_1).toNat * 2)).off + 1, none⟩ = some (.int .i64 ((rd_T91 l0 x6_1).f1))) (ds := [9]) (Array.replicate 10 false) (by kernel_rfl) rfl rfl ⟨zQ BK286 0, zQ BK286 1, (zH HB hw291_0), (zH HB hw291_1)⟩ (fun hHeld => ?_); refine with_tabW spec_l03Bounds.tab7 spec_l03Bounds.bits7 (fun HT_ HW_ => ?_)
    generalize w22.drew = w23 at BK283 BK284 BK286 BK288 HB hx291_0 hx291_1 hHeld ⊢
    refine zP 0 (some 28) (zb 10 1) HT_ ?_
    refine zP 2 (some 30) (zb 10 5) HT_ ?_
    refine zP 3 (some 31) (zb 10 13) HT_ ?_
    refine zP 4 (some 32) (zb 10 29) HT_ ?_
    refine zP 5 (some 33) (zb 10 61) HT_ ?_
    refine zT4 1 (some 29) (zb 10 63) HT_ HW_ hHeld ?_
    refine zT4 6 (some 34) (zb 10 127) HT_ HW_ hHeld ?_
    refine one_ (i := 7) (N := some 35) (zb 10 255) rfl rfl (one_of HT_.out (by kernel_rfl)) (by decide) (fun K hK => ?_)
    refine goes_ Try.func104 (by kernel_rfl) rfl #[.int .i64 x287001_1, .int .i64 ((rd_T91 l0 x6_1).f1)] (by rfl) rfl rfl pA ?_
    with_reducible refine (spec_l00Min.calls x287001_1 ((rd_T91 l0 x6_1).f1) t292 _ A17.out).mono ?_
    rintro e w' ⟨rfl, ⟨nd, rfl⟩⟩
    refine ⟨_, rfl, ?_⟩
    refine hK.out _ _ ⟨zQ BK286 0, zQ BK286 1, (zH HB hw291_0), (zH HB hw291_1)⟩ (fun hHeld => ?_)
    clear hK K
    refine zN ?_
    refine zP 8 (some 36) (zb 10 511) HT_ ?_
    refine last_ (i := 9) (N := none) (zb 10 1023) rfl rfl (one_of HT_.out (by kernel_rfl)) (by decide) (fun K hK => ?_)
    have hs24 : w23.cell? ⟨gb286, 1, none⟩ = some (.int .i64 x287001_1) := zQ BK286 1
    have hfs24 := blk_frozen BK286.out 1
    have hns24_0 := NB283_286.out
    have hns24_1 := NB284_286.out
    have hns24_3 := NB288_286.out
    have hms24_0 := NB286_283.out
    have hms24_1 := NB286_284.out
    have hms24_3 := NB286_288.out
    refine skip_ (w1 := ?_) (by rfl) rfl ?_ ?_
    rotate_left
    · go_simp
      rfl
    refine hK.out _ _ ?_
    clear hK K
    refine done_ (done_of HT_.out (by kernel_rfl)) ?_
    try go_wp2
    have n0_ : Aside0 ((w23.setCell ⟨gb286, 1, none⟩ (.int .i64 t292)).heap[gb283]? = some (.cells #[.int .i64 0, .int .i64 0] 91 (0, 0))) := ⟨by refine zf ?_ NB283_286; exact pK BK283.out⟩
    have n1_ : Aside0 ((w23.setCell ⟨gb286, 1, none⟩ (.int .i64 t292)).heap[gb284]? = some (.cells #[.int .i64 0, .int .i64 0] 91 (0, 0))) := ⟨by refine zf ?_ NB284_286; exact pK BK284.out⟩
    have n2_ : Aside0 ((w23.setCell ⟨gb286, 1, none⟩ (.int .i64 t292)).heap[gb286]? = some (.cells #[.int .i64 t290, .int .i64 t292] 91 (0, 0))) := ⟨by refine zg #[.int .i64 t290, .int .i64 x287001_1] 1 ?_; exact pK BK286.out⟩
    have n3_ : Aside0 ((w23.setCell ⟨gb286, 1, none⟩ (.int .i64 t292)).heap[gb288]? = some (.cells #[.int .i64 x289000_1, .int .i64 x289001_1] 91 (0, 0))) := ⟨by refine zf ?_ NB288_286; exact pK BK288.out⟩
    have n4_ : Aside0 (Below w.heap.size w (w23.setCell ⟨gb286, 1, none⟩ (.int .i64 t292))) := ⟨pB4 HB.out GE283.out GE284.out GE286.out GE288.out⟩
    (try clear BK283)
    (try clear BK284)
    (try clear BK286)
    (try clear BK288)
    (try clear HB)
    (try (repeat rw [mine_setCell_drewN]))
    generalize (w23.setCell ⟨gb286, 1, none⟩ (.int .i64 t292)) = w25 at n0_ n1_ n2_ n3_ n4_ ⊢
    have BK283 := n0_
    have BK284 := n1_
    have BK286 := n2_
    have BK288 := n3_
    have HB := n4_
    clear n0_ n1_ n2_ n3_ n4_
    (try (rw [drewN_self w25]; generalize hq_ : World.drewN w25 _ = w25; have n0_ : Aside0 (w25.heap[gb283]? = some (.cells #[.int .i64 0, .int .i64 0] 91 (0, 0))) := ⟨by rw [← hq_]; exact (pK BK283.out)⟩; have n1_ : Aside0 (w25.heap[gb284]? = some (.cells #[.int .i64 0, .int .i64 0] 91 (0, 0))) := ⟨by rw [← hq_]; exact (pK BK284.out)⟩; have n2_ : Aside0 (w25.heap[gb286]? = some (.cells #[.int .i64 t290, .int .i64 t292] 91 (0, 0))) := ⟨by rw [← hq_]; exact (pK BK286.out)⟩; have n3_ : Aside0 (w25.heap[gb288]? = some (.cells #[.int .i64 x289000_1, .int .i64 x289001_1] 91 (0, 0))) := ⟨by rw [← hq_]; exact (pK BK288.out)⟩; have n4_ : Aside0 (Below w.heap.size w w25) := ⟨by rw [← hq_]; exact (pB4 HB.out GE283.out GE284.out GE286.out GE288.out)⟩; clear BK283 BK284 BK286 BK288 HB hq_; have BK283 := n0_; have BK284 := n1_; have BK286 := n2_; have BK288 := n3_; have HB := n4_; clear n0_ n1_ n2_ n3_ n4_))
    (try (obtain ⟨hcq283_0, hfq283_0, hcq283_1, hfq283_1⟩ := zw2 BK283; obtain ⟨hcq284_0, hfq284_0, hcq284_1, hfq284_1⟩ := zw2 BK284; obtain ⟨hcq286_0, hfq286_0, hcq286_1, hfq286_1⟩ := zw2 BK286; obtain ⟨hcq288_0, hfq288_0, hcq288_1, hfq288_1⟩ := zw2 BK288))
    replace BK283 := Aside0.mk (blk_drew BK283.out)
    replace BK284 := Aside0.mk (blk_drew BK284.out)
    replace BK286 := Aside0.mk (blk_drew BK286.out)
    replace BK288 := Aside0.mk (blk_drew BK288.out)
    replace HB := Aside0.mk (below_drew1 HB.out)
    have p293 : 0 ≤ (x6_1 : Int) := zD
    have q293 : x6_1 < (l0.length : Int) := zD
    obtain ⟨ad293, e293, hx293_0, hx293_1⟩ := at_T91 HR0.out x6_1 p293 q293
    have hw293_1 := hx293_1
    have hw293_0 := hx293_0
    obtain rfl : ad285 = ad293 := (by injection e293)
    try replace hx293_0 := zH HB hx293_0
    try replace hx293_1 := zH HB hx293_1
    replace p293 := eq_true p293
    replace q293 := eq_true q293
    refine start_ (n := 10) (S := fun w' => w'.cell? ⟨gb288, 0, none⟩ = some (.int .i64 x289000_1) ∧ w'.cell? ⟨gb288, 1, none⟩ = some (.int .i64 x289001_1) ∧ w'.cell? (ad285.add ((x6_1).toNat * 2)) = some (.int .i64 ((rd_T91 l0 x6_1).f0)) ∧ w'.cell? ⟨(ad285.add ((x6_1).toNat * 2)).block, (ad285.add ((x6_1).toNat * 2)).off + 1, none⟩ = some (.int .i64 ((rd_T91 l0 x6_1).f1))) (ds := [9]) (Array.replicate 10 false) (by kernel_rfl) rfl rfl ⟨zQ BK288 0, zQ BK288 1, (zH HB hw293_0), (zH HB hw293_1)⟩ (fun hHeld => ?_); refine with_tabW spec_l03Bounds.tab8 spec_l03Bounds.bits8 (fun HT_ HW_ => ?_)
    generalize w25.drew = w26 at BK283 BK284 BK286 BK288 HB hx293_0 hx293_1 hHeld ⊢
    refine zP 0 (some 37) (zb 10 1) HT_ ?_
    refine zP 2 (some 39) (zb 10 5) HT_ ?_
    refine zP 3 (some 40) (zb 10 13) HT_ ?_
    refine zP 4 (some 41) (zb 10 29) HT_ ?_
    refine zP 5 (some 42) (zb 10 61) HT_ ?_
    refine zT4 1 (some 38) (zb 10 63) HT_ HW_ hHeld ?_
    refine zT4 6 (some 43) (zb 10 127) HT_ HW_ hHeld ?_
    refine one_ (i := 7) (N := some 44) (zb 10 255) rfl rfl (one_of HT_.out (by kernel_rfl)) (by decide) (fun K hK => ?_)
    refine goes_ Try.func105 (by kernel_rfl) rfl #[.int .i64 x289000_1, .int .i64 ((rd_T91 l0 x6_1).f0)] (by rfl) rfl rfl pA ?_
    with_reducible refine (spec_l00Max.calls x289000_1 ((rd_T91 l0 x6_1).f0) t294 _ A18.out).mono ?_
    rintro e w' ⟨rfl, ⟨nd, rfl⟩⟩
    refine ⟨_, rfl, ?_⟩
    refine hK.out _ _ ⟨zQ BK288 0, zQ BK288 1, (zH HB hw293_0), (zH HB hw293_1)⟩ (fun hHeld => ?_)
    clear hK K
    refine zN ?_
    refine zP 8 (some 45) (zb 10 511) HT_ ?_
    refine last_ (i := 9) (N := none) (zb 10 1023) rfl rfl (one_of HT_.out (by kernel_rfl)) (by decide) (fun K hK => ?_)
    have hs27 : w26.cell? ⟨gb288, 0, none⟩ = some (.int .i64 x289000_1) := zQ BK288 0
    have hfs27 := blk_frozen BK288.out 0
    have hns27_0 := NB283_288.out
    have hns27_1 := NB284_288.out
    have hns27_2 := NB286_288.out
    have hms27_0 := NB288_283.out
    have hms27_1 := NB288_284.out
    have hms27_2 := NB288_286.out
    refine skip_ (w1 := ?_) (by rfl) rfl ?_ ?_
    rotate_left
    · go_simp
      rfl
    refine hK.out _ _ ?_
    clear hK K
    refine done_ (done_of HT_.out (by kernel_rfl)) ?_
    try go_wp2
    have n0_ : Aside0 ((w26.setCell ⟨gb288, 0, none⟩ (.int .i64 t294)).heap[gb283]? = some (.cells #[.int .i64 0, .int .i64 0] 91 (0, 0))) := ⟨by refine zf ?_ NB283_288; exact pK BK283.out⟩
    have n1_ : Aside0 ((w26.setCell ⟨gb288, 0, none⟩ (.int .i64 t294)).heap[gb284]? = some (.cells #[.int .i64 0, .int .i64 0] 91 (0, 0))) := ⟨by refine zf ?_ NB284_288; exact pK BK284.out⟩
    have n2_ : Aside0 ((w26.setCell ⟨gb288, 0, none⟩ (.int .i64 t294)).heap[gb286]? = some (.cells #[.int .i64 t290, .int .i64 t292] 91 (0, 0))) := ⟨by refine zf ?_ NB286_288; exact pK BK286.out⟩
    have n3_ : Aside0 ((w26.setCell ⟨gb288, 0, none⟩ (.int .i64 t294)).heap[gb288]? = some (.cells #[.int .i64 t294, .int .i64 x289001_1] 91 (0, 0))) := ⟨by refine zg #[.int .i64 x289000_1, .int .i64 x289001_1] 0 ?_; exact pK BK288.out⟩
    have n4_ : Aside0 (Below w.heap.size w (w26.setCell ⟨gb288, 0, none⟩ (.int .i64 t294))) := ⟨pB4 HB.out GE283.out GE284.out GE286.out GE288.out⟩
    (try clear BK283)
    (try clear BK284)
    (try clear BK286)
    (try clear BK288)
    (try clear HB)
    (try (repeat rw [mine_setCell_drewN]))
    generalize (w26.setCell ⟨gb288, 0, none⟩ (.int .i64 t294)) = w28 at n0_ n1_ n2_ n3_ n4_ ⊢
    have BK283 := n0_
    have BK284 := n1_
    have BK286 := n2_
    have BK288 := n3_
    have HB := n4_
    clear n0_ n1_ n2_ n3_ n4_
    (try (rw [drewN_self w28]; generalize hq_ : World.drewN w28 _ = w28; have n0_ : Aside0 (w28.heap[gb283]? = some (.cells #[.int .i64 0, .int .i64 0] 91 (0, 0))) := ⟨by rw [← hq_]; exact (pK BK283.out)⟩; have n1_ : Aside0 (w28.heap[gb284]? = some (.cells #[.int .i64 0, .int .i64 0] 91 (0, 0))) := ⟨by rw [← hq_]; exact (pK BK284.out)⟩; have n2_ : Aside0 (w28.heap[gb286]? = some (.cells #[.int .i64 t290, .int .i64 t292] 91 (0, 0))) := ⟨by rw [← hq_]; exact (pK BK286.out)⟩; have n3_ : Aside0 (w28.heap[gb288]? = some (.cells #[.int .i64 t294, .int .i64 x289001_1] 91 (0, 0))) := ⟨by rw [← hq_]; exact (pK BK288.out)⟩; have n4_ : Aside0 (Below w.heap.size w w28) := ⟨by rw [← hq_]; exact (pB4 HB.out GE283.out GE284.out GE286.out GE288.out)⟩; clear BK283 BK284 BK286 BK288 HB hq_; have BK283 := n0_; have BK284 := n1_; have BK286 := n2_; have BK288 := n3_; have HB := n4_; clear n0_ n1_ n2_ n3_ n4_))
    (try (obtain ⟨hcq283_0, hfq283_0, hcq283_1, hfq283_1⟩ := zw2 BK283; obtain ⟨hcq284_0, hfq284_0, hcq284_1, hfq284_1⟩ := zw2 BK284; obtain ⟨hcq286_0, hfq286_0, hcq286_1, hfq286_1⟩ := zw2 BK286; obtain ⟨hcq288_0, hfq288_0, hcq288_1, hfq288_1⟩ := zw2 BK288))
    replace BK283 := Aside0.mk (blk_drew BK283.out)
    replace BK284 := Aside0.mk (blk_drew BK284.out)
    replace BK286 := Aside0.mk (blk_drew BK286.out)
    replace BK288 := Aside0.mk (blk_drew BK288.out)
    replace HB := Aside0.mk (below_drew1 HB.out)
    have p295 : 0 ≤ (x6_1 : Int) := zD
    have q295 : x6_1 < (l0.length : Int) := zD
    obtain ⟨ad295, e295, hx295_0, hx295_1⟩ := at_T91 HR0.out x6_1 p295 q295
    have hw295_1 := hx295_1
    have hw295_0 := hx295_0
    obtain rfl : ad285 = ad295 := (by injection e295)
    try replace hx295_0 := zH HB hx295_0
    try replace hx295_1 := zH HB hx295_1
    replace p295 := eq_true p295
    replace q295 := eq_true q295
    refine start_ (n := 10) (S := fun w' => w'.cell? ⟨gb288, 0, none⟩ = some (.int .i64 t294) ∧ w'.cell? ⟨gb288, 1, none⟩ = some (.int .i64 x289001_1) ∧ w'.cell? (ad285.add ((x6_1).toNat * 2)) = some (.int .i64 ((rd_T91 l0 x6_1).f0)) ∧ w'.cell? ⟨(ad285.add ((x6_1).toNat * 2)).block, (ad285.add ((x6_1).toNat * 2)).off + 1, none⟩ = some (.int .i64 ((rd_T91 l0 x6_1).f1))) (ds := [9]) (Array.replicate 10 false) (by kernel_rfl) rfl rfl ⟨zQ BK288 0, zQ BK288 1, (zH HB hw295_0), (zH HB hw295_1)⟩ (fun hHeld => ?_); refine with_tabW spec_l03Bounds.tab9 spec_l03Bounds.bits9 (fun HT_ HW_ => ?_)
    generalize w28.drew = w29 at BK283 BK284 BK286 BK288 HB hx295_0 hx295_1 hHeld ⊢
    refine zP 0 (some 46) (zb 10 1) HT_ ?_
    refine zP 2 (some 48) (zb 10 5) HT_ ?_
    refine zP 3 (some 49) (zb 10 13) HT_ ?_
    refine zP 4 (some 50) (zb 10 29) HT_ ?_
    refine zP 5 (some 51) (zb 10 61) HT_ ?_
    refine zT4 1 (some 47) (zb 10 63) HT_ HW_ hHeld ?_
    refine zT4 6 (some 52) (zb 10 127) HT_ HW_ hHeld ?_
    refine one_ (i := 7) (N := some 53) (zb 10 255) rfl rfl (one_of HT_.out (by kernel_rfl)) (by decide) (fun K hK => ?_)
    refine goes_ Try.func105 (by kernel_rfl) rfl #[.int .i64 x289001_1, .int .i64 ((rd_T91 l0 x6_1).f1)] (by rfl) rfl rfl pA ?_
    with_reducible refine (spec_l00Max.calls x289001_1 ((rd_T91 l0 x6_1).f1) t296 _ A19.out).mono ?_
    rintro e w' ⟨rfl, ⟨nd, rfl⟩⟩
    refine ⟨_, rfl, ?_⟩
    refine hK.out _ _ ⟨zQ BK288 0, zQ BK288 1, (zH HB hw295_0), (zH HB hw295_1)⟩ (fun hHeld => ?_)
    clear hK K
    refine zN ?_
    refine zP 8 (some 54) (zb 10 511) HT_ ?_
    refine last_ (i := 9) (N := none) (zb 10 1023) rfl rfl (one_of HT_.out (by kernel_rfl)) (by decide) (fun K hK => ?_)
    have hs30 : w29.cell? ⟨gb288, 1, none⟩ = some (.int .i64 x289001_1) := zQ BK288 1
    have hfs30 := blk_frozen BK288.out 1
    have hns30_0 := NB283_288.out
    have hns30_1 := NB284_288.out
    have hns30_2 := NB286_288.out
    have hms30_0 := NB288_283.out
    have hms30_1 := NB288_284.out
    have hms30_2 := NB288_286.out
    refine skip_ (w1 := ?_) (by rfl) rfl ?_ ?_
    rotate_left
    · go_simp
      rfl
    refine hK.out _ _ ?_
    clear hK K
    refine done_ (done_of HT_.out (by kernel_rfl)) ?_
    try go_wp2
    go_roundg k1
    case measure => have := HK1.out; omega
    case rel => exact ⟨(wrap64 (x6_1 + 1)), (t290), (t292), (t294), (t296), zR, H', ⟨by have := HK1.out; omega⟩, ⟨by refine zf ?_ NB283_288; exact pK BK283.out⟩, ⟨by refine zf ?_ NB284_288; exact pK BK284.out⟩, ⟨by refine zf ?_ NB286_288; exact pK BK286.out⟩, ⟨by refine zg #[.int .i64 t294, .int .i64 x289001_1] 1 ?_; exact pK BK288.out⟩, ⟨pB4 HB.out GE283.out GE284.out GE286.out GE288.out⟩⟩
end Go.Proofs.Ytfiiakhpdkdebaa.PFnExactTurnsThatFit

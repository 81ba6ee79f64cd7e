/- What each function that a law reaches comes to, and the proof that its walk comes to it; laid by a program of this session. No condition. -/
import Derived.Test.YtfiiakhpdkdebaaZFnExactOffcutsOf0
import Derived.Test.YtfiiakhpdkdebaaZFnExactOffcutsOf4
namespace Go.Proofs.Ytfiiakhpdkdebaa.PFnExactOffcutsOf
open Go.RowKit Go.Proofs.YtfiiakhpdkdebaaW.PrintWords Go.Proofs.YtfiiakhpdkdebaaW.PrintLast Go.Proofs.YtfiiakhpdkdebaaW.PrintMore
attribute [local go_sem] max2_int min2_int max_two min_two max_three min_three max_four min_four
set_option linter.unusedVariables false
set_option linter.unusedSimpArgs false
def spec_l03Bounds.l0 : Nat → List (S91) → Int → Int → Int → Int → Int → Option (Int × Int × Int × Int)
 | 0, _, _, _, _, _, _ => none
 | k + 1, x0, x6, x296000, x296001, x298000, x298001 => if x6 < (x0.length : Int) then (if 0 ≤ x6 then ((spec_l00Min.f x296000 ((rd_T91 x0 x6).f0)).bind fun t299 => ((spec_l00Min.f x296001 ((rd_T91 x0 x6).f1)).bind fun t301 => ((spec_l00Max.f x298000 ((rd_T91 x0 x6).f0)).bind fun t303 => ((spec_l00Max.f x298001 ((rd_T91 x0 x6).f1)).bind fun t305 => (spec_l03Bounds.l0 k x0 (wrap64 (x6 + 1)) t299 t301 t303 t305))))) else (none)) else (some (x296000, x296001, x298000, x298001))
def spec_l03Bounds.f (k : Nat) (l0 : List (S91)) : Option (Int × Int × Int × Int) := if 0 < (l0.length : Int) then (spec_l03Bounds.l0 k l0 1 ((rd_T91 l0 0).f0) ((rd_T91 l0 0).f1) ((rd_T91 l0 0).f0) ((rd_T91 l0 0).f1)) else (none)
theorem spec_l03Bounds.mono_l : ∀ k, (∀ y0 y1 y2 y3 y4 y5, LeO (spec_l03Bounds.l0 k y0 y1 y2 y3 y4 y5) (spec_l03Bounds.l0 (k + 1) y0 y1 y2 y3 y4 y5))
 | 0 => fun _ _ _ _ _ _ r h => by simp [spec_l03Bounds.l0] at h
 | k + 1 => by
   have ih0 := spec_l03Bounds.mono_l k
   · intro y0 y1 y2 y3 y4 y5
     unfold spec_l03Bounds.l0
     repeat' first
     | (with_reducible exact ih0 _ _ _ _ _ _)
     | (with_reducible exact LeO.refl _)
     | (with_reducible exact LeO.none _)
     | (with_reducible refine LeO.ite ?_ ?_)
     | (with_reducible refine LeO.bind ?_ (fun _ => ?_))
     | exact ih0 _ _ _ _ _ _
     | exact LeO.none _
     | refine LeO.ite ?_ ?_
     | refine LeO.bind ?_ (fun _ => ?_)
theorem spec_l03Bounds.mono : ∀ a0 k, LeO (spec_l03Bounds.f k a0) (spec_l03Bounds.f (k + 1) a0) := by
 intro a0 k; have ih0 := spec_l03Bounds.mono_l k; unfold spec_l03Bounds.f
 repeat' first
  | (with_reducible exact ih0 _ _ _ _ _ _)
  | (with_reducible exact LeO.refl _)
  | (with_reducible exact LeO.none _)
  | (with_reducible refine LeO.ite ?_ ?_)
  | (with_reducible refine LeO.bind ?_ (fun _ => ?_))
  | exact ih0 _ _ _ _ _ _
  | exact LeO.none _
  | refine LeO.ite ?_ ?_
  | refine LeO.bind ?_ (fun _ => ?_)
def spec_l03Bounds.T6 : Bool × List (List Nat × List Nat) := (true, [([], []), ([0], [0]), ([], []), ([], []), ([2, 3], [2, 3]), ([4], [4]), ([5], [5]), ([1, 6], [1, 6]), ([0, 1, 2, 3, 4, 5, 6, 7], []), ([8, 7, 7, 0, 1, 2, 3, 4, 5, 6, 7], [7, 8])])
def spec_l03Bounds.B6 : List Nat := [0, 1, 0, 0, 12, 28, 60, 127, 255, 511]
theorem spec_l03Bounds.tab6 : rtab .any (opsOf Try.f60 6) = spec_l03Bounds.T6 := by kernel_rfl
theorem spec_l03Bounds.bits6 : waitsOk spec_l03Bounds.T6.2 spec_l03Bounds.B6 = true := by kernel_rfl
def spec_l03Bounds.T7 : Bool × List (List Nat × List Nat) := (true, [([], []), ([0], [0]), ([], []), ([], []), ([2, 3], [2, 3]), ([4], [4]), ([5], [5]), ([1, 6], [1, 6]), ([0, 1, 2, 3, 4, 5, 6, 7], []), ([8, 7, 7, 0, 1, 2, 3, 4, 5, 6, 7], [7, 8])])
def spec_l03Bounds.B7 : List Nat := [0, 1, 0, 0, 12, 28, 60, 127, 255, 511]
theorem spec_l03Bounds.tab7 : rtab .any (opsOf Try.f60 7) = spec_l03Bounds.T7 := by kernel_rfl
theorem spec_l03Bounds.bits7 : waitsOk spec_l03Bounds.T7.2 spec_l03Bounds.B7 = true := by kernel_rfl
def spec_l03Bounds.T8 : Bool × List (List Nat × List Nat) := (true, [([], []), ([0], [0]), ([], []), ([], []), ([2, 3], [2, 3]), ([4], [4]), ([5], [5]), ([1, 6], [1, 6]), ([0, 1, 2, 3, 4, 5, 6, 7], []), ([8, 7, 7, 0, 1, 2, 3, 4, 5, 6, 7], [7, 8])])
def spec_l03Bounds.B8 : List Nat := [0, 1, 0, 0, 12, 28, 60, 127, 255, 511]
theorem spec_l03Bounds.tab8 : rtab .any (opsOf Try.f60 8) = spec_l03Bounds.T8 := by kernel_rfl
theorem spec_l03Bounds.bits8 : waitsOk spec_l03Bounds.T8.2 spec_l03Bounds.B8 = true := by kernel_rfl
def spec_l03Bounds.T9 : Bool × List (List Nat × List Nat) := (true, [([], []), ([0], [0]), ([], []), ([], []), ([2, 3], [2, 3]), ([4], [4]), ([5], [5]), ([1, 6], [1, 6]), ([0, 1, 2, 3, 4, 5, 6, 7], []), ([8, 7, 7, 0, 1, 2, 3, 4, 5, 6, 7], [7, 8])])
def spec_l03Bounds.B9 : List Nat := [0, 1, 0, 0, 12, 28, 60, 127, 255, 511]
theorem spec_l03Bounds.tab9 : rtab .any (opsOf Try.f60 9) = spec_l03Bounds.T9 := by kernel_rfl
theorem spec_l03Bounds.bits9 : waitsOk spec_l03Bounds.T9.2 spec_l03Bounds.B9 = true := by kernel_rfl
set_option maxHeartbeats 8000000 in
set_option maxRecDepth 100000 in
theorem spec_l03Bounds.calls (k : Nat) (A0 : Option Addr) (c0 : Nat) (l0 : List (S91)) (r1 : Int) (r2 : Int) (r3 : Int) (r4 : Int) (w : World) (hr0 : Kd.C k91 w A0 l0.length l0) (hc0 : l0.length ≤ c0) (h : spec_l03Bounds.f k l0 = some (r1, r2, r3, r4)) :
 Calls Try.prog 60 #[.slice A0 l0.length c0] w fun e w' => e = .returned (.tuple #[.agg #[.int .i64 r1, .int .i64 r2], .agg #[.int .i64 r3, .int .i64 r4]]) ∧ Below w.heap.size w w' := by
 have hu91 := Try.underlying91; have HR0 := Aside0.mk hr0; have HC0 := Aside0.mk hc0; clear hr0 hc0; have HB := Aside0.mk (Below.refl w.heap.size w); have H : (if 0 < (l0.length : Int) then (spec_l03Bounds.l0 k l0 1 ((rd_T91 l0 0).f0) ((rd_T91 l0 0).f1) ((rd_T91 l0 0).f0) ((rd_T91 l0 0).f1)) else (none)) = some (r1, r2, r3, r4) := h; clear h
 by_cases c2 : 0 < (l0.length : Int)
 rotate_left
 · rw [if_neg c2] at H
   exact absurd H (by simp)
 rw [if_pos c2] at H; have c2b0 := decide_eq_true c2
 have c2b1 : decide (0 < l0.length) = true := decide_eq_true (by omega)
 clear c2; have H' := Aside0.mk H; clear H
 go_enter Try.func60, Try.ntmps60
 go_wp2_with (first | ((with_reducible refine zI 2 rfl ?_); refine zB 2 #[.int .i64 0, .int .i64 0] 91 ?_; intro gb292 hg w3 hbox hb; have BK292 := Aside0.mk (hbox); have GW292 := zS (pB0 HB.out) hg; have GE292 := GW292; replace HB := zW (pB0 HB.out) hb; clear hb hbox hg) | ((with_reducible refine zI 3 rfl ?_); refine zB 3 #[.int .i64 0, .int .i64 0] 91 ?_; intro gb293 hg w4 hbox hb; have BK293 := Aside0.mk (hbox); have GW293 := zS (pB1 HB.out GE292.out) hg; have GE293 := GW293; have NB292_293 := zL BK292 hg; have NB293_292 := zM BK292 hg; replace BK292 := zK BK292 hb; replace HB := zW (pB1 HB.out GE292.out) hb; clear hb hbox hg; have p294 : 0 ≤ (0 : Int) := (by omega); have q294 : 0 < (l0.length : Int) := zD; obtain ⟨ad294, e294, hx294_0, hx294_1⟩ := at_T91 HR0.out 0 p294 q294; cases e294; have qi294 : (0 < l0.length) = True := eq_true (by omega); (try rw [z0] at hx294_0); (try rw [Nat.zero_mul] at hx294_0); (try rw [Addr.add_zero'] at hx294_0); (try rw [z0] at hx294_1); (try rw [Nat.zero_mul] at hx294_1); (try rw [Addr.add_zero'] at hx294_1); try replace hx294_0 := zH HB hx294_0; try replace hx294_1 := zH HB hx294_1; replace p294 := eq_true p294; replace q294 := eq_true q294) | ((with_reducible refine zI 4 rfl ?_); refine zB 4 #[.int .i64 0, .int .i64 0] 91 ?_; intro gb295 hg w5 hbox hb; have BK295 := Aside0.mk (hbox); have GW295 := zS (pB2 HB.out GE292.out GE293.out) hg; have GE295 := GW295; have NB292_295 := zL BK292 hg; have NB295_292 := zM BK292 hg; have NB293_295 := zL BK293 hg; have NB295_293 := zM BK293 hg; replace BK292 := zK BK292 hb; replace BK293 := zK BK293 hb; replace HB := zW (pB2 HB.out GE292.out GE293.out) hb; clear hb hbox hg; have hnb6 := NB295_292.out; have hnc6 := NB292_295.out; have hnb7 := NB295_293.out; have hnc7 := NB293_295.out; obtain ⟨Y8_0, X8_0, Y8_1, X8_1⟩ := zw2 BK295; have p296 : 0 ≤ (0 : Int) := (by omega); have q296 : 0 < (l0.length : Int) := zD; obtain ⟨ad296, e296, hx296_0, hx296_1⟩ := at_T91 HR0.out 0 p296 q296; obtain rfl : ad294 = ad296 := (by injection e296); have qi296 : (0 < l0.length) = True := eq_true (by omega); (try rw [z0] at hx296_0); (try rw [Nat.zero_mul] at hx296_0); (try rw [Addr.add_zero'] at hx296_0); (try rw [z0] at hx296_1); (try rw [Nat.zero_mul] at hx296_1); (try rw [Addr.add_zero'] at hx296_1); have hn296_0 : ad294.block ≠ gb295 := Nat.ne_of_lt (Nat.lt_of_lt_of_le (by have := World.block_lt_of_cell? _ _ hx296_0; first | rwa [add_block] at this | exact this) GW295.out); have hn296_1 : ad294.block ≠ gb295 := Nat.ne_of_lt (Nat.lt_of_lt_of_le (by have := World.block_lt_of_cell? _ _ hx296_0; first | rwa [add_block] at this | exact this) GW295.out); try replace hx296_0 := zH HB hx296_0; try replace hx296_1 := zH HB hx296_1; replace hx296_0 := (cell_far (p := ⟨gb295, 0, none⟩) (by first | (rw [add_block]; exact hn296_0) | (show (Addr.add _ _).block ≠ _; rw [add_block]; exact hn296_0) | exact hn296_0) (.int .i64 ((rd_T91 l0 0).f0))).trans hx296_0; replace hx296_1 := (cell_far (p := ⟨gb295, 0, none⟩) (by first | (rw [add_block]; exact hn296_0) | (show (Addr.add _ _).block ≠ _; rw [add_block]; exact hn296_0) | exact hn296_0) (.int .i64 ((rd_T91 l0 0).f0))).trans hx296_1; replace hx296_0 := (cell_far (p := ⟨gb295, 1, none⟩) (by first | (rw [add_block]; exact hn296_1) | (show (Addr.add _ _).block ≠ _; rw [add_block]; exact hn296_1) | exact hn296_1) (.int .i64 ((rd_T91 l0 0).f1))).trans hx296_0; replace hx296_1 := (cell_far (p := ⟨gb295, 1, none⟩) (by first | (rw [add_block]; exact hn296_1) | (show (Addr.add _ _).block ≠ _; rw [add_block]; exact hn296_1) | exact hn296_1) (.int .i64 ((rd_T91 l0 0).f1))).trans hx296_1; clear hn296_0; clear hn296_1; replace p296 := eq_true p296; replace q296 := eq_true q296) | ((with_reducible refine zI 5 rfl ?_); refine zB 5 #[.int .i64 0, .int .i64 0] 91 ?_; intro gb297 hg w9 hbox hb; have BK297 := Aside0.mk (hbox); have GW297 := zS (pB3 HB.out GE292.out GE293.out GE295.out) hg; have GE297 := GW297; have NB292_297 := Aside0.mk ((by rw [hg]; exact Nat.ne_of_lt (blk_lt (g := gb292) (o := .cells #[.int .i64 0, .int .i64 0] 91 (0, 0)) (by refine zf ?_ NB292_295; refine zf ?_ NB292_295; exact pK BK292.out)) : gb292 ≠ gb297)); have NB297_292 := Aside0.mk ((by rw [hg]; exact Nat.ne_of_gt (blk_lt (g := gb292) (o := .cells #[.int .i64 0, .int .i64 0] 91 (0, 0)) (by refine zf ?_ NB292_295; refine zf ?_ NB292_295; exact pK BK292.out)) : gb297 ≠ gb292)); have NB293_297 := Aside0.mk ((by rw [hg]; exact Nat.ne_of_lt (blk_lt (g := gb293) (o := .cells #[.int .i64 0, .int .i64 0] 91 (0, 0)) (by refine zf ?_ NB293_295; refine zf ?_ NB293_295; exact pK BK293.out)) : gb293 ≠ gb297)); have NB297_293 := Aside0.mk ((by rw [hg]; exact Nat.ne_of_gt (blk_lt (g := gb293) (o := .cells #[.int .i64 0, .int .i64 0] 91 (0, 0)) (by refine zf ?_ NB293_295; refine zf ?_ NB293_295; exact pK BK293.out)) : gb297 ≠ gb293)); have NB295_297 := Aside0.mk ((by rw [hg]; exact Nat.ne_of_lt (blk_lt (g := gb295) (o := .cells #[.int .i64 ((rd_T91 l0 0).f0), .int .i64 ((rd_T91 l0 0).f1)] 91 (0, 0)) (by refine zg #[.int .i64 ((rd_T91 l0 0).f0), .int .i64 0] 1 ?_; refine zg #[.int .i64 0, .int .i64 0] 0 ?_; exact pK BK295.out)) : gb295 ≠ gb297)); have NB297_295 := Aside0.mk ((by rw [hg]; exact Nat.ne_of_gt (blk_lt (g := gb295) (o := .cells #[.int .i64 ((rd_T91 l0 0).f0), .int .i64 ((rd_T91 l0 0).f1)] 91 (0, 0)) (by refine zg #[.int .i64 ((rd_T91 l0 0).f0), .int .i64 0] 1 ?_; refine zg #[.int .i64 0, .int .i64 0] 0 ?_; exact pK BK295.out)) : gb297 ≠ gb295)); replace BK292 := Aside0.mk (blk_below (g := gb292) (o := .cells #[.int .i64 0, .int .i64 0] 91 (0, 0)) (by refine zf ?_ NB292_295; refine zf ?_ NB292_295; exact pK BK292.out) hb); replace BK293 := Aside0.mk (blk_below (g := gb293) (o := .cells #[.int .i64 0, .int .i64 0] 91 (0, 0)) (by refine zf ?_ NB293_295; refine zf ?_ NB293_295; exact pK BK293.out) hb); replace BK295 := Aside0.mk (blk_below (g := gb295) (o := .cells #[.int .i64 ((rd_T91 l0 0).f0), .int .i64 ((rd_T91 l0 0).f1)] 91 (0, 0)) (by refine zg #[.int .i64 ((rd_T91 l0 0).f0), .int .i64 0] 1 ?_; refine zg #[.int .i64 0, .int .i64 0] 0 ?_; exact pK BK295.out) hb); replace HB := zW (pB3 HB.out GE292.out GE293.out GE295.out) hb; clear hb hbox hg; have hnb10 := NB297_292.out; have hnc10 := NB292_297.out; have hnb11 := NB297_293.out; have hnc11 := NB293_297.out; have hnb12 := NB297_295.out; have hnc12 := NB295_297.out; obtain ⟨Y13_0, X13_0, Y13_1, X13_1⟩ := zw2 BK297))
 go_loopg [6] k (fun kq v6 w' => ∃ (x6_1 : Int) (x296000_1 : Int) (x296001_1 : Int) (x298000_1 : Int) (x298001_1 : Int), v6 = .int .i64 x6_1 ∧ Aside0 (spec_l03Bounds.l0 kq l0 x6_1 x296000_1 x296001_1 x298000_1 x298001_1 = some (r1, r2, r3, r4)) ∧ Aside0 (kq ≤ k) ∧ Aside0 (w'.heap[gb292]? = some (.cells #[.int .i64 0, .int .i64 0] 91 (0, 0))) ∧ Aside0 (w'.heap[gb293]? = some (.cells #[.int .i64 0, .int .i64 0] 91 (0, 0))) ∧ Aside0 (w'.heap[gb295]? = some (.cells #[.int .i64 x296000_1, .int .i64 x296001_1] 91 (0, 0))) ∧ Aside0 (w'.heap[gb297]? = some (.cells #[.int .i64 x298000_1, .int .i64 x298001_1] 91 (0, 0))) ∧ Aside0 (Below w.heap.size w w'))
 case atStart => exact ⟨(1), ((rd_T91 l0 0).f0), ((rd_T91 l0 0).f1), ((rd_T91 l0 0).f0), ((rd_T91 l0 0).f1), zR, H', ⟨Nat.le_refl _⟩, ⟨by refine zf ?_ NB292_297; refine zf ?_ NB292_297; exact pK BK292.out⟩, ⟨by refine zf ?_ NB293_297; refine zf ?_ NB293_297; exact pK BK293.out⟩, ⟨by refine zf ?_ NB295_297; refine zf ?_ NB295_297; exact pK BK295.out⟩, ⟨by refine zg #[.int .i64 ((rd_T91 l0 0).f0), .int .i64 0] 1 ?_; refine zg #[.int .i64 0, .int .i64 0] 0 ?_; exact pK BK297.out⟩, ⟨pB4 HB.out GE292.out GE293.out GE295.out GE297.out⟩⟩
 case round =>
  clear H'; (try clear c1); (try clear c2); (try clear c2b0); (try clear c2b1); (try clear p2); (try clear q2); (try clear hx2); (try clear qi2); (try clear c6); (try clear c7); (try clear c10); (try clear c11); (try clear c12); (try clear Y13_0 Y13_1); (try clear Y8_0 Y8_1); (try clear X13_0 X13_1); (try clear X8_0 X8_1); (try clear hx294_0); (try clear hx294_1); (try clear hx296_0); (try clear hx296_1); (try clear p294); (try clear p296); (try clear q294); (try clear q296); obtain ⟨x6_1, x296000_1, x296001_1, x298000_1, x298001_1, rfl, HA, HK1, BK292, BK293, BK295, BK297, HB⟩ := hrel
  cases gk with
  | zero => exact absurd HA.out (by simp [spec_l03Bounds.l0])
  | succ k1 =>
    have H := HA.out; clear HA; simp only [spec_l03Bounds.l0] at H
    by_cases c14 : x6_1 < (l0.length : Int)
    rotate_left
    · rw [if_neg c14] at H
      have c14b0 := decide_eq_false c14; clear c14; simp only [Option.some.injEq, Prod.mk.injEq] at H; obtain ⟨rfl, rfl, rfl, rfl⟩ := H
      try go_wp2
      replace BK292 := Aside0.mk (blk_drew BK292.out); replace BK293 := Aside0.mk (blk_drew BK293.out); replace BK295 := Aside0.mk (blk_drew BK295.out); replace BK297 := Aside0.mk (blk_drew BK297.out); replace HB := Aside0.mk (below_drew1 HB.out)
      refine start_ (n := 4) (S := fun w' => w'.cell? ⟨gb295, 0, none⟩ = some (.int .i64 x296000_1) ∧ w'.cell? ⟨gb295, 1, none⟩ = some (.int .i64 x296001_1) ∧ w'.cell? ⟨gb297, 0, none⟩ = some (.int .i64 x298000_1) ∧ w'.cell? ⟨gb297, 1, none⟩ = some (.int .i64 x298001_1)) (ds := []) (Array.replicate 4 false) (by kernel_rfl) rfl rfl ⟨zQ BK295 0, zQ BK295 1, zQ BK297 0, zQ BK297 1⟩ (fun hHeld => ?_)
      generalize wr.drew = w31 at BK292 BK293 BK295 BK297 HB hHeld ⊢
      refine take_ (i := 0) (N := some 55) (v := ?_) (a' := ?_) #[true, false, false, false] rfl rfl (by kernel_rfl) (fun _ _ _ h => h) (Or.inl ⟨by rfl, ?_⟩) hHeld ?_ ?_
      rotate_left
      · rintro w' ⟨s0, s1, s2, s3⟩
        go_simp; with_reducible rfl
      rotate_left
      · simp only [Act.put, List.setIfInBounds_toArray, List.set_cons_zero, List.set_cons_succ, i64_w, i32_w]
        rfl
      refine take_ (i := 1) (N := some 56) (v := ?_) (a' := ?_) #[true, true, false, false] rfl rfl (by kernel_rfl) (fun _ _ _ h => h) (Or.inl ⟨by rfl, ?_⟩) hHeld ?_ ?_
      rotate_left
      · rintro w' ⟨s0, s1, s2, s3⟩
        go_simp; with_reducible rfl
      rotate_left
      · simp only [Act.put, List.setIfInBounds_toArray, List.set_cons_zero, List.set_cons_succ, i64_w, i32_w]
        rfl
      refine one_ (i := 2) (N := none) (zb 4 7) rfl rfl (by kernel_rfl) (by decide) (fun K hK => ?_)
      have hs32 : w31.cell? ⟨gb292, 0, none⟩ = some (.int .i64 0) := zQ BK292 0; have hfs32 := blk_frozen BK292.out 0; have hns32_1 := NB293_292.out; have hns32_2 := NB295_292.out; have hns32_3 := NB297_292.out; have hms32_1 := NB292_293.out; have hms32_2 := NB292_295.out; have hms32_3 := NB292_297.out; have hs33 : w31.cell? ⟨gb292, 1, none⟩ = some (.int .i64 0) := zQ BK292 1; have hfs33 := blk_frozen BK292.out 1; have hns33_1 := NB293_292.out; have hns33_2 := NB295_292.out; have hns33_3 := NB297_292.out; have hms33_1 := NB292_293.out; have hms33_2 := NB292_295.out; have hms33_3 := NB292_297.out
      refine skip_ (w1 := ?_) (by rfl) rfl ?_ ?_
      rotate_left
      · go_simp
        rfl
      refine hK.out _ _ ⟨((cell_far (p := ⟨gb292, _, none⟩) NB295_292.out _).trans (((cell_far (p := ⟨gb292, _, none⟩) NB295_292.out _).trans (hHeld.1)))), ((cell_far (p := ⟨gb292, _, none⟩) NB295_292.out _).trans (((cell_far (p := ⟨gb292, _, none⟩) NB295_292.out _).trans (hHeld.2.1)))), ((cell_far (p := ⟨gb292, _, none⟩) NB297_292.out _).trans (((cell_far (p := ⟨gb292, _, none⟩) NB297_292.out _).trans (hHeld.2.2.1)))), ((cell_far (p := ⟨gb292, _, none⟩) NB297_292.out _).trans (((cell_far (p := ⟨gb292, _, none⟩) NB297_292.out _).trans (hHeld.2.2.2))))⟩ (fun hHeld => ?_)
      clear hK K
      refine one_ (i := 3) (N := none) (zb 4 15) rfl rfl (by kernel_rfl) (by decide) (fun K hK => ?_)
      have hs34 : w31.cell? ⟨gb293, 0, none⟩ = some (.int .i64 0) := zQ BK293 0; have hfs34 := blk_frozen BK293.out 0; have hns34_0 := NB292_293.out; have hns34_2 := NB295_293.out; have hns34_3 := NB297_293.out; have hms34_0 := NB293_292.out; have hms34_2 := NB293_295.out; have hms34_3 := NB293_297.out; have hs35 : w31.cell? ⟨gb293, 1, none⟩ = some (.int .i64 0) := zQ BK293 1; have hfs35 := blk_frozen BK293.out 1; have hns35_0 := NB292_293.out; have hns35_2 := NB295_293.out; have hns35_3 := NB297_293.out; have hms35_0 := NB293_292.out; have hms35_2 := NB293_295.out; have hms35_3 := NB293_297.out
      refine skip_ (w1 := ?_) (by rfl) rfl ?_ ?_
      rotate_left
      · go_simp
        rfl
      refine hK.out _ _ ⟨((cell_far (p := ⟨gb293, _, none⟩) NB295_293.out _).trans (((cell_far (p := ⟨gb293, _, none⟩) NB295_293.out _).trans (hHeld.1)))), ((cell_far (p := ⟨gb293, _, none⟩) NB295_293.out _).trans (((cell_far (p := ⟨gb293, _, none⟩) NB295_293.out _).trans (hHeld.2.1)))), ((cell_far (p := ⟨gb293, _, none⟩) NB297_293.out _).trans (((cell_far (p := ⟨gb293, _, none⟩) NB297_293.out _).trans (hHeld.2.2.1)))), ((cell_far (p := ⟨gb293, _, none⟩) NB297_293.out _).trans (((cell_far (p := ⟨gb293, _, none⟩) NB297_293.out _).trans (hHeld.2.2.2))))⟩ (fun hHeld => ?_)
      clear hK K
      refine done_ (by kernel_rfl) ?_
      try go_wp2
      refine bodyPost_ret (results_cc rfl _ _ gb292 gb293 91 91 #[.int .i64 x296000_1, .int .i64 x296001_1] #[.int .i64 x298000_1, .int .i64 x298001_1] (0, 0) (0, 0) _ _ rfl (by refine zf ?_ NB292_293; refine zf ?_ NB292_293; refine zg #[.int .i64 x296000_1, .int .i64 0] 1 ?_; refine zg #[.int .i64 0, .int .i64 0] 0 ?_; exact pK BK292.out) Try.underlying91 rfl (by kernel_rfl) rfl (by refine zg #[.int .i64 x298000_1, .int .i64 0] 1 ?_; refine zg #[.int .i64 0, .int .i64 0] 0 ?_; refine zf ?_ NB293_292; refine zf ?_ NB293_292; exact pK BK293.out) Try.underlying91 rfl (by kernel_rfl)) rfl ?_
      exact ⟨zE, pB4 HB.out GE292.out GE293.out GE295.out GE297.out⟩
    rw [if_pos c14] at H; have c14b0 := decide_eq_true c14; clear c14
    by_cases c15 : 0 ≤ x6_1
    rotate_left
    · rw [if_neg c15] at H
      exact absurd H (by simp)
    rw [if_pos c15] at H; have c15b0 := decide_eq_true c15; clear c15; replace H := Option.bind_eq_some_iff.mp H; obtain ⟨t299, A160, H⟩ := H; have A16 := Aside0.mk A160; clear A160; replace H := Option.bind_eq_some_iff.mp H; obtain ⟨t301, A170, H⟩ := H; have A17 := Aside0.mk A170; clear A170; replace H := Option.bind_eq_some_iff.mp H; obtain ⟨t303, A180, H⟩ := H; have A18 := Aside0.mk A180; clear A180; replace H := Option.bind_eq_some_iff.mp H; obtain ⟨t305, A190, H⟩ := H; have A19 := Aside0.mk A190; clear A190; have H' := Aside0.mk H; clear H
    try go_wp2
    replace BK292 := Aside0.mk (blk_drew BK292.out); replace BK293 := Aside0.mk (blk_drew BK293.out); replace BK295 := Aside0.mk (blk_drew BK295.out); replace BK297 := Aside0.mk (blk_drew BK297.out); replace HB := Aside0.mk (below_drew1 HB.out); have p298 : 0 ≤ (x6_1 : Int) := zD; have q298 : x6_1 < (l0.length : Int) := zD; obtain ⟨ad298, e298, hx298_0, hx298_1⟩ := at_T91 HR0.out x6_1 p298 q298; have hw298_1 := hx298_1; have hw298_0 := hx298_0
    obtain rfl : ad294 = ad298 := (by injection e298)
    try replace hx298_0 := zH HB hx298_0
    try replace hx298_1 := zH HB hx298_1
    replace p298 := eq_true p298; replace q298 := eq_true q298
    refine start_ (n := 10) (S := fun w' => w'.cell? ⟨gb295, 0, none⟩ = some (.int .i64 x296000_1) ∧ w'.cell? ⟨gb295, 1, none⟩ = some (.int .i64 x296001_1) ∧ w'.cell? (ad294.add ((x6_1).toNat * 2)) = some (.int .i64 ((rd_T91 l0 x6_1).f0)) ∧ w'.cell? ⟨(ad294.add ((x6_1).toNat * 2)).block, (ad294.add ((x6_1).toNat * 2)).off + 1, none⟩ = some (.int .i64 ((rd_T91 l0 x6_1).f1))) (ds := [9]) (Array.replicate 10 false) (by kernel_rfl) rfl rfl ⟨zQ BK295 0, zQ BK295 1, (zH HB hw298_0), (zH HB hw298_1)⟩ (fun hHeld => ?_); refine with_tabW spec_l03Bounds.tab6 spec_l03Bounds.bits6 (fun HT_ HW_ => ?_)
    generalize wr.drew = w20 at BK292 BK293 BK295 BK297 HB hx298_0 hx298_1 hHeld ⊢
    refine zP 0 (some 19) (zb 10 1) HT_ ?_; refine zP 2 (some 21) (zb 10 5) HT_ ?_; refine zP 3 (some 22) (zb 10 13) HT_ ?_; refine zP 4 (some 23) (zb 10 29) HT_ ?_; refine zP 5 (some 24) (zb 10 61) HT_ ?_; refine zT4 1 (some 20) (zb 10 63) HT_ HW_ hHeld ?_; refine zT4 6 (some 25) (zb 10 127) HT_ HW_ hHeld ?_
    refine one_ (i := 7) (N := some 26) (zb 10 255) rfl rfl (one_of HT_.out (by kernel_rfl)) (by decide) (fun K hK => ?_)
    refine goes_ Try.func104 (by kernel_rfl) rfl #[.int .i64 x296000_1, .int .i64 ((rd_T91 l0 x6_1).f0)] (by rfl) rfl rfl pA ?_
    with_reducible refine (spec_l00Min.calls x296000_1 ((rd_T91 l0 x6_1).f0) t299 _ A16.out).mono ?_; rintro e w' ⟨rfl, ⟨nd, rfl⟩⟩; refine ⟨_, rfl, ?_⟩
    refine hK.out _ _ ⟨zQ BK295 0, zQ BK295 1, (zH HB hw298_0), (zH HB hw298_1)⟩ (fun hHeld => ?_)
    clear hK K; refine zN ?_; refine zP 8 (some 27) (zb 10 511) HT_ ?_
    refine last_ (i := 9) (N := none) (zb 10 1023) rfl rfl (one_of HT_.out (by kernel_rfl)) (by decide) (fun K hK => ?_)
    have hs21 : w20.cell? ⟨gb295, 0, none⟩ = some (.int .i64 x296000_1) := zQ BK295 0; have hfs21 := blk_frozen BK295.out 0; have hns21_0 := NB292_295.out; have hns21_1 := NB293_295.out; have hns21_3 := NB297_295.out; have hms21_0 := NB295_292.out; have hms21_1 := NB295_293.out; have hms21_3 := NB295_297.out
    refine skip_ (w1 := ?_) (by rfl) rfl ?_ ?_
    rotate_left
    · go_simp
      rfl
    refine hK.out _ _ ?_; clear hK K
    refine done_ (done_of HT_.out (by kernel_rfl)) ?_
    try go_wp2
    have n0_ : Aside0 ((w20.setCell ⟨gb295, 0, none⟩ (.int .i64 t299)).heap[gb292]? = some (.cells #[.int .i64 0, .int .i64 0] 91 (0, 0))) := ⟨by refine zf ?_ NB292_295; exact pK BK292.out⟩
    have n1_ : Aside0 ((w20.setCell ⟨gb295, 0, none⟩ (.int .i64 t299)).heap[gb293]? = some (.cells #[.int .i64 0, .int .i64 0] 91 (0, 0))) := ⟨by refine zf ?_ NB293_295; exact pK BK293.out⟩
    have n2_ : Aside0 ((w20.setCell ⟨gb295, 0, none⟩ (.int .i64 t299)).heap[gb295]? = some (.cells #[.int .i64 t299, .int .i64 x296001_1] 91 (0, 0))) := ⟨by refine zg #[.int .i64 x296000_1, .int .i64 x296001_1] 0 ?_; exact pK BK295.out⟩
    have n3_ : Aside0 ((w20.setCell ⟨gb295, 0, none⟩ (.int .i64 t299)).heap[gb297]? = some (.cells #[.int .i64 x298000_1, .int .i64 x298001_1] 91 (0, 0))) := ⟨by refine zf ?_ NB297_295; exact pK BK297.out⟩
    have n4_ : Aside0 (Below w.heap.size w (w20.setCell ⟨gb295, 0, none⟩ (.int .i64 t299))) := ⟨pB4 HB.out GE292.out GE293.out GE295.out GE297.out⟩; (try clear BK292); (try clear BK293); (try clear BK295); (try clear BK297); (try clear HB); (try (repeat rw [mine_setCell_drewN]))
    generalize (w20.setCell ⟨gb295, 0, none⟩ (.int .i64 t299)) = w22 at n0_ n1_ n2_ n3_ n4_ ⊢
    have BK292 := n0_; have BK293 := n1_; have BK295 := n2_; have BK297 := n3_; have HB := n4_; clear n0_ n1_ n2_ n3_ n4_
    (try (rw [drewN_self w22]; generalize hq_ : World.drewN w22 _ = w22; have n0_ : Aside0 (w22.heap[gb292]? = some (.cells #[.int .i64 0, .int .i64 0] 91 (0, 0))) := ⟨by rw [← hq_]; exact (pK BK292.out)⟩; have n1_ : Aside0 (w22.heap[gb293]? = some (.cells #[.int .i64 0, .int .i64 0] 91 (0, 0))) := ⟨by rw [← hq_]; exact (pK BK293.out)⟩; have n2_ : Aside0 (w22.heap[gb295]? = some (.cells #[.int .i64 t299, .int .i64 x296001_1] 91 (0, 0))) := ⟨by rw [← hq_]; exact (pK BK295.out)⟩; have n3_ : Aside0 (w22.heap[gb297]? = some (.cells #[.int .i64 x298000_1, .int .i64 x298001_1] 91 (0, 0))) := ⟨by rw [← hq_]; exact (pK BK297.out)⟩; have n4_ : Aside0 (Below w.heap.size w w22) := ⟨by rw [← hq_]; exact (pB4 HB.out GE292.out GE293.out GE295.out GE297.out)⟩; clear BK292 BK293 BK295 BK297 HB hq_; have BK292 := n0_; have BK293 := n1_; have BK295 := n2_; have BK297 := n3_; have HB := n4_; clear n0_ n1_ n2_ n3_ n4_))
    (try (obtain ⟨hcq292_0, hfq292_0, hcq292_1, hfq292_1⟩ := zw2 BK292; obtain ⟨hcq293_0, hfq293_0, hcq293_1, hfq293_1⟩ := zw2 BK293; obtain ⟨hcq295_0, hfq295_0, hcq295_1, hfq295_1⟩ := zw2 BK295; obtain ⟨hcq297_0, hfq297_0, hcq297_1, hfq297_1⟩ := zw2 BK297)); replace BK292 := Aside0.mk (blk_drew BK292.out); replace BK293 := Aside0.mk (blk_drew BK293.out); replace BK295 := Aside0.mk (blk_drew BK295.out); replace BK297 := Aside0.mk (blk_drew BK297.out); replace HB := Aside0.mk (below_drew1 HB.out); have p300 : 0 ≤ (x6_1 : Int) := zD; have q300 : x6_1 < (l0.length : Int) := zD; obtain ⟨ad300, e300, hx300_0, hx300_1⟩ := at_T91 HR0.out x6_1 p300 q300; have hw300_1 := hx300_1; have hw300_0 := hx300_0
    obtain rfl : ad294 = ad300 := (by injection e300)
    try replace hx300_0 := zH HB hx300_0
    try replace hx300_1 := zH HB hx300_1
    replace p300 := eq_true p300; replace q300 := eq_true q300
    refine start_ (n := 10) (S := fun w' => w'.cell? ⟨gb295, 0, none⟩ = some (.int .i64 t299) ∧ w'.cell? ⟨gb295, 1, none⟩ = some (.int .i64 x296001_1) ∧ w'.cell? (ad294.add ((x6_1).toNat * 2)) = some (.int .i64 ((rd_T91 l0 x6_1).f0)) ∧ w'.cell? ⟨(ad294.add ((x6_1).toNat * 2)).block, (ad294.add ((x6_1).toNat * 2)).off + 1, none⟩ = some (.int .i64 ((rd_T91 l0 x6_1).f1))) (ds := [9]) (Array.replicate 10 false) (by kernel_rfl) rfl rfl ⟨zQ BK295 0, zQ BK295 1, (zH HB hw300_0), (zH HB hw300_1)⟩ (fun hHeld => ?_); refine with_tabW spec_l03Bounds.tab7 spec_l03Bounds.bits7 (fun HT_ HW_ => ?_)
    generalize w22.drew = w23 at BK292 BK293 BK295 BK297 HB hx300_0 hx300_1 hHeld ⊢
    refine zP 0 (some 28) (zb 10 1) HT_ ?_; refine zP 2 (some 30) (zb 10 5) HT_ ?_; refine zP 3 (some 31) (zb 10 13) HT_ ?_; refine zP 4 (some 32) (zb 10 29) HT_ ?_; refine zP 5 (some 33) (zb 10 61) HT_ ?_; refine zT4 1 (some 29) (zb 10 63) HT_ HW_ hHeld ?_; refine zT4 6 (some 34) (zb 10 127) HT_ HW_ hHeld ?_
    refine one_ (i := 7) (N := some 35) (zb 10 255) rfl rfl (one_of HT_.out (by kernel_rfl)) (by decide) (fun K hK => ?_)
    refine goes_ Try.func104 (by kernel_rfl) rfl #[.int .i64 x296001_1, .int .i64 ((rd_T91 l0 x6_1).f1)] (by rfl) rfl rfl pA ?_
    with_reducible refine (spec_l00Min.calls x296001_1 ((rd_T91 l0 x6_1).f1) t301 _ A17.out).mono ?_; rintro e w' ⟨rfl, ⟨nd, rfl⟩⟩; refine ⟨_, rfl, ?_⟩
    refine hK.out _ _ ⟨zQ BK295 0, zQ BK295 1, (zH HB hw300_0), (zH HB hw300_1)⟩ (fun hHeld => ?_)
    clear hK K; refine zN ?_; refine zP 8 (some 36) (zb 10 511) HT_ ?_
    refine last_ (i := 9) (N := none) (zb 10 1023) rfl rfl (one_of HT_.out (by kernel_rfl)) (by decide) (fun K hK => ?_)
    have hs24 : w23.cell? ⟨gb295, 1, none⟩ = some (.int .i64 x296001_1) := zQ BK295 1; have hfs24 := blk_frozen BK295.out 1; have hns24_0 := NB292_295.out; have hns24_1 := NB293_295.out; have hns24_3 := NB297_295.out; have hms24_0 := NB295_292.out; have hms24_1 := NB295_293.out; have hms24_3 := NB295_297.out
    refine skip_ (w1 := ?_) (by rfl) rfl ?_ ?_
    rotate_left
    · go_simp
      rfl
    refine hK.out _ _ ?_; clear hK K
    refine done_ (done_of HT_.out (by kernel_rfl)) ?_
    try go_wp2
    have n0_ : Aside0 ((w23.setCell ⟨gb295, 1, none⟩ (.int .i64 t301)).heap[gb292]? = some (.cells #[.int .i64 0, .int .i64 0] 91 (0, 0))) := ⟨by refine zf ?_ NB292_295; exact pK BK292.out⟩
    have n1_ : Aside0 ((w23.setCell ⟨gb295, 1, none⟩ (.int .i64 t301)).heap[gb293]? = some (.cells #[.int .i64 0, .int .i64 0] 91 (0, 0))) := ⟨by refine zf ?_ NB293_295; exact pK BK293.out⟩
    have n2_ : Aside0 ((w23.setCell ⟨gb295, 1, none⟩ (.int .i64 t301)).heap[gb295]? = some (.cells #[.int .i64 t299, .int .i64 t301] 91 (0, 0))) := ⟨by refine zg #[.int .i64 t299, .int .i64 x296001_1] 1 ?_; exact pK BK295.out⟩
    have n3_ : Aside0 ((w23.setCell ⟨gb295, 1, none⟩ (.int .i64 t301)).heap[gb297]? = some (.cells #[.int .i64 x298000_1, .int .i64 x298001_1] 91 (0, 0))) := ⟨by refine zf ?_ NB297_295; exact pK BK297.out⟩
    have n4_ : Aside0 (Below w.heap.size w (w23.setCell ⟨gb295, 1, none⟩ (.int .i64 t301))) := ⟨pB4 HB.out GE292.out GE293.out GE295.out GE297.out⟩; (try clear BK292); (try clear BK293); (try clear BK295); (try clear BK297); (try clear HB); (try (repeat rw [mine_setCell_drewN]))
    generalize (w23.setCell ⟨gb295, 1, none⟩ (.int .i64 t301)) = w25 at n0_ n1_ n2_ n3_ n4_ ⊢
    have BK292 := n0_; have BK293 := n1_; have BK295 := n2_; have BK297 := n3_; have HB := n4_; clear n0_ n1_ n2_ n3_ n4_
    (try (rw [drewN_self w25]; generalize hq_ : World.drewN w25 _ = w25; have n0_ : Aside0 (w25.heap[gb292]? = some (.cells #[.int .i64 0, .int .i64 0] 91 (0, 0))) := ⟨by rw [← hq_]; exact (pK BK292.out)⟩; have n1_ : Aside0 (w25.heap[gb293]? = some (.cells #[.int .i64 0, .int .i64 0] 91 (0, 0))) := ⟨by rw [← hq_]; exact (pK BK293.out)⟩; have n2_ : Aside0 (w25.heap[gb295]? = some (.cells #[.int .i64 t299, .int .i64 t301] 91 (0, 0))) := ⟨by rw [← hq_]; exact (pK BK295.out)⟩; have n3_ : Aside0 (w25.heap[gb297]? = some (.cells #[.int .i64 x298000_1, .int .i64 x298001_1] 91 (0, 0))) := ⟨by rw [← hq_]; exact (pK BK297.out)⟩; have n4_ : Aside0 (Below w.heap.size w w25) := ⟨by rw [← hq_]; exact (pB4 HB.out GE292.out GE293.out GE295.out GE297.out)⟩; clear BK292 BK293 BK295 BK297 HB hq_; have BK292 := n0_; have BK293 := n1_; have BK295 := n2_; have BK297 := n3_; have HB := n4_; clear n0_ n1_ n2_ n3_ n4_))
    (try (obtain ⟨hcq292_0, hfq292_0, hcq292_1, hfq292_1⟩ := zw2 BK292; obtain ⟨hcq293_0, hfq293_0, hcq293_1, hfq293_1⟩ := zw2 BK293; obtain ⟨hcq295_0, hfq295_0, hcq295_1, hfq295_1⟩ := zw2 BK295; obtain ⟨hcq297_0, hfq297_0, hcq297_1, hfq297_1⟩ := zw2 BK297)); replace BK292 := Aside0.mk (blk_drew BK292.out); replace BK293 := Aside0.mk (blk_drew BK293.out); replace BK295 := Aside0.mk (blk_drew BK295.out); replace BK297 := Aside0.mk (blk_drew BK297.out); replace HB := Aside0.mk (below_drew1 HB.out); have p302 : 0 ≤ (x6_1 : Int) := zD; have q302 : x6_1 < (l0.length : Int) := zD; obtain ⟨ad302, e302, hx302_0, hx302_1⟩ := at_T91 HR0.out x6_1 p302 q302; have hw302_1 := hx302_1; have hw302_0 := hx302_0
    obtain rfl : ad294 = ad302 := (by injection e302)
    try replace hx302_0 := zH HB hx302_0
    try replace hx302_1 := zH HB hx302_1
    replace p302 := eq_true p302; replace q302 := eq_true q302
    refine start_ (n := 10) (S := fun w' => w'.cell? ⟨gb297, 0, none⟩ = some (.int .i64 x298000_1) ∧ w'.cell? ⟨gb297, 1, none⟩ = some (.int .i64 x298001_1) ∧ w'.cell? (ad294.add ((x6_1).toNat * 2)) = some (.int .i64 ((rd_T91 l0 x6_1).f0)) ∧ w'.cell? ⟨(ad294.add ((x6_1).toNat * 2)).block, (ad294.add ((x6_1).toNat * 2)).off + 1, none⟩ = some (.int .i64 ((rd_T91 l0 x6_1).f1))) (ds := [9]) (Array.replicate 10 false) (by kernel_rfl) rfl rfl ⟨zQ BK297 0, zQ BK297 1, (zH HB hw302_0), (zH HB hw302_1)⟩ (fun hHeld => ?_); refine with_tabW spec_l03Bounds.tab8 spec_l03Bounds.bits8 (fun HT_ HW_ => ?_)
    generalize w25.drew = w26 at BK292 BK293 BK295 BK297 HB hx302_0 hx302_1 hHeld ⊢
    refine zP 0 (some 37) (zb 10 1) HT_ ?_; refine zP 2 (some 39) (zb 10 5) HT_ ?_; refine zP 3 (some 40) (zb 10 13) HT_ ?_; refine zP 4 (some 41) (zb 10 29) HT_ ?_; refine zP 5 (some 42) (zb 10 61) HT_ ?_; refine zT4 1 (some 38) (zb 10 63) HT_ HW_ hHeld ?_; refine zT4 6 (some 43) (zb 10 127) HT_ HW_ hHeld ?_
    refine one_ (i := 7) (N := some 44) (zb 10 255) rfl rfl (one_of HT_.out (by kernel_rfl)) (by decide) (fun K hK => ?_)
    refine goes_ Try.func105 (by kernel_rfl) rfl #[.int .i64 x298000_1, .int .i64 ((rd_T91 l0 x6_1).f0)] (by rfl) rfl rfl pA ?_
    with_reducible refine (spec_l00Max.calls x298000_1 ((rd_T91 l0 x6_1).f0) t303 _ A18.out).mono ?_; rintro e w' ⟨rfl, ⟨nd, rfl⟩⟩; refine ⟨_, rfl, ?_⟩
    refine hK.out _ _ ⟨zQ BK297 0, zQ BK297 1, (zH HB hw302_0), (zH HB hw302_1)⟩ (fun hHeld => ?_)
    clear hK K; refine zN ?_; refine zP 8 (some 45) (zb 10 511) HT_ ?_
    refine last_ (i := 9) (N := none) (zb 10 1023) rfl rfl (one_of HT_.out (by kernel_rfl)) (by decide) (fun K hK => ?_)
    have hs27 : w26.cell? ⟨gb297, 0, none⟩ = some (.int .i64 x298000_1) := zQ BK297 0; have hfs27 := blk_frozen BK297.out 0; have hns27_0 := NB292_297.out; have hns27_1 := NB293_297.out; have hns27_2 := NB295_297.out; have hms27_0 := NB297_292.out; have hms27_1 := NB297_293.out; have hms27_2 := NB297_295.out
    refine skip_ (w1 := ?_) (by rfl) rfl ?_ ?_
    rotate_left
    · go_simp
      rfl
    refine hK.out _ _ ?_; clear hK K
    refine done_ (done_of HT_.out (by kernel_rfl)) ?_
    try go_wp2
    have n0_ : Aside0 ((w26.setCell ⟨gb297, 0, none⟩ (.int .i64 t303)).heap[gb292]? = some (.cells #[.int .i64 0, .int .i64 0] 91 (0, 0))) := ⟨by refine zf ?_ NB292_297; exact pK BK292.out⟩
    have n1_ : Aside0 ((w26.setCell ⟨gb297, 0, none⟩ (.int .i64 t303)).heap[gb293]? = some (.cells #[.int .i64 0, .int .i64 0] 91 (0, 0))) := ⟨by refine zf ?_ NB293_297; exact pK BK293.out⟩
    have n2_ : Aside0 ((w26.setCell ⟨gb297, 0, none⟩ (.int .i64 t303)).heap[gb295]? = some (.cells #[.int .i64 t299, .int .i64 t301] 91 (0, 0))) := ⟨by refine zf ?_ NB295_297; exact pK BK295.out⟩
    have n3_ : Aside0 ((w26.setCell ⟨gb297, 0, none⟩ (.int .i64 t303)).heap[gb297]? = some (.cells #[.int .i64 t303, .int .i64 x298001_1] 91 (0, 0))) := ⟨by refine zg #[.int .i64 x298000_1, .int .i64 x298001_1] 0 ?_; exact pK BK297.out⟩
    have n4_ : Aside0 (Below w.heap.size w (w26.setCell ⟨gb297, 0, none⟩ (.int .i64 t303))) := ⟨pB4 HB.out GE292.out GE293.out GE295.out GE297.out⟩; (try clear BK292); (try clear BK293); (try clear BK295); (try clear BK297); (try clear HB); (try (repeat rw [mine_setCell_drewN]))
    generalize (w26.setCell ⟨gb297, 0, none⟩ (.int .i64 t303)) = w28 at n0_ n1_ n2_ n3_ n4_ ⊢
    have BK292 := n0_; have BK293 := n1_; have BK295 := n2_; have BK297 := n3_; have HB := n4_; clear n0_ n1_ n2_ n3_ n4_
    (try (rw [drewN_self w28]; generalize hq_ : World.drewN w28 _ = w28; have n0_ : Aside0 (w28.heap[gb292]? = some (.cells #[.int .i64 0, .int .i64 0] 91 (0, 0))) := ⟨by rw [← hq_]; exact (pK BK292.out)⟩; have n1_ : Aside0 (w28.heap[gb293]? = some (.cells #[.int .i64 0, .int .i64 0] 91 (0, 0))) := ⟨by rw [← hq_]; exact (pK BK293.out)⟩; have n2_ : Aside0 (w28.heap[gb295]? = some (.cells #[.int .i64 t299, .int .i64 t301] 91 (0, 0))) := ⟨by rw [← hq_]; exact (pK BK295.out)⟩; have n3_ : Aside0 (w28.heap[gb297]? = some (.cells #[.int .i64 t303, .int .i64 x298001_1] 91 (0, 0))) := ⟨by rw [← hq_]; exact (pK BK297.out)⟩; have n4_ : Aside0 (Below w.heap.size w w28) := ⟨by rw [← hq_]; exact (pB4 HB.out GE292.out GE293.out GE295.out GE297.out)⟩; clear BK292 BK293 BK295 BK297 HB hq_; have BK292 := n0_; have BK293 := n1_; have BK295 := n2_; have BK297 := n3_; have HB := n4_; clear n0_ n1_ n2_ n3_ n4_))
    (try (obtain ⟨hcq292_0, hfq292_0, hcq292_1, hfq292_1⟩ := zw2 BK292; obtain ⟨hcq293_0, hfq293_0, hcq293_1, hfq293_1⟩ := zw2 BK293; obtain ⟨hcq295_0, hfq295_0, hcq295_1, hfq295_1⟩ := zw2 BK295; obtain ⟨hcq297_0, hfq297_0, hcq297_1, hfq297_1⟩ := zw2 BK297)); replace BK292 := Aside0.mk (blk_drew BK292.out); replace BK293 := Aside0.mk (blk_drew BK293.out); replace BK295 := Aside0.mk (blk_drew BK295.out); replace BK297 := Aside0.mk (blk_drew BK297.out); replace HB := Aside0.mk (below_drew1 HB.out); have p304 : 0 ≤ (x6_1 : Int) := zD; have q304 : x6_1 < (l0.length : Int) := zD; obtain ⟨ad304, e304, hx304_0, hx304_1⟩ := at_T91 HR0.out x6_1 p304 q304; have hw304_1 := hx304_1; have hw304_0 := hx304_0
    obtain rfl : ad294 = ad304 := (by injection e304)
    try replace hx304_0 := zH HB hx304_0
    try replace hx304_1 := zH HB hx304_1
    replace p304 := eq_true p304; replace q304 := eq_true q304
    refine start_ (n := 10) (S := fun w' => w'.cell? ⟨gb297, 0, none⟩ = some (.int .i64 t303) ∧ w'.cell? ⟨gb297, 1, none⟩ = some (.int .i64 x298001_1) ∧ w'.cell? (ad294.add ((x6_1).toNat * 2)) = some (.int .i64 ((rd_T91 l0 x6_1).f0)) ∧ w'.cell? ⟨(ad294.add ((x6_1).toNat * 2)).block, (ad294.add ((x6_1).toNat * 2)).off + 1, none⟩ = some (.int .i64 ((rd_T91 l0 x6_1).f1))) (ds := [9]) (Array.replicate 10 false) (by kernel_rfl) rfl rfl ⟨zQ BK297 0, zQ BK297 1, (zH HB hw304_0), (zH HB hw304_1)⟩ (fun hHeld => ?_); refine with_tabW spec_l03Bounds.tab9 spec_l03Bounds.bits9 (fun HT_ HW_ => ?_)
    generalize w28.drew = w29 at BK292 BK293 BK295 BK297 HB hx304_0 hx304_1 hHeld ⊢
    refine zP 0 (some 46) (zb 10 1) HT_ ?_; refine zP 2 (some 48) (zb 10 5) HT_ ?_; refine zP 3 (some 49) (zb 10 13) HT_ ?_; refine zP 4 (some 50) (zb 10 29) HT_ ?_; refine zP 5 (some 51) (zb 10 61) HT_ ?_; refine zT4 1 (some 47) (zb 10 63) HT_ HW_ hHeld ?_; refine zT4 6 (some 52) (zb 10 127) HT_ HW_ hHeld ?_
    refine one_ (i := 7) (N := some 53) (zb 10 255) rfl rfl (one_of HT_.out (by kernel_rfl)) (by decide) (fun K hK => ?_)
    refine goes_ Try.func105 (by kernel_rfl) rfl #[.int .i64 x298001_1, .int .i64 ((rd_T91 l0 x6_1).f1)] (by rfl) rfl rfl pA ?_
    with_reducible refine (spec_l00Max.calls x298001_1 ((rd_T91 l0 x6_1).f1) t305 _ A19.out).mono ?_; rintro e w' ⟨rfl, ⟨nd, rfl⟩⟩; refine ⟨_, rfl, ?_⟩
    refine hK.out _ _ ⟨zQ BK297 0, zQ BK297 1, (zH HB hw304_0), (zH HB hw304_1)⟩ (fun hHeld => ?_)
    clear hK K; refine zN ?_; refine zP 8 (some 54) (zb 10 511) HT_ ?_
    refine last_ (i := 9) (N := none) (zb 10 1023) rfl rfl (one_of HT_.out (by kernel_rfl)) (by decide) (fun K hK => ?_)
    have hs30 : w29.cell? ⟨gb297, 1, none⟩ = some (.int .i64 x298001_1) := zQ BK297 1; have hfs30 := blk_frozen BK297.out 1; have hns30_0 := NB292_297.out; have hns30_1 := NB293_297.out; have hns30_2 := NB295_297.out; have hms30_0 := NB297_292.out; have hms30_1 := NB297_293.out; have hms30_2 := NB297_295.out
    refine skip_ (w1 := ?_) (by rfl) rfl ?_ ?_
    rotate_left
    · go_simp
      rfl
    refine hK.out _ _ ?_; clear hK K
    refine done_ (done_of HT_.out (by kernel_rfl)) ?_
    try go_wp2
    go_roundg k1
    case measure => have := HK1.out; omega
    case rel => exact ⟨(wrap64 (x6_1 + 1)), (t299), (t301), (t303), (t305), zR, H', ⟨by have := HK1.out; omega⟩, ⟨by refine zf ?_ NB292_297; exact pK BK292.out⟩, ⟨by refine zf ?_ NB293_297; exact pK BK293.out⟩, ⟨by refine zf ?_ NB295_297; exact pK BK295.out⟩, ⟨by refine zg #[.int .i64 t303, .int .i64 x298001_1] 1 ?_; exact pK BK297.out⟩, ⟨pB4 HB.out GE292.out GE293.out GE295.out GE297.out⟩⟩
end Go.Proofs.Ytfiiakhpdkdebaa.PFnExactOffcutsOf

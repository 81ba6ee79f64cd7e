/- What each function that a law reaches comes to, and the proof that its walk comes to it; laid by a program of this session. No condition. -/
import Derived.Test.YtfiiakhpdkdebaaZFnExactOffcutsOf0
import Derived.Test.YtfiiakhpdkdebaaZFnExactOffcutsOf13
import Derived.Test.YtfiiakhpdkdebaaZFnExactOffcutsOf18
namespace Go.Proofs.Ytfiiakhpdkdebaa.PFnExactOffcutsOf
open Go.RowKit Go.Proofs.YtfiiakhpdkdebaaW.PrintWords Go.Proofs.YtfiiakhpdkdebaaW.PrintLast Go.Proofs.YtfiiakhpdkdebaaW.PrintMore
attribute [local go_sem] max2_int min2_int max_two min_two max_three min_three max_four min_four
set_option linter.unusedVariables false
set_option linter.unusedSimpArgs false
mutual
def impl_Turned.j0 : Nat → Int → Bool → Int → Int → Option (Int × Int)
 | 0, _, _, _, _ => none
 | k + 1, x1, x20, x435000, x435001 => if x20 = true then (some (0, 0)) else (if x1 > 3 then (impl_Turned.j1 k x1 (wrap64 (-x435000)) x435001) else (impl_Turned.j1 k x1 x435000 x435001))
def impl_Turned.j1 : Nat → Int → Int → Int → Option (Int × Int)
 | 0, _, _, _ => none
 | k + 1, x1, x435000, x435001 => impl_Turned.l0 k (Int.tmod x1 4) x435000 x435001
def impl_Turned.l0 : Nat → Int → Int → Int → Option (Int × Int)
 | 0, _, _, _ => none
 | k + 1, x5, x435000, x435001 => if x5 > 0 then (impl_Turned.l0 k (wrap64 (x5 - 1)) (wrap64 (-x435001)) x435000) else (some (x435000, x435001))
end
def impl_Turned.f (k : Nat) (a0_0 : Int) (a0_1 : Int) (a1 : Int) : Option (Int × Int) := (impl_within.f a1 0 7).bind fun t436 => (if t436 = true then ((impl_within.f a0_0 (-20000) 20000).bind fun t437 => (if t437 = true then ((impl_within.f a0_1 (-20000) 20000).bind fun t438 => (impl_Turned.j0 k a1 (!t438) a0_0 a0_1)) else (impl_Turned.j0 k a1 true a0_0 a0_1))) else (impl_Turned.j0 k a1 true a0_0 a0_1))
theorem impl_Turned.mono_l : ∀ k, (∀ y0 y1 y2 y3, LeO (impl_Turned.j0 k y0 y1 y2 y3) (impl_Turned.j0 (k + 1) y0 y1 y2 y3)) ∧ (∀ y0 y1 y2, LeO (impl_Turned.j1 k y0 y1 y2) (impl_Turned.j1 (k + 1) y0 y1 y2)) ∧ (∀ y0 y1 y2, LeO (impl_Turned.l0 k y0 y1 y2) (impl_Turned.l0 (k + 1) y0 y1 y2))
 | 0 => ⟨fun _ _ _ _ r h => by simp [impl_Turned.j0] at h, fun _ _ _ r h => by simp [impl_Turned.j1] at h, fun _ _ _ r h => by simp [impl_Turned.l0] at h⟩
 | k + 1 => by
   obtain ⟨ih0, ih1, ih2⟩ := impl_Turned.mono_l k; refine ⟨?_, ?_, ?_⟩
   · intro y0 y1 y2 y3
     unfold impl_Turned.j0
     repeat' first
     | (with_reducible exact ih0 _ _ _ _)
     | (with_reducible exact ih1 _ _ _)
     | (with_reducible exact ih2 _ _ _)
     | (with_reducible exact LeO.refl _)
     | (with_reducible exact LeO.none _)
     | (with_reducible refine LeO.ite ?_ ?_)
     | (with_reducible refine LeO.bind ?_ (fun _ => ?_))
     | exact ih0 _ _ _ _
     | exact ih1 _ _ _
     | exact ih2 _ _ _
     | exact LeO.none _
     | refine LeO.ite ?_ ?_
     | refine LeO.bind ?_ (fun _ => ?_)
   · intro y0 y1 y2
     unfold impl_Turned.j1
     repeat' first
     | (with_reducible exact ih0 _ _ _ _)
     | (with_reducible exact ih1 _ _ _)
     | (with_reducible exact ih2 _ _ _)
     | (with_reducible exact LeO.refl _)
     | (with_reducible exact LeO.none _)
     | (with_reducible refine LeO.ite ?_ ?_)
     | (with_reducible refine LeO.bind ?_ (fun _ => ?_))
     | exact ih0 _ _ _ _
     | exact ih1 _ _ _
     | exact ih2 _ _ _
     | exact LeO.none _
     | refine LeO.ite ?_ ?_
     | refine LeO.bind ?_ (fun _ => ?_)
   · intro y0 y1 y2
     unfold impl_Turned.l0
     repeat' first
     | (with_reducible exact ih0 _ _ _ _)
     | (with_reducible exact ih1 _ _ _)
     | (with_reducible exact ih2 _ _ _)
     | (with_reducible exact LeO.refl _)
     | (with_reducible exact LeO.none _)
     | (with_reducible refine LeO.ite ?_ ?_)
     | (with_reducible refine LeO.bind ?_ (fun _ => ?_))
     | exact ih0 _ _ _ _
     | exact ih1 _ _ _
     | exact ih2 _ _ _
     | exact LeO.none _
     | refine LeO.ite ?_ ?_
     | refine LeO.bind ?_ (fun _ => ?_)
theorem impl_Turned.mono : ∀ a0 a1 a2 k, LeO (impl_Turned.f k a0 a1 a2) (impl_Turned.f (k + 1) a0 a1 a2) := by
 intro a0 a1 a2 k; obtain ⟨ih0, ih1, ih2⟩ := impl_Turned.mono_l k; unfold impl_Turned.f
 repeat' first
  | (with_reducible exact ih0 _ _ _ _)
  | (with_reducible exact ih1 _ _ _)
  | (with_reducible exact ih2 _ _ _)
  | (with_reducible exact LeO.refl _)
  | (with_reducible exact LeO.none _)
  | (with_reducible refine LeO.ite ?_ ?_)
  | (with_reducible refine LeO.bind ?_ (fun _ => ?_))
  | exact ih0 _ _ _ _
  | exact ih1 _ _ _
  | exact ih2 _ _ _
  | exact LeO.none _
  | refine LeO.ite ?_ ?_
  | refine LeO.bind ?_ (fun _ => ?_)
set_option maxHeartbeats 8000000 in
set_option maxRecDepth 100000 in
theorem impl_Turned.calls (k : Nat) (a0_0 : Int) (a0_1 : Int) (a1 : Int) (r1 : Int) (r2 : Int) (w : World) (h : impl_Turned.f k a0_0 a0_1 a1 = some (r1, r2)) :
 Calls Try.prog 106 #[.agg #[.int .i64 a0_0, .int .i64 a0_1], .int .i64 a1] w fun e w' => e = .returned (.agg #[.int .i64 r1, .int .i64 r2]) ∧ Below w.heap.size w w' := by
 have hu91 := Try.underlying91; have HB := Aside0.mk (Below.refl w.heap.size w)
 have H : ((impl_within.f a1 0 7).bind fun t436 => (if t436 = true then ((impl_within.f a0_0 (-20000) 20000).bind fun t437 => (if t437 = true then ((impl_within.f a0_1 (-20000) 20000).bind fun t438 => (impl_Turned.j0 k a1 (!t438) a0_0 a0_1)) else (impl_Turned.j0 k a1 true a0_0 a0_1))) else (impl_Turned.j0 k a1 true a0_0 a0_1))) = some (r1, r2) := h
 clear h; have HC3 := Aside0.mk H; clear H
 go_enter Try.func106, Try.ntmps106
 go_upto_region 1 with (first | ((with_reducible refine zI 2 rfl ?_); refine zB 2 #[.int .i64 a0_0, .int .i64 a0_1] 91 ?_; intro gb434 hg w4 hbox hb; have BK434 := Aside0.mk (hbox); have GW434 := zS (pB0 HB.out) hg; have GE434 := GW434; replace HB := zW (pB0 HB.out) hb; clear hb hbox hg) | ((with_reducible refine zI 4 rfl ?_); refine zB 4 #[.int .i64 0, .int .i64 0] 91 ?_; intro gb435 hg w5 hbox hb; have BK435 := Aside0.mk (hbox); have GW435 := zS (pB1 HB.out GE434.out) hg; have GE435 := GW435; have NB434_435 := zL BK434 hg; have NB435_434 := zM BK434 hg; replace BK434 := zK BK434 hb; replace HB := zW (pB1 HB.out GE434.out) hb; clear hb hbox hg))
 (try simp only [Act.put, List.setIfInBounds_toArray, List.set_cons_zero, List.set_cons_succ])
 go_cut [20] (fun v20 wc => ∃ (kq : Nat) (x20_2 : Bool), v20 = .bool x20_2 ∧ Aside0 (impl_Turned.j0 kq a1 x20_2 a0_0 a0_1 = some (r1, r2)) ∧ Aside0 (kq ≤ k) ∧ Aside0 (wc.heap[gb434]? = some (.cells #[.int .i64 a0_0, .int .i64 a0_1] 91 (0, 0))) ∧ Aside0 (wc.heap[gb435]? = some (.cells #[.int .i64 0, .int .i64 0] 91 (0, 0))) ∧ Aside0 (Below w.heap.size w wc))
 case first =>
  have H := HC3.out; clear HC3; replace H := Option.bind_eq_some_iff.mp H; obtain ⟨t436, A60, H⟩ := H; have A6 := Aside0.mk A60; clear A60
  by_cases c7 : t436 = true
  rotate_left
  · replace c7 := Bool.eq_false_iff.mpr c7
    subst c7
    rw [if_neg (show ¬ (false = true) by decide)] at H
    have H' := Aside0.mk H; clear H
    go_wp2_with (first | ((with_reducible refine gate_callee (f := 83) rfl ?_); refine zJ (some 7) Try.func83 #[.int .i64 a1, .int .i64 0, .int .i64 7] ?_; (with_reducible refine (impl_within.calls a1 0 7 false _ A6.out).mono ?_); rintro e w' ⟨rfl, ⟨nd, rfl⟩⟩; refine ⟨_, rfl, ?_⟩))
    go_meet
    case rel => exact ⟨_, (true), zR, H', ⟨by first | omega | exact Nat.le_refl _⟩, ⟨pK BK434.out⟩, ⟨pK BK435.out⟩, ⟨pB2 HB.out GE434.out GE435.out⟩⟩
  subst c7; rw [if_pos rfl] at H; replace H := Option.bind_eq_some_iff.mp H; obtain ⟨t437, A80, H⟩ := H; have A8 := Aside0.mk A80; clear A80
  by_cases c9 : t437 = true
  rotate_left
  · replace c9 := Bool.eq_false_iff.mpr c9
    subst c9
    rw [if_neg (show ¬ (false = true) by decide)] at H
    have H' := Aside0.mk H; clear H
    go_wp2_with (first | ((with_reducible refine gate_callee (f := 83) rfl ?_); refine zJ (some 7) Try.func83 #[.int .i64 a1, .int .i64 0, .int .i64 7] ?_; (with_reducible refine (impl_within.calls a1 0 7 true _ A6.out).mono ?_); rintro e w' ⟨rfl, ⟨nd, rfl⟩⟩; refine ⟨_, rfl, ?_⟩; have hnb13 := NB434_435.out; have hnc13 := NB435_434.out; obtain ⟨Y14_0, X14_0, Y14_1, X14_1⟩ := zw2 BK434) | (go_at_call 83; (with_reducible refine (impl_within.calls a0_0 (-20000) 20000 false _ A8.out).mono ?_); rintro e w' ⟨rfl, ⟨nd, rfl⟩⟩))
    go_meet
    case rel => exact ⟨_, (true), zR, H', ⟨by first | omega | exact Nat.le_refl _⟩, ⟨pK BK434.out⟩, ⟨pK BK435.out⟩, ⟨pB2 HB.out GE434.out GE435.out⟩⟩
  subst c9; rw [if_pos rfl] at H; replace H := Option.bind_eq_some_iff.mp H; obtain ⟨t438, A100, H⟩ := H; have A10 := Aside0.mk A100; clear A100; have H' := Aside0.mk H; clear H
  go_wp2_with (first | ((with_reducible refine gate_callee (f := 83) rfl ?_); refine zJ (some 7) Try.func83 #[.int .i64 a1, .int .i64 0, .int .i64 7] ?_; (with_reducible refine (impl_within.calls a1 0 7 true _ A6.out).mono ?_); rintro e w' ⟨rfl, ⟨nd, rfl⟩⟩; refine ⟨_, rfl, ?_⟩; have hnb11 := NB434_435.out; have hnc11 := NB435_434.out; obtain ⟨Y12_0, X12_0, Y12_1, X12_1⟩ := zw2 BK434) | (go_at_call 83; (with_reducible refine (impl_within.calls a0_0 (-20000) 20000 true _ A8.out).mono ?_); rintro e w' ⟨rfl, ⟨nd, rfl⟩⟩) | (go_at_call 83; (with_reducible refine (impl_within.calls a0_1 (-20000) 20000 t438 _ A10.out).mono ?_); rintro e w' ⟨rfl, ⟨nd, rfl⟩⟩))
  go_meet
  case rel => exact ⟨_, (!t438), zR, H', ⟨by first | omega | exact Nat.le_refl _⟩, ⟨pK BK434.out⟩, ⟨pK BK435.out⟩, ⟨pB2 HB.out GE434.out GE435.out⟩⟩
 case rest =>
  clear HC3; (try clear c1); (try clear p2); (try clear c7); (try clear c8); (try clear c9); (try clear c10); (try clear c11); (try clear c13); (try clear Y12_0 Y12_1); (try clear Y14_0 Y14_1); (try clear X12_0 X12_1); (try clear X14_0 X14_1); obtain ⟨kq, x20_2, rfl, HA, HJ2, BK434, BK435, HB⟩ := hcut
  cases kq with
  | zero => exact absurd HA.out (by simp [impl_Turned.j0])
  | succ kj2 =>
    have H := HA.out; clear HA; simp only [impl_Turned.j0] at H
    by_cases c15 : x20_2 = true
    · subst c15
      rw [if_pos rfl] at H; simp only [Option.some.injEq, Prod.mk.injEq] at H; obtain ⟨rfl, rfl⟩ := H; have hnb16 := NB435_434.out; have hnc16 := NB434_435.out; have Y17_0 := zC (.int .i64 0) BK435 0; have Y17_1 := zC (.int .i64 0) BK435 1; have X17_0 := blk_frozen BK435.out 0; have X17_1 := blk_frozen BK435.out 1
      go_wp2
      refine bodyPost_ret (results_cell_row rfl _ _ gb435 91 #[.int .i64 0, .int .i64 0] (0, 0) _ rfl (by refine zg #[.int .i64 0, .int .i64 0] 1 ?_; refine zg #[.int .i64 0, .int .i64 0] 0 ?_; exact pK BK435.out) Try.underlying91 rfl (by kernel_rfl)) rfl ?_
      exact ⟨zE, pB2 HB.out GE434.out GE435.out⟩
    replace c15 := Bool.eq_false_iff.mpr c15; subst c15
    rw [if_neg (show ¬ (false = true) by decide)] at H
    have HC18 := Aside0.mk H; clear H
    go_upto_if 23 with (fail)
    go_cut [] (fun wc => ∃ (kq : Nat) (x435000_17 : Int), Aside0 (impl_Turned.j1 kq a1 x435000_17 a0_1 = some (r1, r2)) ∧ Aside0 (kq ≤ kj2) ∧ Aside0 (wc.heap[gb434]? = some (.cells #[.int .i64 x435000_17, .int .i64 a0_1] 91 (0, 0))) ∧ Aside0 (wc.heap[gb435]? = some (.cells #[.int .i64 0, .int .i64 0] 91 (0, 0))) ∧ Aside0 (Below w.heap.size w wc))
    case first =>
     have H := HC18.out; clear HC18
     by_cases c19 : a1 > 3
     rotate_left
     · rw [if_neg c19] at H
       have c19b0 := decide_eq_false c19; clear c19; (first | rw [c19b0] | (simp only [i64_w, i32_w]; rw [c19b0]) | skip); have H' := Aside0.mk H; clear H
       go_wp2
       go_meet
       case rel => exact ⟨_, (a0_0), H', ⟨by have := HJ2.out; first | omega | exact Nat.le_refl _⟩, ⟨pK BK434.out⟩, ⟨pK BK435.out⟩, ⟨pB2 HB.out GE434.out GE435.out⟩⟩
     rw [if_pos c19] at H; have c19b0 := decide_eq_true c19; clear c19; (first | rw [c19b0] | (simp only [i64_w, i32_w]; rw [c19b0]) | skip); have H' := Aside0.mk H; clear H; have hnb20 := NB434_435.out; have hnc20 := NB435_434.out; have Y21_0 := zC (.int .i64 a0_0) BK434 0; have Y21_1 := zC (.int .i64 a0_1) BK434 1; have X21_0 := blk_frozen BK434.out 0; have X21_1 := blk_frozen BK434.out 1
     go_wp2
     go_meet
     case rel => exact ⟨_, (wrap64 (-a0_0)), H', ⟨by have := HJ2.out; first | omega | exact Nat.le_refl _⟩, ⟨by refine zg #[.int .i64 a0_0, .int .i64 a0_1] 0 ?_; exact pK BK434.out⟩, ⟨by refine zf ?_ NB435_434; exact pK BK435.out⟩, ⟨pB2 HB.out GE434.out GE435.out⟩⟩
    case rest =>
     clear HC18; (try clear c1); (try clear c2); (try clear p2); (try clear p6); (try clear c7); (try clear c8); (try clear c9); (try clear c10); (try clear c11); (try clear c13); (try clear c15); (try clear c16); (try clear c19); (try clear c19b0); (try clear c20); (try clear Y12_0 Y12_1); (try clear Y14_0 Y14_1); (try clear Y17_0 Y17_1); (try clear Y21_0 Y21_1); (try clear X12_0 X12_1); (try clear X14_0 X14_1); (try clear X17_0 X17_1); (try clear X21_0 X21_1); (try clear p2); obtain ⟨kq, x435000_17, HA, HJ17, BK434, BK435, HB⟩ := hcut
     cases kq with
     | zero => exact absurd HA.out (by simp [impl_Turned.j1])
     | succ kj17 =>
       have H := HA.out; clear HA; simp only [impl_Turned.j1] at H; have H' := Aside0.mk H; clear H
       go_wp2
       go_loopg [5] kj17 (fun kq v5 w' => ∃ (x5_3 : Int) (x435000_3 : Int) (x435001_3 : Int), v5 = .int .i64 x5_3 ∧ Aside0 (impl_Turned.l0 kq x5_3 x435000_3 x435001_3 = some (r1, r2)) ∧ Aside0 (kq ≤ kj17) ∧ Aside0 (w'.heap[gb434]? = some (.cells #[.int .i64 x435000_3, .int .i64 x435001_3] 91 (0, 0))) ∧ Aside0 (w'.heap[gb435]? = some (.cells #[.int .i64 0, .int .i64 0] 91 (0, 0))) ∧ Aside0 (Below w.heap.size w w'))
       case atStart => exact ⟨(Int.tmod a1 4), (x435000_17), (a0_1), zR, H', ⟨Nat.le_refl _⟩, ⟨pK BK434.out⟩, ⟨pK BK435.out⟩, ⟨pB2 HB.out GE434.out GE435.out⟩⟩
       case round =>
        clear H'; (try clear c1); (try clear c2); (try clear p2); (try clear p6); (try clear c7); (try clear c8); (try clear c9); (try clear c10); (try clear c11); (try clear c13); (try clear c15); (try clear c16); (try clear c19); (try clear c19b0); (try clear c20); (try clear Y12_0 Y12_1); (try clear Y14_0 Y14_1); (try clear Y17_0 Y17_1); (try clear Y21_0 Y21_1); (try clear X12_0 X12_1); (try clear X14_0 X14_1); (try clear X17_0 X17_1); (try clear X21_0 X21_1); (try clear p2); (try clear p6); obtain ⟨x5_3, x435000_3, x435001_3, rfl, HA, HK3, BK434, BK435, HB⟩ := hrel
        cases gk with
        | zero => exact absurd HA.out (by simp [impl_Turned.l0])
        | succ k3 =>
          have H := HA.out; clear HA; simp only [impl_Turned.l0] at H
          by_cases c22 : x5_3 > 0
          · rw [if_pos c22] at H
            have c22b0 := decide_eq_true c22; clear c22; have H' := Aside0.mk H; clear H; have hnb23 := NB434_435.out; have hnc23 := NB435_434.out; have Y24_0 := zC (.int .i64 x435000_3) BK434 0; have Y24_1 := zC (.int .i64 x435001_3) BK434 1; have X24_0 := blk_frozen BK434.out 0; have X24_1 := blk_frozen BK434.out 1
            go_wp2
            go_roundg k3
            case measure => have := HJ2.out; have := HJ17.out; have := HK3.out; omega
            case rel => exact ⟨(wrap64 (x5_3 - 1)), (wrap64 (-x435001_3)), (x435000_3), zR, H', ⟨by have := HJ2.out; have := HJ17.out; have := HK3.out; omega⟩, ⟨by refine zg #[.int .i64 (wrap64 (-x435001_3)), .int .i64 x435001_3] 1 ?_; refine zg #[.int .i64 x435000_3, .int .i64 x435001_3] 0 ?_; exact pK BK434.out⟩, ⟨by refine zf ?_ NB435_434; refine zf ?_ NB435_434; exact pK BK435.out⟩, ⟨pB2 HB.out GE434.out GE435.out⟩⟩
          rw [if_neg c22] at H; have c22b0 := decide_eq_false c22; clear c22; simp only [Option.some.injEq, Prod.mk.injEq] at H; obtain ⟨rfl, rfl⟩ := H; have hnb25 := NB434_435.out; have hnc25 := NB435_434.out; have Y26_0 := zC (.int .i64 x435000_3) BK434 0; have Y26_1 := zC (.int .i64 x435001_3) BK434 1; have X26_0 := blk_frozen BK434.out 0; have X26_1 := blk_frozen BK434.out 1; have Y27_0 := zC (.int .i64 0) BK435 0; have Y27_1 := zC (.int .i64 0) BK435 1; have X27_0 := blk_frozen BK435.out 0; have X27_1 := blk_frozen BK435.out 1
          go_wp2
          refine bodyPost_ret (results_cell_row rfl _ _ gb435 91 #[.int .i64 x435000_3, .int .i64 x435001_3] (0, 0) _ rfl (by refine zg #[.int .i64 x435000_3, .int .i64 0] 1 ?_; refine zg #[.int .i64 0, .int .i64 0] 0 ?_; exact pK BK435.out) Try.underlying91 rfl (by kernel_rfl)) rfl ?_
          exact ⟨zE, pB2 HB.out GE434.out GE435.out⟩
def impl_Point.enc (x : S91) : List Value := [.int .i64 x.f0, .int .i64 x.f1]
def impl_Point.f (l0 : List S91) : Option (List S91) := if 1 ≤ l0.length then (some (l0.take 1 ++ (l0.drop 1).reverse)) else (none)
theorem impl_Point.calls {A1 : Option Addr} {m1 c1 : Nat} (P0_ : Nat → Prop) (u9000_ : Value) (l0 : List S91) (r : List S91) (w0 w : World) (hB : Below w0.heap.size w0 w) (ho0 : Kd.R k91 91 w w0.heap.size P0_ u9000_ l0) (hcut : Value.slice A1 m1 c1 = cutv 2 (1 : Int).toNat u9000_) (h : impl_Point.f l0 = some r) :
 Calls Try.prog 107 #[.slice A1 m1 c1] w fun e w' => e = .returned (.tuple #[]) ∧ Kd.R k91 91 w' w0.heap.size (fun k_ => (P0_ k_ ∨ w.heap.size ≤ k_)) u9000_ r ∧ Below w0.heap.size w0 w' ∧ Kept w w' (fun k_ => P0_ k_) := by
 unfold impl_Point.f at h
 haveI : Inhabited S91 := ⟨⟨0, 0⟩⟩
 by_cases h1 : 1 ≤ l0.length
 rotate_left
 · rw [if_neg h1] at h; cases h
 rw [if_pos h1] at h; obtain rfl := Option.some.inj h
 have he2 : ∀ x : S91, (impl_Point.enc x).length = 2 := fun _ => rfl
 obtain ⟨hok, inner, ho, hr⟩ := ho0
 have hin : inner = l0.flatMap impl_Point.enc := hw_flat_of_reps _ 2 (fun x c hc => k91_openM hc) l0 inner hr
 subst hin
 rcases ho.2 with ⟨rfl, h0⟩ | ⟨g, cap, cur, rfl, hge, hcur, hle, hmx, hsz, htk⟩
 · omega
 have hfl : (l0.flatMap impl_Point.enc).length = l0.length * 2 := ho.1
 have hsplit : l0.flatMap impl_Point.enc = (l0.take 1).flatMap impl_Point.enc ++ (l0.drop 1).flatMap impl_Point.enc := by
  rw [← List.flatMap_append, List.take_append_drop]
 have hhead : ((l0.take 1).flatMap impl_Point.enc).length = 2 := by
  obtain ⟨x, xs, rfl⟩ : ∃ x xs, l0 = x :: xs := by
   cases l0 with
   | nil => simp at h1
   | cons x xs => exact ⟨x, xs, rfl⟩
  rfl
 have hold : Go.Sort.HoldsK impl_Point.enc 2 w g 2 (l0.drop 1).toArray := by
  refine hw_own_holds id ho ?_; rw [hw_flatK _ 2 he2, List.map_id, hsplit, List.drop_left' hhead]
 have hval : A1 = some ⟨g, (if cap = 1 then 0 else 2), none⟩ ∧ m1 = (l0.drop 1).toArray.size ∧ c1 = cap - 1 := by
  simp only [cutv] at hcut
  injection hcut with q1 q2 q3
  refine ⟨?_, by rw [q2]; simp, q3⟩
  rw [q1]
  by_cases hc : cap = 1
  · simp [hc]
  simp [hc, WideShapes.add_plain]
 obtain ⟨rfl, rfl, rfl⟩ := hval
 by_cases hc : cap = 1
 · have hl : l0.length = 1 := by omega
   have hd : l0.drop 1 = [] := List.drop_eq_nil_of_le (by omega)
   have ht : l0.take 1 = l0 := List.take_of_length_le (by omega)
   rw [hd]
   refine (Go.Proofs.Try.slices_Reverse_empty (α := S91) _ _ w).mono fun e w' ⟨he, hw⟩ => ?_
   subst hw; refine ⟨he, ?_, hB, Kept.refl _ _⟩; rw [ht, List.reverse_nil, List.append_nil]
   exact Kd.R_mono ⟨hok, _, ho, hr⟩ (fun k_ hk => .inl hk)
 rw [if_neg hc]
 refine (Go.Proofs.Try.slices_Reverse 2 Try.isAgg91 Try.sizeOf91 impl_Point.enc he2 (fun x v hv => by simp [impl_Point.enc] at hv; rcases hv with rfl | rfl <;> rfl) g 2 (cap - 1) (l0.drop 1).toArray w hold (by simp; simp only [maxLen] at hmx; omega)).mono fun e w' ⟨he, m, hw⟩ => ?_
 have hw2 : w' = Go.Sort.grow (Go.Sort.putRow id (Go.Sort.ahead w m) g 2 (Go.Sort.flatK impl_Point.enc 2 (l0.drop 1).reverse.toArray)) #[] := by
  rw [Go.Sort.grow_empty, hw, Go.Sort.putRowK, List.reverse_toArray]
 subst hw2; clear hw
 have hsz2 : (Go.Sort.flatK impl_Point.enc 2 (l0.drop 1).reverse.toArray).size = (l0.length - 1) * 2 := by simp
 obtain ⟨hown, hb, hk⟩ := hw_own_put (off := 2) (d := Go.Sort.flatK impl_Point.enc 2 (l0.drop 1).reverse.toArray) id ho (by rw [hfl, hsz2]; omega) m #[]
 have hg : P0_ g := hok g rfl
 refine ⟨he, ?_, hB.trans hb, hk.mono (fun k_ hk_ => by rw [hk_]; exact hg)⟩
 have hln : (l0.take 1 ++ (l0.drop 1).reverse).length = l0.length := by simp; omega
 have hdn : (l0.flatMap impl_Point.enc).drop (2 + (Go.Sort.flatK impl_Point.enc 2 (l0.drop 1).reverse.toArray).size) = [] := List.drop_eq_nil_of_le (by rw [hfl, hsz2]; omega)
 have htk2 : (l0.flatMap impl_Point.enc).take 2 = (l0.take 1).flatMap impl_Point.enc := by rw [hsplit, List.take_left' hhead]
 rw [hdn, htk2, hw_flatK _ 2 he2, List.map_id, List.append_nil, ← List.flatMap_append] at hown
 refine ⟨fun k_ hk_ => .inl (hok k_ hk_), (l0.take 1 ++ (l0.drop 1).reverse).flatMap impl_Point.enc, ?_, hw_reps_flat _ 2 he2 (fun x => k91_mkM _ _ _ x) _⟩
 rw [hln]; exact hown
def impl_shifted.l0 : Nat → Int → Int → List (S91) → List (S91) → Int → Int → Option ((List (S91)))
 | 0, _, _, _, _, _, _ => none
 | k + 1, x1, x2, x7, x11, x12, x13 => if x13 < x12 then (if 0 ≤ x13 then (if x13 < (x11.length : Int) then (if x7.length < 8796093022208 then (impl_shifted.l0 k x1 x2 (x7 ++ [(⟨wrap64 (((rd_T91 x11 x13).f0) + x1), wrap64 (((rd_T91 x11 x13).f1) + x2)⟩ : S91)]) x11 x12 (wrap64 (x13 + 1))) else (none)) else (none)) else (none)) else (some x7)
def impl_shifted.f (k : Nat) (l0 : List (S91)) (a1 : Int) (a2 : Int) : Option ((List (S91))) := impl_shifted.l0 k a1 a2 (([] : List (S91))) l0 (l0.length : Int) 0
theorem impl_shifted.mono_l : ∀ k, (∀ y0 y1 y2 y3 y4 y5, LeO (impl_shifted.l0 k y0 y1 y2 y3 y4 y5) (impl_shifted.l0 (k + 1) y0 y1 y2 y3 y4 y5))
 | 0 => fun _ _ _ _ _ _ r h => by simp [impl_shifted.l0] at h
 | k + 1 => by
   have ih0 := impl_shifted.mono_l k
   · intro y0 y1 y2 y3 y4 y5
     unfold impl_shifted.l0
     repeat' first
     | (with_reducible exact ih0 _ _ _ _ _ _)
     | (with_reducible exact LeO.refl _)
     | (with_reducible exact LeO.none _)
     | (with_reducible refine LeO.ite ?_ ?_)
     | (with_reducible refine LeO.bind ?_ (fun _ => ?_))
     | exact ih0 _ _ _ _ _ _
     | exact LeO.none _
     | refine LeO.ite ?_ ?_
     | refine LeO.bind ?_ (fun _ => ?_)
theorem impl_shifted.mono : ∀ a0 a1 a2 k, LeO (impl_shifted.f k a0 a1 a2) (impl_shifted.f (k + 1) a0 a1 a2) := by
 intro a0 a1 a2 k; have ih0 := impl_shifted.mono_l k; unfold impl_shifted.f
 repeat' first
  | (with_reducible exact ih0 _ _ _ _ _ _)
  | (with_reducible exact LeO.refl _)
  | (with_reducible exact LeO.none _)
  | (with_reducible refine LeO.ite ?_ ?_)
  | (with_reducible refine LeO.bind ?_ (fun _ => ?_))
  | exact ih0 _ _ _ _ _ _
  | exact LeO.none _
  | refine LeO.ite ?_ ?_
  | refine LeO.bind ?_ (fun _ => ?_)
set_option maxHeartbeats 8000000 in
set_option maxRecDepth 100000 in
theorem impl_shifted.calls (k : Nat) (A0 : Option Addr) (c0 : Nat) (l0 : List (S91)) (a1 : Int) (a2 : Int) (r : List (S91)) (w : World) (hr0 : Kd.C k91 w A0 l0.length l0) (hc0 : l0.length ≤ c0) (h : impl_shifted.f k l0 a1 a2 = some r) :
 Calls Try.prog 108 #[.slice A0 l0.length c0, .int .i64 a1, .int .i64 a2] w fun e w' => ∃ v0_ : Value, e = .returned (v0_) ∧ Kd.R k91 91 w' w.heap.size (fun _ => True) v0_ r ∧ Below w.heap.size w w' := by
 have hu91 := Try.underlying91; have HR0 := Aside0.mk hr0; have HC0 := Aside0.mk hc0; clear hr0 hc0; have HB := Aside0.mk (Below.refl w.heap.size w); have H : (impl_shifted.l0 k a1 a2 (([] : List (S91))) l0 (l0.length : Int) 0) = some r := h; clear h; obtain ⟨y439, hy439⟩ : ∃ y_ : List (S91), y_ = (([] : List (S91))) := ⟨_, rfl⟩; replace H : (impl_shifted.l0 k a1 a2 y439 l0 (l0.length : Int) 0) = some r := zY hy439 H; have Ny439 := Aside0.mk hy439; clear hy439; have H' := Aside0.mk H; clear H
 go_enter Try.func108, Try.ntmps108
 go_wp2_with (first | ((with_reducible refine zI 10 rfl ?_); refine Kd.R_lit k91 _ 91 ?hg (N := 10) ?hd (xs := ([] : List (S91))) (inner := []) (ok := fun _ => True) (okp := fun _ => True) ?hr ?hp (fun _ hk => hk) trivial (Below.refl _ _) (Nat.le_refl _) (by simp) ?_; (case hd => rfl); (case hg => rfl); (case hr => first | (go_simp; done) | (go_simp; rfl)); (case hp => exact (Reps.none _ _)); intro v440 w4 ho5 hb hg_ hnew_; clear hg_ hnew_; (first | rw [← Ny439.out] at ho5 | (simp only [Int.reduceToNat] at ho5; rw [← Ny439.out] at ho5)); have HO441 := Aside0.mk (Kd.R_lower ho5 (below_size (pB0 HB.out))); replace HB := zW (pB0 HB.out) hb; clear hb ho5))
 go_loopg [7, 13] k (fun kq v7 v13 w' => ∃ (x7_1 : List (S91)) (x13_1 : Int), v13 = .int .i64 x13_1 ∧ Aside0 (impl_shifted.l0 kq a1 a2 x7_1 l0 (l0.length : Int) x13_1 = some r) ∧ Aside0 (kq ≤ k) ∧ Aside0 (Kd.R k91 91 w' w.heap.size (fun _ => True) v7 x7_1) ∧ Aside0 (Below w.heap.size w w'))
 case atStart => exact ⟨(y439), (0), zR, H', ⟨Nat.le_refl _⟩, ⟨pR HO441.out⟩, ⟨pB0 HB.out⟩⟩
 case round =>
  clear H'; (try clear c1); (try clear p2); obtain ⟨x7_1, x13_1, rfl, HA, HK1, HO_7, HB⟩ := hrel
  cases gk with
  | zero => exact absurd HA.out (by simp [impl_shifted.l0])
  | succ k1 =>
    have H := HA.out; clear HA; simp only [impl_shifted.l0] at H
    by_cases c6 : x13_1 < (l0.length : Int)
    rotate_left
    · rw [if_neg c6] at H
      have c6b0 := decide_eq_false c6; clear c6; obtain rfl := Option.some.inj H
      go_wp2
      go_ret
      exact ⟨_, zE, by (with_reducible repeat (first | apply Kd.R_alloc | apply Kd.R_drewN | apply Kd.R_drew)); exact HO_7.out, pB0 HB.out⟩
    rw [if_pos c6] at H; have c6b0 := decide_eq_true c6; clear c6
    by_cases c7 : 0 ≤ x13_1
    rotate_left
    · rw [if_neg c7] at H
      exact absurd H (by simp)
    rw [if_pos c7] at H; have c7b0 := decide_eq_true c7; clear c7
    by_cases c8 : x13_1 < (l0.length : Int)
    rotate_left
    · rw [if_neg c8] at H
      exact absurd H (by simp)
    rw [if_pos c8] at H; have c8b0 := decide_eq_true c8; clear c8
    by_cases c9 : x7_1.length < 8796093022208
    rotate_left
    · rw [if_neg c9] at H
      exact absurd H (by simp)
    rw [if_pos c9] at H; have LMc9 := Aside0.mk c9; clear c9; obtain ⟨y444, hy444⟩ : ∃ y_ : List (S91), y_ = (x7_1 ++ [(⟨wrap64 (((rd_T91 l0 x13_1).f0) + a1), wrap64 (((rd_T91 l0 x13_1).f1) + a2)⟩ : S91)]) := ⟨_, rfl⟩; replace H : (impl_shifted.l0 k1 a1 a2 y444 l0 (l0.length : Int) (wrap64 (x13_1 + 1))) = some r := zY hy444 H; have Ny444 := Aside0.mk hy444; clear hy444; have H' := Aside0.mk H; clear H; have p442 : 0 ≤ (x13_1 : Int) := zD; have q442 : x13_1 < (l0.length : Int) := zD; obtain ⟨ad442, e442, hx442_0, hx442_1⟩ := at_T91 HR0.out x13_1 p442 q442; cases e442
    try replace hx442_0 := zH HB hx442_0
    try replace hx442_1 := zH HB hx442_1
    replace p442 := eq_true p442; replace q442 := eq_true q442
    go_wp2_with (first | ((with_reducible refine zI 9 rfl ?_); refine zB 9 #[.int .i64 0, .int .i64 0] 91 ?_; intro gb443 hg w10 hbox hb; have BK443 := Aside0.mk (hbox); have GW443 := zS (pB0 HB.out) hg; have GE443 := GW443; replace HO_7 := Aside0.mk (Kd.R_below (Kd.R_elderB (pR HO_7.out) gb443 (Nat.le_of_eq hg.symm)) hb); replace HB := zW (pB0 HB.out) hb; clear hb hbox hg; obtain ⟨Y11_0, X11_0, Y11_1, X11_1⟩ := zw2 BK443) | ((with_reducible refine gate_builtin (b := .append) (xs := #[.tmp 17, .tmp 27]) rfl ?_); at_builtin; refine Kd.R_append k91 (w0 := w) w.heap.size rfl (.tmp 17) (.tmp 27) 31 91 (.agg #[(.int .i64 0), (.int .i64 0)]) 16 rfl Try.underlying31 info91 rfl (by decide) (by omega) u7 x7_1 (⟨wrap64 (((rd_T91 l0 x13_1).f0) + a1), wrap64 (((rd_T91 l0 x13_1).f1) + a2)⟩ : S91) [.int .i64 (wrap64 (((rd_T91 l0 x13_1).f0) + a1)), .int .i64 (wrap64 (((rd_T91 l0 x13_1).f1) + a2))] (fun k_ => k_ ≠ gb443) (fun _ => False) rfl (by first | (go_simp; done) | (go_simp; rfl)) ?aP (fun _ hk => hk.elim) ?aF ?aO ?aB ?aS ?aL ?_; (case aP => exact k91_mkM _ _ _ (⟨wrap64 (((rd_T91 l0 x13_1).f0) + a1), wrap64 (((rd_T91 l0 x13_1).f1) + a2)⟩ : S91)); (case aB => exact (pB1 HB.out GE443.out)); (case aF => exact (fun k_ hk => Kd.freshB (g := gb443) (o := .cells #[.int .i64 ((rd_T91 l0 x13_1).f0), .int .i64 ((rd_T91 l0 x13_1).f1)] 91 (0, 0)) (by refine zg #[.int .i64 ((rd_T91 l0 x13_1).f0), .int .i64 0] 1 ?_; refine zg #[.int .i64 0, .int .i64 0] 0 ?_; exact pK BK443.out) k_ hk)); (case aO => exact (by (with_reducible repeat (first | apply Kd.R_alloc | apply Kd.R_drewN | apply Kd.R_drew)); exact Kd.R_mono (Kd.R_far (p := ⟨gb443, 1, none⟩) (Kd.R_far (p := ⟨gb443, 0, none⟩) (Kd.R_mono HO_7.out (fun k_ hk => (⟨hk, hk.2⟩ : _ ∧ k_ ≠ gb443))) (fun _ hk => hk.2) (.int .i64 ((rd_T91 l0 x13_1).f0))) (fun _ hk => hk.2) (.int .i64 ((rd_T91 l0 x13_1).f1))) (fun _ hk => hk.1.2))); (case aS => exact (below_size (pB1 HB.out GE443.out))); (case aL => have := LMc9.out; omega); intro v445 w12 ho hb hg hat; rw [← Ny444.out] at ho; have HO446 := Aside0.mk (ho); replace BK443 := Aside0.mk (blk_grown (g := gb443) (o := .cells #[.int .i64 ((rd_T91 l0 x13_1).f0), .int .i64 ((rd_T91 l0 x13_1).f1)] 91 (0, 0)) (by refine zg #[.int .i64 ((rd_T91 l0 x13_1).f0), .int .i64 0] 1 ?_; refine zg #[.int .i64 0, .int .i64 0] 0 ?_; exact pK BK443.out) hg (Kd.R_away HO_7.out (fun _ hk => hk.2))); replace HB := Aside0.mk (hb); clear HO_7; clear ho hb hg hat))
    go_roundg k1
    case measure => have := HK1.out; omega
    case rel => exact ⟨(y444), (wrap64 (x13_1 + 1)), zR, H', ⟨by have := HK1.out; omega⟩, ⟨by (with_reducible repeat (first | apply Kd.R_alloc | apply Kd.R_drewN | apply Kd.R_drew)); exact Kd.R_mono HO446.out (fun _ hk => trivial)⟩, ⟨pB1 HB.out GE443.out⟩⟩
def impl_turnPoints.l0 : Nat → Int → List (S91) → List (S91) → Int → Int → Option ((List (S91)))
 | 0, _, _, _, _, _ => none
 | k + 1, x1, x5, x11, x12, x13 => if x13 < x12 then (if 0 ≤ x13 then (if x13 < (x11.length : Int) then ((impl_Turned.f k ((rd_T91 x11 x13).f0) ((rd_T91 x11 x13).f1) x1).bind fun bt452 => (if x5.length < 8796093022208 then (impl_turnPoints.l0 k x1 (x5 ++ [(⟨bt452.1, bt452.2⟩ : S91)]) x11 x12 (wrap64 (x13 + 1))) else (none))) else (none)) else (none)) else (if x1 > 3 then (if 1 ≤ (x5.length : Int) then ((impl_Point.f x5).bind fun t461 => ((impl_bounds.f k t461).bind fun bt462 => ((impl_shifted.f k t461 (wrap64 (-bt462.1)) (wrap64 (-bt462.2.1))).bind fun t468 => (some t468)))) else (none)) else ((impl_bounds.f k x5).bind fun bt471 => ((impl_shifted.f k x5 (wrap64 (-bt471.1)) (wrap64 (-bt471.2.1))).bind fun t477 => (some t477))))
def impl_turnPoints.f (k : Nat) (l0 : List (S91)) (a1 : Int) : Option ((List (S91))) := impl_turnPoints.l0 k a1 (([] : List (S91))) l0 (l0.length : Int) 0
theorem impl_turnPoints.mono_l : ∀ k, (∀ y0 y1 y2 y3 y4, LeO (impl_turnPoints.l0 k y0 y1 y2 y3 y4) (impl_turnPoints.l0 (k + 1) y0 y1 y2 y3 y4))
 | 0 => fun _ _ _ _ _ r h => by simp [impl_turnPoints.l0] at h
 | k + 1 => by
   have ih0 := impl_turnPoints.mono_l k
   · intro y0 y1 y2 y3 y4
     unfold impl_turnPoints.l0
     repeat' first
     | (with_reducible exact ih0 _ _ _ _ _)
     | (with_reducible exact impl_Turned.mono _ _ _ _)
     | (with_reducible exact impl_bounds.mono _ _)
     | (with_reducible exact impl_shifted.mono _ _ _ _)
     | (with_reducible exact LeO.refl _)
     | (with_reducible exact LeO.none _)
     | (with_reducible refine LeO.ite ?_ ?_)
     | (with_reducible refine LeO.bind ?_ (fun _ => ?_))
     | exact ih0 _ _ _ _ _
     | exact impl_Turned.mono _ _ _ _
     | exact impl_bounds.mono _ _
     | exact impl_shifted.mono _ _ _ _
     | exact LeO.none _
     | refine LeO.ite ?_ ?_
     | refine LeO.bind ?_ (fun _ => ?_)
theorem impl_turnPoints.mono : ∀ a0 a1 k, LeO (impl_turnPoints.f k a0 a1) (impl_turnPoints.f (k + 1) a0 a1) := by
 intro a0 a1 k; have ih0 := impl_turnPoints.mono_l k; unfold impl_turnPoints.f
 repeat' first
  | (with_reducible exact ih0 _ _ _ _ _)
  | (with_reducible exact impl_Turned.mono _ _ _ _)
  | (with_reducible exact impl_bounds.mono _ _)
  | (with_reducible exact impl_shifted.mono _ _ _ _)
  | (with_reducible exact LeO.refl _)
  | (with_reducible exact LeO.none _)
  | (with_reducible refine LeO.ite ?_ ?_)
  | (with_reducible refine LeO.bind ?_ (fun _ => ?_))
  | exact ih0 _ _ _ _ _
  | exact impl_Turned.mono _ _ _ _
  | exact impl_bounds.mono _ _
  | exact impl_shifted.mono _ _ _ _
  | exact LeO.none _
  | refine LeO.ite ?_ ?_
  | refine LeO.bind ?_ (fun _ => ?_)
set_option maxHeartbeats 8000000 in
set_option maxRecDepth 100000 in
theorem impl_turnPoints.calls (k : Nat) (A0 : Option Addr) (c0 : Nat) (l0 : List (S91)) (a1 : Int) (r : List (S91)) (w : World) (hr0 : Kd.C k91 w A0 l0.length l0) (hc0 : l0.length ≤ c0) (h : impl_turnPoints.f k l0 a1 = some r) :
 Calls Try.prog 62 #[.slice A0 l0.length c0, .int .i64 a1] w fun e w' => ∃ v0_ : Value, e = .returned (v0_) ∧ Kd.R k91 91 w' w.heap.size (fun _ => True) v0_ r ∧ Below w.heap.size w w' := by
 have hu91 := Try.underlying91; have HR0 := Aside0.mk hr0; have HC0 := Aside0.mk hc0; clear hr0 hc0; have HB := Aside0.mk (Below.refl w.heap.size w); have H : (impl_turnPoints.l0 k a1 (([] : List (S91))) l0 (l0.length : Int) 0) = some r := h; clear h; obtain ⟨y447, hy447⟩ : ∃ y_ : List (S91), y_ = (([] : List (S91))) := ⟨_, rfl⟩; replace H : (impl_turnPoints.l0 k a1 y447 l0 (l0.length : Int) 0) = some r := zY hy447 H; have Ny447 := Aside0.mk hy447; clear hy447; have H' := Aside0.mk H; clear H
 go_enter Try.func62, Try.ntmps62
 go_wp2_with (first | ((with_reducible refine zI 10 rfl ?_); refine Kd.R_lit k91 _ 91 ?hg (N := 10) ?hd (xs := ([] : List (S91))) (inner := []) (ok := fun _ => True) (okp := fun _ => True) ?hr ?hp (fun _ hk => hk) trivial (Below.refl _ _) (Nat.le_refl _) (by simp) ?_; (case hd => rfl); (case hg => rfl); (case hr => first | (go_simp; done) | (go_simp; rfl)); (case hp => exact (Reps.none _ _)); intro v448 w3 ho4 hb hg_ hnew_; clear hg_ hnew_; (first | rw [← Ny447.out] at ho4 | (simp only [Int.reduceToNat] at ho4; rw [← Ny447.out] at ho4)); have HO449 := Aside0.mk (Kd.R_lower ho4 (below_size (pB0 HB.out))); replace HB := zW (pB0 HB.out) hb; clear hb ho4))
 go_loopg [5, 13] k (fun kq v5 v13 w' => ∃ (x5_1 : List (S91)) (x13_1 : Int), v13 = .int .i64 x13_1 ∧ Aside0 (impl_turnPoints.l0 kq a1 x5_1 l0 (l0.length : Int) x13_1 = some r) ∧ Aside0 (kq ≤ k) ∧ Aside0 (Kd.R k91 91 w' w.heap.size (fun _ => True) v5 x5_1) ∧ Aside0 (Below w.heap.size w w'))
 case atStart => exact ⟨(y447), (0), zR, H', ⟨Nat.le_refl _⟩, ⟨pR HO449.out⟩, ⟨pB0 HB.out⟩⟩
 case round =>
  clear H'; (try clear p2); obtain ⟨x5_1, x13_1, rfl, HA, HK1, HO_5, HB⟩ := hrel
  cases gk with
  | zero => exact absurd HA.out (by simp [impl_turnPoints.l0])
  | succ k1 =>
    have H := HA.out; clear HA; simp only [impl_turnPoints.l0] at H
    by_cases c5 : x13_1 < (l0.length : Int)
    · rw [if_pos c5] at H
      have c5b0 := decide_eq_true c5; clear c5
      by_cases c6 : 0 ≤ x13_1
      rotate_left
      · rw [if_neg c6] at H
        exact absurd H (by simp)
      rw [if_pos c6] at H; have c6b0 := decide_eq_true c6; clear c6
      by_cases c7 : x13_1 < (l0.length : Int)
      rotate_left
      · rw [if_neg c7] at H
        exact absurd H (by simp)
      rw [if_pos c7] at H; have c7b0 := decide_eq_true c7; clear c7; replace H := Option.bind_eq_some_iff.mp H; obtain ⟨⟨t452, t453⟩, A80, H⟩ := H; replace H : (if x5_1.length < 8796093022208 then (impl_turnPoints.l0 k1 a1 (x5_1 ++ [(⟨t452, t453⟩ : S91)]) l0 (l0.length : Int) (wrap64 (x13_1 + 1))) else (none)) = some r := H; have A8 := Aside0.mk A80; clear A80
      by_cases c9 : x5_1.length < 8796093022208
      rotate_left
      · rw [if_neg c9] at H
        exact absurd H (by simp)
      rw [if_pos c9] at H; have LMc9 := Aside0.mk c9; clear c9; obtain ⟨y454, hy454⟩ : ∃ y_ : List (S91), y_ = (x5_1 ++ [(⟨t452, t453⟩ : S91)]) := ⟨_, rfl⟩; replace H : (impl_turnPoints.l0 k1 a1 y454 l0 (l0.length : Int) (wrap64 (x13_1 + 1))) = some r := zY hy454 H; have Ny454 := Aside0.mk hy454; clear hy454; have H' := Aside0.mk H; clear H; have p450 : 0 ≤ (x13_1 : Int) := zD; have q450 : x13_1 < (l0.length : Int) := zD; obtain ⟨ad450, e450, hx450_0, hx450_1⟩ := at_T91 HR0.out x13_1 p450 q450; cases e450
      try replace hx450_0 := zH HB hx450_0
      try replace hx450_1 := zH HB hx450_1
      replace p450 := eq_true p450; replace q450 := eq_true q450
      go_wp2_with (first | ((with_reducible refine zI 7 rfl ?_); refine zB 7 #[.int .i64 0, .int .i64 0] 91 ?_; intro gb451 hg w10 hbox hb; have BK451 := Aside0.mk (hbox); have GW451 := zS (pB0 HB.out) hg; have GE451 := GW451; replace HO_5 := Aside0.mk (Kd.R_below (Kd.R_elderB (pR HO_5.out) gb451 (Nat.le_of_eq hg.symm)) hb); replace HB := zW (pB0 HB.out) hb; clear hb hbox hg; obtain ⟨Y11_0, X11_0, Y11_1, X11_1⟩ := zw2 BK451) | ((with_reducible refine gate_callee (f := 106) rfl ?_); refine zJ (some 20) Try.func106 #[.agg #[.int .i64 ((rd_T91 l0 x13_1).f0), .int .i64 ((rd_T91 l0 x13_1).f1)], .int .i64 a1] ?_; (with_reducible refine (impl_Turned.calls k1 ((rd_T91 l0 x13_1).f0) ((rd_T91 l0 x13_1).f1) a1 t452 t453 _ A8.out).mono ?_); rintro e w12 ⟨rfl, hb⟩; refine ⟨_, rfl, ?_⟩; replace HO_5 := Aside0.mk (Kd.R_below (by (with_reducible repeat (first | apply Kd.R_alloc | apply Kd.R_drewN | apply Kd.R_drew)); exact (Kd.R_mono (Kd.R_far (p := ⟨gb451, 1, none⟩) (Kd.R_far (p := ⟨gb451, 0, none⟩) (Kd.R_mono HO_5.out (fun k_ hk => (⟨hk, hk.2⟩ : _ ∧ k_ ≠ gb451))) (fun _ hk => hk.2) (.int .i64 ((rd_T91 l0 x13_1).f0))) (fun _ hk => hk.2) (.int .i64 ((rd_T91 l0 x13_1).f1))) (fun _ h_ => h_.1))) hb); replace BK451 := Aside0.mk (blk_below (g := gb451) (o := .cells #[.int .i64 ((rd_T91 l0 x13_1).f0), .int .i64 ((rd_T91 l0 x13_1).f1)] 91 (0, 0)) (by refine zg #[.int .i64 ((rd_T91 l0 x13_1).f0), .int .i64 0] 1 ?_; refine zg #[.int .i64 0, .int .i64 0] 0 ?_; exact pK BK451.out) hb); replace HB := zW (pB1 HB.out GE451.out) hb; (try clear hb); (try clear hb2); (try clear hk); (try clear hi)) | ((with_reducible refine gate_builtin (b := .append) (xs := #[.tmp 17, .tmp 21]) rfl ?_); at_builtin; refine Kd.R_append k91 (w0 := w) w.heap.size rfl (.tmp 17) (.tmp 21) 31 91 (.agg #[(.int .i64 0), (.int .i64 0)]) 16 rfl Try.underlying31 info91 rfl (by decide) (by omega) u5 x5_1 (⟨t452, t453⟩ : S91) [.int .i64 t452, .int .i64 t453] (fun k_ => k_ ≠ gb451) (fun _ => False) rfl rfl ?aP (fun _ hk => hk.elim) ?aF ?aO ?aB ?aS ?aL ?_; (case aP => exact k91_mkM _ _ _ (⟨t452, t453⟩ : S91)); (case aB => exact (pB1 HB.out GE451.out)); (case aF => exact (fun k_ hk => Kd.freshB (g := gb451) (o := .cells #[.int .i64 ((rd_T91 l0 x13_1).f0), .int .i64 ((rd_T91 l0 x13_1).f1)] 91 (0, 0)) (pK BK451.out) k_ hk)); (case aO => exact (by (with_reducible repeat (first | apply Kd.R_alloc | apply Kd.R_drewN | apply Kd.R_drew)); exact Kd.R_mono HO_5.out (fun _ hk => hk.2))); (case aS => exact (below_size (pB1 HB.out GE451.out))); (case aL => have := LMc9.out; omega); intro v455 w13 ho hb hg hat; rw [← Ny454.out] at ho; have HO456 := Aside0.mk (ho); replace BK451 := Aside0.mk (blk_grown (g := gb451) (o := .cells #[.int .i64 ((rd_T91 l0 x13_1).f0), .int .i64 ((rd_T91 l0 x13_1).f1)] 91 (0, 0)) (pK BK451.out) hg (Kd.R_away HO_5.out (fun _ hk => hk.2))); replace HB := Aside0.mk (hb); clear HO_5; clear ho hb hg hat))
      go_roundg k1
      case measure => have := HK1.out; omega
      case rel => exact ⟨(y454), (wrap64 (x13_1 + 1)), zR, H', ⟨by have := HK1.out; omega⟩, ⟨by (with_reducible repeat (first | apply Kd.R_alloc | apply Kd.R_drewN | apply Kd.R_drew)); exact Kd.R_mono HO456.out (fun _ hk => trivial)⟩, ⟨pB1 HB.out GE451.out⟩⟩
    rw [if_neg c5] at H; have c5b0 := decide_eq_false c5; clear c5
    by_cases c14 : a1 > 3
    rotate_left
    · rw [if_neg c14] at H
      have c14b0 := decide_eq_false c14; clear c14; replace H := Option.bind_eq_some_iff.mp H; obtain ⟨⟨t471, t472, t473, t474⟩, A290, H⟩ := H
      replace H : ((impl_shifted.f k1 x5_1 (wrap64 (-t471)) (wrap64 (-t472))).bind fun t477 => (some t477)) = some r := H
      have A29 := Aside0.mk A290; clear A290; replace H := Option.bind_eq_some_iff.mp H; obtain ⟨t477, A300, H⟩ := H; have A30 := Aside0.mk A300; clear A300; obtain rfl := Option.some.inj H; obtain ⟨Ao31, co31, eo31⟩ := Kd.R_slice HO_5.out; subst eo31
      go_wp2_with (first | ((with_reducible refine gate_callee (f := 61) rfl ?_); refine zJ (some 31) Try.func61 #[.slice Ao31 x5_1.length co31] ?_; (with_reducible refine (impl_bounds.calls k1 _ _ x5_1 t471 t472 t473 t474 _ ?side1 ?side2 A29.out).mono ?_); (case side1 => exact pC ((Kd.R_reads' HO_5.out).2.2)); (case side2 => exact (Kd.R_reads' HO_5.out).2.1); rintro e w32 ⟨rfl, hb⟩; refine ⟨_, rfl, ?_⟩; replace HO_5 := Aside0.mk (Kd.R_below (pR HO_5.out) hb); replace HB := zW (pB0 HB.out) hb; (try clear hb); (try clear hb2); (try clear hk); (try clear hi)) | ((with_reducible refine zI 8 rfl ?_); refine zB 8 #[.int .i64 0, .int .i64 0] 91 ?_; intro gb475 hg w33 hbox hb; have BK475 := Aside0.mk (hbox); have GW475 := zS (pB0 HB.out) hg; have GE475 := GW475; replace HO_5 := Aside0.mk (Kd.R_below (Kd.R_elderB (pR HO_5.out) gb475 (Nat.le_of_eq hg.symm)) hb); replace HB := zW (pB0 HB.out) hb; clear hb hbox hg) | ((with_reducible refine zI 9 rfl ?_); refine zB 9 #[.int .i64 0, .int .i64 0] 91 ?_; intro gb476 hg w34 hbox hb; have BK476 := Aside0.mk (hbox); have GW476 := zS (pB1 HB.out GE475.out) hg; have GE476 := GW476; have NB475_476 := zL BK475 hg; have NB476_475 := zM BK475 hg; replace HO_5 := Aside0.mk (Kd.R_below (Kd.R_elderB (pR HO_5.out) gb476 (Nat.le_of_eq hg.symm)) hb); replace BK475 := zK BK475 hb; replace HB := zW (pB1 HB.out GE475.out) hb; clear hb hbox hg; have hnb35 := NB475_476.out; have hnc35 := NB476_475.out; obtain ⟨Y36_0, X36_0, Y36_1, X36_1⟩ := zw2 BK475; obtain ⟨Y37_0, X37_0, Y37_1, X37_1⟩ := zw2 BK476) | ((with_reducible refine gate_callee (f := 108) rfl ?_); refine zJ (some 41) Try.func108 #[.slice Ao31 x5_1.length co31, .int .i64 (wrap64 (-t471)), .int .i64 (wrap64 (-t472))] ?_; (with_reducible refine (impl_shifted.calls k1 _ _ x5_1 (wrap64 (-t471)) (wrap64 (-t472)) t477 _ ?side1 ?side2 A30.out).mono ?_); (case side1 => refine (Kd.R_reads' (e := 91) (base := w.heap.size) (ok := fun k_ => ((True ∧ k_ ≠ gb475) ∧ k_ ≠ gb476)) (n := x5_1.length) (c := co31) ?_).2.2; exact (by (with_reducible repeat (first | apply Kd.R_alloc | apply Kd.R_drewN | apply Kd.R_drew)); exact (Kd.R_mono (Kd.R_mono (Kd.R_far (p := ⟨gb476, 1, none⟩) (Kd.R_far (p := ⟨gb476, 0, none⟩) (Kd.R_far (p := ⟨gb475, 1, none⟩) (Kd.R_far (p := ⟨gb475, 0, none⟩) (Kd.R_mono (Kd.R_mono HO_5.out (fun k_ hk => (⟨hk, hk.1.2⟩ : _ ∧ k_ ≠ gb475))) (fun k_ hk => (⟨hk, hk.1.2⟩ : _ ∧ k_ ≠ gb476))) (fun _ hk => hk.1.2) (.int .i64 t471)) (fun _ hk => hk.1.2) (.int .i64 t472)) (fun _ hk => hk.2) (.int .i64 t473)) (fun _ hk => hk.2) (.int .i64 t474)) (fun _ h_ => h_.1)) (fun _ h_ => h_.1)))); (case side2 => exact (Kd.R_reads' HO_5.out).2.1); rintro e w38 ⟨v478, rfl, ho0, hb⟩; refine ⟨_, rfl, ?_⟩; have HO479 := Aside0.mk (Kd.R_lower (Kd.R_newB (Kd.R_newB (Kd.R_new' ho0 (Kd.R_lt (by (with_reducible repeat (first | apply Kd.R_alloc | apply Kd.R_drewN | apply Kd.R_drew)); exact (Kd.R_mono (Kd.R_mono (Kd.R_far (p := ⟨gb476, 1, none⟩) (Kd.R_far (p := ⟨gb476, 0, none⟩) (Kd.R_far (p := ⟨gb475, 1, none⟩) (Kd.R_far (p := ⟨gb475, 0, none⟩) (Kd.R_mono (Kd.R_mono HO_5.out (fun k_ hk => (⟨hk, hk.1.2⟩ : _ ∧ k_ ≠ gb475))) (fun k_ hk => (⟨hk, hk.1.2⟩ : _ ∧ k_ ≠ gb476))) (fun _ hk => hk.1.2) (.int .i64 t471)) (fun _ hk => hk.1.2) (.int .i64 t472)) (fun _ hk => hk.2) (.int .i64 t473)) (fun _ hk => hk.2) (.int .i64 t474)) (fun _ h_ => h_.1)) (fun _ h_ => h_.1))))) (g := gb475) (o := .cells #[.int .i64 t471, .int .i64 t472] 91 (0, 0)) (by refine zf ?_ NB475_476; refine zf ?_ NB475_476; refine zg #[.int .i64 t471, .int .i64 0] 1 ?_; refine zg #[.int .i64 0, .int .i64 0] 0 ?_; exact pK BK475.out)) (g := gb476) (o := .cells #[.int .i64 t473, .int .i64 t474] 91 (0, 0)) (by refine zg #[.int .i64 t473, .int .i64 0] 1 ?_; refine zg #[.int .i64 0, .int .i64 0] 0 ?_; refine zf ?_ NB476_475; refine zf ?_ NB476_475; exact pK BK476.out)) (below_size (pB2 HB.out GE475.out GE476.out))); replace HO_5 := Aside0.mk (Kd.R_elder' (by (with_reducible repeat (first | apply Kd.R_alloc | apply Kd.R_drewN | apply Kd.R_drew)); exact (Kd.R_mono (Kd.R_mono (Kd.R_far (p := ⟨gb476, 1, none⟩) (Kd.R_far (p := ⟨gb476, 0, none⟩) (Kd.R_far (p := ⟨gb475, 1, none⟩) (Kd.R_far (p := ⟨gb475, 0, none⟩) (Kd.R_mono (Kd.R_mono HO_5.out (fun k_ hk => (⟨hk, hk.1.2⟩ : _ ∧ k_ ≠ gb475))) (fun k_ hk => (⟨hk, hk.1.2⟩ : _ ∧ k_ ≠ gb476))) (fun _ hk => hk.1.2) (.int .i64 t471)) (fun _ hk => hk.1.2) (.int .i64 t472)) (fun _ hk => hk.2) (.int .i64 t473)) (fun _ hk => hk.2) (.int .i64 t474)) (fun _ h_ => h_.1)) (fun _ h_ => h_.1))) (Kd.R_base ho0) hb); replace BK475 := Aside0.mk (blk_below (g := gb475) (o := .cells #[.int .i64 t471, .int .i64 t472] 91 (0, 0)) (by refine zf ?_ NB475_476; refine zf ?_ NB475_476; refine zg #[.int .i64 t471, .int .i64 0] 1 ?_; refine zg #[.int .i64 0, .int .i64 0] 0 ?_; exact pK BK475.out) hb); replace BK476 := Aside0.mk (blk_below (g := gb476) (o := .cells #[.int .i64 t473, .int .i64 t474] 91 (0, 0)) (by refine zg #[.int .i64 t473, .int .i64 0] 1 ?_; refine zg #[.int .i64 0, .int .i64 0] 0 ?_; refine zf ?_ NB476_475; refine zf ?_ NB476_475; exact pK BK476.out) hb); replace HB := zW (pB2 HB.out GE475.out GE476.out) hb; (try clear hb); (try clear hb2); (try clear hk); (try clear hi); (try clear ho0)))
      go_ret
      exact ⟨_, zE, by (with_reducible repeat (first | apply Kd.R_alloc | apply Kd.R_drewN | apply Kd.R_drew)); exact Kd.R_mono HO479.out (fun _ hk => trivial), pB2 HB.out GE475.out GE476.out⟩
    rw [if_pos c14] at H; have c14b0 := decide_eq_true c14; clear c14
    by_cases c15 : 1 ≤ (x5_1.length : Int)
    rotate_left
    · rw [if_neg c15] at H
      exact absurd H (by simp)
    rw [if_pos c15] at H; have c15b0 := eq_true c15; have c15b1 := decide_eq_true c15; clear c15; obtain ⟨y457, hy457⟩ : ∃ y_ : List (S91), y_ = (x5_1.drop 1) := ⟨_, rfl⟩
    replace H : ((impl_Point.f x5_1).bind fun t461 => ((impl_bounds.f k1 t461).bind fun bt462 => ((impl_shifted.f k1 t461 (wrap64 (-bt462.1)) (wrap64 (-bt462.2.1))).bind fun t468 => (some t468)))) = some r := zY hy457 H
    have Ny457 := Aside0.mk hy457; clear hy457; replace H := Option.bind_eq_some_iff.mp H; obtain ⟨t461, A160, H⟩ := H; have A16 := Aside0.mk A160; clear A160; replace H := Option.bind_eq_some_iff.mp H; obtain ⟨⟨t462, t463, t464, t465⟩, A170, H⟩ := H
    replace H : ((impl_shifted.f k1 t461 (wrap64 (-t462)) (wrap64 (-t463))).bind fun t468 => (some t468)) = some r := H
    have A17 := Aside0.mk A170; clear A170; replace H := Option.bind_eq_some_iff.mp H; obtain ⟨t468, A180, H⟩ := H; have A18 := Aside0.mk A180; clear A180; obtain rfl := Option.some.inj H; obtain ⟨Ao20, co20, eo20⟩ := Kd.R_slice HO_5.out; subst eo20; have q19 : (1 : Int) ≤ ((x5_1.length : Int) : Int) := zD; obtain ⟨i019, hi019, _, hsz19, _⟩ := info_parts info91; have hroom19 : x5_1.length ≤ co20 := (Kd.R_reads' HO_5.out).2.1; have hC19 : Kd.C k91 _ Ao20 x5_1.length x5_1 := (Kd.R_reads' HO_5.out).2.2
    have hcut19 := cut_from (P := Try.prog) 31 91 .i64 Try.underlying31 hi019 2 hsz19 Ao20 x5_1.length co20 1 (by omega) q19
    have hr19 := Kd.C_drop (m := (1 : Int).toNat) (c := co20) hC19 (by omega) hroom19
    obtain ⟨A19, hA19⟩ : ∃ A1, A1 = (if co20 = (1 : Int).toNat then Ao20 else (Ao20 : Option Addr).map (·.add ((1 : Int).toNat * 2))) := ⟨_, rfl⟩
    obtain ⟨c19, hc19⟩ : ∃ c1, c1 = co20 - (1 : Int).toNat := ⟨_, rfl⟩
    have hy19 : y457.length = x5_1.length - (1 : Int).toNat := (by rw [Ny457.out, List.length_drop] <;> omega)
    rw [show (x5_1).drop (1 : Int).toNat = y457 from Ny457.out.symm] at hr19
    replace hr19 : Kd.C k91 _ A19 y457.length y457 := (by rw [hA19]; exact hr19)
    rw [← hy19, ← hA19, ← hc19] at hcut19; have HR460 := Aside0.mk hr19
    have HC460 := Aside0.mk (show y457.length ≤ c19 from by rw [hy19, hc19]; exact Nat.sub_le_sub_right hroom19 _)
    have KCC19 := Aside0.mk hc19; clear hr19 hC19 hroom19 hi019 hsz19 hc19; have KY19 := Aside0.mk hy19; have KA19 := Aside0.mk hA19; have KC19 := KCC19; clear hy19 hA19
    have KL19 := Aside0.mk (show 1 ≤ x5_1.length from by omega)
    replace q19 := eq_true q19
    go_wp2_with (first | ((with_reducible refine gate_callee (f := 107) rfl ?_); refine zJ (some 28) Try.func107 #[.slice A19 y457.length c19] ?_; (with_reducible refine (impl_Point.calls (fun k_ => some k_ = (.slice Ao20 x5_1.length co20 : Value).ownBlock) (.slice Ao20 x5_1.length co20) x5_1 t461 w _ ?side1 ?side2 ?side3 A16.out).mono ?_); (case side1 => repeat (first | (with_reducible first | exact HB.out | apply below_alloc | apply pw_below_drewN | apply below_drew1) | exact HB.out)); (case side2 => exact Kd.R_tight rfl HO_5.out); (case side3 => (rw [KA19.out, KC19.out, KY19.out]; rfl)); rintro e w21 ⟨rfl, hy0, hb, hkp⟩; refine ⟨_, rfl, ?_⟩; replace HO_5 := Aside0.mk (Kd.R_reok rfl hy0 (fun k_ e_ => HO_5.out.1 k_ e_)); replace HB := Aside0.mk (hb); (try clear hb); (try clear hkp); (try clear hy0)) | ((with_reducible refine gate_callee (f := 61) rfl ?_); refine goesL_ (some 31) rfl rfl Try.func61 (by kernel_rfl) rfl #[.slice Ao20 t461.length co20] rfl (by (try simp only [List.map_toArray, List.map_cons, List.map_nil]); first | done | (rw [show t461.length = x5_1.length from (Kd.R_reads' HO_5.out).1.symm] <;> rfl) | rfl | (simp only [List.length_drop, List.length_take]; rfl)) ?_; (with_reducible refine (impl_bounds.calls k1 _ _ t461 t462 t463 t464 t465 _ ?side1 ?side2 A17.out).mono ?_); (case side1 => exact pC ((Kd.R_reads' HO_5.out).2.2)); (case side2 => rw [show t461.length = x5_1.length from (Kd.R_reads' HO_5.out).1.symm]; exact (Kd.R_reads' HO_5.out).2.1); rintro e w22 ⟨rfl, hb⟩; refine ⟨_, rfl, ?_⟩; replace HO_5 := Aside0.mk (Kd.R_below (pR HO_5.out) hb); replace HB := zW (pB0 HB.out) hb; (try clear hb); (try clear hb2); (try clear hk); (try clear hi)) | ((with_reducible refine zI 8 rfl ?_); refine zB 8 #[.int .i64 0, .int .i64 0] 91 ?_; intro gb466 hg w23 hbox hb; have BK466 := Aside0.mk (hbox); have GW466 := zS (pB0 HB.out) hg; have GE466 := GW466; replace HO_5 := Aside0.mk (Kd.R_below (Kd.R_elderB (pR HO_5.out) gb466 (Nat.le_of_eq hg.symm)) hb); replace HB := zW (pB0 HB.out) hb; clear hb hbox hg) | ((with_reducible refine zI 9 rfl ?_); refine zB 9 #[.int .i64 0, .int .i64 0] 91 ?_; intro gb467 hg w24 hbox hb; have BK467 := Aside0.mk (hbox); have GW467 := zS (pB1 HB.out GE466.out) hg; have GE467 := GW467; have NB466_467 := zL BK466 hg; have NB467_466 := zM BK466 hg; replace HO_5 := Aside0.mk (Kd.R_below (Kd.R_elderB (pR HO_5.out) gb467 (Nat.le_of_eq hg.symm)) hb); replace BK466 := zK BK466 hb; replace HB := zW (pB1 HB.out GE466.out) hb; clear hb hbox hg; have hnb25 := NB466_467.out; have hnc25 := NB467_466.out; obtain ⟨Y26_0, X26_0, Y26_1, X26_1⟩ := zw2 BK466; obtain ⟨Y27_0, X27_0, Y27_1, X27_1⟩ := zw2 BK467) | ((with_reducible refine gate_callee (f := 108) rfl ?_); refine goesL_ (some 41) rfl rfl Try.func108 (by kernel_rfl) rfl #[.slice Ao20 t461.length co20, .int .i64 (wrap64 (-t462)), .int .i64 (wrap64 (-t463))] rfl (by (try simp only [List.map_toArray, List.map_cons, List.map_nil]); first | done | (rw [show t461.length = x5_1.length from (Kd.R_reads' HO_5.out).1.symm] <;> rfl) | rfl | (simp only [List.length_drop, List.length_take]; rfl)) ?_; (with_reducible refine (impl_shifted.calls k1 _ _ t461 (wrap64 (-t462)) (wrap64 (-t463)) t468 _ ?side1 ?side2 A18.out).mono ?_); (case side1 => refine (Kd.R_reads' (e := 91) (base := w.heap.size) (ok := fun k_ => ((True ∧ k_ ≠ gb466) ∧ k_ ≠ gb467)) (n := x5_1.length) (c := co20) ?_).2.2; exact (by (with_reducible repeat (first | apply Kd.R_alloc | apply Kd.R_drewN | apply Kd.R_drew)); exact (Kd.R_mono (Kd.R_mono (Kd.R_far (p := ⟨gb467, 1, none⟩) (Kd.R_far (p := ⟨gb467, 0, none⟩) (Kd.R_far (p := ⟨gb466, 1, none⟩) (Kd.R_far (p := ⟨gb466, 0, none⟩) (Kd.R_mono (Kd.R_mono HO_5.out (fun k_ hk => (⟨hk, hk.1.2⟩ : _ ∧ k_ ≠ gb466))) (fun k_ hk => (⟨hk, hk.1.2⟩ : _ ∧ k_ ≠ gb467))) (fun _ hk => hk.1.2) (.int .i64 t462)) (fun _ hk => hk.1.2) (.int .i64 t463)) (fun _ hk => hk.2) (.int .i64 t464)) (fun _ hk => hk.2) (.int .i64 t465)) (fun _ h_ => h_.1)) (fun _ h_ => h_.1)))); (case side2 => rw [show t461.length = x5_1.length from (Kd.R_reads' HO_5.out).1.symm]; exact (Kd.R_reads' HO_5.out).2.1); rintro e w28 ⟨v469, rfl, ho0, hb⟩; refine ⟨_, rfl, ?_⟩; have HO470 := Aside0.mk (Kd.R_lower (Kd.R_newB (Kd.R_newB (Kd.R_new' ho0 (Kd.R_lt (by (with_reducible repeat (first | apply Kd.R_alloc | apply Kd.R_drewN | apply Kd.R_drew)); exact (Kd.R_mono (Kd.R_mono (Kd.R_far (p := ⟨gb467, 1, none⟩) (Kd.R_far (p := ⟨gb467, 0, none⟩) (Kd.R_far (p := ⟨gb466, 1, none⟩) (Kd.R_far (p := ⟨gb466, 0, none⟩) (Kd.R_mono (Kd.R_mono HO_5.out (fun k_ hk => (⟨hk, hk.1.2⟩ : _ ∧ k_ ≠ gb466))) (fun k_ hk => (⟨hk, hk.1.2⟩ : _ ∧ k_ ≠ gb467))) (fun _ hk => hk.1.2) (.int .i64 t462)) (fun _ hk => hk.1.2) (.int .i64 t463)) (fun _ hk => hk.2) (.int .i64 t464)) (fun _ hk => hk.2) (.int .i64 t465)) (fun _ h_ => h_.1)) (fun _ h_ => h_.1))))) (g := gb466) (o := .cells #[.int .i64 t462, .int .i64 t463] 91 (0, 0)) (by refine zf ?_ NB466_467; refine zf ?_ NB466_467; refine zg #[.int .i64 t462, .int .i64 0] 1 ?_; refine zg #[.int .i64 0, .int .i64 0] 0 ?_; exact pK BK466.out)) (g := gb467) (o := .cells #[.int .i64 t464, .int .i64 t465] 91 (0, 0)) (by refine zg #[.int .i64 t464, .int .i64 0] 1 ?_; refine zg #[.int .i64 0, .int .i64 0] 0 ?_; refine zf ?_ NB467_466; refine zf ?_ NB467_466; exact pK BK467.out)) (below_size (pB2 HB.out GE466.out GE467.out))); replace HO_5 := Aside0.mk (Kd.R_elder' (by (with_reducible repeat (first | apply Kd.R_alloc | apply Kd.R_drewN | apply Kd.R_drew)); exact (Kd.R_mono (Kd.R_mono (Kd.R_far (p := ⟨gb467, 1, none⟩) (Kd.R_far (p := ⟨gb467, 0, none⟩) (Kd.R_far (p := ⟨gb466, 1, none⟩) (Kd.R_far (p := ⟨gb466, 0, none⟩) (Kd.R_mono (Kd.R_mono HO_5.out (fun k_ hk => (⟨hk, hk.1.2⟩ : _ ∧ k_ ≠ gb466))) (fun k_ hk => (⟨hk, hk.1.2⟩ : _ ∧ k_ ≠ gb467))) (fun _ hk => hk.1.2) (.int .i64 t462)) (fun _ hk => hk.1.2) (.int .i64 t463)) (fun _ hk => hk.2) (.int .i64 t464)) (fun _ hk => hk.2) (.int .i64 t465)) (fun _ h_ => h_.1)) (fun _ h_ => h_.1))) (Kd.R_base ho0) hb); replace BK466 := Aside0.mk (blk_below (g := gb466) (o := .cells #[.int .i64 t462, .int .i64 t463] 91 (0, 0)) (by refine zf ?_ NB466_467; refine zf ?_ NB466_467; refine zg #[.int .i64 t462, .int .i64 0] 1 ?_; refine zg #[.int .i64 0, .int .i64 0] 0 ?_; exact pK BK466.out) hb); replace BK467 := Aside0.mk (blk_below (g := gb467) (o := .cells #[.int .i64 t464, .int .i64 t465] 91 (0, 0)) (by refine zg #[.int .i64 t464, .int .i64 0] 1 ?_; refine zg #[.int .i64 0, .int .i64 0] 0 ?_; refine zf ?_ NB467_466; refine zf ?_ NB467_466; exact pK BK467.out) hb); replace HB := zW (pB2 HB.out GE466.out GE467.out) hb; (try clear hb); (try clear hb2); (try clear hk); (try clear hi); (try clear ho0)))
    go_ret
    exact ⟨_, zE, by (with_reducible repeat (first | apply Kd.R_alloc | apply Kd.R_drewN | apply Kd.R_drew)); exact Kd.R_mono HO470.out (fun _ hk => trivial), pB2 HB.out GE466.out GE467.out⟩
def impl_turnsThatFit.l0 : Nat → List (S91) → List Int → Int → ByteArray → ByteArray → Int → ByteArray → Int → Int → Int → Int → List (S103) → Option (List Int)
 | 0, _, _, _, _, _, _, _, _, _, _, _, _ => none
 | k + 1, x0, x5, x10, x481000, x481001, x481002, x481003, x481004, x481005, x481006, x481007, x481008 => if x10 < 8 then ((impl_turnPoints.f k x0 x10).bind fun t484 => ((impl_bounds.f k t484).bind fun bt487 => (if bt487.2.2.1 ≤ x481006 then (if bt487.2.2.2 ≤ x481007 then (if x5.length < 17592186044416 then (impl_turnsThatFit.l0 k x0 (x5 ++ [x10]) (wrap64 (x10 + 1)) x481000 x481001 x481002 x481003 x481004 x481005 x481006 x481007 x481008) else (none)) else (impl_turnsThatFit.l0 k x0 x5 (wrap64 (x10 + 1)) x481000 x481001 x481002 x481003 x481004 x481005 x481006 x481007 x481008)) else (impl_turnsThatFit.l0 k x0 x5 (wrap64 (x10 + 1)) x481000 x481001 x481002 x481003 x481004 x481005 x481006 x481007 x481008)))) else (some x5)
def impl_turnsThatFit.f (k : Nat) (l0 : List (S91)) (a1_0 : ByteArray) (a1_1 : ByteArray) (a1_2 : Int) (a1_3 : ByteArray) (a1_4 : Int) (a1_5 : Int) (a1_6 : Int) (a1_7 : Int) (l1_8 : List (S103)) : Option (List Int) := impl_turnsThatFit.l0 k l0 (([] : List Int)) 0 a1_0 a1_1 a1_2 a1_3 a1_4 a1_5 a1_6 a1_7 l1_8
theorem impl_turnsThatFit.mono_l : ∀ k, (∀ y0 y1 y2 y3 y4 y5 y6 y7 y8 y9 y10 y11, LeO (impl_turnsThatFit.l0 k y0 y1 y2 y3 y4 y5 y6 y7 y8 y9 y10 y11) (impl_turnsThatFit.l0 (k + 1) y0 y1 y2 y3 y4 y5 y6 y7 y8 y9 y10 y11))
 | 0 => fun _ _ _ _ _ _ _ _ _ _ _ _ r h => by simp [impl_turnsThatFit.l0] at h
 | k + 1 => by
   have ih0 := impl_turnsThatFit.mono_l k
   · intro y0 y1 y2 y3 y4 y5 y6 y7 y8 y9 y10 y11
     unfold impl_turnsThatFit.l0
     repeat' first
     | (with_reducible exact ih0 _ _ _ _ _ _ _ _ _ _ _ _)
     | (with_reducible exact impl_bounds.mono _ _)
     | (with_reducible exact impl_turnPoints.mono _ _ _)
     | (with_reducible exact LeO.refl _)
     | (with_reducible exact LeO.none _)
     | (with_reducible refine LeO.ite ?_ ?_)
     | (with_reducible refine LeO.bind ?_ (fun _ => ?_))
     | exact ih0 _ _ _ _ _ _ _ _ _ _ _ _
     | exact impl_bounds.mono _ _
     | exact impl_turnPoints.mono _ _ _
     | exact LeO.none _
     | refine LeO.ite ?_ ?_
     | refine LeO.bind ?_ (fun _ => ?_)
theorem impl_turnsThatFit.mono : ∀ a0 a1 a2 a3 a4 a5 a6 a7 a8 a9 k, LeO (impl_turnsThatFit.f k a0 a1 a2 a3 a4 a5 a6 a7 a8 a9) (impl_turnsThatFit.f (k + 1) a0 a1 a2 a3 a4 a5 a6 a7 a8 a9) := by
 intro a0 a1 a2 a3 a4 a5 a6 a7 a8 a9 k; have ih0 := impl_turnsThatFit.mono_l k; unfold impl_turnsThatFit.f
 repeat' first
  | (with_reducible exact ih0 _ _ _ _ _ _ _ _ _ _ _ _)
  | (with_reducible exact impl_bounds.mono _ _)
  | (with_reducible exact impl_turnPoints.mono _ _ _)
  | (with_reducible exact LeO.refl _)
  | (with_reducible exact LeO.none _)
  | (with_reducible refine LeO.ite ?_ ?_)
  | (with_reducible refine LeO.bind ?_ (fun _ => ?_))
  | exact ih0 _ _ _ _ _ _ _ _ _ _ _ _
  | exact impl_bounds.mono _ _
  | exact impl_turnPoints.mono _ _ _
  | exact LeO.none _
  | refine LeO.ite ?_ ?_
  | refine LeO.bind ?_ (fun _ => ?_)
set_option maxHeartbeats 8000000 in
set_option maxRecDepth 100000 in
theorem impl_turnsThatFit.calls (k : Nat) (A0 : Option Addr) (c0 : Nat) (l0 : List (S91)) (a1_0 : ByteArray) (a1_1 : ByteArray) (a1_2 : Int) (a1_3 : ByteArray) (a1_4 : Int) (a1_5 : Int) (a1_6 : Int) (a1_7 : Int) (A1_8 : Option Addr) (c1_8 : Nat) (l1_8 : List (S103)) (r : List Int) (w : World) (hr0 : Kd.C k91 w A0 l0.length l0) (hc0 : l0.length ≤ c0) (hr1_8 : Kd.C k103 w A1_8 l1_8.length l1_8) (hc1_8 : l1_8.length ≤ c1_8) (h : impl_turnsThatFit.f k l0 a1_0 a1_1 a1_2 a1_3 a1_4 a1_5 a1_6 a1_7 l1_8 = some r) :
 Calls Try.prog 57 #[.slice A0 l0.length c0, .agg #[.string a1_0, .string a1_1, .int .i64 a1_2, .string a1_3, .int .i64 a1_4, .int .i64 a1_5, .int .i64 a1_6, .int .i64 a1_7, .slice A1_8 l1_8.length c1_8]] w fun e w' => ∃ v0_ : Value, e = .returned (v0_) ∧ Kd.R (Kd.int .i64) 2 w' w.heap.size (fun _ => True) v0_ r ∧ Below w.heap.size w w' := by
 have hu36 := Try.underlying36; have hu91 := Try.underlying91; have HR0 := Aside0.mk hr0; have HC0 := Aside0.mk hc0; clear hr0 hc0; have HR1_8 := Aside0.mk hr1_8; have HC1_8 := Aside0.mk hc1_8; clear hr1_8 hc1_8; have HB := Aside0.mk (Below.refl w.heap.size w); have H : (impl_turnsThatFit.l0 k l0 (([] : List Int)) 0 a1_0 a1_1 a1_2 a1_3 a1_4 a1_5 a1_6 a1_7 l1_8) = some r := h; clear h; obtain ⟨y481, hy481⟩ : ∃ y_ : List Int, y_ = (([] : List Int)) := ⟨_, rfl⟩; replace H : (impl_turnsThatFit.l0 k l0 y481 0 a1_0 a1_1 a1_2 a1_3 a1_4 a1_5 a1_6 a1_7 l1_8) = some r := zY hy481 H; have Ny481 := Aside0.mk hy481; clear hy481; have H' := Aside0.mk H; clear H
 go_enter Try.func57, Try.ntmps57
 go_wp2_with (first | ((with_reducible refine zI 3 rfl ?_); refine zB 3 #[.string a1_0, .string a1_1, .int .i64 a1_2, .string a1_3, .int .i64 a1_4, .int .i64 a1_5, .int .i64 a1_6, .int .i64 a1_7, .slice A1_8 l1_8.length c1_8] 36 ?_; intro gb480 hg w3 hbox hb; have BK480 := Aside0.mk (hbox); have GW480 := zS (pB0 HB.out) hg; have GE480 := GW480; replace HB := zW (pB0 HB.out) hb; clear hb hbox hg) | ((with_reducible refine zI 9 rfl ?_); refine Kd.R_lit (Kd.int .i64) _ 2 ?hg (N := 9) ?hd (xs := ([] : List Int)) (inner := []) (ok := fun _ => True) (okp := fun _ => True) ?hr ?hp (fun _ hk => hk) trivial (Below.refl _ _) (Nat.le_refl _) (by simp) ?_; (case hd => rfl); (case hg => rfl); (case hr => first | (go_simp; done) | (go_simp; rfl)); (case hp => exact (Reps.none _ _)); intro v482 w4 ho5 hb hg_ hnew_; clear hg_ hnew_; (first | rw [← Ny481.out] at ho5 | (simp only [Int.reduceToNat] at ho5; rw [← Ny481.out] at ho5)); have HO483 := Aside0.mk (Kd.R_lower ho5 (below_size (pB1 HB.out GE480.out))); replace BK480 := zK BK480 hb; replace HB := zW (pB1 HB.out GE480.out) hb; clear hb ho5))
 go_loopg [5, 10] k (fun kq v5 v10 w' => ∃ (x5_1 : List Int) (x10_1 : Int), v10 = .int .i64 x10_1 ∧ Aside0 (impl_turnsThatFit.l0 kq l0 x5_1 x10_1 a1_0 a1_1 a1_2 a1_3 a1_4 a1_5 a1_6 a1_7 l1_8 = some r) ∧ Aside0 (kq ≤ k) ∧ Aside0 (Kd.R (Kd.int .i64) 2 w' w.heap.size (fun _ => True) v5 x5_1) ∧ Aside0 (w'.heap[gb480]? = some (.cells #[.string a1_0, .string a1_1, .int .i64 a1_2, .string a1_3, .int .i64 a1_4, .int .i64 a1_5, .int .i64 a1_6, .int .i64 a1_7, (.slice A1_8 l1_8.length c1_8)] 36 (0, 0))) ∧ Aside0 (Below w.heap.size w w'))
 case atStart => exact ⟨(y481), (0), zR, H', ⟨Nat.le_refl _⟩, ⟨pR HO483.out⟩, ⟨pK BK480.out⟩, ⟨pB1 HB.out GE480.out⟩⟩
 case round =>
  clear H'; (try clear c1); (try clear p2); (try clear c5); obtain ⟨x5_1, x10_1, rfl, HA, HK1, HO_5, BK480, HB⟩ := hrel
  cases gk with
  | zero => exact absurd HA.out (by simp [impl_turnsThatFit.l0])
  | succ k1 =>
    have H := HA.out; clear HA; simp only [impl_turnsThatFit.l0] at H
    by_cases c6 : x10_1 < 8
    rotate_left
    · rw [if_neg c6] at H
      have c6b0 := decide_eq_false c6; clear c6; obtain rfl := Option.some.inj H
      go_wp2
      go_ret
      exact ⟨_, zE, by (with_reducible repeat (first | apply Kd.R_alloc | apply Kd.R_drewN | apply Kd.R_drew)); exact HO_5.out, pB1 HB.out GE480.out⟩
    rw [if_pos c6] at H; have c6b0 := decide_eq_true c6; clear c6; replace H := Option.bind_eq_some_iff.mp H; obtain ⟨t484, A70, H⟩ := H; have A7 := Aside0.mk A70; clear A70; replace H := Option.bind_eq_some_iff.mp H; obtain ⟨⟨t487, t488, t489, t490⟩, A80, H⟩ := H
    replace H : (if t489 ≤ a1_6 then (if t490 ≤ a1_7 then (if x5_1.length < 17592186044416 then (impl_turnsThatFit.l0 k1 l0 (x5_1 ++ [x10_1]) (wrap64 (x10_1 + 1)) a1_0 a1_1 a1_2 a1_3 a1_4 a1_5 a1_6 a1_7 l1_8) else (none)) else (impl_turnsThatFit.l0 k1 l0 x5_1 (wrap64 (x10_1 + 1)) a1_0 a1_1 a1_2 a1_3 a1_4 a1_5 a1_6 a1_7 l1_8)) else (impl_turnsThatFit.l0 k1 l0 x5_1 (wrap64 (x10_1 + 1)) a1_0 a1_1 a1_2 a1_3 a1_4 a1_5 a1_6 a1_7 l1_8)) = some r := H
    have A8 := Aside0.mk A80; clear A80
    by_cases c9 : t489 ≤ a1_6
    rotate_left
    · rw [if_neg c9] at H
      have c9b0 := decide_eq_false c9; clear c9; have H' := Aside0.mk H; clear H
      go_wp2_with (first | ((with_reducible refine gate_callee (f := 62) rfl ?_); refine zJ (some 16) Try.func62 #[.slice A0 l0.length c0, .int .i64 x10_1] ?_; (with_reducible refine (impl_turnPoints.calls k1 _ _ l0 x10_1 t484 _ ?side1 ?side2 A7.out).mono ?_); (case side1 => exact pC (Kd.C_below HR0.out HB.out)); (case side2 => exact HC0.out); rintro e w35 ⟨v485, rfl, ho0, hb⟩; refine ⟨_, rfl, ?_⟩; have HO486 := Aside0.mk (Kd.R_lower ho0 (below_size (pB1 HB.out GE480.out))); replace HO_5 := Aside0.mk (Kd.R_below (pR HO_5.out) hb); replace BK480 := zK BK480 hb; replace HB := zW (pB1 HB.out GE480.out) hb; (try clear hb); (try clear hb2); (try clear hk); (try clear hi); (try clear ho0); obtain ⟨Ao36, co36, eo36⟩ := Kd.R_slice HO486.out; subst eo36) | ((with_reducible refine gate_callee (f := 61) rfl ?_); refine zJ (some 17) Try.func61 #[.slice Ao36 t484.length co36] ?_; (with_reducible refine (impl_bounds.calls k1 _ _ t484 t487 t488 t489 t490 _ ?side1 ?side2 A8.out).mono ?_); (case side1 => exact pC ((Kd.R_reads' HO486.out).2.2)); (case side2 => exact (Kd.R_reads' HO486.out).2.1); rintro e w37 ⟨rfl, hb⟩; refine ⟨_, rfl, ?_⟩; replace HO_5 := Aside0.mk (Kd.R_below (pR HO_5.out) hb); replace HO486 := Aside0.mk (Kd.R_below (pR HO486.out) hb); replace BK480 := zK BK480 hb; replace HB := zW (pB1 HB.out GE480.out) hb; (try clear hb); (try clear hb2); (try clear hk); (try clear hi)) | ((with_reducible refine zI 7 rfl ?_); refine zB 7 #[.int .i64 0, .int .i64 0] 91 ?_; intro gb491 hg w38 hbox hb; have BK491 := Aside0.mk (hbox); have GW491 := zS (pB1 HB.out GE480.out) hg; have GE491 := GW491; have NB480_491 := zL BK480 hg; have NB491_480 := zM BK480 hg; replace HO_5 := Aside0.mk (Kd.R_below (pR HO_5.out) hb); replace HO486 := Aside0.mk (Kd.R_below (Kd.R_elderB (pR HO486.out) gb491 (Nat.le_of_eq hg.symm)) hb); replace BK480 := zK BK480 hb; replace HB := zW (pB1 HB.out GE480.out) hb; clear hb hbox hg) | ((with_reducible refine zI 8 rfl ?_); refine zB 8 #[.int .i64 0, .int .i64 0] 91 ?_; intro gb492 hg w39 hbox hb; have BK492 := Aside0.mk (hbox); have GW492 := zS (pB2 HB.out GE480.out GE491.out) hg; have GE492 := GW492; have NB480_492 := zL BK480 hg; have NB492_480 := zM BK480 hg; have NB491_492 := zL BK491 hg; have NB492_491 := zM BK491 hg; replace HO_5 := Aside0.mk (Kd.R_below (pR HO_5.out) hb); replace HO486 := Aside0.mk (Kd.R_below (Kd.R_elderB (pR HO486.out) gb492 (Nat.le_of_eq hg.symm)) hb); replace BK480 := zK BK480 hb; replace BK491 := zK BK491 hb; replace HB := zW (pB2 HB.out GE480.out GE491.out) hb; clear hb hbox hg; have hnb40 := NB491_480.out; have hnc40 := NB480_491.out; have hnb41 := NB491_492.out; have hnc41 := NB492_491.out; obtain ⟨Y42_0, X42_0, Y42_1, X42_1⟩ := zw2 BK491; have hnb43 := NB492_480.out; have hnc43 := NB480_492.out; obtain ⟨Y44_0, X44_0, Y44_1, X44_1⟩ := zw2 BK492; obtain ⟨Y45_0, X45_0, Y45_1, X45_1, Y45_2, X45_2, Y45_3, X45_3, Y45_4, X45_4, Y45_5, X45_5, Y45_6, X45_6, Y45_7, X45_7, Y45_8, X45_8⟩ := zw9 BK480))
      go_roundg k1
      case measure => have := HK1.out; omega
      case rel => exact ⟨(x5_1), (wrap64 (x10_1 + 1)), zR, H', ⟨by have := HK1.out; omega⟩, ⟨by (with_reducible repeat (first | apply Kd.R_alloc | apply Kd.R_drewN | apply Kd.R_drew)); exact Kd.R_mono (Kd.R_far (p := ⟨gb492, 1, none⟩) (Kd.R_far (p := ⟨gb492, 0, none⟩) (Kd.R_far (p := ⟨gb491, 1, none⟩) (Kd.R_far (p := ⟨gb491, 0, none⟩) (Kd.R_types (Kd.R_types HO_5.out BK491.out (by decide)) BK492.out (by decide)) (fun _ hk => hk.1.2) (.int .i64 t487)) (fun _ hk => hk.1.2) (.int .i64 t488)) (fun _ hk => hk.2) (.int .i64 t489)) (fun _ hk => hk.2) (.int .i64 t490)) (fun _ hk => trivial)⟩, ⟨by refine zf ?_ NB480_492; refine zf ?_ NB480_492; refine zf ?_ NB480_491; refine zf ?_ NB480_491; exact pK BK480.out⟩, ⟨pB3 HB.out GE480.out GE491.out GE492.out⟩⟩
    rw [if_pos c9] at H; have c9b0 := decide_eq_true c9; clear c9
    by_cases c10 : t490 ≤ a1_7
    rotate_left
    · rw [if_neg c10] at H
      have c10b0 := decide_eq_false c10; clear c10; have H' := Aside0.mk H; clear H
      go_wp2_with (first | ((with_reducible refine gate_callee (f := 62) rfl ?_); refine zJ (some 16) Try.func62 #[.slice A0 l0.length c0, .int .i64 x10_1] ?_; (with_reducible refine (impl_turnPoints.calls k1 _ _ l0 x10_1 t484 _ ?side1 ?side2 A7.out).mono ?_); (case side1 => exact pC (Kd.C_below HR0.out HB.out)); (case side2 => exact HC0.out); rintro e w24 ⟨v485, rfl, ho0, hb⟩; refine ⟨_, rfl, ?_⟩; have HO486 := Aside0.mk (Kd.R_lower ho0 (below_size (pB1 HB.out GE480.out))); replace HO_5 := Aside0.mk (Kd.R_below (pR HO_5.out) hb); replace BK480 := zK BK480 hb; replace HB := zW (pB1 HB.out GE480.out) hb; (try clear hb); (try clear hb2); (try clear hk); (try clear hi); (try clear ho0); obtain ⟨Ao25, co25, eo25⟩ := Kd.R_slice HO486.out; subst eo25) | ((with_reducible refine gate_callee (f := 61) rfl ?_); refine zJ (some 17) Try.func61 #[.slice Ao25 t484.length co25] ?_; (with_reducible refine (impl_bounds.calls k1 _ _ t484 t487 t488 t489 t490 _ ?side1 ?side2 A8.out).mono ?_); (case side1 => exact pC ((Kd.R_reads' HO486.out).2.2)); (case side2 => exact (Kd.R_reads' HO486.out).2.1); rintro e w26 ⟨rfl, hb⟩; refine ⟨_, rfl, ?_⟩; replace HO_5 := Aside0.mk (Kd.R_below (pR HO_5.out) hb); replace HO486 := Aside0.mk (Kd.R_below (pR HO486.out) hb); replace BK480 := zK BK480 hb; replace HB := zW (pB1 HB.out GE480.out) hb; (try clear hb); (try clear hb2); (try clear hk); (try clear hi)) | ((with_reducible refine zI 7 rfl ?_); refine zB 7 #[.int .i64 0, .int .i64 0] 91 ?_; intro gb491 hg w27 hbox hb; have BK491 := Aside0.mk (hbox); have GW491 := zS (pB1 HB.out GE480.out) hg; have GE491 := GW491; have NB480_491 := zL BK480 hg; have NB491_480 := zM BK480 hg; replace HO_5 := Aside0.mk (Kd.R_below (pR HO_5.out) hb); replace HO486 := Aside0.mk (Kd.R_below (Kd.R_elderB (pR HO486.out) gb491 (Nat.le_of_eq hg.symm)) hb); replace BK480 := zK BK480 hb; replace HB := zW (pB1 HB.out GE480.out) hb; clear hb hbox hg) | ((with_reducible refine zI 8 rfl ?_); refine zB 8 #[.int .i64 0, .int .i64 0] 91 ?_; intro gb492 hg w28 hbox hb; have BK492 := Aside0.mk (hbox); have GW492 := zS (pB2 HB.out GE480.out GE491.out) hg; have GE492 := GW492; have NB480_492 := zL BK480 hg; have NB492_480 := zM BK480 hg; have NB491_492 := zL BK491 hg; have NB492_491 := zM BK491 hg; replace HO_5 := Aside0.mk (Kd.R_below (pR HO_5.out) hb); replace HO486 := Aside0.mk (Kd.R_below (Kd.R_elderB (pR HO486.out) gb492 (Nat.le_of_eq hg.symm)) hb); replace BK480 := zK BK480 hb; replace BK491 := zK BK491 hb; replace HB := zW (pB2 HB.out GE480.out GE491.out) hb; clear hb hbox hg; have hnb29 := NB491_480.out; have hnc29 := NB480_491.out; have hnb30 := NB491_492.out; have hnc30 := NB492_491.out; obtain ⟨Y31_0, X31_0, Y31_1, X31_1⟩ := zw2 BK491; have hnb32 := NB492_480.out; have hnc32 := NB480_492.out; obtain ⟨Y33_0, X33_0, Y33_1, X33_1⟩ := zw2 BK492; obtain ⟨Y34_0, X34_0, Y34_1, X34_1, Y34_2, X34_2, Y34_3, X34_3, Y34_4, X34_4, Y34_5, X34_5, Y34_6, X34_6, Y34_7, X34_7, Y34_8, X34_8⟩ := zw9 BK480))
      go_roundg k1
      case measure => have := HK1.out; omega
      case rel => exact ⟨(x5_1), (wrap64 (x10_1 + 1)), zR, H', ⟨by have := HK1.out; omega⟩, ⟨by (with_reducible repeat (first | apply Kd.R_alloc | apply Kd.R_drewN | apply Kd.R_drew)); exact Kd.R_mono (Kd.R_far (p := ⟨gb492, 1, none⟩) (Kd.R_far (p := ⟨gb492, 0, none⟩) (Kd.R_far (p := ⟨gb491, 1, none⟩) (Kd.R_far (p := ⟨gb491, 0, none⟩) (Kd.R_types (Kd.R_types HO_5.out BK491.out (by decide)) BK492.out (by decide)) (fun _ hk => hk.1.2) (.int .i64 t487)) (fun _ hk => hk.1.2) (.int .i64 t488)) (fun _ hk => hk.2) (.int .i64 t489)) (fun _ hk => hk.2) (.int .i64 t490)) (fun _ hk => trivial)⟩, ⟨by refine zf ?_ NB480_492; refine zf ?_ NB480_492; refine zf ?_ NB480_491; refine zf ?_ NB480_491; exact pK BK480.out⟩, ⟨pB3 HB.out GE480.out GE491.out GE492.out⟩⟩
    rw [if_pos c10] at H; have c10b0 := decide_eq_true c10; clear c10
    by_cases c11 : x5_1.length < 17592186044416
    rotate_left
    · rw [if_neg c11] at H
      exact absurd H (by simp)
    rw [if_pos c11] at H; have LMc11 := Aside0.mk c11; clear c11; obtain ⟨y493, hy493⟩ : ∃ y_ : List Int, y_ = (x5_1 ++ [x10_1]) := ⟨_, rfl⟩; replace H : (impl_turnsThatFit.l0 k1 l0 y493 (wrap64 (x10_1 + 1)) a1_0 a1_1 a1_2 a1_3 a1_4 a1_5 a1_6 a1_7 l1_8) = some r := zY hy493 H; have Ny493 := Aside0.mk hy493; clear hy493; have H' := Aside0.mk H; clear H
    go_wp2_with (first | ((with_reducible refine gate_callee (f := 62) rfl ?_); refine zJ (some 16) Try.func62 #[.slice A0 l0.length c0, .int .i64 x10_1] ?_; (with_reducible refine (impl_turnPoints.calls k1 _ _ l0 x10_1 t484 _ ?side1 ?side2 A7.out).mono ?_); (case side1 => exact pC (Kd.C_below HR0.out HB.out)); (case side2 => exact HC0.out); rintro e w12 ⟨v485, rfl, ho0, hb⟩; refine ⟨_, rfl, ?_⟩; have HO486 := Aside0.mk (Kd.R_lower ho0 (below_size (pB1 HB.out GE480.out))); replace HO_5 := Aside0.mk (Kd.R_below (pR HO_5.out) hb); replace BK480 := zK BK480 hb; replace HB := zW (pB1 HB.out GE480.out) hb; (try clear hb); (try clear hb2); (try clear hk); (try clear hi); (try clear ho0); obtain ⟨Ao13, co13, eo13⟩ := Kd.R_slice HO486.out; subst eo13) | ((with_reducible refine gate_callee (f := 61) rfl ?_); refine zJ (some 17) Try.func61 #[.slice Ao13 t484.length co13] ?_; (with_reducible refine (impl_bounds.calls k1 _ _ t484 t487 t488 t489 t490 _ ?side1 ?side2 A8.out).mono ?_); (case side1 => exact pC ((Kd.R_reads' HO486.out).2.2)); (case side2 => exact (Kd.R_reads' HO486.out).2.1); rintro e w14 ⟨rfl, hb⟩; refine ⟨_, rfl, ?_⟩; replace HO_5 := Aside0.mk (Kd.R_below (pR HO_5.out) hb); replace HO486 := Aside0.mk (Kd.R_below (pR HO486.out) hb); replace BK480 := zK BK480 hb; replace HB := zW (pB1 HB.out GE480.out) hb; (try clear hb); (try clear hb2); (try clear hk); (try clear hi)) | ((with_reducible refine zI 7 rfl ?_); refine zB 7 #[.int .i64 0, .int .i64 0] 91 ?_; intro gb491 hg w15 hbox hb; have BK491 := Aside0.mk (hbox); have GW491 := zS (pB1 HB.out GE480.out) hg; have GE491 := GW491; have NB480_491 := zL BK480 hg; have NB491_480 := zM BK480 hg; replace HO_5 := Aside0.mk (Kd.R_below (pR HO_5.out) hb); replace HO486 := Aside0.mk (Kd.R_below (Kd.R_elderB (pR HO486.out) gb491 (Nat.le_of_eq hg.symm)) hb); replace BK480 := zK BK480 hb; replace HB := zW (pB1 HB.out GE480.out) hb; clear hb hbox hg) | ((with_reducible refine zI 8 rfl ?_); refine zB 8 #[.int .i64 0, .int .i64 0] 91 ?_; intro gb492 hg w16 hbox hb; have BK492 := Aside0.mk (hbox); have GW492 := zS (pB2 HB.out GE480.out GE491.out) hg; have GE492 := GW492; have NB480_492 := zL BK480 hg; have NB492_480 := zM BK480 hg; have NB491_492 := zL BK491 hg; have NB492_491 := zM BK491 hg; replace HO_5 := Aside0.mk (Kd.R_below (pR HO_5.out) hb); replace HO486 := Aside0.mk (Kd.R_below (Kd.R_elderB (pR HO486.out) gb492 (Nat.le_of_eq hg.symm)) hb); replace BK480 := zK BK480 hb; replace BK491 := zK BK491 hb; replace HB := zW (pB2 HB.out GE480.out GE491.out) hb; clear hb hbox hg; have hnb17 := NB491_480.out; have hnc17 := NB480_491.out; have hnb18 := NB491_492.out; have hnc18 := NB492_491.out; obtain ⟨Y19_0, X19_0, Y19_1, X19_1⟩ := zw2 BK491; have hnb20 := NB492_480.out; have hnc20 := NB480_492.out; obtain ⟨Y21_0, X21_0, Y21_1, X21_1⟩ := zw2 BK492; obtain ⟨Y22_0, X22_0, Y22_1, X22_1, Y22_2, X22_2, Y22_3, X22_3, Y22_4, X22_4, Y22_5, X22_5, Y22_6, X22_6, Y22_7, X22_7, Y22_8, X22_8⟩ := zw9 BK480) | ((with_reducible refine gate_builtin (b := .append) (xs := #[.tmp 32, .tmp 34]) rfl ?_); at_builtin; refine Kd.R_append (Kd.int .i64) (w0 := w) w.heap.size rfl (.tmp 32) (.tmp 34) 41 2 (.int .i64 0) 8 rfl Try.underlying41 info2 rfl (by decide) (by omega) u5 x5_1 x10_1 [.int .i64 x10_1] (fun _ => True) (fun _ => False) rfl (by first | (go_simp; done) | (go_simp; rfl)) ?aP (fun _ hk => hk.elim) ?aF ?aO ?aB ?aS ?aL ?_; (case aP => exact rfl); (case aB => exact (pB3 HB.out GE480.out GE491.out GE492.out)); (case aF => exact (fun _ _ => trivial)); (case aO => exact (by (with_reducible repeat (first | apply Kd.R_alloc | apply Kd.R_drewN | apply Kd.R_drew)); exact Kd.R_mono (Kd.R_far (p := ⟨gb492, 1, none⟩) (Kd.R_far (p := ⟨gb492, 0, none⟩) (Kd.R_far (p := ⟨gb491, 1, none⟩) (Kd.R_far (p := ⟨gb491, 0, none⟩) (Kd.R_types (Kd.R_types HO_5.out BK491.out (by decide)) BK492.out (by decide)) (fun _ hk => hk.1.2) (.int .i64 t487)) (fun _ hk => hk.1.2) (.int .i64 t488)) (fun _ hk => hk.2) (.int .i64 t489)) (fun _ hk => hk.2) (.int .i64 t490)) (fun _ hk => trivial))); (case aS => exact (below_size (pB3 HB.out GE480.out GE491.out GE492.out))); (case aL => have := LMc11.out; omega); intro v494 w23 ho hb hg hat; rw [← Ny493.out] at ho; have HO495 := Aside0.mk (ho); replace BK480 := Aside0.mk (blk_grown (g := gb480) (o := .cells #[.string a1_0, .string a1_1, .int .i64 a1_2, .string a1_3, .int .i64 a1_4, .int .i64 a1_5, .int .i64 a1_6, .int .i64 a1_7, .slice A1_8 l1_8.length c1_8] 36 (0, 0)) (by refine zf ?_ NB480_492; refine zf ?_ NB480_492; refine zf ?_ NB480_491; refine zf ?_ NB480_491; exact pK BK480.out) hg (Kd.R_ne HO_5.out BK480.out (by decide))); replace HO486 := Aside0.mk (Kd.R_over' (by (with_reducible repeat (first | apply Kd.R_alloc | apply Kd.R_drewN | apply Kd.R_drew)); exact (Kd.R_mono (Kd.R_mono (Kd.R_far (p := ⟨gb492, 1, none⟩) (Kd.R_far (p := ⟨gb492, 0, none⟩) (Kd.R_far (p := ⟨gb491, 1, none⟩) (Kd.R_far (p := ⟨gb491, 0, none⟩) (Kd.R_mono (Kd.R_mono HO486.out (fun k_ hk => (⟨hk, hk.1.2⟩ : _ ∧ k_ ≠ gb491))) (fun k_ hk => (⟨hk, hk.1.2⟩ : _ ∧ k_ ≠ gb492))) (fun _ hk => hk.1.2) (.int .i64 t487)) (fun _ hk => hk.1.2) (.int .i64 t488)) (fun _ hk => hk.2) (.int .i64 t489)) (fun _ hk => hk.2) (.int .i64 t490)) (fun _ h_ => h_.1)) (fun _ h_ => h_.1))) (Kd.R_typed (by (with_reducible repeat (first | apply Kd.R_alloc | apply Kd.R_drewN | apply Kd.R_drew)); exact (Kd.R_mono (Kd.R_mono (Kd.R_far (p := ⟨gb492, 1, none⟩) (Kd.R_far (p := ⟨gb492, 0, none⟩) (Kd.R_far (p := ⟨gb491, 1, none⟩) (Kd.R_far (p := ⟨gb491, 0, none⟩) (Kd.R_types (Kd.R_types HO_5.out BK491.out (by decide)) BK492.out (by decide)) (fun _ hk => hk.1.2) (.int .i64 t487)) (fun _ hk => hk.1.2) (.int .i64 t488)) (fun _ hk => hk.2) (.int .i64 t489)) (fun _ hk => hk.2) (.int .i64 t490)) (fun _ h_ => h_.1)) (fun _ h_ => h_.1)))) (by decide) hg); replace BK491 := Aside0.mk (blk_grown (g := gb491) (o := .cells #[.int .i64 t487, .int .i64 t488] 91 (0, 0)) (by refine zf ?_ NB491_492; refine zf ?_ NB491_492; refine zg #[.int .i64 t487, .int .i64 0] 1 ?_; refine zg #[.int .i64 0, .int .i64 0] 0 ?_; exact pK BK491.out) hg (Kd.R_ne HO_5.out BK491.out (by decide))); replace BK492 := Aside0.mk (blk_grown (g := gb492) (o := .cells #[.int .i64 t489, .int .i64 t490] 91 (0, 0)) (by refine zg #[.int .i64 t489, .int .i64 0] 1 ?_; refine zg #[.int .i64 0, .int .i64 0] 0 ?_; refine zf ?_ NB492_491; refine zf ?_ NB492_491; exact pK BK492.out) hg (Kd.R_ne HO_5.out BK492.out (by decide))); replace HB := Aside0.mk (hb); clear HO_5; clear ho hb hg hat))
    go_roundg k1
    case measure => have := HK1.out; omega
    case rel => exact ⟨(y493), (wrap64 (x10_1 + 1)), zR, H', ⟨by have := HK1.out; omega⟩, ⟨pR HO495.out⟩, ⟨pK BK480.out⟩, ⟨pB3 HB.out GE480.out GE491.out GE492.out⟩⟩
end Go.Proofs.Ytfiiakhpdkdebaa.PFnExactOffcutsOf

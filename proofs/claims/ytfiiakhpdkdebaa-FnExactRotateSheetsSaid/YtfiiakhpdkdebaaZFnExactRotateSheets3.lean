/- What each function that a law reaches comes to, and the proof that its walk comes to it; laid by a program of this session. No condition. -/
import Derived.Test.YtfiiakhpdkdebaaZFnExactRotateSheets0
import Derived.Test.YtfiiakhpdkdebaaZFnExactRotateSheets2
namespace Go.Proofs.Ytfiiakhpdkdebaa.PFnExactRotateSheets
open Go.RowKit Go.Proofs.YtfiiakhpdkdebaaW.PrintWords Go.Proofs.YtfiiakhpdkdebaaW.PrintLast Go.Proofs.YtfiiakhpdkdebaaW.PrintMore
attribute [local go_sem] max2_int min2_int max_two min_two max_three min_three max_four min_four
set_option linter.unusedVariables false
set_option linter.unusedSimpArgs false
def spec_l07Find.l0 : Nat → ByteArray → List ByteArray → Int → Option (Int)
 | 0, _, _, _ => none
 | k + 1, x0, x3, x4 => if x4 < (x3.length : Int) then (if 0 ≤ x4 then (if (rdOf ByteArray.empty x3 x4).toList = x0.toList then (some x4) else (spec_l07Find.l0 k x0 x3 (wrap64 (x4 + 1)))) else (none)) else (some (-1))
def spec_l07Find.f (k : Nat) (a0 : ByteArray) : Option (Int) := (spec_l07Names.f).bind fun t159 => (spec_l07Find.l0 k a0 t159 0)
theorem spec_l07Find.mono_l : ∀ k, (∀ y0 y1 y2, LeO (spec_l07Find.l0 k y0 y1 y2) (spec_l07Find.l0 (k + 1) y0 y1 y2))
 | 0 => fun _ _ _ r h => by simp [spec_l07Find.l0] at h
 | k + 1 => by
   have ih0 := spec_l07Find.mono_l k
   · intro y0 y1 y2
     unfold spec_l07Find.l0
     repeat' first
     | (with_reducible exact ih0 _ _ _)
     | (with_reducible exact LeO.refl _)
     | (with_reducible exact LeO.none _)
     | (with_reducible refine LeO.ite ?_ ?_)
     | (with_reducible refine LeO.bind ?_ (fun _ => ?_))
     | exact ih0 _ _ _
     | exact LeO.none _
     | refine LeO.ite ?_ ?_
     | refine LeO.bind ?_ (fun _ => ?_)
theorem spec_l07Find.mono : ∀ a0 k, LeO (spec_l07Find.f k a0) (spec_l07Find.f (k + 1) a0) := by
 intro a0 k; have ih0 := spec_l07Find.mono_l k; unfold spec_l07Find.f
 repeat' first
  | (with_reducible exact ih0 _ _ _)
  | (with_reducible exact LeO.refl _)
  | (with_reducible exact LeO.none _)
  | (with_reducible refine LeO.ite ?_ ?_)
  | (with_reducible refine LeO.bind ?_ (fun _ => ?_))
  | exact ih0 _ _ _
  | exact LeO.none _
  | refine LeO.ite ?_ ?_
  | refine LeO.bind ?_ (fun _ => ?_)
set_option maxHeartbeats 8000000 in
set_option maxRecDepth 100000 in
theorem spec_l07Find.calls (k : Nat) (a0 : ByteArray) (r : Int) (w : World) (h : spec_l07Find.f k a0 = some r) :
 Calls Try.prog 129 #[.string a0] w fun e w' => e = .returned (.int .i64 r) ∧ Below w.heap.size w w' := by
 have HB := Aside0.mk (Below.refl w.heap.size w)
 have H : ((spec_l07Names.f).bind fun t159 => (spec_l07Find.l0 k a0 t159 0)) = some r := h
 clear h; replace H := Option.bind_eq_some_iff.mp H; obtain ⟨t159, A20, H⟩ := H; have A2 := Aside0.mk A20; clear A20; have H' := Aside0.mk H; clear H
 go_enter Try.func129, Try.ntmps129
 go_wp2_with (first | ((with_reducible refine gate_callee (f := 141) rfl ?_); refine zJ (some 5) Try.func141 #[] ?_; (with_reducible refine (spec_l07Names.calls  t159 _ A2.out).mono ?_); rintro e w3 ⟨v160, rfl, ho0, hb⟩; refine ⟨_, rfl, ?_⟩; have HO161 := Aside0.mk (Kd.R_lower ho0 (below_size (pB0 HB.out))); replace HB := zW (pB0 HB.out) hb; (try clear hb); (try clear hb2); (try clear hk); (try clear hi); (try clear ho0)))
 go_loopg [4] k (fun kq v4 w' => ∃ (x4_1 : Int), v4 = .int .i64 x4_1 ∧ Aside0 (spec_l07Find.l0 kq a0 t159 x4_1 = some r) ∧ Aside0 (kq ≤ k) ∧ Aside0 (Kd.R Kd.string 9 w' w.heap.size (fun _ => True) v160 t159) ∧ Aside0 (Below w.heap.size w w'))
 case atStart => exact ⟨(0), zR, H', ⟨Nat.le_refl _⟩, ⟨pR HO161.out⟩, ⟨pB0 HB.out⟩⟩
 case round =>
  clear H'; (try clear c1); (try clear p2); obtain ⟨x4_1, rfl, HA, HK1, HO_3, HB⟩ := hrel
  cases gk with
  | zero => exact absurd HA.out (by simp [spec_l07Find.l0])
  | succ k1 =>
    have H := HA.out; clear HA; simp only [spec_l07Find.l0] at H
    by_cases c4 : x4_1 < (t159.length : Int)
    rotate_left
    · rw [if_neg c4] at H
      have c4b0 := decide_eq_false c4; clear c4; obtain rfl := Option.some.inj H; obtain ⟨Ao9, co9, eo9⟩ := Kd.R_slice HO_3.out; subst eo9
      go_wp2
      go_ret
      exact ⟨zE, pB0 HB.out⟩
    rw [if_pos c4] at H; have c4b0 := decide_eq_true c4; clear c4
    by_cases c5 : 0 ≤ x4_1
    rotate_left
    · rw [if_neg c5] at H
      exact absurd H (by simp)
    rw [if_pos c5] at H; have c5b0 := decide_eq_true c5; clear c5
    by_cases c6 : (rdOf ByteArray.empty t159 x4_1).toList = a0.toList
    · rw [if_pos c6] at H
      have c6b0 : ((rdOf ByteArray.empty t159 x4_1).toList == a0.toList) = true := beq_iff_eq.mpr c6; have c6b1 : ((rdOf ByteArray.empty t159 x4_1).toList != a0.toList) = false := bne_eq_false_iff_eq.mpr c6; clear c6; obtain rfl := Option.some.inj H; obtain ⟨Ao7, co7, eo7⟩ := Kd.R_slice HO_3.out; subst eo7; have p162 : 0 ≤ (x4_1 : Int) := zD; have q162 : x4_1 < (t159.length : Int) := zD; obtain ⟨ad162, e162, hx162_0⟩ := Kd.at_string (Kd.R_reads' HO_3.out).2.2 x4_1 p162 q162; cases e162; replace p162 := eq_true p162; replace q162 := eq_true q162
      go_wp2
      go_ret
      exact ⟨zE, pB0 HB.out⟩
    rw [if_neg c6] at H; have c6b0 : ((rdOf ByteArray.empty t159 x4_1).toList == a0.toList) = false := beq_eq_false_iff_ne.mpr c6; have c6b1 : ((rdOf ByteArray.empty t159 x4_1).toList != a0.toList) = true := bne_iff_ne.mpr c6; have H' := Aside0.mk H; clear H; obtain ⟨Ao8, co8, eo8⟩ := Kd.R_slice HO_3.out; subst eo8; have p162 : 0 ≤ (x4_1 : Int) := zD; have q162 : x4_1 < (t159.length : Int) := zD; obtain ⟨ad162, e162, hx162_0⟩ := Kd.at_string (Kd.R_reads' HO_3.out).2.2 x4_1 p162 q162; cases e162; replace p162 := eq_true p162; replace q162 := eq_true q162
    go_wp2
    go_roundg k1
    case measure => have := HK1.out; omega
    case rel => exact ⟨(wrap64 (x4_1 + 1)), zR, H', ⟨by have := HK1.out; omega⟩, ⟨pR HO_3.out⟩, ⟨pB0 HB.out⟩⟩
def spec_l07Table.f  : Option ((List (List Int))) := some (([(([20, 40, 310] : List Int)), (([35, 45, 410] : List Int)), (([15, 33, 280] : List Int)), (([50, 36, 240] : List Int)), (([95, 85, 270] : List Int)), (([5, 35, 370] : List Int)), (([10, 42, 290] : List Int)), (([40, 40, 330] : List Int)), (([80, 60, 220] : List Int)), (([70, 38, 260] : List Int))] : List (List Int)))
set_option maxHeartbeats 8000000 in
set_option maxRecDepth 100000 in
theorem spec_l07Table.calls  (r : List (List Int)) (w : World) (h : spec_l07Table.f  = some r) :
 Calls Try.prog 130 #[] w fun e w' => ∃ v0_ : Value, e = .returned (v0_) ∧ Kd.N (Kd.slice 2 (Kd.int .i64)) 41 w' w.heap.size (fun k_ => (w.heap.size ≤ k_)) v0_ r ∧ Below w.heap.size w w' := by
 have HB := Aside0.mk (Below.refl w.heap.size w); have H : (some (([(([20, 40, 310] : List Int)), (([35, 45, 410] : List Int)), (([15, 33, 280] : List Int)), (([50, 36, 240] : List Int)), (([95, 85, 270] : List Int)), (([5, 35, 370] : List Int)), (([10, 42, 290] : List Int)), (([40, 40, 330] : List Int)), (([80, 60, 220] : List Int)), (([70, 38, 260] : List Int))] : List (List Int)))) = some r := h; clear h; obtain ⟨y163, hy163⟩ : ∃ y_ : List Int, y_ = (([20, 40, 310] : List Int)) := ⟨_, rfl⟩; replace H : (some (([y163, (([35, 45, 410] : List Int)), (([15, 33, 280] : List Int)), (([50, 36, 240] : List Int)), (([95, 85, 270] : List Int)), (([5, 35, 370] : List Int)), (([10, 42, 290] : List Int)), (([40, 40, 330] : List Int)), (([80, 60, 220] : List Int)), (([70, 38, 260] : List Int))] : List (List Int)))) = some r := zY hy163 H; have Ny163 := Aside0.mk hy163; clear hy163; obtain ⟨y166, hy166⟩ : ∃ y_ : List Int, y_ = (([35, 45, 410] : List Int)) := ⟨_, rfl⟩; replace H : (some (([y163, y166, (([15, 33, 280] : List Int)), (([50, 36, 240] : List Int)), (([95, 85, 270] : List Int)), (([5, 35, 370] : List Int)), (([10, 42, 290] : List Int)), (([40, 40, 330] : List Int)), (([80, 60, 220] : List Int)), (([70, 38, 260] : List Int))] : List (List Int)))) = some r := zY hy166 H; have Ny166 := Aside0.mk hy166; clear hy166; obtain ⟨y169, hy169⟩ : ∃ y_ : List Int, y_ = (([15, 33, 280] : List Int)) := ⟨_, rfl⟩; replace H : (some (([y163, y166, y169, (([50, 36, 240] : List Int)), (([95, 85, 270] : List Int)), (([5, 35, 370] : List Int)), (([10, 42, 290] : List Int)), (([40, 40, 330] : List Int)), (([80, 60, 220] : List Int)), (([70, 38, 260] : List Int))] : List (List Int)))) = some r := zY hy169 H; have Ny169 := Aside0.mk hy169; clear hy169; obtain ⟨y172, hy172⟩ : ∃ y_ : List Int, y_ = (([50, 36, 240] : List Int)) := ⟨_, rfl⟩; replace H : (some (([y163, y166, y169, y172, (([95, 85, 270] : List Int)), (([5, 35, 370] : List Int)), (([10, 42, 290] : List Int)), (([40, 40, 330] : List Int)), (([80, 60, 220] : List Int)), (([70, 38, 260] : List Int))] : List (List Int)))) = some r := zY hy172 H; have Ny172 := Aside0.mk hy172; clear hy172; obtain ⟨y175, hy175⟩ : ∃ y_ : List Int, y_ = (([95, 85, 270] : List Int)) := ⟨_, rfl⟩; replace H : (some (([y163, y166, y169, y172, y175, (([5, 35, 370] : List Int)), (([10, 42, 290] : List Int)), (([40, 40, 330] : List Int)), (([80, 60, 220] : List Int)), (([70, 38, 260] : List Int))] : List (List Int)))) = some r := zY hy175 H; have Ny175 := Aside0.mk hy175; clear hy175; obtain ⟨y178, hy178⟩ : ∃ y_ : List Int, y_ = (([5, 35, 370] : List Int)) := ⟨_, rfl⟩; replace H : (some (([y163, y166, y169, y172, y175, y178, (([10, 42, 290] : List Int)), (([40, 40, 330] : List Int)), (([80, 60, 220] : List Int)), (([70, 38, 260] : List Int))] : List (List Int)))) = some r := zY hy178 H; have Ny178 := Aside0.mk hy178; clear hy178; obtain ⟨y181, hy181⟩ : ∃ y_ : List Int, y_ = (([10, 42, 290] : List Int)) := ⟨_, rfl⟩; replace H : (some (([y163, y166, y169, y172, y175, y178, y181, (([40, 40, 330] : List Int)), (([80, 60, 220] : List Int)), (([70, 38, 260] : List Int))] : List (List Int)))) = some r := zY hy181 H
 have Ny181 := Aside0.mk hy181; clear hy181; obtain ⟨y184, hy184⟩ : ∃ y_ : List Int, y_ = (([40, 40, 330] : List Int)) := ⟨_, rfl⟩; replace H : (some (([y163, y166, y169, y172, y175, y178, y181, y184, (([80, 60, 220] : List Int)), (([70, 38, 260] : List Int))] : List (List Int)))) = some r := zY hy184 H; have Ny184 := Aside0.mk hy184; clear hy184; obtain ⟨y187, hy187⟩ : ∃ y_ : List Int, y_ = (([80, 60, 220] : List Int)) := ⟨_, rfl⟩; replace H : (some (([y163, y166, y169, y172, y175, y178, y181, y184, y187, (([70, 38, 260] : List Int))] : List (List Int)))) = some r := zY hy187 H; have Ny187 := Aside0.mk hy187; clear hy187; obtain ⟨y190, hy190⟩ : ∃ y_ : List Int, y_ = (([70, 38, 260] : List Int)) := ⟨_, rfl⟩; replace H : (some (([y163, y166, y169, y172, y175, y178, y181, y184, y187, y190] : List (List Int)))) = some r := zY hy190 H; have Ny190 := Aside0.mk hy190; clear hy190; obtain ⟨y193, hy193⟩ : ∃ y_ : List (List Int), y_ = (([y163, y166, y169, y172, y175, y178, y181, y184, y187, y190] : List (List Int))) := ⟨_, rfl⟩; replace H : (some y193) = some r := zY hy193 H; have Ny193 := Aside0.mk hy193; clear hy193; obtain rfl := Option.some.inj H
 go_enter Try.func130, Try.ntmps130
 go_wp2_with (first | ((with_reducible refine zI 1 rfl ?_); refine Kd.R_lit (Kd.int .i64) _ 2 ?hg (N := 1) ?hd (xs := ([20, 40, 310] : List Int)) (inner := [.int .i64 20, .int .i64 40, .int .i64 310]) (ok := fun _ => True) (okp := fun _ => True) ?hr ?hp (fun _ hk => hk) trivial (Below.refl _ _) (Nat.le_refl _) (by simp) ?_; (case hd => rfl); (case hg => rfl); (case hr => first | (go_simp; done) | (go_simp; rfl)); (case hp => exact (Reps.one (show Kd.M (Kd.int .i64) _ _ _ 20 [.int .i64 20] from rfl) (Reps.one (show Kd.M (Kd.int .i64) _ _ _ 40 [.int .i64 40] from rfl) (Reps.one (show Kd.M (Kd.int .i64) _ _ _ 310 [.int .i64 310] from rfl) (Reps.none _ _))))); intro v164 w1 ho2 hb hg_ hnew_; clear hg_ hnew_; (first | rw [← Ny163.out] at ho2 | (simp only [Int.reduceToNat] at ho2; rw [← Ny163.out] at ho2)); have HO165 := Aside0.mk (Kd.R_lower (Kd.R_newM (M := fun k_ => (w.heap.size ≤ k_)) ho2 (below_size (pB0 HB.out)) (fun k_ h_ => h_)) (below_size (pB0 HB.out))); replace HB := zW (pB0 HB.out) hb; clear hb ho2) | ((with_reducible refine zI 2 rfl ?_); refine Kd.R_lit (Kd.int .i64) _ 2 ?hg (N := 2) ?hd (xs := ([35, 45, 410] : List Int)) (inner := [.int .i64 35, .int .i64 45, .int .i64 410]) (ok := fun _ => True) (okp := fun _ => True) ?hr ?hp (fun _ hk => hk) trivial (Below.refl _ _) (Nat.le_refl _) (by simp) ?_; (case hd => rfl); (case hg => rfl); (case hr => first | (go_simp; done) | (go_simp; rfl)); (case hp => exact (Reps.one (show Kd.M (Kd.int .i64) _ _ _ 35 [.int .i64 35] from rfl) (Reps.one (show Kd.M (Kd.int .i64) _ _ _ 45 [.int .i64 45] from rfl) (Reps.one (show Kd.M (Kd.int .i64) _ _ _ 410 [.int .i64 410] from rfl) (Reps.none _ _))))); intro v167 w3 ho4 hb hg_ hnew_; clear hg_ hnew_; (first | rw [← Ny166.out] at ho4 | (simp only [Int.reduceToNat] at ho4; rw [← Ny166.out] at ho4)); have HO168 := Aside0.mk (Kd.R_lower (Kd.R_new' (Kd.R_newM (M := fun k_ => (w.heap.size ≤ k_)) ho4 (below_size (pB0 HB.out)) (fun k_ h_ => h_)) (Kd.R_lt (pR HO165.out))) (below_size (pB0 HB.out))); replace HO165 := Aside0.mk (Kd.R_elder' (pR HO165.out) (Kd.R_base ho4) hb); replace HB := zW (pB0 HB.out) hb; clear hb ho4) | ((with_reducible refine zI 3 rfl ?_); refine Kd.R_lit (Kd.int .i64) _ 2 ?hg (N := 3) ?hd (xs := ([15, 33, 280] : List Int)) (inner := [.int .i64 15, .int .i64 33, .int .i64 280]) (ok := fun _ => True) (okp := fun _ => True) ?hr ?hp (fun _ hk => hk) trivial (Below.refl _ _) (Nat.le_refl _) (by simp) ?_; (case hd => rfl); (case hg => rfl); (case hr => first | (go_simp; done) | (go_simp; rfl)); (case hp => exact (Reps.one (show Kd.M (Kd.int .i64) _ _ _ 15 [.int .i64 15] from rfl) (Reps.one (show Kd.M (Kd.int .i64) _ _ _ 33 [.int .i64 33] from rfl) (Reps.one (show Kd.M (Kd.int .i64) _ _ _ 280 [.int .i64 280] from rfl) (Reps.none _ _))))); intro v170 w5 ho6 hb hg_ hnew_; clear hg_ hnew_; (first | rw [← Ny169.out] at ho6 | (simp only [Int.reduceToNat] at ho6; rw [← Ny169.out] at ho6)); have HO171 := Aside0.mk (Kd.R_lower (Kd.R_new' (Kd.R_new' (Kd.R_newM (M := fun k_ => (w.heap.size ≤ k_)) ho6 (below_size (pB0 HB.out)) (fun k_ h_ => h_)) (Kd.R_lt (pR HO165.out))) (Kd.R_lt (pR HO168.out))) (below_size (pB0 HB.out))); replace HO165 := Aside0.mk (Kd.R_elder' (pR HO165.out) (Kd.R_base ho6) hb); replace HO168 := Aside0.mk (Kd.R_elder' (pR HO168.out) (Kd.R_base ho6) hb); replace HB := zW (pB0 HB.out) hb; clear hb ho6) | ((with_reducible refine zI 4 rfl ?_); refine Kd.R_lit (Kd.int .i64) _ 2 ?hg (N := 4) ?hd (xs := ([50, 36, 240] : List Int)) (inner := [.int .i64 50, .int .i64 36, .int .i64 240]) (ok := fun _ => True) (okp := fun _ => True) ?hr ?hp (fun _ hk => hk) trivial (Below.refl _ _) (Nat.le_refl _) (by simp) ?_; (case hd => rfl); (case hg => rfl); (case hr => first | (go_simp; done) | (go_simp; rfl)); (case hp => exact (Reps.one (show Kd.M (Kd.int .i64) _ _ _ 50 [.int .i64 50] from rfl) (Reps.one (show Kd.M (Kd.int .i64) _ _ _ 36 [.int .i64 36] from rfl) (Reps.one (show Kd.M (Kd.int .i64) _ _ _ 240 [.int .i64 240] from rfl) (Reps.none _ _))))); intro v173 w7 ho8 hb hg_ hnew_; clear hg_ hnew_; (first | rw [← Ny172.out] at ho8 | (simp only [Int.reduceToNat] at ho8; rw [← Ny172.out] at ho8)); have HO174 := Aside0.mk (Kd.R_lower (Kd.R_new' (Kd.R_new' (Kd.R_new' (Kd.R_newM (M := fun k_ => (w.heap.size ≤ k_)) ho8 (below_size (pB0 HB.out)) (fun k_ h_ => h_)) (Kd.R_lt (pR HO165.out))) (Kd.R_lt (pR HO168.out))) (Kd.R_lt (pR HO171.out))) (below_size (pB0 HB.out))); replace HO165 := Aside0.mk (Kd.R_elder' (pR HO165.out) (Kd.R_base ho8) hb); replace HO168 := Aside0.mk (Kd.R_elder' (pR HO168.out) (Kd.R_base ho8) hb); replace HO171 := Aside0.mk (Kd.R_elder' (pR HO171.out) (Kd.R_base ho8) hb); replace HB := zW (pB0 HB.out) hb; clear hb ho8) | ((with_reducible refine zI 5 rfl ?_); refine Kd.R_lit (Kd.int .i64) _ 2 ?hg (N := 5) ?hd (xs := ([95, 85, 270] : List Int)) (inner := [.int .i64 95, .int .i64 85, .int .i64 270]) (ok := fun _ => True) (okp := fun _ => True) ?hr ?hp (fun _ hk => hk) trivial (Below.refl _ _) (Nat.le_refl _) (by simp) ?_; (case hd => rfl); (case hg => rfl); (case hr => first | (go_simp; done) | (go_simp; rfl)); (case hp => exact (Reps.one (show Kd.M (Kd.int .i64) _ _ _ 95 [.int .i64 95] from rfl) (Reps.one (show Kd.M (Kd.int .i64) _ _ _ 85 [.int .i64 85] from rfl) (Reps.one (show Kd.M (Kd.int .i64) _ _ _ 270 [.int .i64 270] from rfl) (Reps.none _ _))))); intro v176 w9 ho10 hb hg_ hnew_; clear hg_ hnew_; (first | rw [← Ny175.out] at ho10 | (simp only [Int.reduceToNat] at ho10; rw [← Ny175.out] at ho10)); have HO177 := Aside0.mk (Kd.R_lower (Kd.R_new' (Kd.R_new' (Kd.R_new' (Kd.R_new' (Kd.R_newM (M := fun k_ => (w.heap.size ≤ k_)) ho10 (below_size (pB0 HB.out)) (fun k_ h_ => h_)) (Kd.R_lt (pR HO165.out))) (Kd.R_lt (pR HO168.out))) (Kd.R_lt (pR HO171.out))) (Kd.R_lt (pR HO174.out))) (below_size (pB0 HB.out))); replace HO165 := Aside0.mk (Kd.R_elder' (pR HO165.out) (Kd.R_base ho10) hb); replace HO168 := Aside0.mk (Kd.R_elder' (pR HO168.out) (Kd.R_base ho10) hb); replace HO171 := Aside0.mk (Kd.R_elder' (pR HO171.out) (Kd.R_base ho10) hb); replace HO174 := Aside0.mk (Kd.R_elder' (pR HO174.out) (Kd.R_base ho10) hb); replace HB := zW (pB0 HB.out) hb; clear hb ho10) | ((with_reducible refine zI 6 rfl ?_); refine Kd.R_lit (Kd.int .i64) _ 2 ?hg (N := 6) ?hd (xs := ([5, 35, 370] : List Int)) (inner := [.int .i64 5, .int .i64 35, .int .i64 370]) (ok := fun _ => True) (okp := fun _ => True) ?hr ?hp (fun _ hk => hk) trivial (Below.refl _ _) (Nat.le_refl _) (by simp) ?_; (case hd => rfl); (case hg => rfl); (case hr => first | (go_simp; done) | (go_simp; rfl)); (case hp => exact (Reps.one (show Kd.M (Kd.int .i64) _ _ _ 5 [.int .i64 5] from rfl) (Reps.one (show Kd.M (Kd.int .i64) _ _ _ 35 [.int .i64 35] from rfl) (Reps.one (show Kd.M (Kd.int .i64) _ _ _ 370 [.int .i64 370] from rfl) (Reps.none _ _))))); intro v179 w11 ho12 hb hg_ hnew_; clear hg_ hnew_; (first | rw [← Ny178.out] at ho12 | (simp only [Int.reduceToNat] at ho12; rw [← Ny178.out] at ho12)); have HO180 := Aside0.mk (Kd.R_lower (Kd.R_new' (Kd.R_new' (Kd.R_new' (Kd.R_new' (Kd.R_new' (Kd.R_newM (M := fun k_ => (w.heap.size ≤ k_)) ho12 (below_size (pB0 HB.out)) (fun k_ h_ => h_)) (Kd.R_lt (pR HO165.out))) (Kd.R_lt (pR HO168.out))) (Kd.R_lt (pR HO171.out))) (Kd.R_lt (pR HO174.out))) (Kd.R_lt (pR HO177.out))) (below_size (pB0 HB.out))); replace HO165 := Aside0.mk (Kd.R_elder' (pR HO165.out) (Kd.R_base ho12) hb); replace HO168 := Aside0.mk (Kd.R_elder' (pR HO168.out) (Kd.R_base ho12) hb); replace HO171 := Aside0.mk (Kd.R_elder' (pR HO171.out) (Kd.R_base ho12) hb); replace HO174 := Aside0.mk (Kd.R_elder' (pR HO174.out) (Kd.R_base ho12) hb); replace HO177 := Aside0.mk (Kd.R_elder' (pR HO177.out) (Kd.R_base ho12) hb); replace HB := zW (pB0 HB.out) hb; clear hb ho12) | ((with_reducible refine zI 7 rfl ?_); refine Kd.R_lit (Kd.int .i64) _ 2 ?hg (N := 7) ?hd (xs := ([10, 42, 290] : List Int)) (inner := [.int .i64 10, .int .i64 42, .int .i64 290]) (ok := fun _ => True) (okp := fun _ => True) ?hr ?hp (fun _ hk => hk) trivial (Below.refl _ _) (Nat.le_refl _) (by simp) ?_; (case hd => rfl); (case hg => rfl); (case hr => first | (go_simp; done) | (go_simp; rfl)); (case hp => exact (Reps.one (show Kd.M (Kd.int .i64) _ _ _ 10 [.int .i64 10] from rfl) (Reps.one (show Kd.M (Kd.int .i64) _ _ _ 42 [.int .i64 42] from rfl) (Reps.one (show Kd.M (Kd.int .i64) _ _ _ 290 [.int .i64 290] from rfl) (Reps.none _ _))))); intro v182 w13 ho14 hb hg_ hnew_; clear hg_ hnew_; (first | rw [← Ny181.out] at ho14 | (simp only [Int.reduceToNat] at ho14; rw [← Ny181.out] at ho14)); have HO183 := Aside0.mk (Kd.R_lower (Kd.R_new' (Kd.R_new' (Kd.R_new' (Kd.R_new' (Kd.R_new' (Kd.R_new' (Kd.R_newM (M := fun k_ => (w.heap.size ≤ k_)) ho14 (below_size (pB0 HB.out)) (fun k_ h_ => h_)) (Kd.R_lt (pR HO165.out))) (Kd.R_lt (pR HO168.out))) (Kd.R_lt (pR HO171.out))) (Kd.R_lt (pR HO174.out))) (Kd.R_lt (pR HO177.out))) (Kd.R_lt (pR HO180.out))) (below_size (pB0 HB.out))); replace HO165 := Aside0.mk (Kd.R_elder' (pR HO165.out) (Kd.R_base ho14) hb); replace HO168 := Aside0.mk (Kd.R_elder' (pR HO168.out) (Kd.R_base ho14) hb); replace HO171 := Aside0.mk (Kd.R_elder' (pR HO171.out) (Kd.R_base ho14) hb); replace HO174 := Aside0.mk (Kd.R_elder' (pR HO174.out) (Kd.R_base ho14) hb); replace HO177 := Aside0.mk (Kd.R_elder' (pR HO177.out) (Kd.R_base ho14) hb); replace HO180 := Aside0.mk (Kd.R_elder' (pR HO180.out) (Kd.R_base ho14) hb); replace HB := zW (pB0 HB.out) hb; clear hb ho14) | ((with_reducible refine zI 8 rfl ?_); refine Kd.R_lit (Kd.int .i64) _ 2 ?hg (N := 8) ?hd (xs := ([40, 40, 330] : List Int)) (inner := [.int .i64 40, .int .i64 40, .int .i64 330]) (ok := fun _ => True) (okp := fun _ => True) ?hr ?hp (fun _ hk => hk) trivial (Below.refl _ _) (Nat.le_refl _) (by simp) ?_; (case hd => rfl); (case hg => rfl); (case hr => first | (go_simp; done) | (go_simp; rfl)); (case hp => exact (Reps.one (show Kd.M (Kd.int .i64) _ _ _ 40 [.int .i64 40] from rfl) (Reps.one (show Kd.M (Kd.int .i64) _ _ _ 40 [.int .i64 40] from rfl) (Reps.one (show Kd.M (Kd.int .i64) _ _ _ 330 [.int .i64 330] from rfl) (Reps.none _ _))))); intro v185 w15 ho16 hb hg_ hnew_; clear hg_ hnew_; (first | rw [← Ny184.out] at ho16 | (simp only [Int.reduceToNat] at ho16; rw [← Ny184.out] at ho16)); have HO186 := Aside0.mk (Kd.R_lower (Kd.R_new' (Kd.R_new' (Kd.R_new' (Kd.R_new' (Kd.R_new' (Kd.R_new' (Kd.R_new' (Kd.R_newM (M := fun k_ => (w.heap.size ≤ k_)) ho16 (below_size (pB0 HB.out)) (fun k_ h_ => h_)) (Kd.R_lt (pR HO165.out))) (Kd.R_lt (pR HO168.out))) (Kd.R_lt (pR HO171.out))) (Kd.R_lt (pR HO174.out))) (Kd.R_lt (pR HO177.out))) (Kd.R_lt (pR HO180.out))) (Kd.R_lt (pR HO183.out))) (below_size (pB0 HB.out))); replace HO165 := Aside0.mk (Kd.R_elder' (pR HO165.out) (Kd.R_base ho16) hb); replace HO168 := Aside0.mk (Kd.R_elder' (pR HO168.out) (Kd.R_base ho16) hb); replace HO171 := Aside0.mk (Kd.R_elder' (pR HO171.out) (Kd.R_base ho16) hb); replace HO174 := Aside0.mk (Kd.R_elder' (pR HO174.out) (Kd.R_base ho16) hb); replace HO177 := Aside0.mk (Kd.R_elder' (pR HO177.out) (Kd.R_base ho16) hb); replace HO180 := Aside0.mk (Kd.R_elder' (pR HO180.out) (Kd.R_base ho16) hb); replace HO183 := Aside0.mk (Kd.R_elder' (pR HO183.out) (Kd.R_base ho16) hb); replace HB := zW (pB0 HB.out) hb; clear hb ho16) | ((with_reducible refine zI 9 rfl ?_); refine Kd.R_lit (Kd.int .i64) _ 2 ?hg (N := 9) ?hd (xs := ([80, 60, 220] : List Int)) (inner := [.int .i64 80, .int .i64 60, .int .i64 220]) (ok := fun _ => True) (okp := fun _ => True) ?hr ?hp (fun _ hk => hk) trivial (Below.refl _ _) (Nat.le_refl _) (by simp) ?_; (case hd => rfl); (case hg => rfl); (case hr => first | (go_simp; done) | (go_simp; rfl)); (case hp => exact (Reps.one (show Kd.M (Kd.int .i64) _ _ _ 80 [.int .i64 80] from rfl) (Reps.one (show Kd.M (Kd.int .i64) _ _ _ 60 [.int .i64 60] from rfl) (Reps.one (show Kd.M (Kd.int .i64) _ _ _ 220 [.int .i64 220] from rfl) (Reps.none _ _))))); intro v188 w17 ho18 hb hg_ hnew_; clear hg_ hnew_; (first | rw [← Ny187.out] at ho18 | (simp only [Int.reduceToNat] at ho18; rw [← Ny187.out] at ho18)); have HO189 := Aside0.mk (Kd.R_lower (Kd.R_new' (Kd.R_new' (Kd.R_new' (Kd.R_new' (Kd.R_new' (Kd.R_new' (Kd.R_new' (Kd.R_new' (Kd.R_newM (M := fun k_ => (w.heap.size ≤ k_)) ho18 (below_size (pB0 HB.out)) (fun k_ h_ => h_)) (Kd.R_lt (pR HO165.out))) (Kd.R_lt (pR HO168.out))) (Kd.R_lt (pR HO171.out))) (Kd.R_lt (pR HO174.out))) (Kd.R_lt (pR HO177.out))) (Kd.R_lt (pR HO180.out))) (Kd.R_lt (pR HO183.out))) (Kd.R_lt (pR HO186.out))) (below_size (pB0 HB.out))); replace HO165 := Aside0.mk (Kd.R_elder' (pR HO165.out) (Kd.R_base ho18) hb); replace HO168 := Aside0.mk (Kd.R_elder' (pR HO168.out) (Kd.R_base ho18) hb); replace HO171 := Aside0.mk (Kd.R_elder' (pR HO171.out) (Kd.R_base ho18) hb); replace HO174 := Aside0.mk (Kd.R_elder' (pR HO174.out) (Kd.R_base ho18) hb); replace HO177 := Aside0.mk (Kd.R_elder' (pR HO177.out) (Kd.R_base ho18) hb); replace HO180 := Aside0.mk (Kd.R_elder' (pR HO180.out) (Kd.R_base ho18) hb); replace HO183 := Aside0.mk (Kd.R_elder' (pR HO183.out) (Kd.R_base ho18) hb); replace HO186 := Aside0.mk (Kd.R_elder' (pR HO186.out) (Kd.R_base ho18) hb); replace HB := zW (pB0 HB.out) hb; clear hb ho18) | ((with_reducible refine zI 10 rfl ?_); refine Kd.R_lit (Kd.int .i64) _ 2 ?hg (N := 10) ?hd (xs := ([70, 38, 260] : List Int)) (inner := [.int .i64 70, .int .i64 38, .int .i64 260]) (ok := fun _ => True) (okp := fun _ => True) ?hr ?hp (fun _ hk => hk) trivial (Below.refl _ _) (Nat.le_refl _) (by simp) ?_; (case hd => rfl); (case hg => rfl); (case hr => first | (go_simp; done) | (go_simp; rfl)); (case hp => exact (Reps.one (show Kd.M (Kd.int .i64) _ _ _ 70 [.int .i64 70] from rfl) (Reps.one (show Kd.M (Kd.int .i64) _ _ _ 38 [.int .i64 38] from rfl) (Reps.one (show Kd.M (Kd.int .i64) _ _ _ 260 [.int .i64 260] from rfl) (Reps.none _ _))))); intro v191 w19 ho20 hb hg_ hnew_; clear hg_ hnew_; (first | rw [← Ny190.out] at ho20 | (simp only [Int.reduceToNat] at ho20; rw [← Ny190.out] at ho20)); have HO192 := Aside0.mk (Kd.R_lower (Kd.R_new' (Kd.R_new' (Kd.R_new' (Kd.R_new' (Kd.R_new' (Kd.R_new' (Kd.R_new' (Kd.R_new' (Kd.R_new' (Kd.R_newM (M := fun k_ => (w.heap.size ≤ k_)) ho20 (below_size (pB0 HB.out)) (fun k_ h_ => h_)) (Kd.R_lt (pR HO165.out))) (Kd.R_lt (pR HO168.out))) (Kd.R_lt (pR HO171.out))) (Kd.R_lt (pR HO174.out))) (Kd.R_lt (pR HO177.out))) (Kd.R_lt (pR HO180.out))) (Kd.R_lt (pR HO183.out))) (Kd.R_lt (pR HO186.out))) (Kd.R_lt (pR HO189.out))) (below_size (pB0 HB.out))); replace HO165 := Aside0.mk (Kd.R_elder' (pR HO165.out) (Kd.R_base ho20) hb); replace HO168 := Aside0.mk (Kd.R_elder' (pR HO168.out) (Kd.R_base ho20) hb); replace HO171 := Aside0.mk (Kd.R_elder' (pR HO171.out) (Kd.R_base ho20) hb); replace HO174 := Aside0.mk (Kd.R_elder' (pR HO174.out) (Kd.R_base ho20) hb); replace HO177 := Aside0.mk (Kd.R_elder' (pR HO177.out) (Kd.R_base ho20) hb); replace HO180 := Aside0.mk (Kd.R_elder' (pR HO180.out) (Kd.R_base ho20) hb); replace HO183 := Aside0.mk (Kd.R_elder' (pR HO183.out) (Kd.R_base ho20) hb); replace HO186 := Aside0.mk (Kd.R_elder' (pR HO186.out) (Kd.R_base ho20) hb); replace HO189 := Aside0.mk (Kd.R_elder' (pR HO189.out) (Kd.R_base ho20) hb); replace HB := zW (pB0 HB.out) hb; clear hb ho20; obtain ⟨Ao21, co21, eo21⟩ := Kd.R_slice HO165.out; subst eo21; obtain ⟨Ao22, co22, eo22⟩ := Kd.R_slice HO168.out; subst eo22; obtain ⟨Ao23, co23, eo23⟩ := Kd.R_slice HO171.out; subst eo23; obtain ⟨Ao24, co24, eo24⟩ := Kd.R_slice HO174.out; subst eo24; obtain ⟨Ao25, co25, eo25⟩ := Kd.R_slice HO177.out; subst eo25; obtain ⟨Ao26, co26, eo26⟩ := Kd.R_slice HO180.out; subst eo26; obtain ⟨Ao27, co27, eo27⟩ := Kd.R_slice HO183.out; subst eo27; obtain ⟨Ao28, co28, eo28⟩ := Kd.R_slice HO186.out; subst eo28; obtain ⟨Ao29, co29, eo29⟩ := Kd.R_slice HO189.out; subst eo29; obtain ⟨Ao30, co30, eo30⟩ := Kd.R_slice HO192.out; subst eo30) | ((with_reducible refine zI 11 rfl ?_); refine Kd.N_lit (Kd.slice 2 (Kd.int .i64)) _ 41 ?hg (N' := 11) ?hd (xs := ([y163, y166, y169, y172, y175, y178, y181, y184, y187, y190] : List (List Int))) (inner := [.slice Ao21 y163.length co21, .slice Ao22 y166.length co22, .slice Ao23 y169.length co23, .slice Ao24 y172.length co24, .slice Ao25 y175.length co25, .slice Ao26 y178.length co26, .slice Ao27 y181.length co27, .slice Ao28 y184.length co28, .slice Ao29 y187.length co29, .slice Ao30 y190.length co30]) (ok := (fun k_ => (w.heap.size ≤ k_))) (okp := (fun k_ => (w.heap.size ≤ k_))) ?hr ?hp (fun _ hk => hk) ((show ∀ k_, w19.heap.size ≤ k_ → (fun k_ => (w.heap.size ≤ k_)) k_ from fun k_ hk => (Nat.le_trans (below_size (pB0 HB.out)) hk)) _ (Nat.le_refl _)) (Below.refl _ _) (Nat.le_refl _) (by simp) ?_; (case hd => rfl); (case hg => rfl); (case hr => first | (go_simp; done) | (go_simp; rfl)); (case hp => exact (Reps.one (show Kd.FK (Kd.slice 2 (Kd.int .i64)) _ _ y163 [.slice Ao21 y163.length co21] from (Kd.FK_slice_mk (Kd.R_reads' (Kd.R_mono (ok' := (fun k_ => (w.heap.size ≤ k_))) (HO165.out) (fun k_ hk => hk.1.1.1.1.1.1.1.1.1.1))).2.1 (Kd.R_F (Kd.R_mono (ok' := (fun k_ => (w.heap.size ≤ k_))) (HO165.out) (fun k_ hk => hk.1.1.1.1.1.1.1.1.1.1))))) (Reps.one (show Kd.FK (Kd.slice 2 (Kd.int .i64)) _ _ y166 [.slice Ao22 y166.length co22] from (Kd.FK_slice_mk (Kd.R_reads' (Kd.R_mono (ok' := (fun k_ => (w.heap.size ≤ k_))) (HO168.out) (fun k_ hk => hk.1.1.1.1.1.1.1.1.1.1))).2.1 (Kd.R_F (Kd.R_mono (ok' := (fun k_ => (w.heap.size ≤ k_))) (HO168.out) (fun k_ hk => hk.1.1.1.1.1.1.1.1.1.1))))) (Reps.one (show Kd.FK (Kd.slice 2 (Kd.int .i64)) _ _ y169 [.slice Ao23 y169.length co23] from (Kd.FK_slice_mk (Kd.R_reads' (Kd.R_mono (ok' := (fun k_ => (w.heap.size ≤ k_))) (HO171.out) (fun k_ hk => hk.1.1.1.1.1.1.1.1.1.1))).2.1 (Kd.R_F (Kd.R_mono (ok' := (fun k_ => (w.heap.size ≤ k_))) (HO171.out) (fun k_ hk => hk.1.1.1.1.1.1.1.1.1.1))))) (Reps.one (show Kd.FK (Kd.slice 2 (Kd.int .i64)) _ _ y172 [.slice Ao24 y172.length co24] from (Kd.FK_slice_mk (Kd.R_reads' (Kd.R_mono (ok' := (fun k_ => (w.heap.size ≤ k_))) (HO174.out) (fun k_ hk => hk.1.1.1.1.1.1.1.1.1.1))).2.1 (Kd.R_F (Kd.R_mono (ok' := (fun k_ => (w.heap.size ≤ k_))) (HO174.out) (fun k_ hk => hk.1.1.1.1.1.1.1.1.1.1))))) (Reps.one (show Kd.FK (Kd.slice 2 (Kd.int .i64)) _ _ y175 [.slice Ao25 y175.length co25] from (Kd.FK_slice_mk (Kd.R_reads' (Kd.R_mono (ok' := (fun k_ => (w.heap.size ≤ k_))) (HO177.out) (fun k_ hk => hk.1.1.1.1.1.1.1.1.1.1))).2.1 (Kd.R_F (Kd.R_mono (ok' := (fun k_ => (w.heap.size ≤ k_))) (HO177.out) (fun k_ hk => hk.1.1.1.1.1.1.1.1.1.1))))) (Reps.one (show Kd.FK (Kd.slice 2 (Kd.int .i64)) _ _ y178 [.slice Ao26 y178.length co26] from (Kd.FK_slice_mk (Kd.R_reads' (Kd.R_mono (ok' := (fun k_ => (w.heap.size ≤ k_))) (HO180.out) (fun k_ hk => hk.1.1.1.1.1.1.1.1.1.1))).2.1 (Kd.R_F (Kd.R_mono (ok' := (fun k_ => (w.heap.size ≤ k_))) (HO180.out) (fun k_ hk => hk.1.1.1.1.1.1.1.1.1.1))))) (Reps.one (show Kd.FK (Kd.slice 2 (Kd.int .i64)) _ _ y181 [.slice Ao27 y181.length co27] from (Kd.FK_slice_mk (Kd.R_reads' (Kd.R_mono (ok' := (fun k_ => (w.heap.size ≤ k_))) (HO183.out) (fun k_ hk => hk.1.1.1.1.1.1.1.1.1.1))).2.1 (Kd.R_F (Kd.R_mono (ok' := (fun k_ => (w.heap.size ≤ k_))) (HO183.out) (fun k_ hk => hk.1.1.1.1.1.1.1.1.1.1))))) (Reps.one (show Kd.FK (Kd.slice 2 (Kd.int .i64)) _ _ y184 [.slice Ao28 y184.length co28] from (Kd.FK_slice_mk (Kd.R_reads' (Kd.R_mono (ok' := (fun k_ => (w.heap.size ≤ k_))) (HO186.out) (fun k_ hk => hk.1.1.1.1.1.1.1.1.1.1))).2.1 (Kd.R_F (Kd.R_mono (ok' := (fun k_ => (w.heap.size ≤ k_))) (HO186.out) (fun k_ hk => hk.1.1.1.1.1.1.1.1.1.1))))) (Reps.one (show Kd.FK (Kd.slice 2 (Kd.int .i64)) _ _ y187 [.slice Ao29 y187.length co29] from (Kd.FK_slice_mk (Kd.R_reads' (Kd.R_mono (ok' := (fun k_ => (w.heap.size ≤ k_))) (HO189.out) (fun k_ hk => hk.1.1.1.1.1.1.1.1.1.1))).2.1 (Kd.R_F (Kd.R_mono (ok' := (fun k_ => (w.heap.size ≤ k_))) (HO189.out) (fun k_ hk => hk.1.1.1.1.1.1.1.1.1.1))))) (Reps.one (show Kd.FK (Kd.slice 2 (Kd.int .i64)) _ _ y190 [.slice Ao30 y190.length co30] from (Kd.FK_slice_mk (Kd.R_reads' (Kd.R_mono (ok' := (fun k_ => (w.heap.size ≤ k_))) (HO192.out) (fun k_ hk => hk.1.1.1.1.1.1.1.1.1.1))).2.1 (Kd.R_F (Kd.R_mono (ok' := (fun k_ => (w.heap.size ≤ k_))) (HO192.out) (fun k_ hk => hk.1.1.1.1.1.1.1.1.1.1))))) (Reps.none _ _)))))))))))); intro v194 w31 ho32 hb hg_ hnew_; clear hg_ hnew_; (first | rw [← Ny193.out] at ho32 | (simp only [Int.reduceToNat] at ho32; rw [← Ny193.out] at ho32)); have HO195 := Aside0.mk (Kd.N_lower ho32 (below_size (pB0 HB.out))); replace HB := zW (pB0 HB.out) hb; clear HO165; clear HO168; clear HO171; clear HO174; clear HO177; clear HO180; clear HO183; clear HO186; clear HO189; clear HO192; clear hb ho32))
 go_ret
 exact ⟨_, zE, by (with_reducible repeat (first | apply Kd.N_alloc | apply Kd.N_drewN | apply Kd.N_drew)); exact HO195.out, pB0 HB.out⟩
def spec_l07Grain.f (a0 : Int) : Option (Bool) := (spec_l00In.f a0 0 179).bind fun t196 => (some t196)
set_option maxHeartbeats 8000000 in
set_option maxRecDepth 100000 in
theorem spec_l07Grain.calls (a0 : Int) (r : Bool) (w : World) (h : spec_l07Grain.f a0 = some r) :
 Calls Try.prog 131 #[.int .i64 a0] w fun e w' => e = .returned (.bool r) ∧ Drawn0 w w' := by
 have H : ((spec_l00In.f a0 0 179).bind fun t196 => (some t196)) = some r := h
 clear h; replace H := Option.bind_eq_some_iff.mp H; obtain ⟨t196, A20, H⟩ := H; have A2 := Aside0.mk A20; clear A20; obtain rfl := Option.some.inj H
 go_enter Try.func131, Try.ntmps131
 go_wp2_with (first | ((with_reducible refine gate_callee (f := 81) rfl ?_); refine zJ (some 4) Try.func81 #[.int .i64 a0, .int .i64 0, .int .i64 179] ?_; (with_reducible refine (spec_l00In.calls a0 0 179 t196 _ A2.out).mono ?_); rintro e w' ⟨rfl, ⟨nd, rfl⟩⟩; refine ⟨_, rfl, ?_⟩))
 go_ret
 exact ⟨by first | rfl | (simp; done) | (simp [*]; done), zV⟩
def spec_l07Ok.j0 : Nat → List (S33) → Int → Bool → Option (Bool)
 | 0, _, _, _ => none
 | k + 1, x0, x3, x19 => if x19 = true then (some false) else ((spec_l07Table.f).bind fun t201 => (if 0 ≤ x3 then (if x3 < (t201.length : Int) then (if 0 < ((rd_L5 t201 x3).length : Int) then (if 0 < (x0.length : Int) then ((spec_l00In.f ((rd_T33 x0 0).f1) (wrap64 ((rd (rd_L5 t201 x3) 0) - 15)) (wrap64 ((rd (rd_L5 t201 x3) 0) + 15))).bind fun t207 => (if t207 = true then ((spec_l07Grain.f ((rd_T33 x0 0).f2)).bind fun t208 => (some t208)) else (some false))) else (none)) else (none)) else (none)) else (none)))
def spec_l07Ok.f (k : Nat) (l0 : List (S33)) : Option (Bool) := if 0 < (l0.length : Int) then ((spec_l07Find.f k ((rd_T33 l0 0).f0)).bind fun t198 => (if t198 < 0 then (spec_l07Ok.j0 k l0 t198 true) else ((spec_l00In.f ((rd_T33 l0 0).f1) 0 100).bind fun t200 => (spec_l07Ok.j0 k l0 t198 (!t200))))) else (none)
theorem spec_l07Ok.mono_l : ∀ k, (∀ y0 y1 y2, LeO (spec_l07Ok.j0 k y0 y1 y2) (spec_l07Ok.j0 (k + 1) y0 y1 y2))
 | 0 => fun _ _ _ r h => by simp [spec_l07Ok.j0] at h
 | k + 1 => by
   have ih0 := spec_l07Ok.mono_l k
   · intro y0 y1 y2
     unfold spec_l07Ok.j0
     repeat' first
     | (with_reducible exact ih0 _ _ _)
     | (with_reducible exact spec_l07Find.mono _ _)
     | (with_reducible exact LeO.refl _)
     | (with_reducible exact LeO.none _)
     | (with_reducible refine LeO.ite ?_ ?_)
     | (with_reducible refine LeO.bind ?_ (fun _ => ?_))
     | exact ih0 _ _ _
     | exact spec_l07Find.mono _ _
     | exact LeO.none _
     | refine LeO.ite ?_ ?_
     | refine LeO.bind ?_ (fun _ => ?_)
theorem spec_l07Ok.mono : ∀ a0 k, LeO (spec_l07Ok.f k a0) (spec_l07Ok.f (k + 1) a0) := by
 intro a0 k; have ih0 := spec_l07Ok.mono_l k; unfold spec_l07Ok.f
 repeat' first
  | (with_reducible exact ih0 _ _ _)
  | (with_reducible exact spec_l07Find.mono _ _)
  | (with_reducible exact LeO.refl _)
  | (with_reducible exact LeO.none _)
  | (with_reducible refine LeO.ite ?_ ?_)
  | (with_reducible refine LeO.bind ?_ (fun _ => ?_))
  | exact ih0 _ _ _
  | exact spec_l07Find.mono _ _
  | exact LeO.none _
  | refine LeO.ite ?_ ?_
  | refine LeO.bind ?_ (fun _ => ?_)
set_option maxHeartbeats 8000000 in
set_option maxRecDepth 100000 in
theorem spec_l07Ok.calls (k : Nat) (A0 : Option Addr) (c0 : Nat) (l0 : List (S33)) (r : Bool) (w : World) (hr0 : Kd.C k33 w A0 l0.length l0) (hc0 : l0.length ≤ c0) (h : spec_l07Ok.f k l0 = some r) :
 Calls Try.prog 92 #[.pointer A0] w fun e w' => e = .returned (.bool r) ∧ Below w.heap.size w w' := by
 have HR0 := Aside0.mk hr0; have HC0 := Aside0.mk hc0; clear hr0 hc0; have HB := Aside0.mk (Below.refl w.heap.size w)
 have H : (if 0 < (l0.length : Int) then ((spec_l07Find.f k ((rd_T33 l0 0).f0)).bind fun t198 => (if t198 < 0 then (spec_l07Ok.j0 k l0 t198 true) else ((spec_l00In.f ((rd_T33 l0 0).f1) 0 100).bind fun t200 => (spec_l07Ok.j0 k l0 t198 (!t200))))) else (none)) = some r := h
 clear h
 by_cases c2 : 0 < (l0.length : Int)
 rotate_left
 · rw [if_neg c2] at H
   exact absurd H (by simp)
 rw [if_pos c2] at H; have c2b0 := decide_eq_true c2
 have c2b1 : decide (0 < l0.length) = true := decide_eq_true (by omega)
 clear c2; replace H := Option.bind_eq_some_iff.mp H; obtain ⟨t198, A30, H⟩ := H; have A3 := Aside0.mk A30; clear A30; have HC4 := Aside0.mk H; clear H
 have p197 : 0 ≤ (0 : Int) := (by omega)
 have q197 : 0 < (l0.length : Int) := zD; obtain ⟨ad197, e197, hx197_0, hx197_1, hx197_2⟩ := at_T33 HR0.out 0 p197 q197; cases e197
 have qi197 : (0 < l0.length) = True := eq_true (by omega)
 (try rw [z0, Nat.zero_mul, Addr.add_zero'] at hx197_0); (try rw [z0, Nat.zero_mul, Addr.add_zero'] at hx197_1); (try rw [z0, Nat.zero_mul, Addr.add_zero'] at hx197_2); replace p197 := eq_true p197; replace q197 := eq_true q197
 go_enter Try.func92, Try.ntmps92
 go_upto_region 2 with (first | ((with_reducible refine gate_callee (f := 129) rfl ?_); refine zJ (some 9) Try.func129 #[.string ((rd_T33 l0 0).f0)] ?_; (with_reducible refine (spec_l07Find.calls k ((rd_T33 l0 0).f0) t198 _ A3.out).mono ?_); rintro e w5 ⟨rfl, hb⟩; refine ⟨_, rfl, ?_⟩; replace HB := zW (pB0 HB.out) hb; (try clear hb); (try clear hb2); (try clear hk); (try clear hi)))
 (try simp only [Act.put, List.setIfInBounds_toArray, List.set_cons_zero, List.set_cons_succ])
 go_cut [19] (fun v19 wc => ∃ (kq : Nat) (x19_3 : Bool), v19 = .bool x19_3 ∧ Aside0 (spec_l07Ok.j0 kq l0 t198 x19_3 = some r) ∧ Aside0 (kq ≤ k) ∧ Aside0 (Below w.heap.size w wc))
 case first =>
  have H := HC4.out; clear HC4
  by_cases c6 : t198 < 0
  · rw [if_pos c6] at H
    have c6b0 := decide_eq_true c6; clear c6; (first | rw [c6b0] | (simp only [i64_w, i32_w]; rw [c6b0]) | skip); have H' := Aside0.mk H; clear H
    go_wp2
    go_meet
    case rel => exact ⟨_, (true), zR, H', ⟨by first | omega | exact Nat.le_refl _⟩, ⟨pB0 HB.out⟩⟩
  rw [if_neg c6] at H; have c6b0 := decide_eq_false c6; clear c6; (first | rw [c6b0] | (simp only [i64_w, i32_w]; rw [c6b0]) | skip); replace H := Option.bind_eq_some_iff.mp H; obtain ⟨t200, A70, H⟩ := H; have A7 := Aside0.mk A70; clear A70; have H' := Aside0.mk H; clear H
  have p199 : 0 ≤ (0 : Int) := (by omega)
  have q199 : 0 < (l0.length : Int) := zD; obtain ⟨ad199, e199, hx199_0, hx199_1, hx199_2⟩ := at_T33 HR0.out 0 p199 q199
  obtain rfl : ad197 = ad199 := (by injection e199)
  have qi199 : (0 < l0.length) = True := eq_true (by omega)
  (try rw [z0, Nat.zero_mul, Addr.add_zero'] at hx199_0); (try rw [z0, Nat.zero_mul, Addr.add_zero'] at hx199_1); (try rw [z0, Nat.zero_mul, Addr.add_zero'] at hx199_2)
  try replace hx199_0 := zH HB hx199_0
  try replace hx199_1 := zH HB hx199_1
  try replace hx199_2 := zH HB hx199_2
  replace p199 := eq_true p199; replace q199 := eq_true q199
  go_wp2_with (first | (go_at_call 81; (with_reducible refine (spec_l00In.calls ((rd_T33 l0 0).f1) 0 100 t200 _ A7.out).mono ?_); rintro e w' ⟨rfl, ⟨nd, rfl⟩⟩))
  go_meet
  case rel => exact ⟨_, (!t200), zR, H', ⟨by first | omega | exact Nat.le_refl _⟩, ⟨pB0 HB.out⟩⟩
 case rest =>
  clear HC4; (try clear c1); (try clear p1); (try clear q1); (try clear hx1); (try clear qi1); (try clear c2); (try clear c2b0); (try clear c2b1); (try clear p2); (try clear c6); (try clear c6b0); (try clear hx197_0); (try clear hx197_1); (try clear hx197_2); (try clear hx199_0); (try clear hx199_1); (try clear hx199_2); (try clear p197); (try clear p199); (try clear q197); (try clear q199); obtain ⟨kq, x19_3, rfl, HA, HJ3, HB⟩ := hcut
  cases kq with
  | zero => exact absurd HA.out (by simp [spec_l07Ok.j0])
  | succ kj3 =>
    have H := HA.out; clear HA; simp only [spec_l07Ok.j0] at H
    by_cases c8 : x19_3 = true
    · subst c8
      rw [if_pos rfl] at H; obtain rfl := Option.some.inj H
      go_wp2
      go_ret
      exact ⟨zE, pB0 HB.out⟩
    replace c8 := Bool.eq_false_iff.mpr c8; subst c8
    rw [if_neg (show ¬ (false = true) by decide)] at H
    replace H := Option.bind_eq_some_iff.mp H; obtain ⟨t201, A90, H⟩ := H; have A9 := Aside0.mk A90; clear A90
    by_cases c10 : 0 ≤ t198
    rotate_left
    · rw [if_neg c10] at H
      exact absurd H (by simp)
    rw [if_pos c10] at H; have c10b0 := decide_eq_true c10; clear c10
    by_cases c11 : t198 < (t201.length : Int)
    rotate_left
    · rw [if_neg c11] at H
      exact absurd H (by simp)
    rw [if_pos c11] at H; have c11b0 := decide_eq_true c11; clear c11
    by_cases c12 : 0 < ((rd_L5 t201 t198).length : Int)
    rotate_left
    · rw [if_neg c12] at H
      exact absurd H (by simp)
    rw [if_pos c12] at H; have c12b0 := decide_eq_true c12
    have c12b1 : decide (0 < (rd_L5 t201 t198).length) = true := decide_eq_true (by omega)
    clear c12
    by_cases c13 : 0 < (l0.length : Int)
    rotate_left
    · rw [if_neg c13] at H
      exact absurd H (by simp)
    rw [if_pos c13] at H; have c13b0 := decide_eq_true c13
    have c13b1 : decide (0 < l0.length) = true := decide_eq_true (by omega)
    clear c13; replace H := Option.bind_eq_some_iff.mp H; obtain ⟨t207, A140, H⟩ := H; have A14 := Aside0.mk A140; clear A140
    by_cases c15 : t207 = true
    rotate_left
    · replace c15 := Bool.eq_false_iff.mpr c15
      subst c15
      rw [if_neg (show ¬ (false = true) by decide)] at H
      obtain rfl := Option.some.inj H
      go_wp2_with (first | ((with_reducible refine gate_callee (f := 130) rfl ?_); refine zJ (some 20) Try.func130 #[] ?_; (with_reducible refine (spec_l07Table.calls  t201 _ A9.out).mono ?_); rintro e w19 ⟨v202, rfl, ho0, hb⟩; refine ⟨_, rfl, ?_⟩; have HO203 := Aside0.mk (Kd.N_lower (Kd.N_mono (ok' := fun k_ => True) ho0 (fun k_ hk_ => trivial)) (below_size (pB0 HB.out))); replace HB := zW (pB0 HB.out) hb; (try clear hb); (try clear hb2); (try clear hk); (try clear hi); (try clear ho0); obtain ⟨Ao20, co20, eo20⟩ := Kd.N_slice HO203.out; subst eo20; have p204 : 0 ≤ (t198 : Int) := zD; have q204 : t198 < (t201.length : Int) := zD; obtain ⟨ad204, A204_0, c204_0, e204, hx204_0, hl204_0, hi204_0⟩ := at_L5 (Kd.N_reads' HO203.out).2.2 t198 p204 q204; cases e204; obtain ⟨ce204, hce204, hMe204, hcc204⟩ := Kd.N_get HO203.out [] t198 p204 (by first | exact q204 | exact zD | (have e_ := (Kd.N_reads' HO203.out).1; omega)); obtain ⟨ua204_0, uc204_0, rfl, ul204_0, ge204_0⟩ := Kd.FK_slice_open hMe204; have hv204_0 := hcc204 0 _ rfl; rw [Nat.add_zero, show ((Kd.slice 2 (Kd.int .i64))).sz = 1 from rfl, Nat.mul_one] at hv204_0; replace hv204_0 := Option.some.inj (hv204_0.symm.trans hx204_0); injection hv204_0 with hva_ hvn_ hvc_; rw [hva_] at ge204_0; rw [hvc_] at ul204_0; have HL204_0 := Aside0.mk (show Kd.V (Kd.int .i64) 2 _ w.heap.size _ _ (rd_L5 t201 t198) from Kd.V_mk ul204_0 ge204_0); clear hva_ hvn_ hvc_ ge204_0 ul204_0; clear hcc204 hce204; have HR204_0 := Aside0.mk hi204_0; have HC204_0 := Aside0.mk hl204_0; clear hi204_0 hl204_0; replace p204 := eq_true p204; replace q204 := eq_true q204; have p205 : 0 ≤ (0 : Int) := (by omega); have q205 : 0 < ((rd_L5 t201 t198).length : Int) := zD; obtain ⟨ad205, e205, hx205_0⟩ := Kd.at_int (by repeat (first | (with_reducible exact HR204_0.out) | (with_reducible refine Kd.C_alloc ?_ _) | (with_reducible refine Kd.C_drewN ?_ _) | (with_reducible refine Kd.C_drew ?_) | exact HR204_0.out)) 0 p205 q205; cases e205; have qi205 : (0 < (rd_L5 t201 t198).length) = True := eq_true (by omega); (try rw [z0] at hx205_0); (try rw [Addr.add_zero'] at hx205_0); replace p205 := eq_true p205; replace q205 := eq_true q205; have p206 : 0 ≤ (0 : Int) := (by omega); have q206 : 0 < (l0.length : Int) := zD; obtain ⟨ad206, e206, hx206_0, hx206_1, hx206_2⟩ := at_T33 HR0.out 0 p206 q206; obtain rfl : ad197 = ad206 := (by injection e206); have qi206 : (0 < l0.length) = True := eq_true (by omega); (try rw [z0] at hx206_0); (try rw [Nat.zero_mul] at hx206_0); (try rw [Addr.add_zero'] at hx206_0); (try rw [z0] at hx206_1); (try rw [Nat.zero_mul] at hx206_1); (try rw [Addr.add_zero'] at hx206_1); (try rw [z0] at hx206_2); (try rw [Nat.zero_mul] at hx206_2); (try rw [Addr.add_zero'] at hx206_2); try replace hx206_0 := zH HB hx206_0; try replace hx206_1 := zH HB hx206_1; try replace hx206_2 := zH HB hx206_2; replace p206 := eq_true p206; replace q206 := eq_true q206) | ((with_reducible refine gate_callee (f := 81) rfl ?_); refine zJ (some 34) Try.func81 #[.int .i64 ((rd_T33 l0 0).f1), .int .i64 (wrap64 ((rd (rd_L5 t201 t198) 0) - 15)), .int .i64 (wrap64 ((rd (rd_L5 t201 t198) 0) + 15))] ?_; (with_reducible refine (spec_l00In.calls ((rd_T33 l0 0).f1) (wrap64 ((rd (rd_L5 t201 t198) 0) - 15)) (wrap64 ((rd (rd_L5 t201 t198) 0) + 15)) false _ A14.out).mono ?_); rintro e w' ⟨rfl, ⟨nd, rfl⟩⟩; refine ⟨_, rfl, ?_⟩))
      go_ret
      exact ⟨zE, pB0 HB.out⟩
    subst c15; rw [if_pos rfl] at H; replace H := Option.bind_eq_some_iff.mp H; obtain ⟨t208, A160, H⟩ := H; have A16 := Aside0.mk A160; clear A160; obtain rfl := Option.some.inj H
    go_wp2_with (first | ((with_reducible refine gate_callee (f := 130) rfl ?_); refine zJ (some 20) Try.func130 #[] ?_; (with_reducible refine (spec_l07Table.calls  t201 _ A9.out).mono ?_); rintro e w17 ⟨v202, rfl, ho0, hb⟩; refine ⟨_, rfl, ?_⟩; have HO203 := Aside0.mk (Kd.N_lower (Kd.N_mono (ok' := fun k_ => True) ho0 (fun k_ hk_ => trivial)) (below_size (pB0 HB.out))); replace HB := zW (pB0 HB.out) hb; (try clear hb); (try clear hb2); (try clear hk); (try clear hi); (try clear ho0); obtain ⟨Ao18, co18, eo18⟩ := Kd.N_slice HO203.out; subst eo18; have p204 : 0 ≤ (t198 : Int) := zD; have q204 : t198 < (t201.length : Int) := zD; obtain ⟨ad204, A204_0, c204_0, e204, hx204_0, hl204_0, hi204_0⟩ := at_L5 (Kd.N_reads' HO203.out).2.2 t198 p204 q204; cases e204; obtain ⟨ce204, hce204, hMe204, hcc204⟩ := Kd.N_get HO203.out [] t198 p204 (by first | exact q204 | exact zD | (have e_ := (Kd.N_reads' HO203.out).1; omega)); obtain ⟨ua204_0, uc204_0, rfl, ul204_0, ge204_0⟩ := Kd.FK_slice_open hMe204; have hv204_0 := hcc204 0 _ rfl; rw [Nat.add_zero, show ((Kd.slice 2 (Kd.int .i64))).sz = 1 from rfl, Nat.mul_one] at hv204_0; replace hv204_0 := Option.some.inj (hv204_0.symm.trans hx204_0); injection hv204_0 with hva_ hvn_ hvc_; rw [hva_] at ge204_0; rw [hvc_] at ul204_0; have HL204_0 := Aside0.mk (show Kd.V (Kd.int .i64) 2 _ w.heap.size _ _ (rd_L5 t201 t198) from Kd.V_mk ul204_0 ge204_0); clear hva_ hvn_ hvc_ ge204_0 ul204_0; clear hcc204 hce204; have HR204_0 := Aside0.mk hi204_0; have HC204_0 := Aside0.mk hl204_0; clear hi204_0 hl204_0; replace p204 := eq_true p204; replace q204 := eq_true q204; have p205 : 0 ≤ (0 : Int) := (by omega); have q205 : 0 < ((rd_L5 t201 t198).length : Int) := zD; obtain ⟨ad205, e205, hx205_0⟩ := Kd.at_int (by repeat (first | (with_reducible exact HR204_0.out) | (with_reducible refine Kd.C_alloc ?_ _) | (with_reducible refine Kd.C_drewN ?_ _) | (with_reducible refine Kd.C_drew ?_) | exact HR204_0.out)) 0 p205 q205; cases e205; have qi205 : (0 < (rd_L5 t201 t198).length) = True := eq_true (by omega); (try rw [z0] at hx205_0); (try rw [Addr.add_zero'] at hx205_0); replace p205 := eq_true p205; replace q205 := eq_true q205; have p206 : 0 ≤ (0 : Int) := (by omega); have q206 : 0 < (l0.length : Int) := zD; obtain ⟨ad206, e206, hx206_0, hx206_1, hx206_2⟩ := at_T33 HR0.out 0 p206 q206; obtain rfl : ad197 = ad206 := (by injection e206); have qi206 : (0 < l0.length) = True := eq_true (by omega); (try rw [z0] at hx206_0); (try rw [Nat.zero_mul] at hx206_0); (try rw [Addr.add_zero'] at hx206_0); (try rw [z0] at hx206_1); (try rw [Nat.zero_mul] at hx206_1); (try rw [Addr.add_zero'] at hx206_1); (try rw [z0] at hx206_2); (try rw [Nat.zero_mul] at hx206_2); (try rw [Addr.add_zero'] at hx206_2); try replace hx206_0 := zH HB hx206_0; try replace hx206_1 := zH HB hx206_1; try replace hx206_2 := zH HB hx206_2; replace p206 := eq_true p206; replace q206 := eq_true q206) | ((with_reducible refine gate_callee (f := 81) rfl ?_); refine zJ (some 34) Try.func81 #[.int .i64 ((rd_T33 l0 0).f1), .int .i64 (wrap64 ((rd (rd_L5 t201 t198) 0) - 15)), .int .i64 (wrap64 ((rd (rd_L5 t201 t198) 0) + 15))] ?_; (with_reducible refine (spec_l00In.calls ((rd_T33 l0 0).f1) (wrap64 ((rd (rd_L5 t201 t198) 0) - 15)) (wrap64 ((rd (rd_L5 t201 t198) 0) + 15)) true _ A14.out).mono ?_); rintro e w' ⟨rfl, ⟨nd, rfl⟩⟩; refine ⟨_, rfl, ?_⟩) | (go_at_call 131; (with_reducible refine (spec_l07Grain.calls ((rd_T33 l0 0).f2) t208 _ A16.out).mono ?_); rintro e w' ⟨rfl, ⟨nd, rfl⟩⟩))
    go_ret
    exact ⟨zE, pB0 HB.out⟩
def spec_l15Sheets.l0 : Nat → List (S33) → Int → Option (Bool)
 | 0, _, _ => none
 | k + 1, x0, x3 => if x3 < (x0.length : Int) then (if 0 ≤ x3 then ((spec_l07Ok.f k [rd_T33 x0 x3]).bind fun t210 => (if t210 = true then (spec_l15Sheets.l0 k x0 (wrap64 (x3 + 1))) else (some false))) else (none)) else (if (x0.length : Int) ≥ 1 then (some (decide ((x0.length : Int) ≤ 8))) else (some false))
def spec_l15Sheets.f (k : Nat) (l0 : List (S33)) : Option (Bool) := spec_l15Sheets.l0 k l0 0
theorem spec_l15Sheets.mono_l : ∀ k, (∀ y0 y1, LeO (spec_l15Sheets.l0 k y0 y1) (spec_l15Sheets.l0 (k + 1) y0 y1))
 | 0 => fun _ _ r h => by simp [spec_l15Sheets.l0] at h
 | k + 1 => by
   have ih0 := spec_l15Sheets.mono_l k
   · intro y0 y1
     unfold spec_l15Sheets.l0
     repeat' first
     | (with_reducible exact ih0 _ _)
     | (with_reducible exact spec_l07Ok.mono _ _)
     | (with_reducible exact LeO.refl _)
     | (with_reducible exact LeO.none _)
     | (with_reducible refine LeO.ite ?_ ?_)
     | (with_reducible refine LeO.bind ?_ (fun _ => ?_))
     | exact ih0 _ _
     | exact spec_l07Ok.mono _ _
     | exact LeO.none _
     | refine LeO.ite ?_ ?_
     | refine LeO.bind ?_ (fun _ => ?_)
theorem spec_l15Sheets.mono : ∀ a0 k, LeO (spec_l15Sheets.f k a0) (spec_l15Sheets.f (k + 1) a0) := by
 intro a0 k; have ih0 := spec_l15Sheets.mono_l k; unfold spec_l15Sheets.f
 repeat' first
  | (with_reducible exact ih0 _ _)
  | (with_reducible exact spec_l07Ok.mono _ _)
  | (with_reducible exact LeO.refl _)
  | (with_reducible exact LeO.none _)
  | (with_reducible refine LeO.ite ?_ ?_)
  | (with_reducible refine LeO.bind ?_ (fun _ => ?_))
  | exact ih0 _ _
  | exact spec_l07Ok.mono _ _
  | exact LeO.none _
  | refine LeO.ite ?_ ?_
  | refine LeO.bind ?_ (fun _ => ?_)
set_option maxHeartbeats 8000000 in
set_option maxRecDepth 100000 in
theorem spec_l15Sheets.calls (k : Nat) (A0 : Option Addr) (c0 : Nat) (l0 : List (S33)) (r : Bool) (w : World) (hr0 : Kd.C k33 w A0 l0.length l0) (hc0 : l0.length ≤ c0) (h : spec_l15Sheets.f k l0 = some r) :
 Calls Try.prog 109 #[.slice A0 l0.length c0] w fun e w' => e = .returned (.bool r) ∧ Below w.heap.size w w' := by
 have HR0 := Aside0.mk hr0; have HC0 := Aside0.mk hc0; clear hr0 hc0; have HB := Aside0.mk (Below.refl w.heap.size w); have H : (spec_l15Sheets.l0 k l0 0) = some r := h; clear h; have H' := Aside0.mk H; clear H
 go_enter Try.func109, Try.ntmps109
 go_wp2
 go_loopg [3] k (fun kq v3 w' => ∃ (x3_1 : Int), v3 = .int .i64 x3_1 ∧ Aside0 (spec_l15Sheets.l0 kq l0 x3_1 = some r) ∧ Aside0 (kq ≤ k) ∧ Aside0 (Below w.heap.size w w'))
 case atStart => exact ⟨(0), zR, H', ⟨Nat.le_refl _⟩, ⟨pB0 HB.out⟩⟩
 case round =>
  clear H'; (try clear c1); obtain ⟨x3_1, rfl, HA, HK1, HB⟩ := hrel
  cases gk with
  | zero => exact absurd HA.out (by simp [spec_l15Sheets.l0])
  | succ k1 =>
    have H := HA.out; clear HA; simp only [spec_l15Sheets.l0] at H
    by_cases c2 : x3_1 < (l0.length : Int)
    rotate_left
    · rw [if_neg c2] at H
      have c2b0 := decide_eq_false c2; clear c2
      by_cases c8 : (l0.length : Int) ≥ 1
      · rw [if_pos c8] at H
        have c8b0 := decide_eq_true c8
        have c8b1 : decide (1 ≤ l0.length) = true := decide_eq_true (by omega)
        clear c8; obtain rfl := Option.some.inj H
        go_wp2
        go_ret
        exact ⟨zE, pB0 HB.out⟩
      rw [if_neg c8] at H; have c8b0 := decide_eq_false c8
      have c8b1 : decide (1 ≤ l0.length) = false := decide_eq_false (by omega)
      clear c8; obtain rfl := Option.some.inj H
      go_wp2
      go_ret
      exact ⟨zE, pB0 HB.out⟩
    rw [if_pos c2] at H; have c2b0 := decide_eq_true c2; clear c2
    by_cases c3 : 0 ≤ x3_1
    rotate_left
    · rw [if_neg c3] at H
      exact absurd H (by simp)
    rw [if_pos c3] at H; have c3b0 := decide_eq_true c3; clear c3; replace H := Option.bind_eq_some_iff.mp H; obtain ⟨t210, A40, H⟩ := H; have A4 := Aside0.mk A40; clear A40
    by_cases c5 : t210 = true
    rotate_left
    · replace c5 := Bool.eq_false_iff.mpr c5
      subst c5
      rw [if_neg (show ¬ (false = true) by decide)] at H
      obtain rfl := Option.some.inj H; have p209 : 0 ≤ (x3_1 : Int) := zD; have q209 : x3_1 < (l0.length : Int) := zD; obtain ⟨ad209, e209, hx209_0, hx209_1, hx209_2⟩ := at_T33 HR0.out x3_1 p209 q209; cases e209
      try replace hx209_0 := zH HB hx209_0
      try replace hx209_1 := zH HB hx209_1
      try replace hx209_2 := zH HB hx209_2
      replace p209 := eq_true p209; replace q209 := eq_true q209
      go_wp2_with (first | ((with_reducible refine gate_callee (f := 92) rfl ?_); refine zJ (some 13) Try.func92 #[.pointer (some (ad209.add ((x3_1).toNat * 3)))] ?_; (with_reducible refine (spec_l07Ok.calls k1 _ 1 [rd_T33 l0 x3_1] false _ ?side1 ?side2 A4.out).mono ?_); (case side1 => (first | exact C_el z33 (by exact pC (Kd.C_below HR0.out HB.out)) (x3_1) (by first | exact of_eq_true p209 | omega) (by first | exact of_eq_true q209 | omega) | (have hel_ := C_el z33 (show Kd.C k33 _ _ _ l0 from by exact pC (Kd.C_below HR0.out HB.out)) (x3_1) (by first | exact of_eq_true p209 | omega) (by first | exact of_eq_true q209 | omega); first | exact hel_ | (simp [Go.Addr.add] at hel_ ⊢; exact hel_) | simpa using hel_))); (case side2 => exact Nat.le_refl _); rintro e w7 ⟨rfl, hb⟩; refine ⟨_, rfl, ?_⟩; replace HB := zW (pB0 HB.out) hb; (try clear hb); (try clear hb2); (try clear hk); (try clear hi)))
      go_ret
      exact ⟨zE, pB0 HB.out⟩
    subst c5; rw [if_pos rfl] at H; have H' := Aside0.mk H; clear H; have p209 : 0 ≤ (x3_1 : Int) := zD; have q209 : x3_1 < (l0.length : Int) := zD; obtain ⟨ad209, e209, hx209_0, hx209_1, hx209_2⟩ := at_T33 HR0.out x3_1 p209 q209; cases e209
    try replace hx209_0 := zH HB hx209_0
    try replace hx209_1 := zH HB hx209_1
    try replace hx209_2 := zH HB hx209_2
    replace p209 := eq_true p209; replace q209 := eq_true q209
    go_wp2_with (first | ((with_reducible refine gate_callee (f := 92) rfl ?_); refine zJ (some 13) Try.func92 #[.pointer (some (ad209.add ((x3_1).toNat * 3)))] ?_; (with_reducible refine (spec_l07Ok.calls k1 _ 1 [rd_T33 l0 x3_1] true _ ?side1 ?side2 A4.out).mono ?_); (case side1 => (first | exact C_el z33 (by exact pC (Kd.C_below HR0.out HB.out)) (x3_1) (by first | exact of_eq_true p209 | omega) (by first | exact of_eq_true q209 | omega) | (have hel_ := C_el z33 (show Kd.C k33 _ _ _ l0 from by exact pC (Kd.C_below HR0.out HB.out)) (x3_1) (by first | exact of_eq_true p209 | omega) (by first | exact of_eq_true q209 | omega); first | exact hel_ | (simp [Go.Addr.add] at hel_ ⊢; exact hel_) | simpa using hel_))); (case side2 => exact Nat.le_refl _); rintro e w6 ⟨rfl, hb⟩; refine ⟨_, rfl, ?_⟩; replace HB := zW (pB0 HB.out) hb; (try clear hb); (try clear hb2); (try clear hk); (try clear hi)))
    go_roundg k1
    case measure => have := HK1.out; omega
    case rel => exact ⟨(wrap64 (x3_1 + 1)), zR, H', ⟨by have := HK1.out; omega⟩, ⟨pB0 HB.out⟩⟩
def spec_l15Shifts.l0 : Nat → List Int → Int → Int → Option (Bool)
 | 0, _, _, _ => none
 | k + 1, x0, x1, x5 => if x5 < (x0.length : Int) then (if 0 ≤ x5 then ((spec_l00In.f (rd x0 x5) 0 (wrap64 (x1 - 1))).bind fun t212 => (if t212 = true then (spec_l15Shifts.l0 k x0 x1 (wrap64 (x5 + 1))) else (some false))) else (none)) else (some (decide ((x0.length : Int) ≤ 24)))
def spec_l15Shifts.f (k : Nat) (l0 : List Int) (a1 : Int) : Option (Bool) := spec_l15Shifts.l0 k l0 a1 0
theorem spec_l15Shifts.mono_l : ∀ k, (∀ y0 y1 y2, LeO (spec_l15Shifts.l0 k y0 y1 y2) (spec_l15Shifts.l0 (k + 1) y0 y1 y2))
 | 0 => fun _ _ _ r h => by simp [spec_l15Shifts.l0] at h
 | k + 1 => by
   have ih0 := spec_l15Shifts.mono_l k
   · intro y0 y1 y2
     unfold spec_l15Shifts.l0
     repeat' first
     | (with_reducible exact ih0 _ _ _)
     | (with_reducible exact LeO.refl _)
     | (with_reducible exact LeO.none _)
     | (with_reducible refine LeO.ite ?_ ?_)
     | (with_reducible refine LeO.bind ?_ (fun _ => ?_))
     | exact ih0 _ _ _
     | exact LeO.none _
     | refine LeO.ite ?_ ?_
     | refine LeO.bind ?_ (fun _ => ?_)
theorem spec_l15Shifts.mono : ∀ a0 a1 k, LeO (spec_l15Shifts.f k a0 a1) (spec_l15Shifts.f (k + 1) a0 a1) := by
 intro a0 a1 k; have ih0 := spec_l15Shifts.mono_l k; unfold spec_l15Shifts.f
 repeat' first
  | (with_reducible exact ih0 _ _ _)
  | (with_reducible exact LeO.refl _)
  | (with_reducible exact LeO.none _)
  | (with_reducible refine LeO.ite ?_ ?_)
  | (with_reducible refine LeO.bind ?_ (fun _ => ?_))
  | exact ih0 _ _ _
  | exact LeO.none _
  | refine LeO.ite ?_ ?_
  | refine LeO.bind ?_ (fun _ => ?_)
set_option maxHeartbeats 8000000 in
set_option maxRecDepth 100000 in
theorem spec_l15Shifts.calls (k : Nat) (A0 : Option Addr) (c0 : Nat) (l0 : List Int) (a1 : Int) (r : Bool) (w : World) (hr0 : Kd.C (Kd.int .i64) w A0 l0.length l0) (hc0 : l0.length ≤ c0) (h : spec_l15Shifts.f k l0 a1 = some r) :
 Calls Try.prog 110 #[.slice A0 l0.length c0, .int .i64 a1] w fun e w' => e = .returned (.bool r) ∧ Drawn0 w w' := by
 have HR0 := Aside0.mk hr0; have HC0 := Aside0.mk hc0; clear hr0 hc0; have H : (spec_l15Shifts.l0 k l0 a1 0) = some r := h; clear h; have H' := Aside0.mk H; clear H
 go_enter Try.func110, Try.ntmps110
 go_wp2
 go_loopg [5] k (fun kq v5 w' => ∃ (x5_1 : Int), v5 = .int .i64 x5_1 ∧ Aside0 (spec_l15Shifts.l0 kq l0 a1 x5_1 = some r) ∧ Aside0 (kq ≤ k) ∧ Drawn0 w w')
 case atStart => exact ⟨(0), zR, H', ⟨Nat.le_refl _⟩, zV⟩
 case round =>
  clear H'; (try clear c1); (try clear p2); obtain ⟨x5_1, rfl, HA, HK1, ⟨m1, rfl⟩⟩ := hrel
  cases gk with
  | zero => exact absurd HA.out (by simp [spec_l15Shifts.l0])
  | succ k1 =>
    have H := HA.out; clear HA; simp only [spec_l15Shifts.l0] at H
    by_cases c3 : x5_1 < (l0.length : Int)
    rotate_left
    · rw [if_neg c3] at H
      have c3b0 := decide_eq_false c3; clear c3; obtain rfl := Option.some.inj H
      go_wp2
      go_ret
      exact ⟨by first | rfl | (simp; done) | (simp [*]; done), zV⟩
    rw [if_pos c3] at H; have c3b0 := decide_eq_true c3; clear c3
    by_cases c4 : 0 ≤ x5_1
    rotate_left
    · rw [if_neg c4] at H
      exact absurd H (by simp)
    rw [if_pos c4] at H; have c4b0 := decide_eq_true c4; clear c4; replace H := Option.bind_eq_some_iff.mp H; obtain ⟨t212, A50, H⟩ := H; have A5 := Aside0.mk A50; clear A50
    by_cases c6 : t212 = true
    rotate_left
    · replace c6 := Bool.eq_false_iff.mpr c6
      subst c6
      rw [if_neg (show ¬ (false = true) by decide)] at H
      obtain rfl := Option.some.inj H; have p211 : 0 ≤ (x5_1 : Int) := zD; have q211 : x5_1 < (l0.length : Int) := zD; obtain ⟨ad211, e211, hx211_0⟩ := Kd.at_int HR0.out x5_1 p211 q211; cases e211; replace p211 := eq_true p211; replace q211 := eq_true q211
      go_wp2_with (first | ((with_reducible refine gate_callee (f := 81) rfl ?_); refine zJ (some 18) Try.func81 #[.int .i64 (rd l0 x5_1), .int .i64 0, .int .i64 (wrap64 (a1 - 1))] ?_; (with_reducible refine (spec_l00In.calls (rd l0 x5_1) 0 (wrap64 (a1 - 1)) false _ A5.out).mono ?_); rintro e w' ⟨rfl, ⟨nd, rfl⟩⟩; refine ⟨_, rfl, ?_⟩))
      go_ret
      exact ⟨by first | rfl | (simp; done) | (simp [*]; done), zV⟩
    subst c6; rw [if_pos rfl] at H; have H' := Aside0.mk H; clear H; have p211 : 0 ≤ (x5_1 : Int) := zD; have q211 : x5_1 < (l0.length : Int) := zD; obtain ⟨ad211, e211, hx211_0⟩ := Kd.at_int HR0.out x5_1 p211 q211; cases e211; replace p211 := eq_true p211; replace q211 := eq_true q211
    go_wp2_with (first | ((with_reducible refine gate_callee (f := 81) rfl ?_); refine zJ (some 18) Try.func81 #[.int .i64 (rd l0 x5_1), .int .i64 0, .int .i64 (wrap64 (a1 - 1))] ?_; (with_reducible refine (spec_l00In.calls (rd l0 x5_1) 0 (wrap64 (a1 - 1)) true _ A5.out).mono ?_); rintro e w' ⟨rfl, ⟨nd, rfl⟩⟩; refine ⟨_, rfl, ?_⟩))
    go_roundg k1
    case measure => have := HK1.out; omega
    case rel => exact ⟨(wrap64 (x5_1 + 1)), zR, H', ⟨by have := HK1.out; omega⟩, zV⟩
end Go.Proofs.Ytfiiakhpdkdebaa.PFnExactRotateSheets

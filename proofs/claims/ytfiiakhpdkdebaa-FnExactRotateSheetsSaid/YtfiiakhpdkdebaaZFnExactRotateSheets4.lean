/- What each function that a law reaches comes to, and the proof that its walk comes to it; laid by a program of this session. No condition. -/
import Derived.Test.YtfiiakhpdkdebaaZFnExactRotateSheets0
import Derived.Test.YtfiiakhpdkdebaaZFnExactRotateSheets2
import Derived.Test.YtfiiakhpdkdebaaZFnExactRotateSheets3
namespace Go.Proofs.Ytfiiakhpdkdebaa.PFnExactRotateSheets
open Go.RowKit Go.Proofs.YtfiiakhpdkdebaaW.PrintWords Go.Proofs.YtfiiakhpdkdebaaW.PrintLast Go.Proofs.YtfiiakhpdkdebaaW.PrintMore
attribute [local go_sem] max2_int min2_int max_two min_two max_three min_three max_four min_four
set_option linter.unusedVariables false
set_option linter.unusedSimpArgs false
def spec_l15Ok.f (k : Nat) (l0 : List (S62)) : Option (Bool) := if 0 < (l0.length : Int) then ((spec_l15Sheets.f k ((rd_T62 l0 0).f0)).bind fun t214 => (if t214 = true then ((spec_l15Shifts.f k ((rd_T62 l0 0).f1) (((rd_T62 l0 0).f0).length : Int)).bind fun t215 => (some t215)) else (some false))) else (none)
theorem spec_l15Ok.mono : ∀ a0 k, LeO (spec_l15Ok.f k a0) (spec_l15Ok.f (k + 1) a0) := by
 intro a0 k; unfold spec_l15Ok.f
 repeat' first
  | (with_reducible exact spec_l15Sheets.mono _ _)
  | (with_reducible exact spec_l15Shifts.mono _ _ _)
  | (with_reducible exact LeO.refl _)
  | (with_reducible exact LeO.none _)
  | (with_reducible refine LeO.ite ?_ ?_)
  | (with_reducible refine LeO.bind ?_ (fun _ => ?_))
  | exact spec_l15Sheets.mono _ _
  | exact spec_l15Shifts.mono _ _ _
  | exact LeO.none _
  | refine LeO.ite ?_ ?_
  | refine LeO.bind ?_ (fun _ => ?_)
def spec_l15Ok.T1 : Bool × List (List Nat × List Nat) := (true, [([], []), ([0], [0]), ([1], [1]), ([2], [2]), ([3], [3]), ([4, 4], [4]), ([5], [5]), ([6, 5], [5, 6]), ([7, 5], [5, 7]), ([8, 5], [5, 8]), ([5], [5]), ([10, 5], [5, 10]), ([11, 5], [5, 11]), ([12, 5], [5, 12]), ([13, 5], [5, 13]), ([9, 14, 5, 5], [5, 9, 14]), ([5, 15], [5, 15]), ([16, 15, 0, 1, 2, 3, 4, 5, 6, 7, 8, 9, 10, 11, 12, 13, 14, 15, 16], [16])])
def spec_l15Ok.B1 : List Nat := [0, 1, 3, 7, 15, 31, 63, 127, 255, 511, 63, 1087, 3135, 7231, 15423, 32767, 65535, 131071]
theorem spec_l15Ok.tab1 : rtab .any (opsOf Try.f66 1) = spec_l15Ok.T1 := by kernel_rfl
theorem spec_l15Ok.bits1 : waitsOk spec_l15Ok.T1.2 spec_l15Ok.B1 = true := by kernel_rfl
set_option maxHeartbeats 8000000 in
set_option maxRecDepth 100000 in
theorem spec_l15Ok.calls (k : Nat) (A0 : Option Addr) (c0 : Nat) (l0 : List (S62)) (r : Bool) (w : World) (hr0 : Kd.C k62 w A0 l0.length l0) (hc0 : l0.length ≤ c0) (h : spec_l15Ok.f k l0 = some r) :
 Calls Try.prog 66 #[.pointer A0] w fun e w' => e = .returned (.bool r) ∧ Below w.heap.size w w' := by
 have HR0 := Aside0.mk hr0; have HC0 := Aside0.mk hc0; clear hr0 hc0; have HB := Aside0.mk (Below.refl w.heap.size w)
 have H : (if 0 < (l0.length : Int) then ((spec_l15Sheets.f k ((rd_T62 l0 0).f0)).bind fun t214 => (if t214 = true then ((spec_l15Shifts.f k ((rd_T62 l0 0).f1) (((rd_T62 l0 0).f0).length : Int)).bind fun t215 => (some t215)) else (some false))) else (none)) = some r := h
 clear h
 by_cases c2 : 0 < (l0.length : Int)
 rotate_left
 · rw [if_neg c2] at H
   exact absurd H (by simp)
 rw [if_pos c2] at H; have c2b0 := decide_eq_true c2
 have c2b1 : decide (0 < l0.length) = true := decide_eq_true (by omega)
 clear c2; replace H := Option.bind_eq_some_iff.mp H; obtain ⟨t214, A30, H⟩ := H; have A3 := Aside0.mk A30; clear A30
 by_cases c4 : t214 = true
 rotate_left
 · replace c4 := Bool.eq_false_iff.mpr c4
   subst c4
   rw [if_neg (show ¬ (false = true) by decide)] at H
   obtain rfl := Option.some.inj H
   go_enter Try.func66, Try.ntmps66
   try go_wp2
   replace HB := Aside0.mk (below_drew1 HB.out)
   have p213 : 0 ≤ (0 : Int) := (by omega)
   have q213 : 0 < (l0.length : Int) := zD; obtain ⟨ad213, A213_0, c213_0, A213_1, c213_1, e213, hx213_0, hx213_1, hl213_0, hi213_0, hl213_1, hi213_1⟩ := at_T62 HR0.out 0 p213 q213; have hw213_1 := hx213_1; (try rw [z0, Nat.zero_mul, Addr.add_zero'] at hw213_1); have hw213_0 := hx213_0; (try rw [z0, Nat.zero_mul, Addr.add_zero'] at hw213_0); cases e213
   have qi213 : (0 < l0.length) = True := eq_true (by omega)
   (try rw [z0, Nat.zero_mul, Addr.add_zero'] at hx213_0); (try rw [z0, Nat.zero_mul, Addr.add_zero'] at hx213_1)
   try replace hx213_0 := zH HB hx213_0
   try replace hx213_1 := zH HB hx213_1
   have HR213_0 := Aside0.mk hi213_0; have HC213_0 := Aside0.mk hl213_0; clear hi213_0 hl213_0; have HR213_1 := Aside0.mk hi213_1; have HC213_1 := Aside0.mk hl213_1; clear hi213_1 hl213_1; replace p213 := eq_true p213; replace q213 := eq_true q213
   refine start_ (n := 18) (S := fun w' => w'.cell? ad213 = some (.slice A213_0 ((rd_T62 l0 0).f0).length c213_0) ∧ w'.cell? ⟨ad213.block, ad213.off + 1, none⟩ = some (.slice A213_1 ((rd_T62 l0 0).f1).length c213_1)) (ds := []) (Array.replicate 18 false) (by kernel_rfl) rfl rfl ⟨(zH HB hw213_0), (zH HB hw213_1)⟩ (fun hHeld => ?_); refine with_tabW spec_l15Ok.tab1 spec_l15Ok.bits1 (fun HT_ HW_ => ?_)
   generalize w.drew = w8 at HB HR213_0 HR213_1 hx213_0 hx213_1 hHeld ⊢
   refine zP 0 (some 3) (zb 18 1) HT_ ?_; refine zP 1 (some 4) (zb 18 3) HT_ ?_; refine zP 2 (some 5) (zb 18 7) HT_ ?_; refine zT2 3 (some 6) (zb 18 15) HT_ HW_ hHeld ?_
   refine one_ (i := 4) (N := some 7) (zb 18 31) rfl rfl (one_of HT_.out (by kernel_rfl)) (by decide) (fun K hK => ?_)
   refine goes_ Try.func109 (by kernel_rfl) rfl #[.slice A213_0 ((rd_T62 l0 0).f0).length c213_0] (by rfl) rfl rfl pA ?_
   with_reducible refine (spec_l15Sheets.calls k _ _ ((rd_T62 l0 0).f0) false _ ?side1 ?side2 A3.out).mono ?_
   (case side1 => exact pC (Kd.C_below HR213_0.out HB.out))
   (case side2 => exact HC213_0.out)
   rintro e w9 ⟨rfl, hb⟩; refine ⟨_, rfl, ?_⟩; replace HB := zW (pB0 HB.out) hb; (try clear hb); (try clear hb2); (try clear hk); (try clear hi)
   refine hK.out _ _ ⟨(zH HB hw213_0), (zH HB hw213_1)⟩ (fun hHeld => ?_)
   clear hK K; refine zN ?_; refine zP 5 (some 8) (zb 18 63) HT_ ?_; refine zU 6 (some 9) (zb 18 127) HT_ ?_; refine zU 7 (some 10) (zb 18 255) HT_ ?_; refine zU 8 (some 11) (zb 18 511) HT_ ?_; refine zU 9 (some 12) (zb 18 1023) HT_ ?_; refine zU 10 (some 13) (zb 18 2047) HT_ ?_; refine zU 11 (some 14) (zb 18 4095) HT_ ?_; refine zU 12 (some 15) (zb 18 8191) HT_ ?_; refine zU 13 (some 16) (zb 18 16383) HT_ ?_; refine zU 14 (some 17) (zb 18 32767) HT_ ?_; refine zU 15 (some 18) (zb 18 65535) HT_ ?_; refine zP 16 (some 19) (zb 18 131071) HT_ ?_; refine zP 17 (some 2) (zb 18 262143) HT_ ?_
   refine done_ (done_of HT_.out (by kernel_rfl)) ?_
   try go_wp2
   go_ret
   exact ⟨zE, pB0 HB.out⟩
 subst c4; rw [if_pos rfl] at H; replace H := Option.bind_eq_some_iff.mp H; obtain ⟨t215, A50, H⟩ := H; have A5 := Aside0.mk A50; clear A50; obtain rfl := Option.some.inj H
 go_enter Try.func66, Try.ntmps66
 try go_wp2
 replace HB := Aside0.mk (below_drew1 HB.out)
 have p213 : 0 ≤ (0 : Int) := (by omega)
 have q213 : 0 < (l0.length : Int) := zD; obtain ⟨ad213, A213_0, c213_0, A213_1, c213_1, e213, hx213_0, hx213_1, hl213_0, hi213_0, hl213_1, hi213_1⟩ := at_T62 HR0.out 0 p213 q213; have hw213_1 := hx213_1; (try rw [z0, Nat.zero_mul, Addr.add_zero'] at hw213_1); have hw213_0 := hx213_0; (try rw [z0, Nat.zero_mul, Addr.add_zero'] at hw213_0); cases e213
 have qi213 : (0 < l0.length) = True := eq_true (by omega)
 (try rw [z0, Nat.zero_mul, Addr.add_zero'] at hx213_0); (try rw [z0, Nat.zero_mul, Addr.add_zero'] at hx213_1)
 try replace hx213_0 := zH HB hx213_0
 try replace hx213_1 := zH HB hx213_1
 have HR213_0 := Aside0.mk hi213_0; have HC213_0 := Aside0.mk hl213_0; clear hi213_0 hl213_0; have HR213_1 := Aside0.mk hi213_1; have HC213_1 := Aside0.mk hl213_1; clear hi213_1 hl213_1; replace p213 := eq_true p213; replace q213 := eq_true q213
 refine start_ (n := 18) (S := fun w' => w'.cell? ad213 = some (.slice A213_0 ((rd_T62 l0 0).f0).length c213_0) ∧ w'.cell? ⟨ad213.block, ad213.off + 1, none⟩ = some (.slice A213_1 ((rd_T62 l0 0).f1).length c213_1)) (ds := []) (Array.replicate 18 false) (by kernel_rfl) rfl rfl ⟨(zH HB hw213_0), (zH HB hw213_1)⟩ (fun hHeld => ?_); refine with_tabW spec_l15Ok.tab1 spec_l15Ok.bits1 (fun HT_ HW_ => ?_)
 generalize w.drew = w6 at HB HR213_0 HR213_1 hx213_0 hx213_1 hHeld ⊢
 refine zP 0 (some 3) (zb 18 1) HT_ ?_; refine zP 1 (some 4) (zb 18 3) HT_ ?_; refine zP 2 (some 5) (zb 18 7) HT_ ?_; refine zT2 3 (some 6) (zb 18 15) HT_ HW_ hHeld ?_
 refine one_ (i := 4) (N := some 7) (zb 18 31) rfl rfl (one_of HT_.out (by kernel_rfl)) (by decide) (fun K hK => ?_)
 refine goes_ Try.func109 (by kernel_rfl) rfl #[.slice A213_0 ((rd_T62 l0 0).f0).length c213_0] (by rfl) rfl rfl pA ?_
 with_reducible refine (spec_l15Sheets.calls k _ _ ((rd_T62 l0 0).f0) true _ ?side1 ?side2 A3.out).mono ?_
 (case side1 => exact pC (Kd.C_below HR213_0.out HB.out))
 (case side2 => exact HC213_0.out)
 rintro e w7 ⟨rfl, hb⟩; refine ⟨_, rfl, ?_⟩; replace HB := zW (pB0 HB.out) hb; (try clear hb); (try clear hb2); (try clear hk); (try clear hi)
 refine hK.out _ _ ⟨(zH HB hw213_0), (zH HB hw213_1)⟩ (fun hHeld => ?_)
 clear hK K; refine zN ?_; refine zP 5 (some 8) (zb 18 63) HT_ ?_; refine zP 6 (some 9) (zb 18 127) HT_ ?_; refine zP 7 (some 10) (zb 18 255) HT_ ?_; refine zP 8 (some 11) (zb 18 511) HT_ ?_; refine zP 10 (some 13) (zb 18 1535) HT_ ?_; refine zP 11 (some 14) (zb 18 3583) HT_ ?_; refine zP 12 (some 15) (zb 18 7679) HT_ ?_; refine zT2 9 (some 12) (zb 18 8191) HT_ HW_ hHeld ?_; refine zT2 13 (some 16) (zb 18 16383) HT_ HW_ hHeld ?_; refine zP 14 (some 17) (zb 18 32767) HT_ ?_
 refine one_ (i := 15) (N := some 18) (zb 18 65535) rfl rfl (one_of HT_.out (by kernel_rfl)) (by decide) (fun K hK => ?_)
 refine goes_ Try.func110 (by kernel_rfl) rfl #[.slice A213_1 ((rd_T62 l0 0).f1).length c213_1, .int .i64 (((rd_T62 l0 0).f0).length : Int)] (by rfl) rfl rfl pA ?_
 with_reducible refine (spec_l15Shifts.calls k _ _ ((rd_T62 l0 0).f1) (((rd_T62 l0 0).f0).length : Int) t215 _ ?side1 ?side2 A5.out).mono ?_
 (case side1 => exact pC (Kd.C_below HR213_1.out HB.out))
 (case side2 => exact HC213_1.out)
 rintro e w' ⟨rfl, ⟨nd, rfl⟩⟩; refine ⟨_, rfl, ?_⟩
 refine hK.out _ _ ⟨(zH HB hw213_0), (zH HB hw213_1)⟩ (fun hHeld => ?_)
 clear hK K; refine zN ?_; refine zP 16 (some 19) (zb 18 131071) HT_ ?_; refine zP 17 (some 2) (zb 18 262143) HT_ ?_
 refine done_ (done_of HT_.out (by kernel_rfl)) ?_
 try go_wp2
 go_ret
 exact ⟨zE, pB0 HB.out⟩
def spec_l00Own.f (l0 : List Int) : Option (List Int) := (some (([] : List Int) : List Int)).bind fun y216 => (if y216.length + l0.length < 17592186044416 then (some (y216 ++ l0)) else (none))
set_option maxHeartbeats 8000000 in
set_option maxRecDepth 100000 in
theorem spec_l00Own.calls (A0 : Option Addr) (c0 : Nat) (l0 : List Int) (r : List Int) (w : World) (hr0 : Kd.C (Kd.int .i64) w A0 l0.length l0) (hc0 : l0.length ≤ c0) (h : spec_l00Own.f l0 = some r) :
 Calls Try.prog 82 #[.slice A0 l0.length c0] w fun e w' => ∃ v0_ : Value, e = .returned (v0_) ∧ Kd.R (Kd.int .i64) 2 w' w.heap.size (fun _ => True) v0_ r ∧ Below w.heap.size w w' := by
 have HR0 := Aside0.mk hr0; have HC0 := Aside0.mk hc0; clear hr0 hc0; have HB := Aside0.mk (Below.refl w.heap.size w)
 have H : ((some (([] : List Int) : List Int)).bind fun y216 => (if y216.length + l0.length < 17592186044416 then (some (y216 ++ l0)) else (none))) = some r := h
 clear h; obtain ⟨y216, hy216⟩ : ∃ y_ : List Int, y_ = (([] : List Int)) := ⟨_, rfl⟩; replace H : (if y216.length + l0.length < 17592186044416 then (some (y216 ++ l0)) else (none)) = some r := zY hy216 H; have Ny216 := Aside0.mk hy216; clear hy216
 by_cases c2 : y216.length + l0.length < 17592186044416
 rotate_left
 · rw [if_neg c2] at H
   exact absurd H (by simp)
 rw [if_pos c2] at H; have LMc2 := Aside0.mk c2; clear c2; obtain ⟨y219, hy219⟩ : ∃ y_ : List Int, y_ = (y216 ++ l0) := ⟨_, rfl⟩; replace H : (some y219) = some r := zY hy219 H; have Ny219 := Aside0.mk hy219; clear hy219; obtain rfl := Option.some.inj H
 go_enter Try.func82, Try.ntmps82
 go_wp2_with (first | ((with_reducible refine zI 3 rfl ?_); refine Kd.R_lit (Kd.int .i64) _ 2 ?hg (N := 3) ?hd (xs := ([] : List Int)) (inner := []) (ok := fun _ => True) (okp := fun _ => True) ?hr ?hp (fun _ hk => hk) trivial (Below.refl _ _) (Nat.le_refl _) (by simp) ?_; (case hd => rfl); (case hg => rfl); (case hr => first | (go_simp; done) | (go_simp; rfl)); (case hp => exact (Reps.none _ _)); intro v217 w3 ho4 hb hg_ hnew_; clear hg_ hnew_; (first | rw [← Ny216.out] at ho4 | (simp only [Int.reduceToNat] at ho4; rw [← Ny216.out] at ho4)); have HO218 := Aside0.mk (Kd.R_lower ho4 (below_size (pB0 HB.out))); replace HB := zW (pB0 HB.out) hb; clear hb ho4) | ((with_reducible refine gate_builtin (b := .append) (xs := #[.tmp 3, .tmp 4]) rfl ?_); at_builtin; refine Kd.R_append_rows (Kd.int .i64) (w0 := w) w.heap.size rfl (.tmp 3) (.tmp 4) 41 2 (.int .i64 0) 8 rfl Try.underlying41 info2 rfl (by decide) (by omega) v217 y216 l0 _ _ _ (fun _ => True) (fun _ => False) rfl rfl ?aO ?aR (fun _ _ h => h) (fun _ h => h.elim) ?aF ?aB ?aS ?aL ?_; (case aR => exact pC (Kd.C_below HR0.out HB.out)); (case aB => exact (pB0 HB.out)); (case aF => exact (fun _ _ => trivial)); (case aO => exact (pR HO218.out)); (case aS => exact (below_size (pB0 HB.out))); (case aL => have := LMc2.out; omega); intro v220 w5 ho hb hg hat; rw [← Ny219.out] at ho; have HO221 := Aside0.mk (ho); replace HB := Aside0.mk (hb); clear HO218; clear ho hb hg hat))
 go_ret
 exact ⟨_, zE, by (with_reducible repeat (first | apply Kd.R_alloc | apply Kd.R_drewN | apply Kd.R_drew)); exact HO221.out, pB0 HB.out⟩
def spec_RotateSheets.f (k : Nat) (l0_0 : List (S33)) (l0_1 : List Int) (a1 : Int) : Option ((List (S33)) × List Int × Int) := (spec_l15Ok.f k [(⟨l0_0, l0_1⟩ : S62)]).bind fun t224 => (if t224 = true then ((spec_l00In.f a1 0 (l0_0.length : Int)).bind fun t225 => (if t225 = true then ((spec_l00Own.f l0_1).bind fun t226 => ((some (([] : List (S33)) : List (S33))).bind fun y230 => (if 0 ≤ a1 then (if a1 ≤ (l0_0.length : Int) then ((some (l0_0.drop (a1 : Int).toNat : List (S33))).bind fun y233 => (if y230.length + y233.length < 4398046511104 then ((some (y230 ++ y233 : List (S33))).bind fun y237 => ((some (l0_0.take (a1 : Int).toNat : List (S33))).bind fun y240 => (if y237.length + y240.length < 4398046511104 then (some ((y237 ++ y240), t226, 0)) else (none)))) else (none))) else (none)) else (none)))) else (some (([] : List (S33)), ([] : List Int), 2)))) else (some (([] : List (S33)), ([] : List Int), 1)))
theorem spec_RotateSheets.mono : ∀ a0 a1 a2 k, LeO (spec_RotateSheets.f k a0 a1 a2) (spec_RotateSheets.f (k + 1) a0 a1 a2) := by
 intro a0 a1 a2 k; unfold spec_RotateSheets.f
 repeat' first
  | (with_reducible exact spec_l15Ok.mono _ _)
  | (with_reducible exact LeO.refl _)
  | (with_reducible exact LeO.none _)
  | (with_reducible refine LeO.ite ?_ ?_)
  | (with_reducible refine LeO.bind ?_ (fun _ => ?_))
  | exact spec_l15Ok.mono _ _
  | exact LeO.none _
  | refine LeO.ite ?_ ?_
  | refine LeO.bind ?_ (fun _ => ?_)
def spec_RotateSheets.T7 : Bool × List (List Nat × List Nat) := (true, [([], []), ([], []), ([1], [1]), ([], []), ([2, 3], [2, 3]), ([0, 4], [0, 4]), ([], []), ([6], [6]), ([], []), ([7, 8], [7, 8]), ([5, 9, 5], [5, 9]), ([0, 1, 2, 3, 4, 5, 6, 7, 8, 9, 10], []), ([11, 10, 10, 0, 1, 2, 3, 4, 5, 6, 7, 8, 9, 10], [10, 11])])
def spec_RotateSheets.B7 : List Nat := [0, 0, 2, 0, 14, 31, 0, 64, 0, 448, 1023, 2047, 4095]
theorem spec_RotateSheets.tab7 : rtab .any (opsOf Try.f44 7) = spec_RotateSheets.T7 := by kernel_rfl
theorem spec_RotateSheets.bits7 : waitsOk spec_RotateSheets.T7.2 spec_RotateSheets.B7 = true := by kernel_rfl
set_option maxHeartbeats 8000000 in
set_option maxRecDepth 100000 in
theorem spec_RotateSheets.calls (k : Nat) (A0_0 : Option Addr) (c0_0 : Nat) (l0_0 : List (S33)) (A0_1 : Option Addr) (c0_1 : Nat) (l0_1 : List Int) (a1 : Int) (r1 : List (S33)) (r2 : List Int) (r3 : Int) (w : World) (hr0_0 : Kd.C k33 w A0_0 l0_0.length l0_0) (hc0_0 : l0_0.length ≤ c0_0) (hr0_1 : Kd.C (Kd.int .i64) w A0_1 l0_1.length l0_1) (hc0_1 : l0_1.length ≤ c0_1) (h : spec_RotateSheets.f k l0_0 l0_1 a1 = some (r1, r2, r3)) :
 Calls Try.prog 44 #[.agg #[.slice A0_0 l0_0.length c0_0, .slice A0_1 l0_1.length c0_1], .int .i64 a1] w fun e w' => ∃ v0_ v1_ : Value, e = .returned (.tuple #[.agg #[v0_, v1_], .int .i64 r3]) ∧ Kd.R k33 33 w' w.heap.size (fun _ => True) v0_ r1 ∧ Kd.R (Kd.int .i64) 2 w' w.heap.size (fun _ => True) v1_ r2 ∧ Below w.heap.size w w' := by
 have hu62 := Try.underlying62; have HR0_0 := Aside0.mk hr0_0; have HC0_0 := Aside0.mk hc0_0; clear hr0_0 hc0_0; have HR0_1 := Aside0.mk hr0_1; have HC0_1 := Aside0.mk hc0_1; clear hr0_1 hc0_1; have HB := Aside0.mk (Below.refl w.heap.size w)
 have H : ((spec_l15Ok.f k [(⟨l0_0, l0_1⟩ : S62)]).bind fun t224 => (if t224 = true then ((spec_l00In.f a1 0 (l0_0.length : Int)).bind fun t225 => (if t225 = true then ((spec_l00Own.f l0_1).bind fun t226 => ((some (([] : List (S33)) : List (S33))).bind fun y230 => (if 0 ≤ a1 then (if a1 ≤ (l0_0.length : Int) then ((some (l0_0.drop (a1 : Int).toNat : List (S33))).bind fun y233 => (if y230.length + y233.length < 4398046511104 then ((some (y230 ++ y233 : List (S33))).bind fun y237 => ((some (l0_0.take (a1 : Int).toNat : List (S33))).bind fun y240 => (if y237.length + y240.length < 4398046511104 then (some ((y237 ++ y240), t226, 0)) else (none)))) else (none))) else (none)) else (none)))) else (some (([] : List (S33)), ([] : List Int), 2)))) else (some (([] : List (S33)), ([] : List Int), 1)))) = some (r1, r2, r3) := h
 clear h; replace H := Option.bind_eq_some_iff.mp H; obtain ⟨t224, A30, H⟩ := H; have A3 := Aside0.mk A30; clear A30
 by_cases c4 : t224 = true
 rotate_left
 · replace c4 := Bool.eq_false_iff.mpr c4
   subst c4
   rw [if_neg (show ¬ (false = true) by decide)] at H
   simp only [Option.some.injEq, Prod.mk.injEq] at H; obtain ⟨rfl, rfl, rfl⟩ := H
   go_enter Try.func44, Try.ntmps44
   go_wp2_with (first | ((with_reducible refine zI 2 rfl ?_); refine zB 2 #[.slice A0_0 l0_0.length c0_0, .slice A0_1 l0_1.length c0_1] 62 ?_; intro gb222 hg w43 hbox hb; have BK222 := Aside0.mk (hbox); have GW222 := zS (pB0 HB.out) hg; have GE222 := GW222; replace HB := zW (pB0 HB.out) hb; clear hb hbox hg) | ((with_reducible refine zI 4 rfl ?_); refine zB 4 #[.slice none 0 0, .slice none 0 0] 62 ?_; intro gb223 hg w44 hbox hb; have BK223 := Aside0.mk (hbox); have GW223 := zS (pB1 HB.out GE222.out) hg; have GE223 := GW223; have NB222_223 := zL BK222 hg; have NB223_222 := zM BK222 hg; replace BK222 := zK BK222 hb; replace HB := zW (pB1 HB.out GE222.out) hb; clear hb hbox hg) | ((with_reducible refine gate_callee (f := 66) rfl ?_); refine zJ (some 8) Try.func66 #[.pointer (some ⟨gb222, 0, none⟩)] ?_; (with_reducible refine (spec_l15Ok.calls k _ 1 [(⟨l0_0, l0_1⟩ : S62)] false _ ?side1 ?side2 A3.out).mono ?_); (case side1 => exact C_box (cs := #[.slice A0_0 l0_0.length c0_0, .slice A0_1 l0_1.length c0_1]) (t := 62) (pK BK222.out) (k62_mk _ _ (by exact HC0_0.out) (by exact pC (Kd.C_below HR0_0.out HB.out)) (by exact HC0_1.out) (by exact pC (Kd.C_below HR0_1.out HB.out)))); (case side2 => exact Nat.le_refl _); rintro e w45 ⟨rfl, hb⟩; refine ⟨_, rfl, ?_⟩; replace BK222 := zK BK222 hb; replace BK223 := zK BK223 hb; replace HB := zW (pB2 HB.out GE222.out GE223.out) hb; (try clear hb); (try clear hb2); (try clear hk); (try clear hi); have hnb46 := NB223_222.out; have hnc46 := NB222_223.out; obtain ⟨Y47_0, X47_0, Y47_1, X47_1⟩ := zw2 BK223))
   refine bodyPost_ret (results_ct rfl _ _ gb223 62 #[.slice none 0 0, .slice none 0 0] (0, 0) _ rfl (by refine zg #[.slice none 0 0, .slice none 0 0] 1 ?_; refine zg #[.slice none 0 0, .slice none 0 0] 0 ?_; exact pK BK223.out) Try.underlying62 rfl (by kernel_rfl)) rfl ?_
   exact ⟨_, _, zE, by first | exact Kd.R_nil _ _ _ _ _ | exact Kd.N_nil _ _ _ _ _ | exact Kd.V_nil _ _ _ _ _ | exact Kd.Q_nil _ _ _ _ _ | exact Kd.S_nil _ _ _ _ _, by first | exact Kd.R_nil _ _ _ _ _ | exact Kd.N_nil _ _ _ _ _ | exact Kd.V_nil _ _ _ _ _ | exact Kd.Q_nil _ _ _ _ _ | exact Kd.S_nil _ _ _ _ _, pB2 HB.out GE222.out GE223.out⟩
 subst c4; rw [if_pos rfl] at H; replace H := Option.bind_eq_some_iff.mp H; obtain ⟨t225, A50, H⟩ := H; have A5 := Aside0.mk A50; clear A50
 by_cases c6 : t225 = true
 rotate_left
 · replace c6 := Bool.eq_false_iff.mpr c6
   subst c6
   rw [if_neg (show ¬ (false = true) by decide)] at H
   simp only [Option.some.injEq, Prod.mk.injEq] at H; obtain ⟨rfl, rfl, rfl⟩ := H
   go_enter Try.func44, Try.ntmps44
   go_wp2_with (first | ((with_reducible refine zI 2 rfl ?_); refine zB 2 #[.slice A0_0 l0_0.length c0_0, .slice A0_1 l0_1.length c0_1] 62 ?_; intro gb222 hg w37 hbox hb; have BK222 := Aside0.mk (hbox); have GW222 := zS (pB0 HB.out) hg; have GE222 := GW222; replace HB := zW (pB0 HB.out) hb; clear hb hbox hg) | ((with_reducible refine zI 4 rfl ?_); refine zB 4 #[.slice none 0 0, .slice none 0 0] 62 ?_; intro gb223 hg w38 hbox hb; have BK223 := Aside0.mk (hbox); have GW223 := zS (pB1 HB.out GE222.out) hg; have GE223 := GW223; have NB222_223 := zL BK222 hg; have NB223_222 := zM BK222 hg; replace BK222 := zK BK222 hb; replace HB := zW (pB1 HB.out GE222.out) hb; clear hb hbox hg) | ((with_reducible refine gate_callee (f := 66) rfl ?_); refine zJ (some 8) Try.func66 #[.pointer (some ⟨gb222, 0, none⟩)] ?_; (with_reducible refine (spec_l15Ok.calls k _ 1 [(⟨l0_0, l0_1⟩ : S62)] true _ ?side1 ?side2 A3.out).mono ?_); (case side1 => exact C_box (cs := #[.slice A0_0 l0_0.length c0_0, .slice A0_1 l0_1.length c0_1]) (t := 62) (pK BK222.out) (k62_mk _ _ (by exact HC0_0.out) (by exact pC (Kd.C_below HR0_0.out HB.out)) (by exact HC0_1.out) (by exact pC (Kd.C_below HR0_1.out HB.out)))); (case side2 => exact Nat.le_refl _); rintro e w39 ⟨rfl, hb⟩; refine ⟨_, rfl, ?_⟩; replace BK222 := zK BK222 hb; replace BK223 := zK BK223 hb; replace HB := zW (pB2 HB.out GE222.out GE223.out) hb; (try clear hb); (try clear hb2); (try clear hk); (try clear hi); have hnb40 := NB222_223.out; have hnc40 := NB223_222.out; obtain ⟨Y41_0, X41_0, Y41_1, X41_1⟩ := zw2 BK222) | ((with_reducible refine gate_callee (f := 81) rfl ?_); refine zJ (some 16) Try.func81 #[.int .i64 a1, .int .i64 0, .int .i64 (l0_0.length : Int)] ?_; (with_reducible refine (spec_l00In.calls a1 0 (l0_0.length : Int) false _ A5.out).mono ?_); rintro e w' ⟨rfl, ⟨nd, rfl⟩⟩; refine ⟨_, rfl, ?_⟩; (try (rw [drewN_self w39]; generalize hq_ : World.drewN w39 _ = w39; have n0_ : Aside0 (w39.heap[gb222]? = some (.cells #[.slice A0_0 l0_0.length c0_0, .slice A0_1 l0_1.length c0_1] 62 (0, 0))) := ⟨by rw [← hq_]; exact (pK BK222.out)⟩; have n1_ : Aside0 (w39.heap[gb223]? = some (.cells #[.slice none 0 0, .slice none 0 0] 62 (0, 0))) := ⟨by rw [← hq_]; exact (pK BK223.out)⟩; have n2_ : Aside0 (Below w.heap.size w w39) := ⟨by rw [← hq_]; exact (pB2 HB.out GE222.out GE223.out)⟩; clear BK222 BK223 HB hq_; have BK222 := n0_; have BK223 := n1_; have HB := n2_; clear n0_ n1_ n2_)); (try (obtain ⟨hcq222_0, hfq222_0, hcq222_1, hfq222_1⟩ := zw2 BK222; obtain ⟨hcq223_0, hfq223_0, hcq223_1, hfq223_1⟩ := zw2 BK223)); obtain ⟨Y42_0, X42_0, Y42_1, X42_1⟩ := zw2 BK223))
   refine bodyPost_ret (results_ct rfl _ _ gb223 62 #[.slice none 0 0, .slice none 0 0] (0, 0) _ rfl (by refine zg #[.slice none 0 0, .slice none 0 0] 1 ?_; refine zg #[.slice none 0 0, .slice none 0 0] 0 ?_; exact pK BK223.out) Try.underlying62 rfl (by kernel_rfl)) rfl ?_
   exact ⟨_, _, zE, by first | exact Kd.R_nil _ _ _ _ _ | exact Kd.N_nil _ _ _ _ _ | exact Kd.V_nil _ _ _ _ _ | exact Kd.Q_nil _ _ _ _ _ | exact Kd.S_nil _ _ _ _ _, by first | exact Kd.R_nil _ _ _ _ _ | exact Kd.N_nil _ _ _ _ _ | exact Kd.V_nil _ _ _ _ _ | exact Kd.Q_nil _ _ _ _ _ | exact Kd.S_nil _ _ _ _ _, pB2 HB.out GE222.out GE223.out⟩
 subst c6; rw [if_pos rfl] at H; replace H := Option.bind_eq_some_iff.mp H; obtain ⟨t226, A70, H⟩ := H; have A7 := Aside0.mk A70; clear A70; obtain ⟨y230, hy230⟩ : ∃ y_ : List (S33), y_ = (([] : List (S33))) := ⟨_, rfl⟩
 replace H : (if 0 ≤ a1 then (if a1 ≤ (l0_0.length : Int) then ((some (l0_0.drop (a1 : Int).toNat : List (S33))).bind fun y233 => (if y230.length + y233.length < 4398046511104 then ((some (y230 ++ y233 : List (S33))).bind fun y237 => ((some (l0_0.take (a1 : Int).toNat : List (S33))).bind fun y240 => (if y237.length + y240.length < 4398046511104 then (some ((y237 ++ y240), t226, 0)) else (none)))) else (none))) else (none)) else (none)) = some (r1, r2, r3) := zY hy230 H
 have Ny230 := Aside0.mk hy230; clear hy230
 by_cases c8 : 0 ≤ a1
 rotate_left
 · rw [if_neg c8] at H
   exact absurd H (by simp)
 rw [if_pos c8] at H; have c8b0 := eq_true c8; have c8b1 := decide_eq_true c8; clear c8
 by_cases c9 : a1 ≤ (l0_0.length : Int)
 rotate_left
 · rw [if_neg c9] at H
   exact absurd H (by simp)
 rw [if_pos c9] at H; have c9b0 := eq_true c9; have c9b1 := decide_eq_true c9; clear c9; obtain ⟨y233, hy233⟩ : ∃ y_ : List (S33), y_ = (l0_0.drop (a1 : Int).toNat) := ⟨_, rfl⟩
 replace H : (if y230.length + y233.length < 4398046511104 then ((some (y230 ++ y233 : List (S33))).bind fun y237 => ((some (l0_0.take (a1 : Int).toNat : List (S33))).bind fun y240 => (if y237.length + y240.length < 4398046511104 then (some ((y237 ++ y240), t226, 0)) else (none)))) else (none)) = some (r1, r2, r3) := zY hy233 H
 have Ny233 := Aside0.mk hy233; clear hy233
 by_cases c10 : y230.length + y233.length < 4398046511104
 rotate_left
 · rw [if_neg c10] at H
   exact absurd H (by simp)
 rw [if_pos c10] at H; have LMc10 := Aside0.mk c10; clear c10; obtain ⟨y237, hy237⟩ : ∃ y_ : List (S33), y_ = (y230 ++ y233) := ⟨_, rfl⟩
 replace H : ((some (l0_0.take (a1 : Int).toNat : List (S33))).bind fun y240 => (if y237.length + y240.length < 4398046511104 then (some ((y237 ++ y240), t226, 0)) else (none))) = some (r1, r2, r3) := zY hy237 H
 have Ny237 := Aside0.mk hy237; clear hy237; have c11b0 := eq_true (zD : 0 ≤ a1); have c12b0 := eq_true (zD : a1 ≤ (l0_0.length : Int)); obtain ⟨y240, hy240⟩ : ∃ y_ : List (S33), y_ = (l0_0.take (a1 : Int).toNat) := ⟨_, rfl⟩; replace H : (if y237.length + y240.length < 4398046511104 then (some ((y237 ++ y240), t226, 0)) else (none)) = some (r1, r2, r3) := zY hy240 H; have Ny240 := Aside0.mk hy240; clear hy240
 by_cases c13 : y237.length + y240.length < 4398046511104
 rotate_left
 · rw [if_neg c13] at H
   exact absurd H (by simp)
 rw [if_pos c13] at H; have LMc13 := Aside0.mk c13; clear c13; obtain ⟨y244, hy244⟩ : ∃ y_ : List (S33), y_ = (y237 ++ y240) := ⟨_, rfl⟩; replace H : (some (y244, t226, 0)) = some (r1, r2, r3) := zY hy244 H; have Ny244 := Aside0.mk hy244; clear hy244; simp only [Option.some.injEq, Prod.mk.injEq] at H; obtain ⟨rfl, rfl, rfl⟩ := H
 go_enter Try.func44, Try.ntmps44
 try go_wp2_with (first | ((with_reducible refine zI 2 rfl ?_); refine zB 2 #[.slice A0_0 l0_0.length c0_0, .slice A0_1 l0_1.length c0_1] 62 ?_; intro gb222 hg w14 hbox hb; have BK222 := Aside0.mk (hbox); have GW222 := zS (pB0 HB.out) hg; have GE222 := GW222; replace HB := zW (pB0 HB.out) hb; clear hb hbox hg) | ((with_reducible refine zI 4 rfl ?_); refine zB 4 #[.slice none 0 0, .slice none 0 0] 62 ?_; intro gb223 hg w15 hbox hb; have BK223 := Aside0.mk (hbox); have GW223 := zS (pB1 HB.out GE222.out) hg; have GE223 := GW223; have NB222_223 := zL BK222 hg; have NB223_222 := zM BK222 hg; replace BK222 := zK BK222 hb; replace HB := zW (pB1 HB.out GE222.out) hb; clear hb hbox hg) | ((with_reducible refine gate_callee (f := 66) rfl ?_); refine zJ (some 8) Try.func66 #[.pointer (some ⟨gb222, 0, none⟩)] ?_; (with_reducible refine (spec_l15Ok.calls k _ 1 [(⟨l0_0, l0_1⟩ : S62)] true _ ?side1 ?side2 A3.out).mono ?_); (case side1 => exact C_box (cs := #[.slice A0_0 l0_0.length c0_0, .slice A0_1 l0_1.length c0_1]) (t := 62) (pK BK222.out) (k62_mk _ _ (by exact HC0_0.out) (by exact pC (Kd.C_below HR0_0.out HB.out)) (by exact HC0_1.out) (by exact pC (Kd.C_below HR0_1.out HB.out)))); (case side2 => exact Nat.le_refl _); rintro e w16 ⟨rfl, hb⟩; refine ⟨_, rfl, ?_⟩; replace BK222 := zK BK222 hb; replace BK223 := zK BK223 hb; replace HB := zW (pB2 HB.out GE222.out GE223.out) hb; (try clear hb); (try clear hb2); (try clear hk); (try clear hi); have hnb17 := NB222_223.out; have hnc17 := NB223_222.out; obtain ⟨Y18_0, X18_0, Y18_1, X18_1⟩ := zw2 BK222) | ((with_reducible refine gate_callee (f := 81) rfl ?_); refine zJ (some 16) Try.func81 #[.int .i64 a1, .int .i64 0, .int .i64 (l0_0.length : Int)] ?_; (with_reducible refine (spec_l00In.calls a1 0 (l0_0.length : Int) true _ A5.out).mono ?_); rintro e w' ⟨rfl, ⟨nd, rfl⟩⟩; refine ⟨_, rfl, ?_⟩; (try (rw [drewN_self w16]; generalize hq_ : World.drewN w16 _ = w16; have n0_ : Aside0 (w16.heap[gb222]? = some (.cells #[.slice A0_0 l0_0.length c0_0, .slice A0_1 l0_1.length c0_1] 62 (0, 0))) := ⟨by rw [← hq_]; exact (pK BK222.out)⟩; have n1_ : Aside0 (w16.heap[gb223]? = some (.cells #[.slice none 0 0, .slice none 0 0] 62 (0, 0))) := ⟨by rw [← hq_]; exact (pK BK223.out)⟩; have n2_ : Aside0 (Below w.heap.size w w16) := ⟨by rw [← hq_]; exact (pB2 HB.out GE222.out GE223.out)⟩; clear BK222 BK223 HB hq_; have BK222 := n0_; have BK223 := n1_; have HB := n2_; clear n0_ n1_ n2_)); (try (obtain ⟨hcq222_0, hfq222_0, hcq222_1, hfq222_1⟩ := zw2 BK222; obtain ⟨hcq223_0, hfq223_0, hcq223_1, hfq223_1⟩ := zw2 BK223))) | ((with_reducible refine gate_callee (f := 82) rfl ?_); refine zJ (some 21) Try.func82 #[.slice A0_1 l0_1.length c0_1] ?_; (with_reducible refine (spec_l00Own.calls _ _ l0_1 t226 _ ?side1 ?side2 A7.out).mono ?_); (case side1 => exact pC (Kd.C_below HR0_1.out HB.out)); (case side2 => exact HC0_1.out); rintro e w19 ⟨v227, rfl, ho0, hb⟩; refine ⟨_, rfl, ?_⟩; have HO228 := Aside0.mk (Kd.R_lower ho0 (below_size (pB2 HB.out GE222.out GE223.out))); replace BK222 := zK BK222 hb; replace BK223 := zK BK223 hb; replace HB := zW (pB2 HB.out GE222.out GE223.out) hb; (try clear hb); (try clear hb2); (try clear hk); (try clear hi); (try clear ho0); obtain ⟨Ao20, co20, eo20⟩ := Kd.R_slice HO228.out; subst eo20) | ((with_reducible refine zI 7 rfl ?_); refine zB 7 #[.slice none 0 0, .slice none 0 0] 62 ?_; intro gb229 hg w21 hbox hb; have BK229 := Aside0.mk (hbox); have GW229 := zS (pB2 HB.out GE222.out GE223.out) hg; have GE229 := GW229; have NB222_229 := zL BK222 hg; have NB229_222 := zM BK222 hg; have NB223_229 := zL BK223 hg; have NB229_223 := zM BK223 hg; replace HO228 := Aside0.mk (Kd.R_below (pR HO228.out) hb); replace BK222 := zK BK222 hb; replace BK223 := zK BK223 hb; replace HB := zW (pB2 HB.out GE222.out GE223.out) hb; clear hb hbox hg; have hnb22 := NB229_222.out; have hnc22 := NB222_229.out; have hnb23 := NB229_223.out; have hnc23 := NB223_229.out; obtain ⟨Y24_0, X24_0, Y24_1, X24_1⟩ := zw2 BK229))
 have n0_ : Aside0 (Kd.R (Kd.int .i64) 2 ((w21.setCell ⟨gb229, 0, none⟩ (.slice none 0 0)).setCell ⟨gb229, 1, none⟩ (.slice Ao20 t226.length co20)) w.heap.size (fun _ => True) (.slice Ao20 t226.length co20) t226) := ⟨by (with_reducible repeat (first | apply Kd.R_alloc | apply Kd.R_drewN | apply Kd.R_drew)); exact Kd.R_mono (Kd.R_far (p := ⟨gb229, 1, none⟩) (Kd.R_far (p := ⟨gb229, 0, none⟩) (Kd.R_types HO228.out BK229.out (by decide)) (fun _ hk => hk.2) (.slice none 0 0)) (fun _ hk => hk.2) (.slice Ao20 t226.length co20)) (fun _ hk => trivial)⟩
 have n1_ : Aside0 (((w21.setCell ⟨gb229, 0, none⟩ (.slice none 0 0)).setCell ⟨gb229, 1, none⟩ (.slice Ao20 t226.length co20)).heap[gb222]? = some (.cells #[.slice A0_0 l0_0.length c0_0, .slice A0_1 l0_1.length c0_1] 62 (0, 0))) := ⟨by refine zf ?_ NB222_229; refine zf ?_ NB222_229; exact pK BK222.out⟩
 have n2_ : Aside0 (((w21.setCell ⟨gb229, 0, none⟩ (.slice none 0 0)).setCell ⟨gb229, 1, none⟩ (.slice Ao20 t226.length co20)).heap[gb223]? = some (.cells #[.slice none 0 0, .slice none 0 0] 62 (0, 0))) := ⟨by refine zf ?_ NB223_229; refine zf ?_ NB223_229; exact pK BK223.out⟩
 have n3_ : Aside0 (((w21.setCell ⟨gb229, 0, none⟩ (.slice none 0 0)).setCell ⟨gb229, 1, none⟩ (.slice Ao20 t226.length co20)).heap[gb229]? = some (.cells #[.slice none 0 0, .slice Ao20 t226.length co20] 62 (0, 0))) := ⟨by refine zg #[.slice none 0 0, .slice none 0 0] 1 ?_; refine zg #[.slice none 0 0, .slice none 0 0] 0 ?_; exact pK BK229.out⟩
 have n4_ : Aside0 (Below w.heap.size w ((w21.setCell ⟨gb229, 0, none⟩ (.slice none 0 0)).setCell ⟨gb229, 1, none⟩ (.slice Ao20 t226.length co20))) := ⟨pB3 HB.out GE222.out GE223.out GE229.out⟩; (try clear HO228); (try clear BK222); (try clear BK223); (try clear BK229); (try clear HB); (try (repeat rw [mine_setCell_drewN]))
 generalize ((w21.setCell ⟨gb229, 0, none⟩ (.slice none 0 0)).setCell ⟨gb229, 1, none⟩ (.slice Ao20 t226.length co20)) = w25 at n0_ n1_ n2_ n3_ n4_ ⊢
 have HO228 := n0_; have BK222 := n1_; have BK223 := n2_; have BK229 := n3_; have HB := n4_; clear n0_ n1_ n2_ n3_ n4_; replace HO228 := Aside0.mk (Kd.R_drew HO228.out); replace BK222 := Aside0.mk (blk_drew BK222.out); replace BK223 := Aside0.mk (blk_drew BK223.out); replace BK229 := Aside0.mk (blk_drew BK229.out); replace HB := Aside0.mk (below_drew1 HB.out); have q27 : (a1 : Int) ≤ ((l0_0.length : Int) : Int) := zD; obtain ⟨i027, hi027, _, hsz27, _⟩ := info_parts info33; have hroom27 : l0_0.length ≤ c0_0 := HC0_0.out; have hC27 : Kd.C k33 _ A0_0 l0_0.length l0_0 := HR0_0.out; have q027 : (0 : Int) ≤ (a1 : Int) := zD; have hcut27 := cut_from (P := Try.prog) 60 33 .i64 Try.underlying60 hi027 3 hsz27 A0_0 l0_0.length c0_0 a1 q027 q27
 have hr27 := Kd.C_drop (m := (a1 : Int).toNat) (c := c0_0) hC27 (by omega) hroom27
 obtain ⟨A27, hA27⟩ : ∃ A1, A1 = (if c0_0 = (a1 : Int).toNat then A0_0 else (A0_0 : Option Addr).map (·.add ((a1 : Int).toNat * 3))) := ⟨_, rfl⟩
 obtain ⟨c27, hc27⟩ : ∃ c1, c1 = c0_0 - (a1 : Int).toNat := ⟨_, rfl⟩
 have hy27 : y233.length = l0_0.length - (a1 : Int).toNat := (by rw [Ny233.out, List.length_drop] <;> omega)
 rw [show (l0_0).drop (a1 : Int).toNat = y233 from Ny233.out.symm] at hr27
 replace hr27 : Kd.C k33 _ A27 y233.length y233 := (by rw [hA27]; exact hr27)
 rw [← hy27, ← hA27, ← hc27] at hcut27; have HR236 := Aside0.mk hr27
 have HC236 := Aside0.mk (show y233.length ≤ c27 from by rw [hy27, hc27]; exact Nat.sub_le_sub_right hroom27 _)
 have KCC27 := Aside0.mk hc27; clear hr27 hC27 hroom27 hi027 hsz27 hc27; have KY27 := Aside0.mk hy27; have KA27 := Aside0.mk hA27; have KC27 := KCC27; clear hy27 hA27; replace q27 := eq_true q27; have q28 : (a1 : Int) ≤ ((l0_0.length : Int) : Int) := zD; obtain ⟨i028, hi028, _, hsz28, _⟩ := info_parts info33; have hroom28 : l0_0.length ≤ c0_0 := HC0_0.out; have hC28 : Kd.C k33 _ A0_0 l0_0.length l0_0 := HR0_0.out; have hcut28 := cut_to (P := Try.prog) 60 33 .i64 Try.underlying60 hi028 A0_0 l0_0.length c0_0 a1 (zD) q28 hroom28
 have hr28 := Kd.C_take (m := (a1 : Int).toNat) hC28 (by omega)
 have hy28 : y240.length = (a1 : Int).toNat := (by rw [Ny240.out, List.length_take]; omega)
 rw [← Ny240.out] at hr28; rw [← hy28] at hcut28; have HR243 := Aside0.mk hr28
 have HC243 := Aside0.mk (show y240.length ≤ c0_0 from by omega)
 clear hr28 hC28 hroom28 hi028 hsz28; have KY28 := Aside0.mk hy28; clear hy28; replace q28 := eq_true q28
 refine start_ (n := 13) (S := fun w' => w'.cell? ⟨gb222, 0, none⟩ = some (.slice A0_0 l0_0.length c0_0) ∧ w'.cell? ⟨gb222, 1, none⟩ = some (.slice A0_1 l0_1.length c0_1)) (ds := []) (Array.replicate 13 false) (by kernel_rfl) rfl rfl ⟨zQ BK222 0, zQ BK222 1⟩ (fun hHeld => ?_); refine with_tabW spec_RotateSheets.tab7 spec_RotateSheets.bits7 (fun HT_ HW_ => ?_)
 generalize w25.drew = w26 at HO228 BK222 BK223 BK229 HB HR236 HR243 hHeld ⊢
 refine zP 1 (some 24) (zb 13 2) HT_ ?_; refine zP 3 (some 26) (zb 13 10) HT_ ?_; refine zP 6 (some 29) (zb 13 74) HT_ ?_; refine zP 8 (some 31) (zb 13 330) HT_ ?_; refine zT2 2 (some 25) (zb 13 334) HT_ HW_ hHeld ?_; refine zP 4 (some 27) (zb 13 350) HT_ ?_; refine zT2 7 (some 30) (zb 13 478) HT_ HW_ hHeld ?_; refine zP 9 (some 32) (zb 13 990) HT_ ?_
 refine one_ (i := 0) (N := some 23) (zb 13 991) rfl rfl (one_of HT_.out (by kernel_rfl)) (by decide) (fun K hK => ?_)
 refine Kd.R_lit_step k33 _ 33 ?hg (N := 23) ?hd (xs := ([] : List (S33))) (inner := []) (ok := fun _ => True) (okp := fun _ => True) ?hr ?hp (fun _ hk => hk) trivial (Below.refl _ _) (Nat.le_refl _) (by simp) ?_; (case hd => rfl); (case hg => rfl); (case hr => first | (go_simp; done) | (go_simp; rfl)); (case hp => exact (Reps.none _ _))
 intro v231 w29 ho30 hb hg_ hnew_; clear hg_ hnew_; (first | rw [← Ny230.out] at ho30 | (simp only [Int.reduceToNat] at ho30; rw [← Ny230.out] at ho30)); have HO232 := Aside0.mk (Kd.R_lower ho30 (below_size (pB3 HB.out GE222.out GE223.out GE229.out))); replace HO228 := Aside0.mk (Kd.R_below (pR HO228.out) hb); replace BK222 := zK BK222 hb; replace BK223 := zK BK223 hb; replace BK229 := zK BK229 hb; replace HB := zW (pB3 HB.out GE222.out GE223.out GE229.out) hb; clear hb ho30
 refine hK.out _ _ ⟨zQ BK222 0, zQ BK222 1⟩ (fun hHeld => ?_)
 clear hK K; refine zN ?_
 refine one_ (i := 5) (N := some 28) (zb 13 1023) rfl rfl (one_of HT_.out (by kernel_rfl)) (by decide) (fun K hK => ?_)
 refine Kd.R_append_rows_step k33 (w0 := w) w.heap.size (by rfl) (.tmp 23) (.tmp 27) 60 33 (.agg #[(.string ⟨#[]⟩), (.int .i64 0), (.int .i64 0)]) 32 rfl Try.underlying60 info33 rfl (by decide) (by omega) v231 y230 y233 _ _ _ (fun _ => True) (fun _ => False) rfl rfl ?aO ?aR (fun _ _ h => h) (fun _ h => h.elim) ?aF ?aB ?aS ?aL ?_
 (case aR => exact pC (Kd.C_below HR236.out HB.out))
 (case aB => exact (pB3 HB.out GE222.out GE223.out GE229.out))
 (case aF => exact (fun _ _ => trivial))
 (case aO => exact (pR HO232.out))
 (case aS => exact (below_size (pB3 HB.out GE222.out GE223.out GE229.out)))
 (case aL => have := LMc10.out; omega)
 intro v238 w31 ho hb hg hat; rw [← Ny237.out] at ho; have HO239 := Aside0.mk (ho)
 replace BK222 := Aside0.mk (blk_grown (g := gb222) (o := .cells #[.slice A0_0 l0_0.length c0_0, .slice A0_1 l0_1.length c0_1] 62 (0, 0)) (pK BK222.out) hg (Kd.R_ne HO232.out BK222.out (by decide)))
 replace BK223 := Aside0.mk (blk_grown (g := gb223) (o := .cells #[.slice none 0 0, .slice none 0 0] 62 (0, 0)) (pK BK223.out) hg (Kd.R_ne HO232.out BK223.out (by decide)))
 replace HO228 := Aside0.mk (Kd.R_over' (pR HO228.out) (Kd.R_typed (pR HO232.out)) (by decide) hg)
 replace BK229 := Aside0.mk (blk_grown (g := gb229) (o := .cells #[.slice none 0 0, .slice Ao20 t226.length co20] 62 (0, 0)) (pK BK229.out) hg (Kd.R_ne HO232.out BK229.out (by decide)))
 replace HB := Aside0.mk (hb); clear HO232; clear ho hb hg hat
 refine hK.out _ _ ⟨zQ BK222 0, zQ BK222 1⟩ (fun hHeld => ?_)
 clear hK K; refine zN ?_
 refine one_ (i := 10) (N := some 33) (zb 13 2047) rfl rfl (one_of HT_.out (by kernel_rfl)) (by decide) (fun K hK => ?_)
 refine Kd.R_append_rows_step k33 (w0 := w) w.heap.size (by rfl) (.tmp 28) (.tmp 32) 60 33 (.agg #[(.string ⟨#[]⟩), (.int .i64 0), (.int .i64 0)]) 32 rfl Try.underlying60 info33 rfl (by decide) (by omega) v238 y237 y240 _ _ _ (fun _ => True) (fun _ => False) rfl rfl ?aO ?aR (fun _ _ h => h) (fun _ h => h.elim) ?aF ?aB ?aS ?aL ?_
 (case aR => exact pC (Kd.C_below HR243.out HB.out))
 (case aB => exact (pB3 HB.out GE222.out GE223.out GE229.out))
 (case aF => exact (fun _ _ => trivial))
 (case aO => exact (pR HO239.out))
 (case aS => exact (below_size (pB3 HB.out GE222.out GE223.out GE229.out)))
 (case aL => have := LMc13.out; omega)
 intro v245 w32 ho hb hg hat; rw [← Ny244.out] at ho; have HO246 := Aside0.mk (ho)
 replace BK222 := Aside0.mk (blk_grown (g := gb222) (o := .cells #[.slice A0_0 l0_0.length c0_0, .slice A0_1 l0_1.length c0_1] 62 (0, 0)) (pK BK222.out) hg (Kd.R_ne HO239.out BK222.out (by decide)))
 replace BK223 := Aside0.mk (blk_grown (g := gb223) (o := .cells #[.slice none 0 0, .slice none 0 0] 62 (0, 0)) (pK BK223.out) hg (Kd.R_ne HO239.out BK223.out (by decide)))
 replace HO228 := Aside0.mk (Kd.R_over' (pR HO228.out) (Kd.R_typed (pR HO239.out)) (by decide) hg)
 replace BK229 := Aside0.mk (blk_grown (g := gb229) (o := .cells #[.slice none 0 0, .slice Ao20 t226.length co20] 62 (0, 0)) (pK BK229.out) hg (Kd.R_ne HO239.out BK229.out (by decide)))
 replace HB := Aside0.mk (hb); clear HO239; clear ho hb hg hat; obtain ⟨Ao33, co33, eo33⟩ := Kd.R_slice HO246.out
 (first | subst eo33 | (injection eo33 with f1_ f2_ f3_; have f4_ := f1_.symm; have f5_ := f3_.symm; clear f1_ f2_ f3_; subst f4_; subst f5_))
 refine hK.out _ _ ⟨zQ BK222 0, zQ BK222 1⟩ (fun hHeld => ?_)
 clear hK K; refine zN ?_; refine zP 11 (some 34) (zb 13 4095) HT_ ?_
 refine one_ (i := 12) (N := none) (zb 13 8191) rfl rfl (one_of HT_.out (by kernel_rfl)) (by decide) (fun K hK => ?_)
 have hs34 : w32.cell? ⟨gb229, 0, none⟩ = some (.slice none 0 0) := zQ BK229 0; have hfs34 := blk_frozen BK229.out 0; have hns34_0 := NB222_229.out; have hns34_1 := NB223_229.out; have hms34_0 := NB229_222.out; have hms34_1 := NB229_223.out
 refine skip_ (w1 := ?_) (by rfl) rfl ?_ ?_
 rotate_left
 · go_simp
   rfl
 refine hK.out _ _ ⟨((cell_far (p := ⟨gb229, _, none⟩) NB222_229.out _).trans (hHeld.1)), ((cell_far (p := ⟨gb229, _, none⟩) NB222_229.out _).trans (hHeld.2))⟩ (fun hHeld => ?_)
 clear hK K
 refine done_ (done_of HT_.out (by kernel_rfl)) ?_
 have Y35_0 := zC (.slice none 0 0) BK229 0; have Y35_1 := zC (.slice Ao20 t226.length co20) BK229 1; have X35_0 := blk_frozen BK229.out 0; have X35_1 := blk_frozen BK229.out 1; have Y36_0 := zC (.slice none 0 0) BK223 0; have Y36_1 := zC (.slice none 0 0) BK223 1; have X36_0 := blk_frozen BK223.out 0; have X36_1 := blk_frozen BK223.out 1
 try go_wp2
 refine bodyPost_ret (results_ct rfl _ _ gb223 62 #[.slice Ao33 y244.length co33, .slice Ao20 t226.length co20] (0, 0) _ rfl (by refine zg #[.slice Ao33 y244.length co33, .slice none 0 0] 1 ?_; refine zg #[.slice none 0 0, .slice none 0 0] 0 ?_; refine zf ?_ NB223_229; exact pK BK223.out) Try.underlying62 rfl (by kernel_rfl)) rfl ?_
 exact ⟨_, _, zE, by (with_reducible repeat (first | apply Kd.R_alloc | apply Kd.R_drewN | apply Kd.R_drew)); exact Kd.R_mono (Kd.R_far (p := ⟨gb223, 1, none⟩) (Kd.R_far (p := ⟨gb223, 0, none⟩) (Kd.R_far (p := ⟨gb229, 0, none⟩) (Kd.R_types (Kd.R_types HO246.out BK229.out (by decide)) BK223.out (by decide)) (fun _ hk => hk.1.2) (.slice Ao33 y244.length co33)) (fun _ hk => hk.2) (.slice Ao33 y244.length co33)) (fun _ hk => hk.2) (.slice Ao20 t226.length co20)) (fun _ hk => trivial), by (with_reducible repeat (first | apply Kd.R_alloc | apply Kd.R_drewN | apply Kd.R_drew)); exact Kd.R_mono (Kd.R_far (p := ⟨gb223, 1, none⟩) (Kd.R_far (p := ⟨gb223, 0, none⟩) (Kd.R_far (p := ⟨gb229, 0, none⟩) (Kd.R_types (Kd.R_types HO228.out BK229.out (by decide)) BK223.out (by decide)) (fun _ hk => hk.1.2) (.slice Ao33 y244.length co33)) (fun _ hk => hk.2) (.slice Ao33 y244.length co33)) (fun _ hk => hk.2) (.slice Ao20 t226.length co20)) (fun _ hk => trivial), pB3 HB.out GE222.out GE223.out GE229.out⟩
def impl_within.f (a0 : Int) (a1 : Int) (a2 : Int) : Option (Bool) := if a0 ≥ a1 then (some (decide (a0 ≤ a2))) else (some false)
set_option maxHeartbeats 8000000 in
set_option maxRecDepth 100000 in
theorem impl_within.calls (a0 : Int) (a1 : Int) (a2 : Int) (r : Bool) (w : World) (h : impl_within.f a0 a1 a2 = some r) :
 Calls Try.prog 83 #[.int .i64 a0, .int .i64 a1, .int .i64 a2] w fun e w' => e = .returned (.bool r) ∧ Drawn0 w w' := by
 have H : (if a0 ≥ a1 then (some (decide (a0 ≤ a2))) else (some false)) = some r := h; clear h
 by_cases c4 : a0 ≥ a1
 · rw [if_pos c4] at H
   have c4b0 := decide_eq_true c4; clear c4; obtain rfl := Option.some.inj H
   go_enter Try.func83, Try.ntmps83
   go_wp2
   go_ret
   exact ⟨by first | rfl | (simp; done) | (simp [*]; done), zV⟩
 rw [if_neg c4] at H; have c4b0 := decide_eq_false c4; clear c4; obtain rfl := Option.some.inj H
 go_enter Try.func83, Try.ntmps83
 go_wp2
 go_ret
 exact ⟨by first | rfl | (simp; done) | (simp [*]; done), zV⟩
end Go.Proofs.Ytfiiakhpdkdebaa.PFnExactRotateSheets

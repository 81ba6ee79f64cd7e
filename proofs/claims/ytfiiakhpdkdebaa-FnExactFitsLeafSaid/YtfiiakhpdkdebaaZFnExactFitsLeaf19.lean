/- What each function that a law reaches comes to, and the proof that its walk comes to it; laid by a program of this session. No condition. -/
import Derived.Test.YtfiiakhpdkdebaaZFnExactFitsLeaf0
import Derived.Test.YtfiiakhpdkdebaaZFnExactFitsLeaf18
namespace Go.Proofs.Ytfiiakhpdkdebaa.PFnExactFitsLeaf
open Go.RowKit Go.Proofs.YtfiiakhpdkdebaaW.PrintWords Go.Proofs.YtfiiakhpdkdebaaW.PrintLast Go.Proofs.YtfiiakhpdkdebaaW.PrintMore
attribute [local go_sem] max2_int min2_int max_two min_two max_three min_three max_four min_four
set_option linter.unusedVariables false
set_option linter.unusedSimpArgs false
def laws_eqBoxS.l0 : Nat → List (S103) → List (S103) → Int → Option (Bool)
 | 0, _, _, _ => none
 | k + 1, x0, x1, x5 => if x5 < (x0.length : Int) then (if 0 ≤ x5 then (if x5 < (x1.length : Int) then ((laws_eqBox.f ((rd_T103 x0 x5).f0) ((rd_T103 x0 x5).f1) ((rd_T103 x0 x5).f2) ((rd_T103 x0 x5).f3) ((rd_T103 x1 x5).f0) ((rd_T103 x1 x5).f1) ((rd_T103 x1 x5).f2) ((rd_T103 x1 x5).f3)).bind fun t467 => (if t467 = true then (laws_eqBoxS.l0 k x0 x1 (wrap64 (x5 + 1))) else (some false))) else (none)) else (none)) else (some true)
def laws_eqBoxS.f (k : Nat) (l0 : List (S103)) (l1 : List (S103)) : Option (Bool) := if (l0.length : Int) = (l1.length : Int) then (laws_eqBoxS.l0 k l0 l1 0) else (some false)
theorem laws_eqBoxS.mono_l : ∀ k, (∀ y0 y1 y2, LeO (laws_eqBoxS.l0 k y0 y1 y2) (laws_eqBoxS.l0 (k + 1) y0 y1 y2))
 | 0 => fun _ _ _ r h => by simp [laws_eqBoxS.l0] at h
 | k + 1 => by
   have ih0 := laws_eqBoxS.mono_l k
   · intro y0 y1 y2
     unfold laws_eqBoxS.l0
     repeat' first
     | (with_reducible exact ih0 _ _ _)
     | (with_reducible exact LeO.refl _)
     | (with_reducible exact LeO.none _)
     | (with_reducible refine LeO.ite ?_ ?_)
     | (with_reducible refine LeO.bind ?_ (fun _ => ?_))
     | exact ih0 _ _ _
     | exact LeO.none _
     | refine LeO.ite ?_ ?_
     | refine LeO.bind ?_ (fun _ => ?_)
theorem laws_eqBoxS.mono : ∀ a0 a1 k, LeO (laws_eqBoxS.f k a0 a1) (laws_eqBoxS.f (k + 1) a0 a1) := by
 intro a0 a1 k
 have ih0 := laws_eqBoxS.mono_l k
 unfold laws_eqBoxS.f
 repeat' first
  | (with_reducible exact ih0 _ _ _)
  | (with_reducible exact LeO.refl _)
  | (with_reducible exact LeO.none _)
  | (with_reducible refine LeO.ite ?_ ?_)
  | (with_reducible refine LeO.bind ?_ (fun _ => ?_))
  | exact ih0 _ _ _
  | exact LeO.none _
  | refine LeO.ite ?_ ?_
  | refine LeO.bind ?_ (fun _ => ?_)
def laws_eqBoxS.T6 : Bool × List (List Nat × List Nat) := (true, [([], []), ([], []), ([0, 1], [0, 1]), ([2], [2]), ([], []), ([], []), ([4, 5], [4, 5]), ([6], [6]), ([3, 7], [3, 7]), ([8], [8])])
def laws_eqBoxS.B6 : List Nat := [0, 0, 3, 7, 0, 0, 48, 112, 255, 511]
theorem laws_eqBoxS.tab6 : rtab .any (opsOf Try.f26 6) = laws_eqBoxS.T6 := by kernel_rfl
theorem laws_eqBoxS.bits6 : waitsOk laws_eqBoxS.T6.2 laws_eqBoxS.B6 = true := by kernel_rfl
set_option maxHeartbeats 8000000 in
set_option maxRecDepth 100000 in
theorem laws_eqBoxS.calls (k : Nat) (A0 : Option Addr) (c0 : Nat) (l0 : List (S103)) (A1 : Option Addr) (c1 : Nat) (l1 : List (S103)) (r : Bool) (w : World) (hr0 : Kd.C k103 w A0 l0.length l0) (hc0 : l0.length ≤ c0) (hr1 : Kd.C k103 w A1 l1.length l1) (hc1 : l1.length ≤ c1) (h : laws_eqBoxS.f k l0 l1 = some r) :
 Calls Try.prog 26 #[.slice A0 l0.length c0, .slice A1 l1.length c1] w fun e w' => e = .returned (.bool r) ∧ Below w.heap.size w w' := by
 have hu103 := Try.underlying103
 have HR0 := Aside0.mk hr0
 have HC0 := Aside0.mk hc0
 clear hr0 hc0
 have HR1 := Aside0.mk hr1
 have HC1 := Aside0.mk hc1
 clear hr1 hc1
 have HB := Aside0.mk (Below.refl w.heap.size w)
 have H : (if (l0.length : Int) = (l1.length : Int) then (laws_eqBoxS.l0 k l0 l1 0) else (some false)) = some r := h
 clear h
 by_cases c3 : (l0.length : Int) = (l1.length : Int)
 rotate_left
 · rw [if_neg c3] at H
   have c3b0 : ((l0.length : Int) == (l1.length : Int)) = false := beq_eq_false_iff_ne.mpr c3
   have c3b1 : ((l0.length : Int) != (l1.length : Int)) = true := bne_iff_ne.mpr c3
   have c3b2 : (l0.length == l1.length) = false := by first | simpa using c3 | (simp at c3 ⊢; omega)
   obtain rfl := Option.some.inj H
   go_enter Try.func26, Try.ntmps26
   go_wp2
   go_ret
   exact ⟨zE, pB0 HB.out⟩
 rw [if_pos c3] at H
 have c3b0 : ((l0.length : Int) == (l1.length : Int)) = true := beq_iff_eq.mpr c3
 have c3b1 : ((l0.length : Int) != (l1.length : Int)) = false := bne_eq_false_iff_eq.mpr c3
 have c3b2 : (l0.length == l1.length) = true := by first | simpa using c3 | (simp at c3 ⊢; omega)
 clear c3
 have H' := Aside0.mk H
 clear H
 go_enter Try.func26, Try.ntmps26
 go_wp2
 go_loopg [5] k (fun kq v5 w' => ∃ (x5_1 : Int), v5 = .int .i64 x5_1 ∧ Aside0 (laws_eqBoxS.l0 kq l0 l1 x5_1 = some r) ∧ Aside0 (kq ≤ k) ∧ Aside0 (Below w.heap.size w w'))
 case atStart => exact ⟨(0), zR, H', ⟨Nat.le_refl _⟩, ⟨pB0 HB.out⟩⟩
 case round =>
  clear H'
  try clear c1
  try clear c2
  try clear p2
  try clear c3
  try clear c3b0
  try clear c3b1
  try clear c3b2
  obtain ⟨x5_1, rfl, HA, HK1, HB⟩ := hrel
  cases gk with
  | zero => exact absurd HA.out (by simp [laws_eqBoxS.l0])
  | succ k1 =>
    have H := HA.out
    clear HA
    simp only [laws_eqBoxS.l0] at H
    by_cases c4 : x5_1 < (l0.length : Int)
    rotate_left
    · rw [if_neg c4] at H
      have c4b0 : decide (x5_1 < (l0.length : Int)) = false := decide_eq_false c4
      clear c4
      obtain rfl := Option.some.inj H
      go_wp2
      go_ret
      exact ⟨zE, pB0 HB.out⟩
    rw [if_pos c4] at H
    have c4b0 := decide_eq_true c4
    clear c4
    by_cases c5 : 0 ≤ x5_1
    rotate_left
    · rw [if_neg c5] at H
      exact absurd H (by simp)
    rw [if_pos c5] at H
    have c5b0 := decide_eq_true c5
    clear c5
    by_cases c6 : x5_1 < (l1.length : Int)
    rotate_left
    · rw [if_neg c6] at H
      exact absurd H (by simp)
    rw [if_pos c6] at H
    have c6b0 := decide_eq_true c6
    clear c6
    replace H := Option.bind_eq_some_iff.mp H
    obtain ⟨t467, A70, H⟩ := H
    have A7 := Aside0.mk A70
    clear A70
    by_cases c8 : t467 = true
    rotate_left
    · replace c8 := Bool.eq_false_iff.mpr c8
      subst c8
      have H1 : (some false) = some r := by rw [if_neg (show ¬ (false = true) by decide)] at H; exact H
      clear H
      have H := H1
      clear H1
      obtain rfl := Option.some.inj H
      try go_wp2
      replace HB := Aside0.mk (below_drew1 HB.out)
      have p465 : 0 ≤ (x5_1 : Int) := zD
      have q465 : x5_1 < (l0.length : Int) := zD
      obtain ⟨ad465, e465, hx465_0, hx465_1, hx465_2, hx465_3⟩ := at_T103 HR0.out x5_1 p465 q465
      have hw465_3 := hx465_3
      have hw465_2 := hx465_2
      have hw465_1 := hx465_1
      have hw465_0 := hx465_0
      cases e465
      try replace hx465_0 := zH HB hx465_0
      try replace hx465_1 := zH HB hx465_1
      try replace hx465_2 := zH HB hx465_2
      try replace hx465_3 := zH HB hx465_3
      replace p465 := eq_true p465
      replace q465 := eq_true q465
      have p466 : 0 ≤ (x5_1 : Int) := zD
      have q466 : x5_1 < (l1.length : Int) := zD
      obtain ⟨ad466, e466, hx466_0, hx466_1, hx466_2, hx466_3⟩ := at_T103 HR1.out x5_1 p466 q466
      have hw466_3 := hx466_3
      have hw466_2 := hx466_2
      have hw466_1 := hx466_1
      have hw466_0 := hx466_0
      cases e466
      try replace hx466_0 := zH HB hx466_0
      try replace hx466_1 := zH HB hx466_1
      try replace hx466_2 := zH HB hx466_2
      try replace hx466_3 := zH HB hx466_3
      replace p466 := eq_true p466
      replace q466 := eq_true q466
      refine start_ (n := 10) (S := fun w' => w'.cell? (ad465.add ((x5_1).toNat * 4)) = some (.int .i64 ((rd_T103 l0 x5_1).f0)) ∧ w'.cell? ⟨(ad465.add ((x5_1).toNat * 4)).block, (ad465.add ((x5_1).toNat * 4)).off + 1, none⟩ = some (.int .i64 ((rd_T103 l0 x5_1).f1)) ∧ w'.cell? ⟨(ad465.add ((x5_1).toNat * 4)).block, (ad465.add ((x5_1).toNat * 4)).off + 2, none⟩ = some (.int .i64 ((rd_T103 l0 x5_1).f2)) ∧ w'.cell? ⟨(ad465.add ((x5_1).toNat * 4)).block, (ad465.add ((x5_1).toNat * 4)).off + 3, none⟩ = some (.int .i64 ((rd_T103 l0 x5_1).f3)) ∧ w'.cell? (ad466.add ((x5_1).toNat * 4)) = some (.int .i64 ((rd_T103 l1 x5_1).f0)) ∧ w'.cell? ⟨(ad466.add ((x5_1).toNat * 4)).block, (ad466.add ((x5_1).toNat * 4)).off + 1, none⟩ = some (.int .i64 ((rd_T103 l1 x5_1).f1)) ∧ w'.cell? ⟨(ad466.add ((x5_1).toNat * 4)).block, (ad466.add ((x5_1).toNat * 4)).off + 2, none⟩ = some (.int .i64 ((rd_T103 l1 x5_1).f2)) ∧ w'.cell? ⟨(ad466.add ((x5_1).toNat * 4)).block, (ad466.add ((x5_1).toNat * 4)).off + 3, none⟩ = some (.int .i64 ((rd_T103 l1 x5_1).f3))) (ds := []) (Array.replicate 10 false) (by kernel_rfl) rfl rfl ⟨(zH HB hw465_0), (zH HB hw465_1), (zH HB hw465_2), (zH HB hw465_3), (zH HB hw466_0), (zH HB hw466_1), (zH HB hw466_2), (zH HB hw466_3)⟩ (fun hHeld => ?_); refine with_tabW laws_eqBoxS.tab6 laws_eqBoxS.bits6 (fun HT_ HW_ => ?_)
      generalize wr.drew = w11 at HB hx465_0 hx465_1 hx465_2 hx465_3 hx466_0 hx466_1 hx466_2 hx466_3 hHeld ⊢
      refine zP 0 (some 17) (zb 10 1) HT_ ?_
      refine zP 1 (some 18) (zb 10 3) HT_ ?_
      refine zP 2 (some 19) (zb 10 7) HT_ ?_
      refine zP 4 (some 21) (zb 10 23) HT_ ?_
      refine zP 5 (some 22) (zb 10 55) HT_ ?_
      refine zP 6 (some 23) (zb 10 119) HT_ ?_
      refine zT8 3 (some 20) (zb 10 127) HT_ HW_ hHeld ?_
      refine zT8 7 (some 24) (zb 10 255) HT_ HW_ hHeld ?_
      refine one_ (i := 8) (N := some 25) (zb 10 511) rfl rfl (one_of HT_.out (by kernel_rfl)) (by decide) (fun K hK => ?_)
      refine goes_ Try.func63 (by kernel_rfl) rfl #[.agg #[.int .i64 ((rd_T103 l0 x5_1).f0), .int .i64 ((rd_T103 l0 x5_1).f1), .int .i64 ((rd_T103 l0 x5_1).f2), .int .i64 ((rd_T103 l0 x5_1).f3)], .agg #[.int .i64 ((rd_T103 l1 x5_1).f0), .int .i64 ((rd_T103 l1 x5_1).f1), .int .i64 ((rd_T103 l1 x5_1).f2), .int .i64 ((rd_T103 l1 x5_1).f3)]] (by rfl) rfl rfl pA ?_
      with_reducible refine (laws_eqBox.calls ((rd_T103 l0 x5_1).f0) ((rd_T103 l0 x5_1).f1) ((rd_T103 l0 x5_1).f2) ((rd_T103 l0 x5_1).f3) ((rd_T103 l1 x5_1).f0) ((rd_T103 l1 x5_1).f1) ((rd_T103 l1 x5_1).f2) ((rd_T103 l1 x5_1).f3) false _ A7.out).mono ?_
      rintro e w12 ⟨rfl, hb⟩
      refine ⟨_, rfl, ?_⟩
      replace HB := zW (pB0 HB.out) hb
      (try clear hb)
      (try clear hb2)
      (try clear hk)
      (try clear hi)
      refine hK.out _ _ ⟨(zH HB hw465_0), (zH HB hw465_1), (zH HB hw465_2), (zH HB hw465_3), (zH HB hw466_0), (zH HB hw466_1), (zH HB hw466_2), (zH HB hw466_3)⟩ (fun hHeld => ?_)
      clear hK K
      refine zN ?_
      refine zP 9 (some 26) (zb 10 1023) HT_ ?_
      refine done_ (done_of HT_.out (by kernel_rfl)) ?_
      try go_wp2
      go_ret
      exact ⟨zE, pB0 HB.out⟩
    subst c8
    have H1 : (laws_eqBoxS.l0 k1 l0 l1 (wrap64 (x5_1 + 1))) = some r := by rw [if_pos rfl] at H; exact H
    clear H
    have H := H1
    clear H1
    have H' := Aside0.mk H
    clear H
    try go_wp2
    replace HB := Aside0.mk (below_drew1 HB.out)
    have p465 : 0 ≤ (x5_1 : Int) := zD
    have q465 : x5_1 < (l0.length : Int) := zD
    obtain ⟨ad465, e465, hx465_0, hx465_1, hx465_2, hx465_3⟩ := at_T103 HR0.out x5_1 p465 q465
    have hw465_3 := hx465_3
    have hw465_2 := hx465_2
    have hw465_1 := hx465_1
    have hw465_0 := hx465_0
    cases e465
    try replace hx465_0 := zH HB hx465_0
    try replace hx465_1 := zH HB hx465_1
    try replace hx465_2 := zH HB hx465_2
    try replace hx465_3 := zH HB hx465_3
    replace p465 := eq_true p465
    replace q465 := eq_true q465
    have p466 : 0 ≤ (x5_1 : Int) := zD
    have q466 : x5_1 < (l1.length : Int) := zD
    obtain ⟨ad466, e466, hx466_0, hx466_1, hx466_2, hx466_3⟩ := at_T103 HR1.out x5_1 p466 q466
    have hw466_3 := hx466_3
    have hw466_2 := hx466_2
    have hw466_1 := hx466_1
    have hw466_0 := hx466_0
    cases e466
    try replace hx466_0 := zH HB hx466_0
    try replace hx466_1 := zH HB hx466_1
    try replace hx466_2 := zH HB hx466_2
    try replace hx466_3 := zH HB hx466_3
    replace p466 := eq_true p466
    replace q466 := eq_true q466
    refine start_ (n := 10) (S := fun w' => w'.cell? (ad465.add ((x5_1).toNat * 4)) = some (.int .i64 ((rd_T103 l0 x5_1).f0)) ∧ w'.cell? ⟨(ad465.add ((x5_1).toNat * 4)).block, (ad465.add ((x5_1).toNat * 4)).off + 1, none⟩ = some (.int .i64 ((rd_T103 l0 x5_1).f1)) ∧ w'.cell? ⟨(ad465.add ((x5_1).toNat * 4)).block, (ad465.add ((x5_1).toNat * 4)).off + 2, none⟩ = some (.int .i64 ((rd_T103 l0 x5_1).f2)) ∧ w'.cell? ⟨(ad465.add ((x5_1).toNat * 4)).block, (ad465.add ((x5_1).toNat * 4)).off + 3, none⟩ = some (.int .i64 ((rd_T103 l0 x5_1).f3)) ∧ w'.cell? (ad466.add ((x5_1).toNat * 4)) = some (.int .i64 ((rd_T103 l1 x5_1).f0)) ∧ w'.cell? ⟨(ad466.add ((x5_1).toNat * 4)).block, (ad466.add ((x5_1).toNat * 4)).off + 1, none⟩ = some (.int .i64 ((rd_T103 l1 x5_1).f1)) ∧ w'.cell? ⟨(ad466.add ((x5_1).toNat * 4)).block, (ad466.add ((x5_1).toNat * 4)).off + 2, none⟩ = some (.int .i64 ((rd_T103 l1 x5_1).f2)) ∧ w'.cell? ⟨(ad466.add ((x5_1).toNat * 4)).block, (ad466.add ((x5_1).toNat * 4)).off + 3, none⟩ = some (.int .i64 ((rd_T103 l1 x5_1).f3))) (ds := []) (Array.replicate 10 false) (by kernel_rfl) rfl rfl ⟨(zH HB hw465_0), (zH HB hw465_1), (zH HB hw465_2), (zH HB hw465_3), (zH HB hw466_0), (zH HB hw466_1), (zH HB hw466_2), (zH HB hw466_3)⟩ (fun hHeld => ?_); refine with_tabW laws_eqBoxS.tab6 laws_eqBoxS.bits6 (fun HT_ HW_ => ?_)
    generalize wr.drew = w9 at HB hx465_0 hx465_1 hx465_2 hx465_3 hx466_0 hx466_1 hx466_2 hx466_3 hHeld ⊢
    refine zP 0 (some 17) (zb 10 1) HT_ ?_
    refine zP 1 (some 18) (zb 10 3) HT_ ?_
    refine zP 2 (some 19) (zb 10 7) HT_ ?_
    refine zP 4 (some 21) (zb 10 23) HT_ ?_
    refine zP 5 (some 22) (zb 10 55) HT_ ?_
    refine zP 6 (some 23) (zb 10 119) HT_ ?_
    refine zT8 3 (some 20) (zb 10 127) HT_ HW_ hHeld ?_
    refine zT8 7 (some 24) (zb 10 255) HT_ HW_ hHeld ?_
    refine one_ (i := 8) (N := some 25) (zb 10 511) rfl rfl (one_of HT_.out (by kernel_rfl)) (by decide) (fun K hK => ?_)
    refine goes_ Try.func63 (by kernel_rfl) rfl #[.agg #[.int .i64 ((rd_T103 l0 x5_1).f0), .int .i64 ((rd_T103 l0 x5_1).f1), .int .i64 ((rd_T103 l0 x5_1).f2), .int .i64 ((rd_T103 l0 x5_1).f3)], .agg #[.int .i64 ((rd_T103 l1 x5_1).f0), .int .i64 ((rd_T103 l1 x5_1).f1), .int .i64 ((rd_T103 l1 x5_1).f2), .int .i64 ((rd_T103 l1 x5_1).f3)]] (by rfl) rfl rfl pA ?_
    with_reducible refine (laws_eqBox.calls ((rd_T103 l0 x5_1).f0) ((rd_T103 l0 x5_1).f1) ((rd_T103 l0 x5_1).f2) ((rd_T103 l0 x5_1).f3) ((rd_T103 l1 x5_1).f0) ((rd_T103 l1 x5_1).f1) ((rd_T103 l1 x5_1).f2) ((rd_T103 l1 x5_1).f3) true _ A7.out).mono ?_
    rintro e w10 ⟨rfl, hb⟩
    refine ⟨_, rfl, ?_⟩
    replace HB := zW (pB0 HB.out) hb
    (try clear hb)
    (try clear hb2)
    (try clear hk)
    (try clear hi)
    refine hK.out _ _ ⟨(zH HB hw465_0), (zH HB hw465_1), (zH HB hw465_2), (zH HB hw465_3), (zH HB hw466_0), (zH HB hw466_1), (zH HB hw466_2), (zH HB hw466_3)⟩ (fun hHeld => ?_)
    clear hK K
    refine zN ?_
    refine zP 9 (some 26) (zb 10 1023) HT_ ?_
    refine done_ (done_of HT_.out (by kernel_rfl)) ?_
    try go_wp2
    go_roundg k1
    case measure => have := HK1.out; omega
    case rel => exact ⟨(wrap64 (x5_1 + 1)), zR, H', ⟨by have := HK1.out; omega⟩, ⟨pB0 HB.out⟩⟩
def laws_eqVeneer.f (a0_0 : ByteArray) (a0_1 : Int) (a0_2 : Int) (a1_0 : ByteArray) (a1_1 : Int) (a1_2 : Int) : Option (Bool) := if a0_0.toList = a1_0.toList then (if a0_1 = a1_1 then (if a0_2 = a1_2 then (some true) else (some false)) else (some false)) else (some false)
set_option maxHeartbeats 8000000 in
set_option maxRecDepth 100000 in
theorem laws_eqVeneer.calls (a0_0 : ByteArray) (a0_1 : Int) (a0_2 : Int) (a1_0 : ByteArray) (a1_1 : Int) (a1_2 : Int) (r : Bool) (w : World) (h : laws_eqVeneer.f a0_0 a0_1 a0_2 a1_0 a1_1 a1_2 = some r) :
 Calls Try.prog 59 #[.agg #[.string a0_0, .int .i64 a0_1, .int .i64 a0_2], .agg #[.string a1_0, .int .i64 a1_1, .int .i64 a1_2]] w fun e w' => e = .returned (.bool r) ∧ Below w.heap.size w w' := by
 have hu33 := Try.underlying33
 have HB := Aside0.mk (Below.refl w.heap.size w)
 have H : (if a0_0.toList = a1_0.toList then (if a0_1 = a1_1 then (if a0_2 = a1_2 then (some true) else (some false)) else (some false)) else (some false)) = some r := h
 clear h
 by_cases c3 : a0_0.toList = a1_0.toList
 rotate_left
 · rw [if_neg c3] at H
   have c3b0 : (a0_0.toList == a1_0.toList) = false := beq_eq_false_iff_ne.mpr c3
   have c3b1 : (a0_0.toList != a1_0.toList) = true := bne_iff_ne.mpr c3
   obtain rfl := Option.some.inj H
   go_enter Try.func59, Try.ntmps59
   go_wp2_with (first | ((with_reducible refine gate_dst (N := 2) rfl ?_); refine zB 2 #[.string a0_0, .int .i64 a0_1, .int .i64 a0_2] 33 ?_; intro gb468 hg w21 hbox hb; have BK468 := Aside0.mk (hbox); have GW468 := zS (pB0 HB.out) hg; have GE468 := zS (pB0 HB.out) hg; replace HB := zW (pB0 HB.out) hb; clear hb hbox hg) | ((with_reducible refine gate_dst (N := 3) rfl ?_); refine zB 3 #[.string a1_0, .int .i64 a1_1, .int .i64 a1_2] 33 ?_; intro gb469 hg w22 hbox hb; have BK469 := Aside0.mk (hbox); have GW469 := zS (pB1 HB.out GE468.out) hg; have GE469 := zS (pB1 HB.out GE468.out) hg; have NB468_469 := zL BK468 hg; have NB469_468 := zM BK468 hg; replace BK468 := zK BK468 hb; replace HB := zW (pB1 HB.out GE468.out) hb; clear hb hbox hg; have hnb23 := NB468_469.out; have hnc23 := NB469_468.out; obtain ⟨hcz24_0, hfz24_0, hcz24_1, hfz24_1, hcz24_2, hfz24_2⟩ := zw3 BK468; obtain ⟨hcz25_0, hfz25_0, hcz25_1, hfz25_1, hcz25_2, hfz25_2⟩ := zw3 BK469))
   go_ret
   exact ⟨zE, pB2 HB.out GE468.out GE469.out⟩
 rw [if_pos c3] at H
 have c3b0 : (a0_0.toList == a1_0.toList) = true := beq_iff_eq.mpr c3
 have c3b1 : (a0_0.toList != a1_0.toList) = false := bne_eq_false_iff_eq.mpr c3
 clear c3
 by_cases c4 : a0_1 = a1_1
 rotate_left
 · rw [if_neg c4] at H
   have c4b0 : (a0_1 == a1_1) = false := beq_eq_false_iff_ne.mpr c4
   have c4b1 : (a0_1 != a1_1) = true := bne_iff_ne.mpr c4
   obtain rfl := Option.some.inj H
   go_enter Try.func59, Try.ntmps59
   go_wp2_with (first | ((with_reducible refine gate_dst (N := 2) rfl ?_); refine zB 2 #[.string a0_0, .int .i64 a0_1, .int .i64 a0_2] 33 ?_; intro gb468 hg w16 hbox hb; have BK468 := Aside0.mk (hbox); have GW468 := zS (pB0 HB.out) hg; have GE468 := zS (pB0 HB.out) hg; replace HB := zW (pB0 HB.out) hb; clear hb hbox hg) | ((with_reducible refine gate_dst (N := 3) rfl ?_); refine zB 3 #[.string a1_0, .int .i64 a1_1, .int .i64 a1_2] 33 ?_; intro gb469 hg w17 hbox hb; have BK469 := Aside0.mk (hbox); have GW469 := zS (pB1 HB.out GE468.out) hg; have GE469 := zS (pB1 HB.out GE468.out) hg; have NB468_469 := zL BK468 hg; have NB469_468 := zM BK468 hg; replace BK468 := zK BK468 hb; replace HB := zW (pB1 HB.out GE468.out) hb; clear hb hbox hg; have hnb18 := NB468_469.out; have hnc18 := NB469_468.out; obtain ⟨hcz19_0, hfz19_0, hcz19_1, hfz19_1, hcz19_2, hfz19_2⟩ := zw3 BK468; obtain ⟨hcz20_0, hfz20_0, hcz20_1, hfz20_1, hcz20_2, hfz20_2⟩ := zw3 BK469))
   go_ret
   exact ⟨zE, pB2 HB.out GE468.out GE469.out⟩
 rw [if_pos c4] at H
 have c4b0 : (a0_1 == a1_1) = true := beq_iff_eq.mpr c4
 have c4b1 : (a0_1 != a1_1) = false := bne_eq_false_iff_eq.mpr c4
 clear c4
 by_cases c5 : a0_2 = a1_2
 rotate_left
 · rw [if_neg c5] at H
   have c5b0 : (a0_2 == a1_2) = false := beq_eq_false_iff_ne.mpr c5
   have c5b1 : (a0_2 != a1_2) = true := bne_iff_ne.mpr c5
   obtain rfl := Option.some.inj H
   go_enter Try.func59, Try.ntmps59
   go_wp2_with (first | ((with_reducible refine gate_dst (N := 2) rfl ?_); refine zB 2 #[.string a0_0, .int .i64 a0_1, .int .i64 a0_2] 33 ?_; intro gb468 hg w11 hbox hb; have BK468 := Aside0.mk (hbox); have GW468 := zS (pB0 HB.out) hg; have GE468 := zS (pB0 HB.out) hg; replace HB := zW (pB0 HB.out) hb; clear hb hbox hg) | ((with_reducible refine gate_dst (N := 3) rfl ?_); refine zB 3 #[.string a1_0, .int .i64 a1_1, .int .i64 a1_2] 33 ?_; intro gb469 hg w12 hbox hb; have BK469 := Aside0.mk (hbox); have GW469 := zS (pB1 HB.out GE468.out) hg; have GE469 := zS (pB1 HB.out GE468.out) hg; have NB468_469 := zL BK468 hg; have NB469_468 := zM BK468 hg; replace BK468 := zK BK468 hb; replace HB := zW (pB1 HB.out GE468.out) hb; clear hb hbox hg; have hnb13 := NB468_469.out; have hnc13 := NB469_468.out; obtain ⟨hcz14_0, hfz14_0, hcz14_1, hfz14_1, hcz14_2, hfz14_2⟩ := zw3 BK468; obtain ⟨hcz15_0, hfz15_0, hcz15_1, hfz15_1, hcz15_2, hfz15_2⟩ := zw3 BK469))
   go_ret
   exact ⟨zE, pB2 HB.out GE468.out GE469.out⟩
 rw [if_pos c5] at H
 have c5b0 : (a0_2 == a1_2) = true := beq_iff_eq.mpr c5
 have c5b1 : (a0_2 != a1_2) = false := bne_eq_false_iff_eq.mpr c5
 clear c5
 obtain rfl := Option.some.inj H
 go_enter Try.func59, Try.ntmps59
 go_wp2_with (first | ((with_reducible refine gate_dst (N := 2) rfl ?_); refine zB 2 #[.string a0_0, .int .i64 a0_1, .int .i64 a0_2] 33 ?_; intro gb468 hg w6 hbox hb; have BK468 := Aside0.mk (hbox); have GW468 := zS (pB0 HB.out) hg; have GE468 := zS (pB0 HB.out) hg; replace HB := zW (pB0 HB.out) hb; clear hb hbox hg) | ((with_reducible refine gate_dst (N := 3) rfl ?_); refine zB 3 #[.string a1_0, .int .i64 a1_1, .int .i64 a1_2] 33 ?_; intro gb469 hg w7 hbox hb; have BK469 := Aside0.mk (hbox); have GW469 := zS (pB1 HB.out GE468.out) hg; have GE469 := zS (pB1 HB.out GE468.out) hg; have NB468_469 := zL BK468 hg; have NB469_468 := zM BK468 hg; replace BK468 := zK BK468 hb; replace HB := zW (pB1 HB.out GE468.out) hb; clear hb hbox hg; have hnb8 := NB468_469.out; have hnc8 := NB469_468.out; obtain ⟨hcz9_0, hfz9_0, hcz9_1, hfz9_1, hcz9_2, hfz9_2⟩ := zw3 BK468; obtain ⟨hcz10_0, hfz10_0, hcz10_1, hfz10_1, hcz10_2, hfz10_2⟩ := zw3 BK469))
 go_ret
 exact ⟨zE, pB2 HB.out GE468.out GE469.out⟩
def laws_eqLeaf.f (k : Nat) (a0_0 : ByteArray) (a0_1 : ByteArray) (a0_2 : Int) (a0_3 : ByteArray) (a0_4 : Int) (a0_5 : Int) (a0_6 : Int) (a0_7 : Int) (l0_8 : List (S103)) (a1_0 : ByteArray) (a1_1 : ByteArray) (a1_2 : Int) (a1_3 : ByteArray) (a1_4 : Int) (a1_5 : Int) (a1_6 : Int) (a1_7 : Int) (l1_8 : List (S103)) : Option (Bool) := if a0_0.toList = a1_0.toList then (if a0_1.toList = a1_1.toList then (if a0_2 = a1_2 then ((laws_eqVeneer.f a0_3 a0_4 a0_5 a1_3 a1_4 a1_5).bind fun t472 => (if t472 = true then (if a0_6 = a1_6 then (if a0_7 = a1_7 then ((laws_eqBoxS.f k l0_8 l1_8).bind fun t473 => (if t473 = true then (some true) else (some false))) else (some false)) else (some false)) else (some false))) else (some false)) else (some false)) else (some false)
theorem laws_eqLeaf.mono : ∀ a0 a1 a2 a3 a4 a5 a6 a7 a8 a9 a10 a11 a12 a13 a14 a15 a16 a17 k, LeO (laws_eqLeaf.f k a0 a1 a2 a3 a4 a5 a6 a7 a8 a9 a10 a11 a12 a13 a14 a15 a16 a17) (laws_eqLeaf.f (k + 1) a0 a1 a2 a3 a4 a5 a6 a7 a8 a9 a10 a11 a12 a13 a14 a15 a16 a17) := by
 intro a0 a1 a2 a3 a4 a5 a6 a7 a8 a9 a10 a11 a12 a13 a14 a15 a16 a17 k
 unfold laws_eqLeaf.f
 repeat' first
  | (with_reducible exact laws_eqBoxS.mono _ _ _)
  | (with_reducible exact LeO.refl _)
  | (with_reducible exact LeO.none _)
  | (with_reducible refine LeO.ite ?_ ?_)
  | (with_reducible refine LeO.bind ?_ (fun _ => ?_))
  | exact laws_eqBoxS.mono _ _ _
  | exact LeO.none _
  | refine LeO.ite ?_ ?_
  | refine LeO.bind ?_ (fun _ => ?_)
set_option maxHeartbeats 8000000 in
set_option maxRecDepth 100000 in
theorem laws_eqLeaf.calls (k : Nat) (a0_0 : ByteArray) (a0_1 : ByteArray) (a0_2 : Int) (a0_3 : ByteArray) (a0_4 : Int) (a0_5 : Int) (a0_6 : Int) (a0_7 : Int) (A0_8 : Option Addr) (c0_8 : Nat) (l0_8 : List (S103)) (a1_0 : ByteArray) (a1_1 : ByteArray) (a1_2 : Int) (a1_3 : ByteArray) (a1_4 : Int) (a1_5 : Int) (a1_6 : Int) (a1_7 : Int) (A1_8 : Option Addr) (c1_8 : Nat) (l1_8 : List (S103)) (r : Bool) (w : World) (hr0_8 : Kd.C k103 w A0_8 l0_8.length l0_8) (hc0_8 : l0_8.length ≤ c0_8) (hr1_8 : Kd.C k103 w A1_8 l1_8.length l1_8) (hc1_8 : l1_8.length ≤ c1_8) (h : laws_eqLeaf.f k a0_0 a0_1 a0_2 a0_3 a0_4 a0_5 a0_6 a0_7 l0_8 a1_0 a1_1 a1_2 a1_3 a1_4 a1_5 a1_6 a1_7 l1_8 = some r) :
 Calls Try.prog 16 #[.agg #[.string a0_0, .string a0_1, .int .i64 a0_2, .string a0_3, .int .i64 a0_4, .int .i64 a0_5, .int .i64 a0_6, .int .i64 a0_7, .slice A0_8 l0_8.length c0_8], .agg #[.string a1_0, .string a1_1, .int .i64 a1_2, .string a1_3, .int .i64 a1_4, .int .i64 a1_5, .int .i64 a1_6, .int .i64 a1_7, .slice A1_8 l1_8.length c1_8]] w fun e w' => e = .returned (.bool r) ∧ Below w.heap.size w w' := by
 have hu36 := Try.underlying36
 have hu33 := Try.underlying33
 have HR0_8 := Aside0.mk hr0_8
 have HC0_8 := Aside0.mk hc0_8
 clear hr0_8 hc0_8
 have HR1_8 := Aside0.mk hr1_8
 have HC1_8 := Aside0.mk hc1_8
 clear hr1_8 hc1_8
 have HB := Aside0.mk (Below.refl w.heap.size w)
 have H : (if a0_0.toList = a1_0.toList then (if a0_1.toList = a1_1.toList then (if a0_2 = a1_2 then ((laws_eqVeneer.f a0_3 a0_4 a0_5 a1_3 a1_4 a1_5).bind fun t472 => (if t472 = true then (if a0_6 = a1_6 then (if a0_7 = a1_7 then ((laws_eqBoxS.f k l0_8 l1_8).bind fun t473 => (if t473 = true then (some true) else (some false))) else (some false)) else (some false)) else (some false))) else (some false)) else (some false)) else (some false)) = some r := h
 clear h
 by_cases c3 : a0_0.toList = a1_0.toList
 rotate_left
 · rw [if_neg c3] at H
   have c3b0 : (a0_0.toList == a1_0.toList) = false := beq_eq_false_iff_ne.mpr c3
   have c3b1 : (a0_0.toList != a1_0.toList) = true := bne_iff_ne.mpr c3
   obtain rfl := Option.some.inj H
   go_enter Try.func16, Try.ntmps16
   go_wp2_with (first | ((with_reducible refine gate_dst (N := 2) rfl ?_); refine zB 2 #[.string a0_0, .string a0_1, .int .i64 a0_2, .string a0_3, .int .i64 a0_4, .int .i64 a0_5, .int .i64 a0_6, .int .i64 a0_7, .slice A0_8 l0_8.length c0_8] 36 ?_; intro gb470 hg w62 hbox hb; have BK470 := Aside0.mk (hbox); have GW470 := zS (pB0 HB.out) hg; have GE470 := zS (pB0 HB.out) hg; replace HB := zW (pB0 HB.out) hb; clear hb hbox hg) | ((with_reducible refine gate_dst (N := 3) rfl ?_); refine zB 3 #[.string a1_0, .string a1_1, .int .i64 a1_2, .string a1_3, .int .i64 a1_4, .int .i64 a1_5, .int .i64 a1_6, .int .i64 a1_7, .slice A1_8 l1_8.length c1_8] 36 ?_; intro gb471 hg w63 hbox hb; have BK471 := Aside0.mk (hbox); have GW471 := zS (pB1 HB.out GE470.out) hg; have GE471 := zS (pB1 HB.out GE470.out) hg; have NB470_471 := zL BK470 hg; have NB471_470 := zM BK470 hg; replace BK470 := zK BK470 hb; replace HB := zW (pB1 HB.out GE470.out) hb; clear hb hbox hg; have hnb64 := NB470_471.out; have hnc64 := NB471_470.out; obtain ⟨hcz65_0, hfz65_0, hcz65_1, hfz65_1, hcz65_2, hfz65_2, hcz65_3, hfz65_3, hcz65_4, hfz65_4, hcz65_5, hfz65_5, hcz65_6, hfz65_6, hcz65_7, hfz65_7, hcz65_8, hfz65_8⟩ := zw9 BK470; obtain ⟨hcz66_0, hfz66_0, hcz66_1, hfz66_1, hcz66_2, hfz66_2, hcz66_3, hfz66_3, hcz66_4, hfz66_4, hcz66_5, hfz66_5, hcz66_6, hfz66_6, hcz66_7, hfz66_7, hcz66_8, hfz66_8⟩ := zw9 BK471))
   go_ret
   exact ⟨zE, pB2 HB.out GE470.out GE471.out⟩
 rw [if_pos c3] at H
 have c3b0 : (a0_0.toList == a1_0.toList) = true := beq_iff_eq.mpr c3
 have c3b1 : (a0_0.toList != a1_0.toList) = false := bne_eq_false_iff_eq.mpr c3
 clear c3
 by_cases c4 : a0_1.toList = a1_1.toList
 rotate_left
 · rw [if_neg c4] at H
   have c4b0 : (a0_1.toList == a1_1.toList) = false := beq_eq_false_iff_ne.mpr c4
   have c4b1 : (a0_1.toList != a1_1.toList) = true := bne_iff_ne.mpr c4
   obtain rfl := Option.some.inj H
   go_enter Try.func16, Try.ntmps16
   go_wp2_with (first | ((with_reducible refine gate_dst (N := 2) rfl ?_); refine zB 2 #[.string a0_0, .string a0_1, .int .i64 a0_2, .string a0_3, .int .i64 a0_4, .int .i64 a0_5, .int .i64 a0_6, .int .i64 a0_7, .slice A0_8 l0_8.length c0_8] 36 ?_; intro gb470 hg w57 hbox hb; have BK470 := Aside0.mk (hbox); have GW470 := zS (pB0 HB.out) hg; have GE470 := zS (pB0 HB.out) hg; replace HB := zW (pB0 HB.out) hb; clear hb hbox hg) | ((with_reducible refine gate_dst (N := 3) rfl ?_); refine zB 3 #[.string a1_0, .string a1_1, .int .i64 a1_2, .string a1_3, .int .i64 a1_4, .int .i64 a1_5, .int .i64 a1_6, .int .i64 a1_7, .slice A1_8 l1_8.length c1_8] 36 ?_; intro gb471 hg w58 hbox hb; have BK471 := Aside0.mk (hbox); have GW471 := zS (pB1 HB.out GE470.out) hg; have GE471 := zS (pB1 HB.out GE470.out) hg; have NB470_471 := zL BK470 hg; have NB471_470 := zM BK470 hg; replace BK470 := zK BK470 hb; replace HB := zW (pB1 HB.out GE470.out) hb; clear hb hbox hg; have hnb59 := NB470_471.out; have hnc59 := NB471_470.out; obtain ⟨hcz60_0, hfz60_0, hcz60_1, hfz60_1, hcz60_2, hfz60_2, hcz60_3, hfz60_3, hcz60_4, hfz60_4, hcz60_5, hfz60_5, hcz60_6, hfz60_6, hcz60_7, hfz60_7, hcz60_8, hfz60_8⟩ := zw9 BK470; obtain ⟨hcz61_0, hfz61_0, hcz61_1, hfz61_1, hcz61_2, hfz61_2, hcz61_3, hfz61_3, hcz61_4, hfz61_4, hcz61_5, hfz61_5, hcz61_6, hfz61_6, hcz61_7, hfz61_7, hcz61_8, hfz61_8⟩ := zw9 BK471))
   go_ret
   exact ⟨zE, pB2 HB.out GE470.out GE471.out⟩
 rw [if_pos c4] at H
 have c4b0 : (a0_1.toList == a1_1.toList) = true := beq_iff_eq.mpr c4
 have c4b1 : (a0_1.toList != a1_1.toList) = false := bne_eq_false_iff_eq.mpr c4
 clear c4
 by_cases c5 : a0_2 = a1_2
 rotate_left
 · rw [if_neg c5] at H
   have c5b0 : (a0_2 == a1_2) = false := beq_eq_false_iff_ne.mpr c5
   have c5b1 : (a0_2 != a1_2) = true := bne_iff_ne.mpr c5
   obtain rfl := Option.some.inj H
   go_enter Try.func16, Try.ntmps16
   go_wp2_with (first | ((with_reducible refine gate_dst (N := 2) rfl ?_); refine zB 2 #[.string a0_0, .string a0_1, .int .i64 a0_2, .string a0_3, .int .i64 a0_4, .int .i64 a0_5, .int .i64 a0_6, .int .i64 a0_7, .slice A0_8 l0_8.length c0_8] 36 ?_; intro gb470 hg w52 hbox hb; have BK470 := Aside0.mk (hbox); have GW470 := zS (pB0 HB.out) hg; have GE470 := zS (pB0 HB.out) hg; replace HB := zW (pB0 HB.out) hb; clear hb hbox hg) | ((with_reducible refine gate_dst (N := 3) rfl ?_); refine zB 3 #[.string a1_0, .string a1_1, .int .i64 a1_2, .string a1_3, .int .i64 a1_4, .int .i64 a1_5, .int .i64 a1_6, .int .i64 a1_7, .slice A1_8 l1_8.length c1_8] 36 ?_; intro gb471 hg w53 hbox hb; have BK471 := Aside0.mk (hbox); have GW471 := zS (pB1 HB.out GE470.out) hg; have GE471 := zS (pB1 HB.out GE470.out) hg; have NB470_471 := zL BK470 hg; have NB471_470 := zM BK470 hg; replace BK470 := zK BK470 hb; replace HB := zW (pB1 HB.out GE470.out) hb; clear hb hbox hg; have hnb54 := NB470_471.out; have hnc54 := NB471_470.out; obtain ⟨hcz55_0, hfz55_0, hcz55_1, hfz55_1, hcz55_2, hfz55_2, hcz55_3, hfz55_3, hcz55_4, hfz55_4, hcz55_5, hfz55_5, hcz55_6, hfz55_6, hcz55_7, hfz55_7, hcz55_8, hfz55_8⟩ := zw9 BK470; obtain ⟨hcz56_0, hfz56_0, hcz56_1, hfz56_1, hcz56_2, hfz56_2, hcz56_3, hfz56_3, hcz56_4, hfz56_4, hcz56_5, hfz56_5, hcz56_6, hfz56_6, hcz56_7, hfz56_7, hcz56_8, hfz56_8⟩ := zw9 BK471))
   go_ret
   exact ⟨zE, pB2 HB.out GE470.out GE471.out⟩
 rw [if_pos c5] at H
 have c5b0 : (a0_2 == a1_2) = true := beq_iff_eq.mpr c5
 have c5b1 : (a0_2 != a1_2) = false := bne_eq_false_iff_eq.mpr c5
 clear c5
 replace H := Option.bind_eq_some_iff.mp H
 obtain ⟨t472, A60, H⟩ := H
 have A6 := Aside0.mk A60
 clear A60
 by_cases c7 : t472 = true
 rotate_left
 · replace c7 := Bool.eq_false_iff.mpr c7
   subst c7
   have H1 : (some false) = some r := by rw [if_neg (show ¬ (false = true) by decide)] at H; exact H
   clear H
   have H := H1
   clear H1
   obtain rfl := Option.some.inj H
   go_enter Try.func16, Try.ntmps16
   go_wp2_with (first | ((with_reducible refine gate_dst (N := 2) rfl ?_); refine zB 2 #[.string a0_0, .string a0_1, .int .i64 a0_2, .string a0_3, .int .i64 a0_4, .int .i64 a0_5, .int .i64 a0_6, .int .i64 a0_7, .slice A0_8 l0_8.length c0_8] 36 ?_; intro gb470 hg w46 hbox hb; have BK470 := Aside0.mk (hbox); have GW470 := zS (pB0 HB.out) hg; have GE470 := zS (pB0 HB.out) hg; replace HB := zW (pB0 HB.out) hb; clear hb hbox hg) | ((with_reducible refine gate_dst (N := 3) rfl ?_); refine zB 3 #[.string a1_0, .string a1_1, .int .i64 a1_2, .string a1_3, .int .i64 a1_4, .int .i64 a1_5, .int .i64 a1_6, .int .i64 a1_7, .slice A1_8 l1_8.length c1_8] 36 ?_; intro gb471 hg w47 hbox hb; have BK471 := Aside0.mk (hbox); have GW471 := zS (pB1 HB.out GE470.out) hg; have GE471 := zS (pB1 HB.out GE470.out) hg; have NB470_471 := zL BK470 hg; have NB471_470 := zM BK470 hg; replace BK470 := zK BK470 hb; replace HB := zW (pB1 HB.out GE470.out) hb; clear hb hbox hg; have hnb48 := NB470_471.out; have hnc48 := NB471_470.out; obtain ⟨hcz49_0, hfz49_0, hcz49_1, hfz49_1, hcz49_2, hfz49_2, hcz49_3, hfz49_3, hcz49_4, hfz49_4, hcz49_5, hfz49_5, hcz49_6, hfz49_6, hcz49_7, hfz49_7, hcz49_8, hfz49_8⟩ := zw9 BK470; obtain ⟨hcz50_0, hfz50_0, hcz50_1, hfz50_1, hcz50_2, hfz50_2, hcz50_3, hfz50_3, hcz50_4, hfz50_4, hcz50_5, hfz50_5, hcz50_6, hfz50_6, hcz50_7, hfz50_7, hcz50_8, hfz50_8⟩ := zw9 BK471) | ((with_reducible refine gate_callee (f := 59) rfl ?_); refine goesL_ (some 24) rfl rfl Try.func59 (by kernel_rfl) rfl #[.agg #[.string a0_3, .int .i64 a0_4, .int .i64 a0_5], .agg #[.string a1_3, .int .i64 a1_4, .int .i64 a1_5]] rfl pA ?_; (with_reducible refine (laws_eqVeneer.calls a0_3 a0_4 a0_5 a1_3 a1_4 a1_5 false _ A6.out).mono ?_); rintro e w51 ⟨rfl, hb⟩; refine ⟨_, rfl, ?_⟩; replace BK470 := zK BK470 hb; replace BK471 := zK BK471 hb; replace HB := zW (pB2 HB.out GE470.out GE471.out) hb; (try clear hb); (try clear hb2); (try clear hk); (try clear hi)))
   go_ret
   exact ⟨zE, pB2 HB.out GE470.out GE471.out⟩
 subst c7
 have H1 : (if a0_6 = a1_6 then (if a0_7 = a1_7 then ((laws_eqBoxS.f k l0_8 l1_8).bind fun t473 => (if t473 = true then (some true) else (some false))) else (some false)) else (some false)) = some r := by rw [if_pos rfl] at H; exact H
 clear H
 have H := H1
 clear H1
 by_cases c8 : a0_6 = a1_6
 rotate_left
 · rw [if_neg c8] at H
   have c8b0 : (a0_6 == a1_6) = false := beq_eq_false_iff_ne.mpr c8
   have c8b1 : (a0_6 != a1_6) = true := bne_iff_ne.mpr c8
   obtain rfl := Option.some.inj H
   go_enter Try.func16, Try.ntmps16
   go_wp2_with (first | ((with_reducible refine gate_dst (N := 2) rfl ?_); refine zB 2 #[.string a0_0, .string a0_1, .int .i64 a0_2, .string a0_3, .int .i64 a0_4, .int .i64 a0_5, .int .i64 a0_6, .int .i64 a0_7, .slice A0_8 l0_8.length c0_8] 36 ?_; intro gb470 hg w38 hbox hb; have BK470 := Aside0.mk (hbox); have GW470 := zS (pB0 HB.out) hg; have GE470 := zS (pB0 HB.out) hg; replace HB := zW (pB0 HB.out) hb; clear hb hbox hg) | ((with_reducible refine gate_dst (N := 3) rfl ?_); refine zB 3 #[.string a1_0, .string a1_1, .int .i64 a1_2, .string a1_3, .int .i64 a1_4, .int .i64 a1_5, .int .i64 a1_6, .int .i64 a1_7, .slice A1_8 l1_8.length c1_8] 36 ?_; intro gb471 hg w39 hbox hb; have BK471 := Aside0.mk (hbox); have GW471 := zS (pB1 HB.out GE470.out) hg; have GE471 := zS (pB1 HB.out GE470.out) hg; have NB470_471 := zL BK470 hg; have NB471_470 := zM BK470 hg; replace BK470 := zK BK470 hb; replace HB := zW (pB1 HB.out GE470.out) hb; clear hb hbox hg; have hnb40 := NB470_471.out; have hnc40 := NB471_470.out; obtain ⟨hcz41_0, hfz41_0, hcz41_1, hfz41_1, hcz41_2, hfz41_2, hcz41_3, hfz41_3, hcz41_4, hfz41_4, hcz41_5, hfz41_5, hcz41_6, hfz41_6, hcz41_7, hfz41_7, hcz41_8, hfz41_8⟩ := zw9 BK470; obtain ⟨hcz42_0, hfz42_0, hcz42_1, hfz42_1, hcz42_2, hfz42_2, hcz42_3, hfz42_3, hcz42_4, hfz42_4, hcz42_5, hfz42_5, hcz42_6, hfz42_6, hcz42_7, hfz42_7, hcz42_8, hfz42_8⟩ := zw9 BK471) | ((with_reducible refine gate_callee (f := 59) rfl ?_); refine goesL_ (some 24) rfl rfl Try.func59 (by kernel_rfl) rfl #[.agg #[.string a0_3, .int .i64 a0_4, .int .i64 a0_5], .agg #[.string a1_3, .int .i64 a1_4, .int .i64 a1_5]] rfl pA ?_; (with_reducible refine (laws_eqVeneer.calls a0_3 a0_4 a0_5 a1_3 a1_4 a1_5 true _ A6.out).mono ?_); rintro e w43 ⟨rfl, hb⟩; refine ⟨_, rfl, ?_⟩; replace BK470 := zK BK470 hb; replace BK471 := zK BK471 hb; replace HB := zW (pB2 HB.out GE470.out GE471.out) hb; (try clear hb); (try clear hb2); (try clear hk); (try clear hi); obtain ⟨hcz44_0, hfz44_0, hcz44_1, hfz44_1, hcz44_2, hfz44_2, hcz44_3, hfz44_3, hcz44_4, hfz44_4, hcz44_5, hfz44_5, hcz44_6, hfz44_6, hcz44_7, hfz44_7, hcz44_8, hfz44_8⟩ := zw9 BK470; obtain ⟨hcz45_0, hfz45_0, hcz45_1, hfz45_1, hcz45_2, hfz45_2, hcz45_3, hfz45_3, hcz45_4, hfz45_4, hcz45_5, hfz45_5, hcz45_6, hfz45_6, hcz45_7, hfz45_7, hcz45_8, hfz45_8⟩ := zw9 BK471))
   go_ret
   exact ⟨zE, pB2 HB.out GE470.out GE471.out⟩
 rw [if_pos c8] at H
 have c8b0 : (a0_6 == a1_6) = true := beq_iff_eq.mpr c8
 have c8b1 : (a0_6 != a1_6) = false := bne_eq_false_iff_eq.mpr c8
 clear c8
 by_cases c9 : a0_7 = a1_7
 rotate_left
 · rw [if_neg c9] at H
   have c9b0 : (a0_7 == a1_7) = false := beq_eq_false_iff_ne.mpr c9
   have c9b1 : (a0_7 != a1_7) = true := bne_iff_ne.mpr c9
   obtain rfl := Option.some.inj H
   go_enter Try.func16, Try.ntmps16
   go_wp2_with (first | ((with_reducible refine gate_dst (N := 2) rfl ?_); refine zB 2 #[.string a0_0, .string a0_1, .int .i64 a0_2, .string a0_3, .int .i64 a0_4, .int .i64 a0_5, .int .i64 a0_6, .int .i64 a0_7, .slice A0_8 l0_8.length c0_8] 36 ?_; intro gb470 hg w30 hbox hb; have BK470 := Aside0.mk (hbox); have GW470 := zS (pB0 HB.out) hg; have GE470 := zS (pB0 HB.out) hg; replace HB := zW (pB0 HB.out) hb; clear hb hbox hg) | ((with_reducible refine gate_dst (N := 3) rfl ?_); refine zB 3 #[.string a1_0, .string a1_1, .int .i64 a1_2, .string a1_3, .int .i64 a1_4, .int .i64 a1_5, .int .i64 a1_6, .int .i64 a1_7, .slice A1_8 l1_8.length c1_8] 36 ?_; intro gb471 hg w31 hbox hb; have BK471 := Aside0.mk (hbox); have GW471 := zS (pB1 HB.out GE470.out) hg; have GE471 := zS (pB1 HB.out GE470.out) hg; have NB470_471 := zL BK470 hg; have NB471_470 := zM BK470 hg; replace BK470 := zK BK470 hb; replace HB := zW (pB1 HB.out GE470.out) hb; clear hb hbox hg; have hnb32 := NB470_471.out; have hnc32 := NB471_470.out; obtain ⟨hcz33_0, hfz33_0, hcz33_1, hfz33_1, hcz33_2, hfz33_2, hcz33_3, hfz33_3, hcz33_4, hfz33_4, hcz33_5, hfz33_5, hcz33_6, hfz33_6, hcz33_7, hfz33_7, hcz33_8, hfz33_8⟩ := zw9 BK470; obtain ⟨hcz34_0, hfz34_0, hcz34_1, hfz34_1, hcz34_2, hfz34_2, hcz34_3, hfz34_3, hcz34_4, hfz34_4, hcz34_5, hfz34_5, hcz34_6, hfz34_6, hcz34_7, hfz34_7, hcz34_8, hfz34_8⟩ := zw9 BK471) | ((with_reducible refine gate_callee (f := 59) rfl ?_); refine goesL_ (some 24) rfl rfl Try.func59 (by kernel_rfl) rfl #[.agg #[.string a0_3, .int .i64 a0_4, .int .i64 a0_5], .agg #[.string a1_3, .int .i64 a1_4, .int .i64 a1_5]] rfl pA ?_; (with_reducible refine (laws_eqVeneer.calls a0_3 a0_4 a0_5 a1_3 a1_4 a1_5 true _ A6.out).mono ?_); rintro e w35 ⟨rfl, hb⟩; refine ⟨_, rfl, ?_⟩; replace BK470 := zK BK470 hb; replace BK471 := zK BK471 hb; replace HB := zW (pB2 HB.out GE470.out GE471.out) hb; (try clear hb); (try clear hb2); (try clear hk); (try clear hi); obtain ⟨hcz36_0, hfz36_0, hcz36_1, hfz36_1, hcz36_2, hfz36_2, hcz36_3, hfz36_3, hcz36_4, hfz36_4, hcz36_5, hfz36_5, hcz36_6, hfz36_6, hcz36_7, hfz36_7, hcz36_8, hfz36_8⟩ := zw9 BK470; obtain ⟨hcz37_0, hfz37_0, hcz37_1, hfz37_1, hcz37_2, hfz37_2, hcz37_3, hfz37_3, hcz37_4, hfz37_4, hcz37_5, hfz37_5, hcz37_6, hfz37_6, hcz37_7, hfz37_7, hcz37_8, hfz37_8⟩ := zw9 BK471))
   go_ret
   exact ⟨zE, pB2 HB.out GE470.out GE471.out⟩
 rw [if_pos c9] at H
 have c9b0 : (a0_7 == a1_7) = true := beq_iff_eq.mpr c9
 have c9b1 : (a0_7 != a1_7) = false := bne_eq_false_iff_eq.mpr c9
 clear c9
 replace H := Option.bind_eq_some_iff.mp H
 obtain ⟨t473, A100, H⟩ := H
 have A10 := Aside0.mk A100
 clear A100
 by_cases c11 : t473 = true
 · subst c11
   have H1 : (some true) = some r := by rw [if_pos rfl] at H; exact H
   clear H
   have H := H1
   clear H1
   obtain rfl := Option.some.inj H
   go_enter Try.func16, Try.ntmps16
   go_wp2_with (first | ((with_reducible refine gate_dst (N := 2) rfl ?_); refine zB 2 #[.string a0_0, .string a0_1, .int .i64 a0_2, .string a0_3, .int .i64 a0_4, .int .i64 a0_5, .int .i64 a0_6, .int .i64 a0_7, .slice A0_8 l0_8.length c0_8] 36 ?_; intro gb470 hg w12 hbox hb; have BK470 := Aside0.mk (hbox); have GW470 := zS (pB0 HB.out) hg; have GE470 := zS (pB0 HB.out) hg; replace HB := zW (pB0 HB.out) hb; clear hb hbox hg) | ((with_reducible refine gate_dst (N := 3) rfl ?_); refine zB 3 #[.string a1_0, .string a1_1, .int .i64 a1_2, .string a1_3, .int .i64 a1_4, .int .i64 a1_5, .int .i64 a1_6, .int .i64 a1_7, .slice A1_8 l1_8.length c1_8] 36 ?_; intro gb471 hg w13 hbox hb; have BK471 := Aside0.mk (hbox); have GW471 := zS (pB1 HB.out GE470.out) hg; have GE471 := zS (pB1 HB.out GE470.out) hg; have NB470_471 := zL BK470 hg; have NB471_470 := zM BK470 hg; replace BK470 := zK BK470 hb; replace HB := zW (pB1 HB.out GE470.out) hb; clear hb hbox hg; have hnb14 := NB470_471.out; have hnc14 := NB471_470.out; obtain ⟨hcz15_0, hfz15_0, hcz15_1, hfz15_1, hcz15_2, hfz15_2, hcz15_3, hfz15_3, hcz15_4, hfz15_4, hcz15_5, hfz15_5, hcz15_6, hfz15_6, hcz15_7, hfz15_7, hcz15_8, hfz15_8⟩ := zw9 BK470; obtain ⟨hcz16_0, hfz16_0, hcz16_1, hfz16_1, hcz16_2, hfz16_2, hcz16_3, hfz16_3, hcz16_4, hfz16_4, hcz16_5, hfz16_5, hcz16_6, hfz16_6, hcz16_7, hfz16_7, hcz16_8, hfz16_8⟩ := zw9 BK471) | ((with_reducible refine gate_callee (f := 59) rfl ?_); refine goesL_ (some 24) rfl rfl Try.func59 (by kernel_rfl) rfl #[.agg #[.string a0_3, .int .i64 a0_4, .int .i64 a0_5], .agg #[.string a1_3, .int .i64 a1_4, .int .i64 a1_5]] rfl pA ?_; (with_reducible refine (laws_eqVeneer.calls a0_3 a0_4 a0_5 a1_3 a1_4 a1_5 true _ A6.out).mono ?_); rintro e w17 ⟨rfl, hb⟩; refine ⟨_, rfl, ?_⟩; replace BK470 := zK BK470 hb; replace BK471 := zK BK471 hb; replace HB := zW (pB2 HB.out GE470.out GE471.out) hb; (try clear hb); (try clear hb2); (try clear hk); (try clear hi); obtain ⟨hcz18_0, hfz18_0, hcz18_1, hfz18_1, hcz18_2, hfz18_2, hcz18_3, hfz18_3, hcz18_4, hfz18_4, hcz18_5, hfz18_5, hcz18_6, hfz18_6, hcz18_7, hfz18_7, hcz18_8, hfz18_8⟩ := zw9 BK470; obtain ⟨hcz19_0, hfz19_0, hcz19_1, hfz19_1, hcz19_2, hfz19_2, hcz19_3, hfz19_3, hcz19_4, hfz19_4, hcz19_5, hfz19_5, hcz19_6, hfz19_6, hcz19_7, hfz19_7, hcz19_8, hfz19_8⟩ := zw9 BK471) | ((with_reducible refine gate_callee (f := 26) rfl ?_); refine goesL_ (some 40) rfl rfl Try.func26 (by kernel_rfl) rfl #[.slice A0_8 l0_8.length c0_8, .slice A1_8 l1_8.length c1_8] rfl pA ?_; (with_reducible refine (laws_eqBoxS.calls k _ _ l0_8 _ _ l1_8 true _ ?side1 ?side2 ?side3 ?side4 A10.out).mono ?_); (case side1 => exact pC (Kd.C_below HR0_8.out HB.out)); (case side2 => exact HC0_8.out); (case side3 => exact pC (Kd.C_below HR1_8.out HB.out)); (case side4 => exact HC1_8.out); rintro e w20 ⟨rfl, hb⟩; refine ⟨_, rfl, ?_⟩; replace BK470 := zK BK470 hb; replace BK471 := zK BK471 hb; replace HB := zW (pB2 HB.out GE470.out GE471.out) hb; (try clear hb); (try clear hb2); (try clear hk); (try clear hi)))
   go_ret
   exact ⟨zE, pB2 HB.out GE470.out GE471.out⟩
 replace c11 := Bool.eq_false_iff.mpr c11
 subst c11
 have H1 : (some false) = some r := by rw [if_neg (show ¬ (false = true) by decide)] at H; exact H
 clear H
 have H := H1
 clear H1
 obtain rfl := Option.some.inj H
 go_enter Try.func16, Try.ntmps16
 go_wp2_with (first | ((with_reducible refine gate_dst (N := 2) rfl ?_); refine zB 2 #[.string a0_0, .string a0_1, .int .i64 a0_2, .string a0_3, .int .i64 a0_4, .int .i64 a0_5, .int .i64 a0_6, .int .i64 a0_7, .slice A0_8 l0_8.length c0_8] 36 ?_; intro gb470 hg w21 hbox hb; have BK470 := Aside0.mk (hbox); have GW470 := zS (pB0 HB.out) hg; have GE470 := zS (pB0 HB.out) hg; replace HB := zW (pB0 HB.out) hb; clear hb hbox hg) | ((with_reducible refine gate_dst (N := 3) rfl ?_); refine zB 3 #[.string a1_0, .string a1_1, .int .i64 a1_2, .string a1_3, .int .i64 a1_4, .int .i64 a1_5, .int .i64 a1_6, .int .i64 a1_7, .slice A1_8 l1_8.length c1_8] 36 ?_; intro gb471 hg w22 hbox hb; have BK471 := Aside0.mk (hbox); have GW471 := zS (pB1 HB.out GE470.out) hg; have GE471 := zS (pB1 HB.out GE470.out) hg; have NB470_471 := zL BK470 hg; have NB471_470 := zM BK470 hg; replace BK470 := zK BK470 hb; replace HB := zW (pB1 HB.out GE470.out) hb; clear hb hbox hg; have hnb23 := NB470_471.out; have hnc23 := NB471_470.out; obtain ⟨hcz24_0, hfz24_0, hcz24_1, hfz24_1, hcz24_2, hfz24_2, hcz24_3, hfz24_3, hcz24_4, hfz24_4, hcz24_5, hfz24_5, hcz24_6, hfz24_6, hcz24_7, hfz24_7, hcz24_8, hfz24_8⟩ := zw9 BK470; obtain ⟨hcz25_0, hfz25_0, hcz25_1, hfz25_1, hcz25_2, hfz25_2, hcz25_3, hfz25_3, hcz25_4, hfz25_4, hcz25_5, hfz25_5, hcz25_6, hfz25_6, hcz25_7, hfz25_7, hcz25_8, hfz25_8⟩ := zw9 BK471) | ((with_reducible refine gate_callee (f := 59) rfl ?_); refine goesL_ (some 24) rfl rfl Try.func59 (by kernel_rfl) rfl #[.agg #[.string a0_3, .int .i64 a0_4, .int .i64 a0_5], .agg #[.string a1_3, .int .i64 a1_4, .int .i64 a1_5]] rfl pA ?_; (with_reducible refine (laws_eqVeneer.calls a0_3 a0_4 a0_5 a1_3 a1_4 a1_5 true _ A6.out).mono ?_); rintro e w26 ⟨rfl, hb⟩; refine ⟨_, rfl, ?_⟩; replace BK470 := zK BK470 hb; replace BK471 := zK BK471 hb; replace HB := zW (pB2 HB.out GE470.out GE471.out) hb; (try clear hb); (try clear hb2); (try clear hk); (try clear hi); obtain ⟨hcz27_0, hfz27_0, hcz27_1, hfz27_1, hcz27_2, hfz27_2, hcz27_3, hfz27_3, hcz27_4, hfz27_4, hcz27_5, hfz27_5, hcz27_6, hfz27_6, hcz27_7, hfz27_7, hcz27_8, hfz27_8⟩ := zw9 BK470; obtain ⟨hcz28_0, hfz28_0, hcz28_1, hfz28_1, hcz28_2, hfz28_2, hcz28_3, hfz28_3, hcz28_4, hfz28_4, hcz28_5, hfz28_5, hcz28_6, hfz28_6, hcz28_7, hfz28_7, hcz28_8, hfz28_8⟩ := zw9 BK471) | ((with_reducible refine gate_callee (f := 26) rfl ?_); refine goesL_ (some 40) rfl rfl Try.func26 (by kernel_rfl) rfl #[.slice A0_8 l0_8.length c0_8, .slice A1_8 l1_8.length c1_8] rfl pA ?_; (with_reducible refine (laws_eqBoxS.calls k _ _ l0_8 _ _ l1_8 false _ ?side1 ?side2 ?side3 ?side4 A10.out).mono ?_); (case side1 => exact pC (Kd.C_below HR0_8.out HB.out)); (case side2 => exact HC0_8.out); (case side3 => exact pC (Kd.C_below HR1_8.out HB.out)); (case side4 => exact HC1_8.out); rintro e w29 ⟨rfl, hb⟩; refine ⟨_, rfl, ?_⟩; replace BK470 := zK BK470 hb; replace BK471 := zK BK471 hb; replace HB := zW (pB2 HB.out GE470.out GE471.out) hb; (try clear hb); (try clear hb2); (try clear hk); (try clear hi)))
 go_ret
 exact ⟨zE, pB2 HB.out GE470.out GE471.out⟩
end Go.Proofs.Ytfiiakhpdkdebaa.PFnExactFitsLeaf

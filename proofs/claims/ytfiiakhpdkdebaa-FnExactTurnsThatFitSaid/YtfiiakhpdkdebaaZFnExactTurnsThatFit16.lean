/- What each function that a law reaches comes to, and the proof that its walk comes to it; laid by a program of this session. No condition. -/
import Derived.Test.YtfiiakhpdkdebaaZFnExactTurnsThatFit0
import Derived.Test.YtfiiakhpdkdebaaZFnExactTurnsThatFit12
import Derived.Test.YtfiiakhpdkdebaaZFnExactTurnsThatFit15
namespace Go.Proofs.Ytfiiakhpdkdebaa.PFnExactTurnsThatFit
open Go.RowKit Go.Proofs.YtfiiakhpdkdebaaW.PrintWords Go.Proofs.YtfiiakhpdkdebaaW.PrintLast Go.Proofs.YtfiiakhpdkdebaaW.PrintMore
attribute [local go_sem] max2_int min2_int max_two min_two max_three min_three max_four min_four
set_option linter.unusedVariables false
set_option linter.unusedSimpArgs false
def slices_IndexFunc_impl_Box__impl_ValidLeaf_1.l0 : Nat → List (S103) → Int → Int → List (S36) → Option (Int)
 | 0, _, _, _, _ => none
 | k + 1, x0, x7, x8, x802 => if x8 < x7 then (if 0 ≤ x8 then (if x8 < (x0.length : Int) then ((impl_ValidLeaf_1.f ((rd_T103 x0 x8).f0) ((rd_T103 x0 x8).f1) ((rd_T103 x0 x8).f2) ((rd_T103 x0 x8).f3) x802).bind fun t388 => (if t388 = true then (some x8) else (slices_IndexFunc_impl_Box__impl_ValidLeaf_1.l0 k x0 x7 (wrap64 (x8 + 1)) x802))) else (none)) else (none)) else (some (-1))
def slices_IndexFunc_impl_Box__impl_ValidLeaf_1.f (k : Nat) (l0 : List (S103))  (l2 : List (S36)) : Option (Int) := slices_IndexFunc_impl_Box__impl_ValidLeaf_1.l0 k l0 (l0.length : Int) 0 l2
theorem slices_IndexFunc_impl_Box__impl_ValidLeaf_1.mono_l : ∀ k, (∀ y0 y1 y2 y3, LeO (slices_IndexFunc_impl_Box__impl_ValidLeaf_1.l0 k y0 y1 y2 y3) (slices_IndexFunc_impl_Box__impl_ValidLeaf_1.l0 (k + 1) y0 y1 y2 y3))
 | 0 => fun _ _ _ _ r h => by simp [slices_IndexFunc_impl_Box__impl_ValidLeaf_1.l0] at h
 | k + 1 => by
   have ih0 := slices_IndexFunc_impl_Box__impl_ValidLeaf_1.mono_l k
   · intro y0 y1 y2 y3
     unfold slices_IndexFunc_impl_Box__impl_ValidLeaf_1.l0
     repeat' first
     | (with_reducible exact ih0 _ _ _ _)
     | (with_reducible exact LeO.refl _)
     | (with_reducible exact LeO.none _)
     | (with_reducible refine LeO.ite ?_ ?_)
     | (with_reducible refine LeO.bind ?_ (fun _ => ?_))
     | exact ih0 _ _ _ _
     | exact LeO.none _
     | refine LeO.ite ?_ ?_
     | refine LeO.bind ?_ (fun _ => ?_)
theorem slices_IndexFunc_impl_Box__impl_ValidLeaf_1.mono : ∀ a0 a1 k, LeO (slices_IndexFunc_impl_Box__impl_ValidLeaf_1.f k a0 a1) (slices_IndexFunc_impl_Box__impl_ValidLeaf_1.f (k + 1) a0 a1) := by
 intro a0 a1 k
 have ih0 := slices_IndexFunc_impl_Box__impl_ValidLeaf_1.mono_l k
 unfold slices_IndexFunc_impl_Box__impl_ValidLeaf_1.f
 repeat' first
  | (with_reducible exact ih0 _ _ _ _)
  | (with_reducible exact LeO.refl _)
  | (with_reducible exact LeO.none _)
  | (with_reducible refine LeO.ite ?_ ?_)
  | (with_reducible refine LeO.bind ?_ (fun _ => ?_))
  | exact ih0 _ _ _ _
  | exact LeO.none _
  | refine LeO.ite ?_ ?_
  | refine LeO.bind ?_ (fun _ => ?_)
set_option maxHeartbeats 8000000 in
set_option maxRecDepth 100000 in
theorem slices_IndexFunc_impl_Box__impl_ValidLeaf_1.calls (k : Nat) (A0 : Option Addr) (c0 : Nat) (l0 : List (S103))  (A2 : Option Addr) (c2 : Nat) (l2 : List (S36)) (r : Int) (w : World) (hr0 : Kd.C k103 w A0 l0.length l0) (hc0 : l0.length ≤ c0) (hr2 : Kd.C k36 w A2 l2.length l2) (hc2 : l2.length ≤ c2) (h : slices_IndexFunc_impl_Box__impl_ValidLeaf_1.f k l0 l2 = some r) :
 Calls Try.prog 136 #[.slice A0 l0.length c0, .func (.func 102) #[] #[.pointer A2]] w fun e w' => e = .returned (.int .i64 r) ∧ Below w.heap.size w w' := by
 have hu103 := Try.underlying103
 have HR0 := Aside0.mk hr0
 have HC0 := Aside0.mk hc0
 clear hr0 hc0
 have HR2 := Aside0.mk hr2
 have HC2 := Aside0.mk hc2
 clear hr2 hc2
 have HB := Aside0.mk (Below.refl w.heap.size w)
 have H : (slices_IndexFunc_impl_Box__impl_ValidLeaf_1.l0 k l0 (l0.length : Int) 0 l2) = some r := h
 clear h
 have H' := Aside0.mk H
 clear H
 go_enter Try.func136, Try.ntmps136
 go_wp2
 go_loopg [8] k (fun kq v8 w' => ∃ (x8_1 : Int), v8 = .int .i64 x8_1 ∧ Aside0 (slices_IndexFunc_impl_Box__impl_ValidLeaf_1.l0 kq l0 (l0.length : Int) x8_1 l2 = some r) ∧ Aside0 (kq ≤ k) ∧ Aside0 (Below w.heap.size w w'))
 case atStart => exact ⟨(0), zR, H', ⟨Nat.le_refl _⟩, ⟨pB0 HB.out⟩⟩
 case round =>
  clear H'
  try clear c1
  try clear c2
  try clear p2
  obtain ⟨x8_1, rfl, HA, HK1, HB⟩ := hrel
  cases gk with
  | zero => exact absurd HA.out (by simp [slices_IndexFunc_impl_Box__impl_ValidLeaf_1.l0])
  | succ k1 =>
    have H := HA.out
    clear HA
    simp only [slices_IndexFunc_impl_Box__impl_ValidLeaf_1.l0] at H
    by_cases c4 : x8_1 < (l0.length : Int)
    rotate_left
    · rw [if_neg c4] at H
      have c4b0 : decide (x8_1 < (l0.length : Int)) = false := decide_eq_false c4
      clear c4
      obtain rfl := Option.some.inj H
      go_wp2
      go_ret
      exact ⟨zE, pB0 HB.out⟩
    rw [if_pos c4] at H
    have c4b0 := decide_eq_true c4
    clear c4
    by_cases c5 : 0 ≤ x8_1
    rotate_left
    · rw [if_neg c5] at H
      exact absurd H (by simp)
    rw [if_pos c5] at H
    have c5b0 := decide_eq_true c5
    clear c5
    by_cases c6 : x8_1 < (l0.length : Int)
    rotate_left
    · rw [if_neg c6] at H
      exact absurd H (by simp)
    rw [if_pos c6] at H
    have c6b0 := decide_eq_true c6
    clear c6
    replace H := Option.bind_eq_some_iff.mp H
    obtain ⟨t388, A70, H⟩ := H
    have A7 := Aside0.mk A70
    clear A70
    by_cases c8 : t388 = true
    · subst c8
      have H1 : (some x8_1) = some r := by rw [if_pos rfl] at H; exact H
      clear H
      have H := H1
      clear H1
      obtain rfl := Option.some.inj H
      have p387 : 0 ≤ (x8_1 : Int) := zD
      have q387 : x8_1 < (l0.length : Int) := zD
      obtain ⟨ad387, e387, hx387_0, hx387_1, hx387_2, hx387_3⟩ := at_T103 HR0.out x8_1 p387 q387
      cases e387
      try replace hx387_0 := zH HB hx387_0
      try replace hx387_1 := zH HB hx387_1
      try replace hx387_2 := zH HB hx387_2
      try replace hx387_3 := zH HB hx387_3
      replace p387 := eq_true p387
      replace q387 := eq_true q387
      go_wp2_with (first | (go_at_call 102; (with_reducible refine (impl_ValidLeaf_1.calls ((rd_T103 l0 x8_1).f0) ((rd_T103 l0 x8_1).f1) ((rd_T103 l0 x8_1).f2) ((rd_T103 l0 x8_1).f3) _ c2 l2 true _ ?side1 ?side2 A7.out).mono ?_); (case side1 => exact pC (Kd.C_below HR2.out HB.out)); (case side2 => exact HC2.out); rintro e w9 ⟨rfl, hb⟩; replace HB := zW (pB0 HB.out) hb; (try clear hb); (try clear hb2); (try clear hk); (try clear hi)))
      go_ret
      exact ⟨zE, pB0 HB.out⟩
    replace c8 := Bool.eq_false_iff.mpr c8
    subst c8
    have H1 : (slices_IndexFunc_impl_Box__impl_ValidLeaf_1.l0 k1 l0 (l0.length : Int) (wrap64 (x8_1 + 1)) l2) = some r := by rw [if_neg (show ¬ (false = true) by decide)] at H; exact H
    clear H
    have H := H1
    clear H1
    have H' := Aside0.mk H
    clear H
    have p387 : 0 ≤ (x8_1 : Int) := zD
    have q387 : x8_1 < (l0.length : Int) := zD
    obtain ⟨ad387, e387, hx387_0, hx387_1, hx387_2, hx387_3⟩ := at_T103 HR0.out x8_1 p387 q387
    cases e387
    try replace hx387_0 := zH HB hx387_0
    try replace hx387_1 := zH HB hx387_1
    try replace hx387_2 := zH HB hx387_2
    try replace hx387_3 := zH HB hx387_3
    replace p387 := eq_true p387
    replace q387 := eq_true q387
    go_wp2_with (first | (go_at_call 102; (with_reducible refine (impl_ValidLeaf_1.calls ((rd_T103 l0 x8_1).f0) ((rd_T103 l0 x8_1).f1) ((rd_T103 l0 x8_1).f2) ((rd_T103 l0 x8_1).f3) _ c2 l2 false _ ?side1 ?side2 A7.out).mono ?_); (case side1 => exact pC (Kd.C_below HR2.out HB.out)); (case side2 => exact HC2.out); rintro e w10 ⟨rfl, hb⟩; replace HB := zW (pB0 HB.out) hb; (try clear hb); (try clear hb2); (try clear hk); (try clear hi)))
    go_roundg k1
    case measure => have := HK1.out; omega
    case rel => exact ⟨(wrap64 (x8_1 + 1)), zR, H', ⟨by have := HK1.out; omega⟩, ⟨pB0 HB.out⟩⟩
def slices_ContainsFunc_impl_Box__impl_ValidLeaf_1.f (k : Nat) (l0 : List (S103))  (l2 : List (S36)) : Option (Bool) := (slices_IndexFunc_impl_Box__impl_ValidLeaf_1.f k l0 l2).bind fun t389 => (some (decide (t389 ≥ 0)))
theorem slices_ContainsFunc_impl_Box__impl_ValidLeaf_1.mono : ∀ a0 a1 k, LeO (slices_ContainsFunc_impl_Box__impl_ValidLeaf_1.f k a0 a1) (slices_ContainsFunc_impl_Box__impl_ValidLeaf_1.f (k + 1) a0 a1) := by
 intro a0 a1 k
 unfold slices_ContainsFunc_impl_Box__impl_ValidLeaf_1.f
 repeat' first
  | (with_reducible exact slices_IndexFunc_impl_Box__impl_ValidLeaf_1.mono _ _ _)
  | (with_reducible exact LeO.refl _)
  | (with_reducible exact LeO.none _)
  | (with_reducible refine LeO.ite ?_ ?_)
  | (with_reducible refine LeO.bind ?_ (fun _ => ?_))
  | exact slices_IndexFunc_impl_Box__impl_ValidLeaf_1.mono _ _ _
  | exact LeO.none _
  | refine LeO.ite ?_ ?_
  | refine LeO.bind ?_ (fun _ => ?_)
set_option maxHeartbeats 8000000 in
set_option maxRecDepth 100000 in
theorem slices_ContainsFunc_impl_Box__impl_ValidLeaf_1.calls (k : Nat) (A0 : Option Addr) (c0 : Nat) (l0 : List (S103))  (A2 : Option Addr) (c2 : Nat) (l2 : List (S36)) (r : Bool) (w : World) (hr0 : Kd.C k103 w A0 l0.length l0) (hc0 : l0.length ≤ c0) (hr2 : Kd.C k36 w A2 l2.length l2) (hc2 : l2.length ≤ c2) (h : slices_ContainsFunc_impl_Box__impl_ValidLeaf_1.f k l0 l2 = some r) :
 Calls Try.prog 101 #[.slice A0 l0.length c0, .func (.func 102) #[] #[.pointer A2]] w fun e w' => e = .returned (.bool r) ∧ Below w.heap.size w w' := by
 have HR0 := Aside0.mk hr0
 have HC0 := Aside0.mk hc0
 clear hr0 hc0
 have HR2 := Aside0.mk hr2
 have HC2 := Aside0.mk hc2
 clear hr2 hc2
 have HB := Aside0.mk (Below.refl w.heap.size w)
 have H : ((slices_IndexFunc_impl_Box__impl_ValidLeaf_1.f k l0 l2).bind fun t389 => (some (decide (t389 ≥ 0)))) = some r := h
 clear h
 replace H := Option.bind_eq_some_iff.mp H
 obtain ⟨t389, A40, H⟩ := H
 have A4 := Aside0.mk A40
 clear A40
 obtain rfl := Option.some.inj H
 go_enter Try.func101, Try.ntmps101
 go_wp2_with (first | ((with_reducible refine gate_callee (f := 136) rfl ?_); refine goesL_ (some 7) rfl rfl Try.func136 (by kernel_rfl) rfl #[.slice A0 l0.length c0, .func (.func 102) #[] #[.pointer A2]] rfl pA ?_; (with_reducible refine (slices_IndexFunc_impl_Box__impl_ValidLeaf_1.calls k _ _ l0  _ c2 l2 t389 _ ?side1 ?side2 ?side3 ?side4 A4.out).mono ?_); (case side1 => exact pC HR0.out); (case side2 => exact HC0.out); (case side3 => exact pC HR2.out); (case side4 => exact HC2.out); rintro e w5 ⟨rfl, hb⟩; refine ⟨_, rfl, ?_⟩; replace HB := zW (pB0 HB.out) hb; (try clear hb); (try clear hb2); (try clear hk); (try clear hi)))
 go_ret
 exact ⟨zE, pB0 HB.out⟩
def impl_ValidLeaf.j0 : Nat → Bool → ByteArray → ByteArray → Int → ByteArray → Int → Int → Int → Int → List (S103) → Option (Bool)
 | 0, _, _, _, _, _, _, _, _, _, _ => none
 | k + 1, x24, x391000, x391001, x391002, x391003, x391004, x391005, x391006, x391007, x391008 => if x24 = true then (some false) else ((impl_within.f x391006 10 20000).bind fun t395 => (if t395 = true then ((impl_within.f x391007 10 20000).bind fun t396 => (if t396 = true then (if (x391008.length : Int) > 6 then (some false) else ((slices_ContainsFunc_impl_Box__impl_ValidLeaf_1.f k x391008 [(⟨x391000, x391001, x391002, (⟨x391003, x391004, x391005⟩ : S33), x391006, x391007, x391008⟩ : S36)]).bind fun t397 => (some (!t397)))) else (some false))) else (some false)))
def impl_ValidLeaf.f (k : Nat) (a0_0 : ByteArray) (a0_1 : ByteArray) (a0_2 : Int) (a0_3 : ByteArray) (a0_4 : Int) (a0_5 : Int) (a0_6 : Int) (a0_7 : Int) (l0_8 : List (S103)) : Option (Bool) := (impl_IsName.f k a0_0).bind fun t391 => (if t391 = true then ((impl_IsName.f k a0_1).bind fun t392 => (if t392 = true then ((impl_within.f a0_2 0 999).bind fun t393 => (if t393 = true then ((impl_ValidVeneer.f a0_3 a0_4 a0_5).bind fun t394 => (impl_ValidLeaf.j0 k (!t394) a0_0 a0_1 a0_2 a0_3 a0_4 a0_5 a0_6 a0_7 l0_8)) else (impl_ValidLeaf.j0 k true a0_0 a0_1 a0_2 a0_3 a0_4 a0_5 a0_6 a0_7 l0_8))) else (impl_ValidLeaf.j0 k true a0_0 a0_1 a0_2 a0_3 a0_4 a0_5 a0_6 a0_7 l0_8))) else (impl_ValidLeaf.j0 k true a0_0 a0_1 a0_2 a0_3 a0_4 a0_5 a0_6 a0_7 l0_8))
theorem impl_ValidLeaf.mono_l : ∀ k, (∀ y0 y1 y2 y3 y4 y5 y6 y7 y8 y9, LeO (impl_ValidLeaf.j0 k y0 y1 y2 y3 y4 y5 y6 y7 y8 y9) (impl_ValidLeaf.j0 (k + 1) y0 y1 y2 y3 y4 y5 y6 y7 y8 y9))
 | 0 => fun _ _ _ _ _ _ _ _ _ _ r h => by simp [impl_ValidLeaf.j0] at h
 | k + 1 => by
   have ih0 := impl_ValidLeaf.mono_l k
   · intro y0 y1 y2 y3 y4 y5 y6 y7 y8 y9
     unfold impl_ValidLeaf.j0
     repeat' first
     | (with_reducible exact ih0 _ _ _ _ _ _ _ _ _ _)
     | (with_reducible exact impl_IsName.mono _ _)
     | (with_reducible exact slices_ContainsFunc_impl_Box__impl_ValidLeaf_1.mono _ _ _)
     | (with_reducible exact LeO.refl _)
     | (with_reducible exact LeO.none _)
     | (with_reducible refine LeO.ite ?_ ?_)
     | (with_reducible refine LeO.bind ?_ (fun _ => ?_))
     | exact ih0 _ _ _ _ _ _ _ _ _ _
     | exact impl_IsName.mono _ _
     | exact slices_ContainsFunc_impl_Box__impl_ValidLeaf_1.mono _ _ _
     | exact LeO.none _
     | refine LeO.ite ?_ ?_
     | refine LeO.bind ?_ (fun _ => ?_)
theorem impl_ValidLeaf.mono : ∀ a0 a1 a2 a3 a4 a5 a6 a7 a8 k, LeO (impl_ValidLeaf.f k a0 a1 a2 a3 a4 a5 a6 a7 a8) (impl_ValidLeaf.f (k + 1) a0 a1 a2 a3 a4 a5 a6 a7 a8) := by
 intro a0 a1 a2 a3 a4 a5 a6 a7 a8 k
 have ih0 := impl_ValidLeaf.mono_l k
 unfold impl_ValidLeaf.f
 repeat' first
  | (with_reducible exact ih0 _ _ _ _ _ _ _ _ _ _)
  | (with_reducible exact impl_IsName.mono _ _)
  | (with_reducible exact slices_ContainsFunc_impl_Box__impl_ValidLeaf_1.mono _ _ _)
  | (with_reducible exact LeO.refl _)
  | (with_reducible exact LeO.none _)
  | (with_reducible refine LeO.ite ?_ ?_)
  | (with_reducible refine LeO.bind ?_ (fun _ => ?_))
  | exact ih0 _ _ _ _ _ _ _ _ _ _
  | exact impl_IsName.mono _ _
  | exact slices_ContainsFunc_impl_Box__impl_ValidLeaf_1.mono _ _ _
  | exact LeO.none _
  | refine LeO.ite ?_ ?_
  | refine LeO.bind ?_ (fun _ => ?_)
set_option maxHeartbeats 8000000 in
set_option maxRecDepth 100000 in
theorem impl_ValidLeaf.calls (k : Nat) (a0_0 : ByteArray) (a0_1 : ByteArray) (a0_2 : Int) (a0_3 : ByteArray) (a0_4 : Int) (a0_5 : Int) (a0_6 : Int) (a0_7 : Int) (A0_8 : Option Addr) (c0_8 : Nat) (l0_8 : List (S103)) (r : Bool) (w : World) (hr0_8 : Kd.C k103 w A0_8 l0_8.length l0_8) (hc0_8 : l0_8.length ≤ c0_8) (h : impl_ValidLeaf.f k a0_0 a0_1 a0_2 a0_3 a0_4 a0_5 a0_6 a0_7 l0_8 = some r) :
 Calls Try.prog 56 #[.agg #[.string a0_0, .string a0_1, .int .i64 a0_2, .string a0_3, .int .i64 a0_4, .int .i64 a0_5, .int .i64 a0_6, .int .i64 a0_7, .slice A0_8 l0_8.length c0_8]] w fun e w' => e = .returned (.bool r) ∧ Below w.heap.size w w' := by
 have hu36 := Try.underlying36
 have hu33 := Try.underlying33
 have HR0_8 := Aside0.mk hr0_8
 have HC0_8 := Aside0.mk hc0_8
 clear hr0_8 hc0_8
 have HB := Aside0.mk (Below.refl w.heap.size w)
 have H : ((impl_IsName.f k a0_0).bind fun t391 => (if t391 = true then ((impl_IsName.f k a0_1).bind fun t392 => (if t392 = true then ((impl_within.f a0_2 0 999).bind fun t393 => (if t393 = true then ((impl_ValidVeneer.f a0_3 a0_4 a0_5).bind fun t394 => (impl_ValidLeaf.j0 k (!t394) a0_0 a0_1 a0_2 a0_3 a0_4 a0_5 a0_6 a0_7 l0_8)) else (impl_ValidLeaf.j0 k true a0_0 a0_1 a0_2 a0_3 a0_4 a0_5 a0_6 a0_7 l0_8))) else (impl_ValidLeaf.j0 k true a0_0 a0_1 a0_2 a0_3 a0_4 a0_5 a0_6 a0_7 l0_8))) else (impl_ValidLeaf.j0 k true a0_0 a0_1 a0_2 a0_3 a0_4 a0_5 a0_6 a0_7 l0_8))) = some r := h
 clear h
 have HC2 := Aside0.mk H
 clear H
 go_enter Try.func56, Try.ntmps56
 go_upto_region 1 with (first | ((with_reducible refine gate_dst (N := 1) rfl ?_); (try (refine gate_guard (by rfl) ?_; dsimp only)); refine zB 1 #[.string a0_0, .string a0_1, .int .i64 a0_2, .string a0_3, .int .i64 a0_4, .int .i64 a0_5, .int .i64 a0_6, .int .i64 a0_7, .slice A0_8 l0_8.length c0_8] 36 ?_; intro gb390 hg w3 hbox hb; have BK390 := Aside0.mk (hbox); have GW390 := zS (pB0 HB.out) hg; have GE390 := zS (pB0 HB.out) hg; replace HB := zW (pB0 HB.out) hb; clear hb hbox hg))
 (try simp only [Act.put, List.setIfInBounds_toArray, List.set_cons_zero, List.set_cons_succ])
 go_cut [24] (fun v24 wc => ∃ (kq : Nat) (x24_1 : Bool), v24 = .bool x24_1 ∧ Aside0 (impl_ValidLeaf.j0 kq x24_1 a0_0 a0_1 a0_2 a0_3 a0_4 a0_5 a0_6 a0_7 l0_8 = some r) ∧ Aside0 (kq ≤ k) ∧ Aside0 (wc.heap[gb390]? = some (.cells #[.string a0_0, .string a0_1, .int .i64 a0_2, .string a0_3, .int .i64 a0_4, .int .i64 a0_5, .int .i64 a0_6, .int .i64 a0_7, (.slice A0_8 l0_8.length c0_8)] 36 (0, 0))) ∧ Aside0 (Below w.heap.size w wc))
 case first =>
  have H := HC2.out
  clear HC2
  replace H := Option.bind_eq_some_iff.mp H
  obtain ⟨t391, A40, H⟩ := H
  have A4 := Aside0.mk A40
  clear A40
  by_cases c5 : t391 = true
  rotate_left
  · replace c5 := Bool.eq_false_iff.mpr c5
    subst c5
    have H1 : (impl_ValidLeaf.j0 k true a0_0 a0_1 a0_2 a0_3 a0_4 a0_5 a0_6 a0_7 l0_8) = some r := by rw [if_neg (show ¬ (false = true) by decide)] at H; exact H
    clear H
    have H := H1
    clear H1
    have H' := Aside0.mk H
    clear H
    obtain ⟨hcz15_0, hfz15_0, hcz15_1, hfz15_1, hcz15_2, hfz15_2, hcz15_3, hfz15_3, hcz15_4, hfz15_4, hcz15_5, hfz15_5, hcz15_6, hfz15_6, hcz15_7, hfz15_7, hcz15_8, hfz15_8⟩ := zw9 BK390
    go_wp2_with (first | ((with_reducible refine gate_callee (f := 99) rfl ?_); refine goesL_ (some 5) rfl rfl Try.func99 (by kernel_rfl) rfl #[.string a0_0] rfl pA ?_; (with_reducible refine (impl_IsName.calls k a0_0 false _ A4.out).mono ?_); rintro e w' ⟨rfl, ⟨nd, rfl⟩⟩; refine ⟨_, rfl, ?_⟩))
    go_meet
    case rel => exact ⟨_, (true), zR, H', ⟨by first | omega | exact Nat.le_refl _⟩, ⟨pK BK390.out⟩, ⟨pB1 HB.out GE390.out⟩⟩
  subst c5
  have H1 : ((impl_IsName.f k a0_1).bind fun t392 => (if t392 = true then ((impl_within.f a0_2 0 999).bind fun t393 => (if t393 = true then ((impl_ValidVeneer.f a0_3 a0_4 a0_5).bind fun t394 => (impl_ValidLeaf.j0 k (!t394) a0_0 a0_1 a0_2 a0_3 a0_4 a0_5 a0_6 a0_7 l0_8)) else (impl_ValidLeaf.j0 k true a0_0 a0_1 a0_2 a0_3 a0_4 a0_5 a0_6 a0_7 l0_8))) else (impl_ValidLeaf.j0 k true a0_0 a0_1 a0_2 a0_3 a0_4 a0_5 a0_6 a0_7 l0_8))) = some r := by rw [if_pos rfl] at H; exact H
  clear H
  have H := H1
  clear H1
  replace H := Option.bind_eq_some_iff.mp H
  obtain ⟨t392, A60, H⟩ := H
  have A6 := Aside0.mk A60
  clear A60
  by_cases c7 : t392 = true
  rotate_left
  · replace c7 := Bool.eq_false_iff.mpr c7
    subst c7
    have H1 : (impl_ValidLeaf.j0 k true a0_0 a0_1 a0_2 a0_3 a0_4 a0_5 a0_6 a0_7 l0_8) = some r := by rw [if_neg (show ¬ (false = true) by decide)] at H; exact H
    clear H
    have H := H1
    clear H1
    have H' := Aside0.mk H
    clear H
    obtain ⟨hcz14_0, hfz14_0, hcz14_1, hfz14_1, hcz14_2, hfz14_2, hcz14_3, hfz14_3, hcz14_4, hfz14_4, hcz14_5, hfz14_5, hcz14_6, hfz14_6, hcz14_7, hfz14_7, hcz14_8, hfz14_8⟩ := zw9 BK390
    go_wp2_with (first | ((with_reducible refine gate_callee (f := 99) rfl ?_); refine goesL_ (some 5) rfl rfl Try.func99 (by kernel_rfl) rfl #[.string a0_0] rfl pA ?_; (with_reducible refine (impl_IsName.calls k a0_0 true _ A4.out).mono ?_); rintro e w' ⟨rfl, ⟨nd, rfl⟩⟩; refine ⟨_, rfl, ?_⟩) | (go_at_call 99; (with_reducible refine (impl_IsName.calls k a0_1 false _ A6.out).mono ?_); rintro e w' ⟨rfl, ⟨nd, rfl⟩⟩))
    go_meet
    case rel => exact ⟨_, (true), zR, H', ⟨by first | omega | exact Nat.le_refl _⟩, ⟨pK BK390.out⟩, ⟨pB1 HB.out GE390.out⟩⟩
  subst c7
  have H1 : ((impl_within.f a0_2 0 999).bind fun t393 => (if t393 = true then ((impl_ValidVeneer.f a0_3 a0_4 a0_5).bind fun t394 => (impl_ValidLeaf.j0 k (!t394) a0_0 a0_1 a0_2 a0_3 a0_4 a0_5 a0_6 a0_7 l0_8)) else (impl_ValidLeaf.j0 k true a0_0 a0_1 a0_2 a0_3 a0_4 a0_5 a0_6 a0_7 l0_8))) = some r := by rw [if_pos rfl] at H; exact H
  clear H
  have H := H1
  clear H1
  replace H := Option.bind_eq_some_iff.mp H
  obtain ⟨t393, A80, H⟩ := H
  have A8 := Aside0.mk A80
  clear A80
  by_cases c9 : t393 = true
  rotate_left
  · replace c9 := Bool.eq_false_iff.mpr c9
    subst c9
    have H1 : (impl_ValidLeaf.j0 k true a0_0 a0_1 a0_2 a0_3 a0_4 a0_5 a0_6 a0_7 l0_8) = some r := by rw [if_neg (show ¬ (false = true) by decide)] at H; exact H
    clear H
    have H := H1
    clear H1
    have H' := Aside0.mk H
    clear H
    obtain ⟨hcz13_0, hfz13_0, hcz13_1, hfz13_1, hcz13_2, hfz13_2, hcz13_3, hfz13_3, hcz13_4, hfz13_4, hcz13_5, hfz13_5, hcz13_6, hfz13_6, hcz13_7, hfz13_7, hcz13_8, hfz13_8⟩ := zw9 BK390
    go_wp2_with (first | ((with_reducible refine gate_callee (f := 99) rfl ?_); refine goesL_ (some 5) rfl rfl Try.func99 (by kernel_rfl) rfl #[.string a0_0] rfl pA ?_; (with_reducible refine (impl_IsName.calls k a0_0 true _ A4.out).mono ?_); rintro e w' ⟨rfl, ⟨nd, rfl⟩⟩; refine ⟨_, rfl, ?_⟩) | (go_at_call 99; (with_reducible refine (impl_IsName.calls k a0_1 true _ A6.out).mono ?_); rintro e w' ⟨rfl, ⟨nd, rfl⟩⟩) | (go_at_call 83; (with_reducible refine (impl_within.calls a0_2 0 999 false _ A8.out).mono ?_); rintro e w' ⟨rfl, ⟨nd, rfl⟩⟩))
    go_meet
    case rel => exact ⟨_, (true), zR, H', ⟨by first | omega | exact Nat.le_refl _⟩, ⟨pK BK390.out⟩, ⟨pB1 HB.out GE390.out⟩⟩
  subst c9
  have H1 : ((impl_ValidVeneer.f a0_3 a0_4 a0_5).bind fun t394 => (impl_ValidLeaf.j0 k (!t394) a0_0 a0_1 a0_2 a0_3 a0_4 a0_5 a0_6 a0_7 l0_8)) = some r := by rw [if_pos rfl] at H; exact H
  clear H
  have H := H1
  clear H1
  replace H := Option.bind_eq_some_iff.mp H
  obtain ⟨t394, A100, H⟩ := H
  have A10 := Aside0.mk A100
  clear A100
  have H' := Aside0.mk H
  clear H
  obtain ⟨hcz11_0, hfz11_0, hcz11_1, hfz11_1, hcz11_2, hfz11_2, hcz11_3, hfz11_3, hcz11_4, hfz11_4, hcz11_5, hfz11_5, hcz11_6, hfz11_6, hcz11_7, hfz11_7, hcz11_8, hfz11_8⟩ := zw9 BK390
  go_wp2_with (first | ((with_reducible refine gate_callee (f := 99) rfl ?_); refine goesL_ (some 5) rfl rfl Try.func99 (by kernel_rfl) rfl #[.string a0_0] rfl pA ?_; (with_reducible refine (impl_IsName.calls k a0_0 true _ A4.out).mono ?_); rintro e w' ⟨rfl, ⟨nd, rfl⟩⟩; refine ⟨_, rfl, ?_⟩) | (go_at_call 99; (with_reducible refine (impl_IsName.calls k a0_1 true _ A6.out).mono ?_); rintro e w' ⟨rfl, ⟨nd, rfl⟩⟩) | (go_at_call 83; (with_reducible refine (impl_within.calls a0_2 0 999 true _ A8.out).mono ?_); rintro e w' ⟨rfl, ⟨nd, rfl⟩⟩) | (go_at_call 100; (with_reducible refine (impl_ValidVeneer.calls a0_3 a0_4 a0_5 t394 _ A10.out).mono ?_); rintro e w12 ⟨rfl, hb⟩; replace BK390 := zK BK390 hb; replace HB := zW (pB1 HB.out GE390.out) hb; (try clear hb); (try clear hb2); (try clear hk); (try clear hi)))
  go_meet
  case rel => exact ⟨_, (!t394), zR, H', ⟨by first | omega | exact Nat.le_refl _⟩, ⟨pK BK390.out⟩, ⟨pB1 HB.out GE390.out⟩⟩
 case rest =>
  clear HC2
  try clear p2
  try clear c5
  try clear c7
  try clear c9
  try clear hcz11_0
  try clear hcz11_1
  try clear hcz11_2
  try clear hcz11_3
  try clear hcz11_4
  try clear hcz11_5
  try clear hcz11_6
  try clear hcz11_7
  try clear hcz11_8
  try clear hcz13_0
  try clear hcz13_1
  try clear hcz13_2
  try clear hcz13_3
  try clear hcz13_4
  try clear hcz13_5
  try clear hcz13_6
  try clear hcz13_7
  try clear hcz13_8
  try clear hcz14_0
  try clear hcz14_1
  try clear hcz14_2
  try clear hcz14_3
  try clear hcz14_4
  try clear hcz14_5
  try clear hcz14_6
  try clear hcz14_7
  try clear hcz14_8
  try clear hcz15_0
  try clear hcz15_1
  try clear hcz15_2
  try clear hcz15_3
  try clear hcz15_4
  try clear hcz15_5
  try clear hcz15_6
  try clear hcz15_7
  try clear hcz15_8
  try clear hfz11_0
  try clear hfz11_1
  try clear hfz11_2
  try clear hfz11_3
  try clear hfz11_4
  try clear hfz11_5
  try clear hfz11_6
  try clear hfz11_7
  try clear hfz11_8
  try clear hfz13_0
  try clear hfz13_1
  try clear hfz13_2
  try clear hfz13_3
  try clear hfz13_4
  try clear hfz13_5
  try clear hfz13_6
  try clear hfz13_7
  try clear hfz13_8
  try clear hfz14_0
  try clear hfz14_1
  try clear hfz14_2
  try clear hfz14_3
  try clear hfz14_4
  try clear hfz14_5
  try clear hfz14_6
  try clear hfz14_7
  try clear hfz14_8
  try clear hfz15_0
  try clear hfz15_1
  try clear hfz15_2
  try clear hfz15_3
  try clear hfz15_4
  try clear hfz15_5
  try clear hfz15_6
  try clear hfz15_7
  try clear hfz15_8
  obtain ⟨kq, x24_1, rfl, HA, HJ1, BK390, HB⟩ := hcut
  cases kq with
  | zero => exact absurd HA.out (by simp [impl_ValidLeaf.j0])
  | succ kj1 =>
    have H := HA.out
    clear HA
    simp only [impl_ValidLeaf.j0] at H
    by_cases c16 : x24_1 = true
    · subst c16
      have H1 : (some false) = some r := by rw [if_pos rfl] at H; exact H
      clear H
      have H := H1
      clear H1
      obtain rfl := Option.some.inj H
      go_wp2
      go_ret
      exact ⟨zE, pB1 HB.out GE390.out⟩
    replace c16 := Bool.eq_false_iff.mpr c16
    subst c16
    have H1 : ((impl_within.f a0_6 10 20000).bind fun t395 => (if t395 = true then ((impl_within.f a0_7 10 20000).bind fun t396 => (if t396 = true then (if (l0_8.length : Int) > 6 then (some false) else ((slices_ContainsFunc_impl_Box__impl_ValidLeaf_1.f kj1 l0_8 [(⟨a0_0, a0_1, a0_2, (⟨a0_3, a0_4, a0_5⟩ : S33), a0_6, a0_7, l0_8⟩ : S36)]).bind fun t397 => (some (!t397)))) else (some false))) else (some false))) = some r := by rw [if_neg (show ¬ (false = true) by decide)] at H; exact H
    clear H
    have H := H1
    clear H1
    replace H := Option.bind_eq_some_iff.mp H
    obtain ⟨t395, A170, H⟩ := H
    have A17 := Aside0.mk A170
    clear A170
    by_cases c18 : t395 = true
    rotate_left
    · replace c18 := Bool.eq_false_iff.mpr c18
      subst c18
      have H1 : (some false) = some r := by rw [if_neg (show ¬ (false = true) by decide)] at H; exact H
      clear H
      have H := H1
      clear H1
      obtain rfl := Option.some.inj H
      obtain ⟨hcz27_0, hfz27_0, hcz27_1, hfz27_1, hcz27_2, hfz27_2, hcz27_3, hfz27_3, hcz27_4, hfz27_4, hcz27_5, hfz27_5, hcz27_6, hfz27_6, hcz27_7, hfz27_7, hcz27_8, hfz27_8⟩ := zw9 BK390
      go_wp2_with (first | ((with_reducible refine gate_callee (f := 83) rfl ?_); refine goesL_ (some 27) rfl rfl Try.func83 (by kernel_rfl) rfl #[.int .i64 a0_6, .int .i64 10, .int .i64 20000] rfl pA ?_; (with_reducible refine (impl_within.calls a0_6 10 20000 false _ A17.out).mono ?_); rintro e w' ⟨rfl, ⟨nd, rfl⟩⟩; refine ⟨_, rfl, ?_⟩))
      go_ret
      exact ⟨zE, pB1 HB.out GE390.out⟩
    subst c18
    have H1 : ((impl_within.f a0_7 10 20000).bind fun t396 => (if t396 = true then (if (l0_8.length : Int) > 6 then (some false) else ((slices_ContainsFunc_impl_Box__impl_ValidLeaf_1.f kj1 l0_8 [(⟨a0_0, a0_1, a0_2, (⟨a0_3, a0_4, a0_5⟩ : S33), a0_6, a0_7, l0_8⟩ : S36)]).bind fun t397 => (some (!t397)))) else (some false))) = some r := by rw [if_pos rfl] at H; exact H
    clear H
    have H := H1
    clear H1
    replace H := Option.bind_eq_some_iff.mp H
    obtain ⟨t396, A190, H⟩ := H
    have A19 := Aside0.mk A190
    clear A190
    by_cases c20 : t396 = true
    rotate_left
    · replace c20 := Bool.eq_false_iff.mpr c20
      subst c20
      have H1 : (some false) = some r := by rw [if_neg (show ¬ (false = true) by decide)] at H; exact H
      clear H
      have H := H1
      clear H1
      obtain rfl := Option.some.inj H
      obtain ⟨hcz26_0, hfz26_0, hcz26_1, hfz26_1, hcz26_2, hfz26_2, hcz26_3, hfz26_3, hcz26_4, hfz26_4, hcz26_5, hfz26_5, hcz26_6, hfz26_6, hcz26_7, hfz26_7, hcz26_8, hfz26_8⟩ := zw9 BK390
      go_wp2_with (first | ((with_reducible refine gate_callee (f := 83) rfl ?_); refine goesL_ (some 27) rfl rfl Try.func83 (by kernel_rfl) rfl #[.int .i64 a0_6, .int .i64 10, .int .i64 20000] rfl pA ?_; (with_reducible refine (impl_within.calls a0_6 10 20000 true _ A17.out).mono ?_); rintro e w' ⟨rfl, ⟨nd, rfl⟩⟩; refine ⟨_, rfl, ?_⟩) | (go_at_call 83; (with_reducible refine (impl_within.calls a0_7 10 20000 false _ A19.out).mono ?_); rintro e w' ⟨rfl, ⟨nd, rfl⟩⟩))
      go_ret
      exact ⟨zE, pB1 HB.out GE390.out⟩
    subst c20
    have H1 : (if (l0_8.length : Int) > 6 then (some false) else ((slices_ContainsFunc_impl_Box__impl_ValidLeaf_1.f kj1 l0_8 [(⟨a0_0, a0_1, a0_2, (⟨a0_3, a0_4, a0_5⟩ : S33), a0_6, a0_7, l0_8⟩ : S36)]).bind fun t397 => (some (!t397)))) = some r := by rw [if_pos rfl] at H; exact H
    clear H
    have H := H1
    clear H1
    by_cases c21 : (l0_8.length : Int) > 6
    · rw [if_pos c21] at H
      have c21b0 := decide_eq_true c21
      have c21b1 : decide (6 < l0_8.length) = true := decide_eq_true (by omega)
      clear c21
      obtain rfl := Option.some.inj H
      obtain ⟨hcz22_0, hfz22_0, hcz22_1, hfz22_1, hcz22_2, hfz22_2, hcz22_3, hfz22_3, hcz22_4, hfz22_4, hcz22_5, hfz22_5, hcz22_6, hfz22_6, hcz22_7, hfz22_7, hcz22_8, hfz22_8⟩ := zw9 BK390
      go_wp2_with (first | ((with_reducible refine gate_callee (f := 83) rfl ?_); refine goesL_ (some 27) rfl rfl Try.func83 (by kernel_rfl) rfl #[.int .i64 a0_6, .int .i64 10, .int .i64 20000] rfl pA ?_; (with_reducible refine (impl_within.calls a0_6 10 20000 true _ A17.out).mono ?_); rintro e w' ⟨rfl, ⟨nd, rfl⟩⟩; refine ⟨_, rfl, ?_⟩) | (go_at_call 83; (with_reducible refine (impl_within.calls a0_7 10 20000 true _ A19.out).mono ?_); rintro e w' ⟨rfl, ⟨nd, rfl⟩⟩))
      go_ret
      exact ⟨zE, pB1 HB.out GE390.out⟩
    rw [if_neg c21] at H
    have c21b0 : decide (6 < (l0_8.length : Int)) = false := decide_eq_false c21
    have c21b1 : decide (6 < l0_8.length) = false := decide_eq_false (by omega)
    clear c21
    replace H := Option.bind_eq_some_iff.mp H
    obtain ⟨t397, A230, H⟩ := H
    have A23 := Aside0.mk A230
    clear A230
    obtain rfl := Option.some.inj H
    obtain ⟨hcz24_0, hfz24_0, hcz24_1, hfz24_1, hcz24_2, hfz24_2, hcz24_3, hfz24_3, hcz24_4, hfz24_4, hcz24_5, hfz24_5, hcz24_6, hfz24_6, hcz24_7, hfz24_7, hcz24_8, hfz24_8⟩ := zw9 BK390
    go_wp2_with (first | ((with_reducible refine gate_callee (f := 83) rfl ?_); refine goesL_ (some 27) rfl rfl Try.func83 (by kernel_rfl) rfl #[.int .i64 a0_6, .int .i64 10, .int .i64 20000] rfl pA ?_; (with_reducible refine (impl_within.calls a0_6 10 20000 true _ A17.out).mono ?_); rintro e w' ⟨rfl, ⟨nd, rfl⟩⟩; refine ⟨_, rfl, ?_⟩) | (go_at_call 83; (with_reducible refine (impl_within.calls a0_7 10 20000 true _ A19.out).mono ?_); rintro e w' ⟨rfl, ⟨nd, rfl⟩⟩) | ((with_reducible refine gate_callee (f := 101) rfl ?_); refine goesL_ (some 44) rfl rfl Try.func101 (by kernel_rfl) rfl #[.slice A0_8 l0_8.length c0_8, .func (.func 102) #[] #[.pointer (some ⟨gb390, 0, none⟩)]] rfl pA ?_; (with_reducible refine (slices_ContainsFunc_impl_Box__impl_ValidLeaf_1.calls kj1 _ _ l0_8  _ 1 [(⟨a0_0, a0_1, a0_2, (⟨a0_3, a0_4, a0_5⟩ : S33), a0_6, a0_7, l0_8⟩ : S36)] t397 _ ?side1 ?side2 ?side3 ?side4 A23.out).mono ?_); (case side1 => exact pC (Kd.C_below HR0_8.out (pB1 HB.out GE390.out))); (case side2 => exact HC0_8.out); (case side3 => exact C_box (cs := #[.string a0_0, .string a0_1, .int .i64 a0_2, .string a0_3, .int .i64 a0_4, .int .i64 a0_5, .int .i64 a0_6, .int .i64 a0_7, .slice A0_8 l0_8.length c0_8]) (t := 36) (pK BK390.out) (k36_mk _ _ (by exact HC0_8.out) (by exact pC (Kd.C_below HR0_8.out (pB1 HB.out GE390.out))))); (case side4 => exact Nat.le_refl _); rintro e w25 ⟨rfl, hb⟩; refine ⟨_, rfl, ?_⟩; replace BK390 := zK BK390 hb; replace HB := zW (pB1 HB.out GE390.out) hb; (try clear hb); (try clear hb2); (try clear hk); (try clear hi)))
    go_ret
    exact ⟨zE, pB1 HB.out GE390.out⟩
end Go.Proofs.Ytfiiakhpdkdebaa.PFnExactTurnsThatFit

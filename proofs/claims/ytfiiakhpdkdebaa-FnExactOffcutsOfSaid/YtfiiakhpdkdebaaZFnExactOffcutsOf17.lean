/- What each function that a law reaches comes to, and the proof that its walk comes to it; laid by a program of this session. No condition. -/
import Derived.Test.YtfiiakhpdkdebaaZFnExactOffcutsOf0
import Derived.Test.YtfiiakhpdkdebaaZFnExactOffcutsOf13
import Derived.Test.YtfiiakhpdkdebaaZFnExactOffcutsOf16
namespace Go.Proofs.Ytfiiakhpdkdebaa.PFnExactOffcutsOf
open Go.RowKit Go.Proofs.YtfiiakhpdkdebaaW.PrintWords Go.Proofs.YtfiiakhpdkdebaaW.PrintLast Go.Proofs.YtfiiakhpdkdebaaW.PrintMore
attribute [local go_sem] max2_int min2_int max_two min_two max_three min_three max_four min_four
set_option linter.unusedVariables false
set_option linter.unusedSimpArgs false
def slices_IndexFunc_impl_Box__impl_ValidLeaf_1.l0 : Nat → List (S103) → Int → Int → List (S36) → Option (Int)
 | 0, _, _, _, _ => none
 | k + 1, x0, x7, x8, x802 => if x8 < x7 then (if 0 ≤ x8 then (if x8 < (x0.length : Int) then ((impl_ValidLeaf_1.f ((rd_T103 x0 x8).f0) ((rd_T103 x0 x8).f1) ((rd_T103 x0 x8).f2) ((rd_T103 x0 x8).f3) x802).bind fun t416 => (if t416 = true then (some x8) else (slices_IndexFunc_impl_Box__impl_ValidLeaf_1.l0 k x0 x7 (wrap64 (x8 + 1)) x802))) else (none)) else (none)) else (some (-1))
def slices_IndexFunc_impl_Box__impl_ValidLeaf_1.f (k : Nat) (l0 : List (S103))  (l2 : List (S36)) : Option (Int) := slices_IndexFunc_impl_Box__impl_ValidLeaf_1.l0 k l0 (l0.length : Int) 0 l2
theorem slices_IndexFunc_impl_Box__impl_ValidLeaf_1.mono_l : ∀ k, (∀ y0 y1 y2 y3, LeO (slices_IndexFunc_impl_Box__impl_ValidLeaf_1.l0 k y0 y1 y2 y3) (slices_IndexFunc_impl_Box__impl_ValidLeaf_1.l0 (k + 1) y0 y1 y2 y3))
 | 0 => fun _ _ _ _ r h => by simp [slices_IndexFunc_impl_Box__impl_ValidLeaf_1.l0] at h
 | k + 1 => by
   have ih0 := slices_IndexFunc_impl_Box__impl_ValidLeaf_1.mono_l k
   · intro y0 y1 y2 y3
     unfold slices_IndexFunc_impl_Box__impl_ValidLeaf_1.l0
     repeat' first
     | (with_reducible exact ih0 _ _ _ _)
     | (with_reducible exact LeO.refl _)
     | (with_reducible exact LeO.none _)
     | (with_reducible refine LeO.ite ?_ ?_)
     | (with_reducible refine LeO.bind ?_ (fun _ => ?_))
     | exact ih0 _ _ _ _
     | exact LeO.none _
     | refine LeO.ite ?_ ?_
     | refine LeO.bind ?_ (fun _ => ?_)
theorem slices_IndexFunc_impl_Box__impl_ValidLeaf_1.mono : ∀ a0 a1 k, LeO (slices_IndexFunc_impl_Box__impl_ValidLeaf_1.f k a0 a1) (slices_IndexFunc_impl_Box__impl_ValidLeaf_1.f (k + 1) a0 a1) := by
 intro a0 a1 k; have ih0 := slices_IndexFunc_impl_Box__impl_ValidLeaf_1.mono_l k; unfold slices_IndexFunc_impl_Box__impl_ValidLeaf_1.f
 repeat' first
  | (with_reducible exact ih0 _ _ _ _)
  | (with_reducible exact LeO.refl _)
  | (with_reducible exact LeO.none _)
  | (with_reducible refine LeO.ite ?_ ?_)
  | (with_reducible refine LeO.bind ?_ (fun _ => ?_))
  | exact ih0 _ _ _ _
  | exact LeO.none _
  | refine LeO.ite ?_ ?_
  | refine LeO.bind ?_ (fun _ => ?_)
set_option maxHeartbeats 8000000 in
set_option maxRecDepth 100000 in
theorem slices_IndexFunc_impl_Box__impl_ValidLeaf_1.calls (k : Nat) (A0 : Option Addr) (c0 : Nat) (l0 : List (S103))  (A2 : Option Addr) (c2 : Nat) (l2 : List (S36)) (r : Int) (w : World) (hr0 : Kd.C k103 w A0 l0.length l0) (hc0 : l0.length ≤ c0) (hr2 : Kd.C k36 w A2 l2.length l2) (hc2 : l2.length ≤ c2) (h : slices_IndexFunc_impl_Box__impl_ValidLeaf_1.f k l0 l2 = some r) :
 Calls Try.prog 136 #[.slice A0 l0.length c0, .func (.func 102) #[] #[.pointer A2]] w fun e w' => e = .returned (.int .i64 r) ∧ Below w.heap.size w w' := by
 have hu103 := Try.underlying103; have HR0 := Aside0.mk hr0; have HC0 := Aside0.mk hc0; clear hr0 hc0; have HR2 := Aside0.mk hr2; have HC2 := Aside0.mk hc2; clear hr2 hc2; have HB := Aside0.mk (Below.refl w.heap.size w); have H : (slices_IndexFunc_impl_Box__impl_ValidLeaf_1.l0 k l0 (l0.length : Int) 0 l2) = some r := h; clear h; have H' := Aside0.mk H; clear H
 go_enter Try.func136, Try.ntmps136
 go_wp2
 go_loopg [8] k (fun kq v8 w' => ∃ (x8_1 : Int), v8 = .int .i64 x8_1 ∧ Aside0 (slices_IndexFunc_impl_Box__impl_ValidLeaf_1.l0 kq l0 (l0.length : Int) x8_1 l2 = some r) ∧ Aside0 (kq ≤ k) ∧ Aside0 (Below w.heap.size w w'))
 case atStart => exact ⟨(0), zR, H', ⟨Nat.le_refl _⟩, ⟨pB0 HB.out⟩⟩
 case round =>
  clear H'; (try clear c1); (try clear c2); (try clear p2); obtain ⟨x8_1, rfl, HA, HK1, HB⟩ := hrel
  cases gk with
  | zero => exact absurd HA.out (by simp [slices_IndexFunc_impl_Box__impl_ValidLeaf_1.l0])
  | succ k1 =>
    have H := HA.out; clear HA; simp only [slices_IndexFunc_impl_Box__impl_ValidLeaf_1.l0] at H
    by_cases c4 : x8_1 < (l0.length : Int)
    rotate_left
    · rw [if_neg c4] at H
      have c4b0 := decide_eq_false c4; clear c4; obtain rfl := Option.some.inj H
      go_wp2
      go_ret
      exact ⟨zE, pB0 HB.out⟩
    rw [if_pos c4] at H; have c4b0 := decide_eq_true c4; clear c4
    by_cases c5 : 0 ≤ x8_1
    rotate_left
    · rw [if_neg c5] at H
      exact absurd H (by simp)
    rw [if_pos c5] at H; have c5b0 := decide_eq_true c5; clear c5
    by_cases c6 : x8_1 < (l0.length : Int)
    rotate_left
    · rw [if_neg c6] at H
      exact absurd H (by simp)
    rw [if_pos c6] at H; have c6b0 := decide_eq_true c6; clear c6; replace H := Option.bind_eq_some_iff.mp H; obtain ⟨t416, A70, H⟩ := H; have A7 := Aside0.mk A70; clear A70
    by_cases c8 : t416 = true
    · subst c8
      rw [if_pos rfl] at H; obtain rfl := Option.some.inj H; have p415 : 0 ≤ (x8_1 : Int) := zD; have q415 : x8_1 < (l0.length : Int) := zD; obtain ⟨ad415, e415, hx415_0, hx415_1, hx415_2, hx415_3⟩ := at_T103 HR0.out x8_1 p415 q415; cases e415
      try replace hx415_0 := zH HB hx415_0
      try replace hx415_1 := zH HB hx415_1
      try replace hx415_2 := zH HB hx415_2
      try replace hx415_3 := zH HB hx415_3
      replace p415 := eq_true p415; replace q415 := eq_true q415
      go_wp2_with (first | (go_at_call 102; (with_reducible refine (impl_ValidLeaf_1.calls ((rd_T103 l0 x8_1).f0) ((rd_T103 l0 x8_1).f1) ((rd_T103 l0 x8_1).f2) ((rd_T103 l0 x8_1).f3) _ c2 l2 true _ ?side1 ?side2 A7.out).mono ?_); (case side1 => exact pC (Kd.C_below HR2.out HB.out)); (case side2 => exact HC2.out); rintro e w9 ⟨rfl, hb⟩; replace HB := zW (pB0 HB.out) hb; (try clear hb); (try clear hb2); (try clear hk); (try clear hi)))
      go_ret
      exact ⟨zE, pB0 HB.out⟩
    replace c8 := Bool.eq_false_iff.mpr c8; subst c8
    rw [if_neg (show ¬ (false = true) by decide)] at H
    have H' := Aside0.mk H; clear H; have p415 : 0 ≤ (x8_1 : Int) := zD; have q415 : x8_1 < (l0.length : Int) := zD; obtain ⟨ad415, e415, hx415_0, hx415_1, hx415_2, hx415_3⟩ := at_T103 HR0.out x8_1 p415 q415; cases e415
    try replace hx415_0 := zH HB hx415_0
    try replace hx415_1 := zH HB hx415_1
    try replace hx415_2 := zH HB hx415_2
    try replace hx415_3 := zH HB hx415_3
    replace p415 := eq_true p415; replace q415 := eq_true q415
    go_wp2_with (first | (go_at_call 102; (with_reducible refine (impl_ValidLeaf_1.calls ((rd_T103 l0 x8_1).f0) ((rd_T103 l0 x8_1).f1) ((rd_T103 l0 x8_1).f2) ((rd_T103 l0 x8_1).f3) _ c2 l2 false _ ?side1 ?side2 A7.out).mono ?_); (case side1 => exact pC (Kd.C_below HR2.out HB.out)); (case side2 => exact HC2.out); rintro e w10 ⟨rfl, hb⟩; replace HB := zW (pB0 HB.out) hb; (try clear hb); (try clear hb2); (try clear hk); (try clear hi)))
    go_roundg k1
    case measure => have := HK1.out; omega
    case rel => exact ⟨(wrap64 (x8_1 + 1)), zR, H', ⟨by have := HK1.out; omega⟩, ⟨pB0 HB.out⟩⟩
def slices_ContainsFunc_impl_Box__impl_ValidLeaf_1.f (k : Nat) (l0 : List (S103))  (l2 : List (S36)) : Option (Bool) := (slices_IndexFunc_impl_Box__impl_ValidLeaf_1.f k l0 l2).bind fun t417 => (some (decide (t417 ≥ 0)))
theorem slices_ContainsFunc_impl_Box__impl_ValidLeaf_1.mono : ∀ a0 a1 k, LeO (slices_ContainsFunc_impl_Box__impl_ValidLeaf_1.f k a0 a1) (slices_ContainsFunc_impl_Box__impl_ValidLeaf_1.f (k + 1) a0 a1) := by
 intro a0 a1 k; unfold slices_ContainsFunc_impl_Box__impl_ValidLeaf_1.f
 repeat' first
  | (with_reducible exact slices_IndexFunc_impl_Box__impl_ValidLeaf_1.mono _ _ _)
  | (with_reducible exact LeO.refl _)
  | (with_reducible exact LeO.none _)
  | (with_reducible refine LeO.ite ?_ ?_)
  | (with_reducible refine LeO.bind ?_ (fun _ => ?_))
  | exact slices_IndexFunc_impl_Box__impl_ValidLeaf_1.mono _ _ _
  | exact LeO.none _
  | refine LeO.ite ?_ ?_
  | refine LeO.bind ?_ (fun _ => ?_)
set_option maxHeartbeats 8000000 in
set_option maxRecDepth 100000 in
theorem slices_ContainsFunc_impl_Box__impl_ValidLeaf_1.calls (k : Nat) (A0 : Option Addr) (c0 : Nat) (l0 : List (S103))  (A2 : Option Addr) (c2 : Nat) (l2 : List (S36)) (r : Bool) (w : World) (hr0 : Kd.C k103 w A0 l0.length l0) (hc0 : l0.length ≤ c0) (hr2 : Kd.C k36 w A2 l2.length l2) (hc2 : l2.length ≤ c2) (h : slices_ContainsFunc_impl_Box__impl_ValidLeaf_1.f k l0 l2 = some r) :
 Calls Try.prog 101 #[.slice A0 l0.length c0, .func (.func 102) #[] #[.pointer A2]] w fun e w' => e = .returned (.bool r) ∧ Below w.heap.size w w' := by
 have HR0 := Aside0.mk hr0; have HC0 := Aside0.mk hc0; clear hr0 hc0; have HR2 := Aside0.mk hr2; have HC2 := Aside0.mk hc2; clear hr2 hc2; have HB := Aside0.mk (Below.refl w.heap.size w)
 have H : ((slices_IndexFunc_impl_Box__impl_ValidLeaf_1.f k l0 l2).bind fun t417 => (some (decide (t417 ≥ 0)))) = some r := h
 clear h; replace H := Option.bind_eq_some_iff.mp H; obtain ⟨t417, A40, H⟩ := H; have A4 := Aside0.mk A40; clear A40; obtain rfl := Option.some.inj H
 go_enter Try.func101, Try.ntmps101
 go_wp2_with (first | ((with_reducible refine gate_callee (f := 136) rfl ?_); refine zJ (some 7) Try.func136 #[.slice A0 l0.length c0, .func (.func 102) #[] #[.pointer A2]] ?_; (with_reducible refine (slices_IndexFunc_impl_Box__impl_ValidLeaf_1.calls k _ _ l0  _ c2 l2 t417 _ ?side1 ?side2 ?side3 ?side4 A4.out).mono ?_); (case side1 => exact pC HR0.out); (case side2 => exact HC0.out); (case side3 => exact pC HR2.out); (case side4 => exact HC2.out); rintro e w5 ⟨rfl, hb⟩; refine ⟨_, rfl, ?_⟩; replace HB := zW (pB0 HB.out) hb; (try clear hb); (try clear hb2); (try clear hk); (try clear hi)))
 go_ret
 exact ⟨zE, pB0 HB.out⟩
def impl_ValidLeaf.j0 : Nat → Bool → ByteArray → ByteArray → Int → ByteArray → Int → Int → Int → Int → List (S103) → Option (Bool)
 | 0, _, _, _, _, _, _, _, _, _, _ => none
 | k + 1, x24, x419000, x419001, x419002, x419003, x419004, x419005, x419006, x419007, x419008 => if x24 = true then (some false) else ((impl_within.f x419006 10 20000).bind fun t423 => (if t423 = true then ((impl_within.f x419007 10 20000).bind fun t424 => (if t424 = true then (if (x419008.length : Int) > 6 then (some false) else ((slices_ContainsFunc_impl_Box__impl_ValidLeaf_1.f k x419008 [(⟨x419000, x419001, x419002, (⟨x419003, x419004, x419005⟩ : S33), x419006, x419007, x419008⟩ : S36)]).bind fun t425 => (some (!t425)))) else (some false))) else (some false)))
def impl_ValidLeaf.f (k : Nat) (a0_0 : ByteArray) (a0_1 : ByteArray) (a0_2 : Int) (a0_3 : ByteArray) (a0_4 : Int) (a0_5 : Int) (a0_6 : Int) (a0_7 : Int) (l0_8 : List (S103)) : Option (Bool) := (impl_IsName.f k a0_0).bind fun t419 => (if t419 = true then ((impl_IsName.f k a0_1).bind fun t420 => (if t420 = true then ((impl_within.f a0_2 0 999).bind fun t421 => (if t421 = true then ((impl_ValidVeneer.f a0_3 a0_4 a0_5).bind fun t422 => (impl_ValidLeaf.j0 k (!t422) a0_0 a0_1 a0_2 a0_3 a0_4 a0_5 a0_6 a0_7 l0_8)) else (impl_ValidLeaf.j0 k true a0_0 a0_1 a0_2 a0_3 a0_4 a0_5 a0_6 a0_7 l0_8))) else (impl_ValidLeaf.j0 k true a0_0 a0_1 a0_2 a0_3 a0_4 a0_5 a0_6 a0_7 l0_8))) else (impl_ValidLeaf.j0 k true a0_0 a0_1 a0_2 a0_3 a0_4 a0_5 a0_6 a0_7 l0_8))
theorem impl_ValidLeaf.mono_l : ∀ k, (∀ y0 y1 y2 y3 y4 y5 y6 y7 y8 y9, LeO (impl_ValidLeaf.j0 k y0 y1 y2 y3 y4 y5 y6 y7 y8 y9) (impl_ValidLeaf.j0 (k + 1) y0 y1 y2 y3 y4 y5 y6 y7 y8 y9))
 | 0 => fun _ _ _ _ _ _ _ _ _ _ r h => by simp [impl_ValidLeaf.j0] at h
 | k + 1 => by
   have ih0 := impl_ValidLeaf.mono_l k
   · intro y0 y1 y2 y3 y4 y5 y6 y7 y8 y9
     unfold impl_ValidLeaf.j0
     repeat' first
     | (with_reducible exact ih0 _ _ _ _ _ _ _ _ _ _)
     | (with_reducible exact impl_IsName.mono _ _)
     | (with_reducible exact slices_ContainsFunc_impl_Box__impl_ValidLeaf_1.mono _ _ _)
     | (with_reducible exact LeO.refl _)
     | (with_reducible exact LeO.none _)
     | (with_reducible refine LeO.ite ?_ ?_)
     | (with_reducible refine LeO.bind ?_ (fun _ => ?_))
     | exact ih0 _ _ _ _ _ _ _ _ _ _
     | exact impl_IsName.mono _ _
     | exact slices_ContainsFunc_impl_Box__impl_ValidLeaf_1.mono _ _ _
     | exact LeO.none _
     | refine LeO.ite ?_ ?_
     | refine LeO.bind ?_ (fun _ => ?_)
theorem impl_ValidLeaf.mono : ∀ a0 a1 a2 a3 a4 a5 a6 a7 a8 k, LeO (impl_ValidLeaf.f k a0 a1 a2 a3 a4 a5 a6 a7 a8) (impl_ValidLeaf.f (k + 1) a0 a1 a2 a3 a4 a5 a6 a7 a8) := by
 intro a0 a1 a2 a3 a4 a5 a6 a7 a8 k; have ih0 := impl_ValidLeaf.mono_l k; unfold impl_ValidLeaf.f
 repeat' first
  | (with_reducible exact ih0 _ _ _ _ _ _ _ _ _ _)
  | (with_reducible exact impl_IsName.mono _ _)
  | (with_reducible exact slices_ContainsFunc_impl_Box__impl_ValidLeaf_1.mono _ _ _)
  | (with_reducible exact LeO.refl _)
  | (with_reducible exact LeO.none _)
  | (with_reducible refine LeO.ite ?_ ?_)
  | (with_reducible refine LeO.bind ?_ (fun _ => ?_))
  | exact ih0 _ _ _ _ _ _ _ _ _ _
  | exact impl_IsName.mono _ _
  | exact slices_ContainsFunc_impl_Box__impl_ValidLeaf_1.mono _ _ _
  | exact LeO.none _
  | refine LeO.ite ?_ ?_
  | refine LeO.bind ?_ (fun _ => ?_)
set_option maxHeartbeats 8000000 in
set_option maxRecDepth 100000 in
theorem impl_ValidLeaf.calls (k : Nat) (a0_0 : ByteArray) (a0_1 : ByteArray) (a0_2 : Int) (a0_3 : ByteArray) (a0_4 : Int) (a0_5 : Int) (a0_6 : Int) (a0_7 : Int) (A0_8 : Option Addr) (c0_8 : Nat) (l0_8 : List (S103)) (r : Bool) (w : World) (hr0_8 : Kd.C k103 w A0_8 l0_8.length l0_8) (hc0_8 : l0_8.length ≤ c0_8) (h : impl_ValidLeaf.f k a0_0 a0_1 a0_2 a0_3 a0_4 a0_5 a0_6 a0_7 l0_8 = some r) :
 Calls Try.prog 56 #[.agg #[.string a0_0, .string a0_1, .int .i64 a0_2, .string a0_3, .int .i64 a0_4, .int .i64 a0_5, .int .i64 a0_6, .int .i64 a0_7, .slice A0_8 l0_8.length c0_8]] w fun e w' => e = .returned (.bool r) ∧ Below w.heap.size w w' := by
 have hu36 := Try.underlying36; have hu33 := Try.underlying33; have HR0_8 := Aside0.mk hr0_8; have HC0_8 := Aside0.mk hc0_8; clear hr0_8 hc0_8; have HB := Aside0.mk (Below.refl w.heap.size w)
 have H : ((impl_IsName.f k a0_0).bind fun t419 => (if t419 = true then ((impl_IsName.f k a0_1).bind fun t420 => (if t420 = true then ((impl_within.f a0_2 0 999).bind fun t421 => (if t421 = true then ((impl_ValidVeneer.f a0_3 a0_4 a0_5).bind fun t422 => (impl_ValidLeaf.j0 k (!t422) a0_0 a0_1 a0_2 a0_3 a0_4 a0_5 a0_6 a0_7 l0_8)) else (impl_ValidLeaf.j0 k true a0_0 a0_1 a0_2 a0_3 a0_4 a0_5 a0_6 a0_7 l0_8))) else (impl_ValidLeaf.j0 k true a0_0 a0_1 a0_2 a0_3 a0_4 a0_5 a0_6 a0_7 l0_8))) else (impl_ValidLeaf.j0 k true a0_0 a0_1 a0_2 a0_3 a0_4 a0_5 a0_6 a0_7 l0_8))) = some r := h
 clear h; have HC2 := Aside0.mk H; clear H
 go_enter Try.func56, Try.ntmps56
 go_upto_region 1 with (first | ((with_reducible refine zI 1 rfl ?_); (try (refine gate_guard (by rfl) ?_; dsimp only)); refine zB 1 #[.string a0_0, .string a0_1, .int .i64 a0_2, .string a0_3, .int .i64 a0_4, .int .i64 a0_5, .int .i64 a0_6, .int .i64 a0_7, .slice A0_8 l0_8.length c0_8] 36 ?_; intro gb418 hg w3 hbox hb; have BK418 := Aside0.mk (hbox); have GW418 := zS (pB0 HB.out) hg; have GE418 := GW418; replace HB := zW (pB0 HB.out) hb; clear hb hbox hg))
 (try simp only [Act.put, List.setIfInBounds_toArray, List.set_cons_zero, List.set_cons_succ])
 go_cut [24] (fun v24 wc => ∃ (kq : Nat) (x24_1 : Bool), v24 = .bool x24_1 ∧ Aside0 (impl_ValidLeaf.j0 kq x24_1 a0_0 a0_1 a0_2 a0_3 a0_4 a0_5 a0_6 a0_7 l0_8 = some r) ∧ Aside0 (kq ≤ k) ∧ Aside0 (wc.heap[gb418]? = some (.cells #[.string a0_0, .string a0_1, .int .i64 a0_2, .string a0_3, .int .i64 a0_4, .int .i64 a0_5, .int .i64 a0_6, .int .i64 a0_7, (.slice A0_8 l0_8.length c0_8)] 36 (0, 0))) ∧ Aside0 (Below w.heap.size w wc))
 case first =>
  have H := HC2.out; clear HC2; replace H := Option.bind_eq_some_iff.mp H; obtain ⟨t419, A40, H⟩ := H; have A4 := Aside0.mk A40; clear A40
  by_cases c5 : t419 = true
  rotate_left
  · replace c5 := Bool.eq_false_iff.mpr c5
    subst c5
    rw [if_neg (show ¬ (false = true) by decide)] at H
    have H' := Aside0.mk H; clear H; have Y15_0 := zC (.string a0_0) BK418 0; have Y15_1 := zC (.string a0_1) BK418 1; have Y15_2 := zC (.int .i64 a0_2) BK418 2; have Y15_3 := zC (.string a0_3) BK418 3; have Y15_4 := zC (.int .i64 a0_4) BK418 4; have Y15_5 := zC (.int .i64 a0_5) BK418 5; have Y15_6 := zC (.int .i64 a0_6) BK418 6; have Y15_7 := zC (.int .i64 a0_7) BK418 7; have Y15_8 := zC (.slice A0_8 l0_8.length c0_8) BK418 8; have X15_0 := blk_frozen BK418.out 0; have X15_1 := blk_frozen BK418.out 1; have X15_2 := blk_frozen BK418.out 2; have X15_3 := blk_frozen BK418.out 3; have X15_4 := blk_frozen BK418.out 4; have X15_5 := blk_frozen BK418.out 5; have X15_6 := blk_frozen BK418.out 6; have X15_7 := blk_frozen BK418.out 7; have X15_8 := blk_frozen BK418.out 8
    go_wp2_with (first | ((with_reducible refine gate_callee (f := 99) rfl ?_); refine zJ (some 5) Try.func99 #[.string a0_0] ?_; (with_reducible refine (impl_IsName.calls k a0_0 false _ A4.out).mono ?_); rintro e w' ⟨rfl, ⟨nd, rfl⟩⟩; refine ⟨_, rfl, ?_⟩))
    go_meet
    case rel => exact ⟨_, (true), zR, H', ⟨by first | omega | exact Nat.le_refl _⟩, ⟨pK BK418.out⟩, ⟨pB1 HB.out GE418.out⟩⟩
  subst c5; rw [if_pos rfl] at H; replace H := Option.bind_eq_some_iff.mp H; obtain ⟨t420, A60, H⟩ := H; have A6 := Aside0.mk A60; clear A60
  by_cases c7 : t420 = true
  rotate_left
  · replace c7 := Bool.eq_false_iff.mpr c7
    subst c7
    rw [if_neg (show ¬ (false = true) by decide)] at H
    have H' := Aside0.mk H; clear H; have Y14_0 := zC (.string a0_0) BK418 0; have Y14_1 := zC (.string a0_1) BK418 1; have Y14_2 := zC (.int .i64 a0_2) BK418 2; have Y14_3 := zC (.string a0_3) BK418 3; have Y14_4 := zC (.int .i64 a0_4) BK418 4; have Y14_5 := zC (.int .i64 a0_5) BK418 5; have Y14_6 := zC (.int .i64 a0_6) BK418 6; have Y14_7 := zC (.int .i64 a0_7) BK418 7; have Y14_8 := zC (.slice A0_8 l0_8.length c0_8) BK418 8; have X14_0 := blk_frozen BK418.out 0; have X14_1 := blk_frozen BK418.out 1; have X14_2 := blk_frozen BK418.out 2; have X14_3 := blk_frozen BK418.out 3; have X14_4 := blk_frozen BK418.out 4; have X14_5 := blk_frozen BK418.out 5; have X14_6 := blk_frozen BK418.out 6; have X14_7 := blk_frozen BK418.out 7; have X14_8 := blk_frozen BK418.out 8
    go_wp2_with (first | ((with_reducible refine gate_callee (f := 99) rfl ?_); refine zJ (some 5) Try.func99 #[.string a0_0] ?_; (with_reducible refine (impl_IsName.calls k a0_0 true _ A4.out).mono ?_); rintro e w' ⟨rfl, ⟨nd, rfl⟩⟩; refine ⟨_, rfl, ?_⟩) | (go_at_call 99; (with_reducible refine (impl_IsName.calls k a0_1 false _ A6.out).mono ?_); rintro e w' ⟨rfl, ⟨nd, rfl⟩⟩))
    go_meet
    case rel => exact ⟨_, (true), zR, H', ⟨by first | omega | exact Nat.le_refl _⟩, ⟨pK BK418.out⟩, ⟨pB1 HB.out GE418.out⟩⟩
  subst c7; rw [if_pos rfl] at H; replace H := Option.bind_eq_some_iff.mp H; obtain ⟨t421, A80, H⟩ := H; have A8 := Aside0.mk A80; clear A80
  by_cases c9 : t421 = true
  rotate_left
  · replace c9 := Bool.eq_false_iff.mpr c9
    subst c9
    rw [if_neg (show ¬ (false = true) by decide)] at H
    have H' := Aside0.mk H; clear H; have Y13_0 := zC (.string a0_0) BK418 0; have Y13_1 := zC (.string a0_1) BK418 1; have Y13_2 := zC (.int .i64 a0_2) BK418 2; have Y13_3 := zC (.string a0_3) BK418 3; have Y13_4 := zC (.int .i64 a0_4) BK418 4; have Y13_5 := zC (.int .i64 a0_5) BK418 5; have Y13_6 := zC (.int .i64 a0_6) BK418 6; have Y13_7 := zC (.int .i64 a0_7) BK418 7; have Y13_8 := zC (.slice A0_8 l0_8.length c0_8) BK418 8; have X13_0 := blk_frozen BK418.out 0; have X13_1 := blk_frozen BK418.out 1; have X13_2 := blk_frozen BK418.out 2; have X13_3 := blk_frozen BK418.out 3; have X13_4 := blk_frozen BK418.out 4; have X13_5 := blk_frozen BK418.out 5; have X13_6 := blk_frozen BK418.out 6; have X13_7 := blk_frozen BK418.out 7; have X13_8 := blk_frozen BK418.out 8
    go_wp2_with (first | ((with_reducible refine gate_callee (f := 99) rfl ?_); refine zJ (some 5) Try.func99 #[.string a0_0] ?_; (with_reducible refine (impl_IsName.calls k a0_0 true _ A4.out).mono ?_); rintro e w' ⟨rfl, ⟨nd, rfl⟩⟩; refine ⟨_, rfl, ?_⟩) | (go_at_call 99; (with_reducible refine (impl_IsName.calls k a0_1 true _ A6.out).mono ?_); rintro e w' ⟨rfl, ⟨nd, rfl⟩⟩) | (go_at_call 83; (with_reducible refine (impl_within.calls a0_2 0 999 false _ A8.out).mono ?_); rintro e w' ⟨rfl, ⟨nd, rfl⟩⟩))
    go_meet
    case rel => exact ⟨_, (true), zR, H', ⟨by first | omega | exact Nat.le_refl _⟩, ⟨pK BK418.out⟩, ⟨pB1 HB.out GE418.out⟩⟩
  subst c9; rw [if_pos rfl] at H; replace H := Option.bind_eq_some_iff.mp H; obtain ⟨t422, A100, H⟩ := H; have A10 := Aside0.mk A100; clear A100; have H' := Aside0.mk H; clear H; have Y11_0 := zC (.string a0_0) BK418 0; have Y11_1 := zC (.string a0_1) BK418 1; have Y11_2 := zC (.int .i64 a0_2) BK418 2; have Y11_3 := zC (.string a0_3) BK418 3; have Y11_4 := zC (.int .i64 a0_4) BK418 4; have Y11_5 := zC (.int .i64 a0_5) BK418 5; have Y11_6 := zC (.int .i64 a0_6) BK418 6; have Y11_7 := zC (.int .i64 a0_7) BK418 7; have Y11_8 := zC (.slice A0_8 l0_8.length c0_8) BK418 8; have X11_0 := blk_frozen BK418.out 0; have X11_1 := blk_frozen BK418.out 1; have X11_2 := blk_frozen BK418.out 2; have X11_3 := blk_frozen BK418.out 3; have X11_4 := blk_frozen BK418.out 4; have X11_5 := blk_frozen BK418.out 5; have X11_6 := blk_frozen BK418.out 6; have X11_7 := blk_frozen BK418.out 7; have X11_8 := blk_frozen BK418.out 8
  go_wp2_with (first | ((with_reducible refine gate_callee (f := 99) rfl ?_); refine zJ (some 5) Try.func99 #[.string a0_0] ?_; (with_reducible refine (impl_IsName.calls k a0_0 true _ A4.out).mono ?_); rintro e w' ⟨rfl, ⟨nd, rfl⟩⟩; refine ⟨_, rfl, ?_⟩) | (go_at_call 99; (with_reducible refine (impl_IsName.calls k a0_1 true _ A6.out).mono ?_); rintro e w' ⟨rfl, ⟨nd, rfl⟩⟩) | (go_at_call 83; (with_reducible refine (impl_within.calls a0_2 0 999 true _ A8.out).mono ?_); rintro e w' ⟨rfl, ⟨nd, rfl⟩⟩) | (go_at_call 100; (with_reducible refine (impl_ValidVeneer.calls a0_3 a0_4 a0_5 t422 _ A10.out).mono ?_); rintro e w12 ⟨rfl, hb⟩; replace BK418 := zK BK418 hb; replace HB := zW (pB1 HB.out GE418.out) hb; (try clear hb); (try clear hb2); (try clear hk); (try clear hi)))
  go_meet
  case rel => exact ⟨_, (!t422), zR, H', ⟨by first | omega | exact Nat.le_refl _⟩, ⟨pK BK418.out⟩, ⟨pB1 HB.out GE418.out⟩⟩
 case rest =>
  clear HC2; (try clear p2); (try clear c5); (try clear c7); (try clear c9); (try clear Y11_0 Y11_1 Y11_2 Y11_3 Y11_4 Y11_5 Y11_6 Y11_7 Y11_8); (try clear Y13_0 Y13_1 Y13_2 Y13_3 Y13_4 Y13_5 Y13_6 Y13_7 Y13_8); (try clear Y14_0 Y14_1 Y14_2 Y14_3 Y14_4 Y14_5 Y14_6 Y14_7 Y14_8); (try clear Y15_0 Y15_1 Y15_2 Y15_3 Y15_4 Y15_5 Y15_6 Y15_7 Y15_8); (try clear X11_0 X11_1 X11_2 X11_3 X11_4 X11_5 X11_6 X11_7 X11_8); (try clear X13_0 X13_1 X13_2 X13_3 X13_4 X13_5 X13_6 X13_7 X13_8); (try clear X14_0 X14_1 X14_2 X14_3 X14_4 X14_5 X14_6 X14_7 X14_8); (try clear X15_0 X15_1 X15_2 X15_3 X15_4 X15_5 X15_6 X15_7 X15_8); obtain ⟨kq, x24_1, rfl, HA, HJ1, BK418, HB⟩ := hcut
  cases kq with
  | zero => exact absurd HA.out (by simp [impl_ValidLeaf.j0])
  | succ kj1 =>
    have H := HA.out; clear HA; simp only [impl_ValidLeaf.j0] at H
    by_cases c16 : x24_1 = true
    · subst c16
      rw [if_pos rfl] at H; obtain rfl := Option.some.inj H
      go_wp2
      go_ret
      exact ⟨zE, pB1 HB.out GE418.out⟩
    replace c16 := Bool.eq_false_iff.mpr c16; subst c16
    rw [if_neg (show ¬ (false = true) by decide)] at H
    replace H := Option.bind_eq_some_iff.mp H; obtain ⟨t423, A170, H⟩ := H; have A17 := Aside0.mk A170; clear A170
    by_cases c18 : t423 = true
    rotate_left
    · replace c18 := Bool.eq_false_iff.mpr c18
      subst c18
      rw [if_neg (show ¬ (false = true) by decide)] at H
      obtain rfl := Option.some.inj H; have Y27_0 := zC (.string a0_0) BK418 0; have Y27_1 := zC (.string a0_1) BK418 1; have Y27_2 := zC (.int .i64 a0_2) BK418 2; have Y27_3 := zC (.string a0_3) BK418 3; have Y27_4 := zC (.int .i64 a0_4) BK418 4; have Y27_5 := zC (.int .i64 a0_5) BK418 5; have Y27_6 := zC (.int .i64 a0_6) BK418 6; have Y27_7 := zC (.int .i64 a0_7) BK418 7; have Y27_8 := zC (.slice A0_8 l0_8.length c0_8) BK418 8; have X27_0 := blk_frozen BK418.out 0; have X27_1 := blk_frozen BK418.out 1; have X27_2 := blk_frozen BK418.out 2; have X27_3 := blk_frozen BK418.out 3; have X27_4 := blk_frozen BK418.out 4; have X27_5 := blk_frozen BK418.out 5; have X27_6 := blk_frozen BK418.out 6; have X27_7 := blk_frozen BK418.out 7; have X27_8 := blk_frozen BK418.out 8
      go_wp2_with (first | ((with_reducible refine gate_callee (f := 83) rfl ?_); refine zJ (some 27) Try.func83 #[.int .i64 a0_6, .int .i64 10, .int .i64 20000] ?_; (with_reducible refine (impl_within.calls a0_6 10 20000 false _ A17.out).mono ?_); rintro e w' ⟨rfl, ⟨nd, rfl⟩⟩; refine ⟨_, rfl, ?_⟩))
      go_ret
      exact ⟨zE, pB1 HB.out GE418.out⟩
    subst c18; rw [if_pos rfl] at H; replace H := Option.bind_eq_some_iff.mp H; obtain ⟨t424, A190, H⟩ := H; have A19 := Aside0.mk A190; clear A190
    by_cases c20 : t424 = true
    rotate_left
    · replace c20 := Bool.eq_false_iff.mpr c20
      subst c20
      rw [if_neg (show ¬ (false = true) by decide)] at H
      obtain rfl := Option.some.inj H; have Y26_0 := zC (.string a0_0) BK418 0; have Y26_1 := zC (.string a0_1) BK418 1; have Y26_2 := zC (.int .i64 a0_2) BK418 2; have Y26_3 := zC (.string a0_3) BK418 3; have Y26_4 := zC (.int .i64 a0_4) BK418 4; have Y26_5 := zC (.int .i64 a0_5) BK418 5; have Y26_6 := zC (.int .i64 a0_6) BK418 6; have Y26_7 := zC (.int .i64 a0_7) BK418 7; have Y26_8 := zC (.slice A0_8 l0_8.length c0_8) BK418 8; have X26_0 := blk_frozen BK418.out 0; have X26_1 := blk_frozen BK418.out 1; have X26_2 := blk_frozen BK418.out 2; have X26_3 := blk_frozen BK418.out 3; have X26_4 := blk_frozen BK418.out 4; have X26_5 := blk_frozen BK418.out 5; have X26_6 := blk_frozen BK418.out 6; have X26_7 := blk_frozen BK418.out 7; have X26_8 := blk_frozen BK418.out 8
      go_wp2_with (first | ((with_reducible refine gate_callee (f := 83) rfl ?_); refine zJ (some 27) Try.func83 #[.int .i64 a0_6, .int .i64 10, .int .i64 20000] ?_; (with_reducible refine (impl_within.calls a0_6 10 20000 true _ A17.out).mono ?_); rintro e w' ⟨rfl, ⟨nd, rfl⟩⟩; refine ⟨_, rfl, ?_⟩) | (go_at_call 83; (with_reducible refine (impl_within.calls a0_7 10 20000 false _ A19.out).mono ?_); rintro e w' ⟨rfl, ⟨nd, rfl⟩⟩))
      go_ret
      exact ⟨zE, pB1 HB.out GE418.out⟩
    subst c20; rw [if_pos rfl] at H
    by_cases c21 : (l0_8.length : Int) > 6
    · rw [if_pos c21] at H
      have c21b0 := decide_eq_true c21
      have c21b1 : decide (6 < l0_8.length) = true := decide_eq_true (by omega)
      clear c21; obtain rfl := Option.some.inj H; have Y22_0 := zC (.string a0_0) BK418 0; have Y22_1 := zC (.string a0_1) BK418 1; have Y22_2 := zC (.int .i64 a0_2) BK418 2; have Y22_3 := zC (.string a0_3) BK418 3; have Y22_4 := zC (.int .i64 a0_4) BK418 4; have Y22_5 := zC (.int .i64 a0_5) BK418 5; have Y22_6 := zC (.int .i64 a0_6) BK418 6; have Y22_7 := zC (.int .i64 a0_7) BK418 7; have Y22_8 := zC (.slice A0_8 l0_8.length c0_8) BK418 8; have X22_0 := blk_frozen BK418.out 0; have X22_1 := blk_frozen BK418.out 1; have X22_2 := blk_frozen BK418.out 2; have X22_3 := blk_frozen BK418.out 3; have X22_4 := blk_frozen BK418.out 4; have X22_5 := blk_frozen BK418.out 5; have X22_6 := blk_frozen BK418.out 6; have X22_7 := blk_frozen BK418.out 7; have X22_8 := blk_frozen BK418.out 8
      go_wp2_with (first | ((with_reducible refine gate_callee (f := 83) rfl ?_); refine zJ (some 27) Try.func83 #[.int .i64 a0_6, .int .i64 10, .int .i64 20000] ?_; (with_reducible refine (impl_within.calls a0_6 10 20000 true _ A17.out).mono ?_); rintro e w' ⟨rfl, ⟨nd, rfl⟩⟩; refine ⟨_, rfl, ?_⟩) | (go_at_call 83; (with_reducible refine (impl_within.calls a0_7 10 20000 true _ A19.out).mono ?_); rintro e w' ⟨rfl, ⟨nd, rfl⟩⟩))
      go_ret
      exact ⟨zE, pB1 HB.out GE418.out⟩
    rw [if_neg c21] at H; have c21b0 := decide_eq_false c21
    have c21b1 : decide (6 < l0_8.length) = false := decide_eq_false (by omega)
    clear c21; replace H := Option.bind_eq_some_iff.mp H; obtain ⟨t425, A230, H⟩ := H; have A23 := Aside0.mk A230; clear A230; obtain rfl := Option.some.inj H; have Y24_0 := zC (.string a0_0) BK418 0; have Y24_1 := zC (.string a0_1) BK418 1; have Y24_2 := zC (.int .i64 a0_2) BK418 2; have Y24_3 := zC (.string a0_3) BK418 3; have Y24_4 := zC (.int .i64 a0_4) BK418 4; have Y24_5 := zC (.int .i64 a0_5) BK418 5; have Y24_6 := zC (.int .i64 a0_6) BK418 6; have Y24_7 := zC (.int .i64 a0_7) BK418 7; have Y24_8 := zC (.slice A0_8 l0_8.length c0_8) BK418 8; have X24_0 := blk_frozen BK418.out 0; have X24_1 := blk_frozen BK418.out 1; have X24_2 := blk_frozen BK418.out 2; have X24_3 := blk_frozen BK418.out 3; have X24_4 := blk_frozen BK418.out 4; have X24_5 := blk_frozen BK418.out 5; have X24_6 := blk_frozen BK418.out 6; have X24_7 := blk_frozen BK418.out 7; have X24_8 := blk_frozen BK418.out 8
    go_wp2_with (first | ((with_reducible refine gate_callee (f := 83) rfl ?_); refine zJ (some 27) Try.func83 #[.int .i64 a0_6, .int .i64 10, .int .i64 20000] ?_; (with_reducible refine (impl_within.calls a0_6 10 20000 true _ A17.out).mono ?_); rintro e w' ⟨rfl, ⟨nd, rfl⟩⟩; refine ⟨_, rfl, ?_⟩) | (go_at_call 83; (with_reducible refine (impl_within.calls a0_7 10 20000 true _ A19.out).mono ?_); rintro e w' ⟨rfl, ⟨nd, rfl⟩⟩) | ((with_reducible refine gate_callee (f := 101) rfl ?_); refine zJ (some 44) Try.func101 #[.slice A0_8 l0_8.length c0_8, .func (.func 102) #[] #[.pointer (some ⟨gb418, 0, none⟩)]] ?_; (with_reducible refine (slices_ContainsFunc_impl_Box__impl_ValidLeaf_1.calls kj1 _ _ l0_8  _ 1 [(⟨a0_0, a0_1, a0_2, (⟨a0_3, a0_4, a0_5⟩ : S33), a0_6, a0_7, l0_8⟩ : S36)] t425 _ ?side1 ?side2 ?side3 ?side4 A23.out).mono ?_); (case side1 => exact pC (Kd.C_below HR0_8.out (pB1 HB.out GE418.out))); (case side2 => exact HC0_8.out); (case side3 => exact C_box (cs := #[.string a0_0, .string a0_1, .int .i64 a0_2, .string a0_3, .int .i64 a0_4, .int .i64 a0_5, .int .i64 a0_6, .int .i64 a0_7, .slice A0_8 l0_8.length c0_8]) (t := 36) (pK BK418.out) (k36_mk _ _ (by exact HC0_8.out) (by exact pC (Kd.C_below HR0_8.out (pB1 HB.out GE418.out))))); (case side4 => exact Nat.le_refl _); rintro e w25 ⟨rfl, hb⟩; refine ⟨_, rfl, ?_⟩; replace BK418 := zK BK418 hb; replace HB := zW (pB1 HB.out GE418.out) hb; (try clear hb); (try clear hb2); (try clear hk); (try clear hi)))
    go_ret
    exact ⟨zE, pB1 HB.out GE418.out⟩
end Go.Proofs.Ytfiiakhpdkdebaa.PFnExactOffcutsOf

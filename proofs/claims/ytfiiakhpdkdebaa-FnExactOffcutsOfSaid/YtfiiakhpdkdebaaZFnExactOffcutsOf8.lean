/- What each function that a law reaches comes to, and the proof that its walk comes to it; laid by a program of this session. No condition. -/
import Derived.Test.YtfiiakhpdkdebaaZFnExactOffcutsOf0
import Derived.Test.YtfiiakhpdkdebaaZFnExactOffcutsOf4
namespace Go.Proofs.Ytfiiakhpdkdebaa.PFnExactOffcutsOf
open Go.RowKit Go.Proofs.YtfiiakhpdkdebaaW.PrintWords Go.Proofs.YtfiiakhpdkdebaaW.PrintLast Go.Proofs.YtfiiakhpdkdebaaW.PrintMore
attribute [local go_sem] max2_int min2_int max_two min_two max_three min_three max_four min_four
set_option linter.unusedVariables false
set_option linter.unusedSimpArgs false
def spec_l01Small.f (a0 : Int) : Option (Bool) := if a0 ≥ 97 then (some (decide (a0 ≤ 122))) else (some false)
set_option maxHeartbeats 8000000 in
set_option maxRecDepth 100000 in
theorem spec_l01Small.calls (a0 : Int) (r : Bool) (w : World) (h : spec_l01Small.f a0 = some r) :
 Calls Try.prog 127 #[.int .u8 a0] w fun e w' => e = .returned (.bool r) ∧ Drawn0 w w' := by
 have H : (if a0 ≥ 97 then (some (decide (a0 ≤ 122))) else (some false)) = some r := h; clear h
 by_cases c2 : a0 ≥ 97
 · rw [if_pos c2] at H
   have c2b0 := decide_eq_true c2; clear c2; obtain rfl := Option.some.inj H
   go_enter Try.func127, Try.ntmps127
   go_wp2
   go_ret
   exact ⟨by first | rfl | (simp; done) | (simp [*]; done), zV⟩
 rw [if_neg c2] at H; have c2b0 := decide_eq_false c2; clear c2; obtain rfl := Option.some.inj H
 go_enter Try.func127, Try.ntmps127
 go_wp2
 go_ret
 exact ⟨by first | rfl | (simp; done) | (simp [*]; done), zV⟩
def spec_l01Digit.f (a0 : Int) : Option (Bool) := if a0 ≥ 48 then (some (decide (a0 ≤ 57))) else (some false)
set_option maxHeartbeats 8000000 in
set_option maxRecDepth 100000 in
theorem spec_l01Digit.calls (a0 : Int) (r : Bool) (w : World) (h : spec_l01Digit.f a0 = some r) :
 Calls Try.prog 128 #[.int .u8 a0] w fun e w' => e = .returned (.bool r) ∧ Drawn0 w w' := by
 have H : (if a0 ≥ 48 then (some (decide (a0 ≤ 57))) else (some false)) = some r := h; clear h
 by_cases c2 : a0 ≥ 48
 · rw [if_pos c2] at H
   have c2b0 := decide_eq_true c2; clear c2; obtain rfl := Option.some.inj H
   go_enter Try.func128, Try.ntmps128
   go_wp2
   go_ret
   exact ⟨by first | rfl | (simp; done) | (simp [*]; done), zV⟩
 rw [if_neg c2] at H; have c2b0 := decide_eq_false c2; clear c2; obtain rfl := Option.some.inj H
 go_enter Try.func128, Try.ntmps128
 go_wp2
 go_ret
 exact ⟨by first | rfl | (simp; done) | (simp [*]; done), zV⟩
mutual
def spec_l01Name.j0 : Nat → ByteArray → Bool → Option (Bool)
 | 0, _, _ => none
 | k + 1, x0, x16 => if x16 = true then (some false) else (spec_l01Name.l0 k x0 0)
def spec_l01Name.l0 : Nat → ByteArray → Int → Option (Bool)
 | 0, _, _ => none
 | k + 1, x0, x3 => if x3 < (x0.size : Int) then (if 0 ≤ x3 then ((spec_l01Small.f (bt x0 x3)).bind fun t220 => (if t220 = true then (spec_l01Name.l0 k x0 (wrap64 (x3 + 1))) else ((spec_l01Digit.f (bt x0 x3)).bind fun t221 => (if t221 = true then (spec_l01Name.l0 k x0 (wrap64 (x3 + 1))) else (some false))))) else (none)) else (some true)
end
def spec_l01Name.f (k : Nat) (a0 : ByteArray) : Option (Bool) := if a0.toList = ([] : List UInt8) then (spec_l01Name.j0 k a0 true) else (if (a0.size : Int) > 10 then (spec_l01Name.j0 k a0 true) else (if 0 < (a0.size : Int) then ((spec_l01Small.f (bt a0 0)).bind fun t219 => (spec_l01Name.j0 k a0 (!t219))) else (none)))
theorem spec_l01Name.mono_l : ∀ k, (∀ y0 y1, LeO (spec_l01Name.j0 k y0 y1) (spec_l01Name.j0 (k + 1) y0 y1)) ∧ (∀ y0 y1, LeO (spec_l01Name.l0 k y0 y1) (spec_l01Name.l0 (k + 1) y0 y1))
 | 0 => ⟨fun _ _ r h => by simp [spec_l01Name.j0] at h, fun _ _ r h => by simp [spec_l01Name.l0] at h⟩
 | k + 1 => by
   obtain ⟨ih0, ih1⟩ := spec_l01Name.mono_l k; refine ⟨?_, ?_⟩
   · intro y0 y1
     unfold spec_l01Name.j0
     repeat' first
     | (with_reducible exact ih0 _ _)
     | (with_reducible exact ih1 _ _)
     | (with_reducible exact LeO.refl _)
     | (with_reducible exact LeO.none _)
     | (with_reducible refine LeO.ite ?_ ?_)
     | (with_reducible refine LeO.bind ?_ (fun _ => ?_))
     | exact ih0 _ _
     | exact ih1 _ _
     | exact LeO.none _
     | refine LeO.ite ?_ ?_
     | refine LeO.bind ?_ (fun _ => ?_)
   · intro y0 y1
     unfold spec_l01Name.l0
     repeat' first
     | (with_reducible exact ih0 _ _)
     | (with_reducible exact ih1 _ _)
     | (with_reducible exact LeO.refl _)
     | (with_reducible exact LeO.none _)
     | (with_reducible refine LeO.ite ?_ ?_)
     | (with_reducible refine LeO.bind ?_ (fun _ => ?_))
     | exact ih0 _ _
     | exact ih1 _ _
     | exact LeO.none _
     | refine LeO.ite ?_ ?_
     | refine LeO.bind ?_ (fun _ => ?_)
theorem spec_l01Name.mono : ∀ a0 k, LeO (spec_l01Name.f k a0) (spec_l01Name.f (k + 1) a0) := by
 intro a0 k; obtain ⟨ih0, ih1⟩ := spec_l01Name.mono_l k; unfold spec_l01Name.f
 repeat' first
  | (with_reducible exact ih0 _ _)
  | (with_reducible exact ih1 _ _)
  | (with_reducible exact LeO.refl _)
  | (with_reducible exact LeO.none _)
  | (with_reducible refine LeO.ite ?_ ?_)
  | (with_reducible refine LeO.bind ?_ (fun _ => ?_))
  | exact ih0 _ _
  | exact ih1 _ _
  | exact LeO.none _
  | refine LeO.ite ?_ ?_
  | refine LeO.bind ?_ (fun _ => ?_)
set_option maxHeartbeats 8000000 in
set_option maxRecDepth 100000 in
theorem spec_l01Name.calls (k : Nat) (a0 : ByteArray) (r : Bool) (w : World) (h : spec_l01Name.f k a0 = some r) :
 Calls Try.prog 91 #[.string a0] w fun e w' => e = .returned (.bool r) ∧ Drawn0 w w' := by
 have H : (if a0.toList = ([] : List UInt8) then (spec_l01Name.j0 k a0 true) else (if (a0.size : Int) > 10 then (spec_l01Name.j0 k a0 true) else (if 0 < (a0.size : Int) then ((spec_l01Small.f (bt a0 0)).bind fun t219 => (spec_l01Name.j0 k a0 (!t219))) else (none)))) = some r := h
 clear h; have HC2 := Aside0.mk H; clear H
 go_enter Try.func91, Try.ntmps91
 go_upto_region 1 with (fail)
 go_cut [16] (fun v16 wc => ∃ (kq : Nat) (x16_1 : Bool), v16 = .bool x16_1 ∧ Aside0 (spec_l01Name.j0 kq a0 x16_1 = some r) ∧ Aside0 (kq ≤ k) ∧ Drawn0 w wc)
 case first =>
  have H := HC2.out; clear HC2
  by_cases c3 : a0.toList = ([] : List UInt8)
  · rw [if_pos c3] at H
    have c3b0 : (a0.toList == ([] : List UInt8)) = true := beq_iff_eq.mpr c3; have c3b1 : (a0.toList != ([] : List UInt8)) = false := bne_eq_false_iff_eq.mpr c3; clear c3; (first | rw [c3b0] | (simp only [i64_w, i32_w]; rw [c3b0]) | skip); have H' := Aside0.mk H; clear H
    go_wp2
    go_meet
    case rel => exact ⟨_, (true), zR, H', ⟨by first | omega | exact Nat.le_refl _⟩, zV⟩
  rw [if_neg c3] at H; have c3b0 : (a0.toList == ([] : List UInt8)) = false := beq_eq_false_iff_ne.mpr c3; have c3b1 : (a0.toList != ([] : List UInt8)) = true := bne_iff_ne.mpr c3; (first | rw [c3b0] | (simp only [i64_w, i32_w]; rw [c3b0]) | skip)
  by_cases c4 : (a0.size : Int) > 10
  · rw [if_pos c4] at H
    have c4b0 := decide_eq_true c4
    have c4b1 : decide (10 < a0.size) = true := decide_eq_true (by omega)
    clear c4; have H' := Aside0.mk H; clear H
    go_wp2
    go_meet
    case rel => exact ⟨_, (true), zR, H', ⟨by first | omega | exact Nat.le_refl _⟩, zV⟩
  rw [if_neg c4] at H; have c4b0 := decide_eq_false c4
  have c4b1 : decide (10 < a0.size) = false := decide_eq_false (by omega)
  clear c4
  by_cases c5 : 0 < (a0.size : Int)
  rotate_left
  · rw [if_neg c5] at H
    exact absurd H (by simp)
  rw [if_pos c5] at H; have c5b0 := decide_eq_true c5
  have c5b1 : decide (0 < a0.size) = true := decide_eq_true (by omega)
  clear c5; replace H := Option.bind_eq_some_iff.mp H; obtain ⟨t219, A70, H⟩ := H; have A7 := Aside0.mk A70; clear A70; have H' := Aside0.mk H; clear H
  have p6 : 0 ≤ (0 : Int) := (by omega)
  have q6 : 0 < a0.size := (by have : (0 : Int) < (a0.size : Int) := zD; omega)
  have hx6 : ∀ h : 0 < a0.size, ((a0[0]'h).toNat : Int) = bt a0 0 := bt_at a0 0; clear p6; have qi6 : (0 < (a0.size : Int)) = True := eq_true (zD); replace q6 := eq_true q6
  go_wp2_with (first | (go_at_call 127; (with_reducible refine (spec_l01Small.calls (bt a0 0) t219 _ A7.out).mono ?_); rintro e w' ⟨rfl, ⟨nd, rfl⟩⟩))
  go_meet
  case rel => exact ⟨_, (!t219), zR, H', ⟨by first | omega | exact Nat.le_refl _⟩, zV⟩
 case rest =>
  clear HC2; (try clear p2); (try clear c3); (try clear c3b0); (try clear c3b1); (try clear c4); (try clear c4b0); (try clear c4b1); (try clear c5); (try clear c5b0); (try clear c5b1); (try clear p6); (try clear q6); (try clear hx6); (try clear qi6); (try clear p6); (try clear q6); obtain ⟨kq, x16_1, rfl, HA, HJ1, ⟨mc1, rfl⟩⟩ := hcut
  cases kq with
  | zero => exact absurd HA.out (by simp [spec_l01Name.j0])
  | succ kj1 =>
    have H := HA.out; clear HA; simp only [spec_l01Name.j0] at H
    by_cases c8 : x16_1 = true
    · subst c8
      rw [if_pos rfl] at H; obtain rfl := Option.some.inj H
      go_wp2
      go_ret
      exact ⟨by first | rfl | (simp; done) | (simp [*]; done), zV⟩
    replace c8 := Bool.eq_false_iff.mpr c8; subst c8
    rw [if_neg (show ¬ (false = true) by decide)] at H
    have H' := Aside0.mk H; clear H
    go_wp2
    go_loopg [3] kj1 (fun kq v3 w' => ∃ (x3_2 : Int), v3 = .int .i64 x3_2 ∧ Aside0 (spec_l01Name.l0 kq a0 x3_2 = some r) ∧ Aside0 (kq ≤ kj1) ∧ Drawn0 w w')
    case atStart => exact ⟨(0), zR, H', ⟨Nat.le_refl _⟩, zV⟩
    case round =>
     clear H'; (try clear c1); (try clear p2); (try clear c3); (try clear c3b0); (try clear c3b1); (try clear c4); (try clear c4b0); (try clear c4b1); (try clear c5); (try clear c5b0); (try clear c5b1); (try clear p6); (try clear q6); (try clear hx6); (try clear qi6); (try clear c8); (try clear p2); (try clear p6); (try clear q6); obtain ⟨x3_2, rfl, HA, HK2, ⟨m2, rfl⟩⟩ := hrel
     cases gk with
     | zero => exact absurd HA.out (by simp [spec_l01Name.l0])
     | succ k2 =>
       have H := HA.out; clear HA; simp only [spec_l01Name.l0] at H
       by_cases c9 : x3_2 < (a0.size : Int)
       rotate_left
       · rw [if_neg c9] at H
         have c9b0 := decide_eq_false c9; clear c9; obtain rfl := Option.some.inj H
         go_wp2
         go_ret
         exact ⟨by first | rfl | (simp; done) | (simp [*]; done), zV⟩
       rw [if_pos c9] at H; have c9b0 := decide_eq_true c9; clear c9
       by_cases c10 : 0 ≤ x3_2
       rotate_left
       · rw [if_neg c10] at H
         exact absurd H (by simp)
       rw [if_pos c10] at H; have c10b0 := decide_eq_true c10; clear c10; replace H := Option.bind_eq_some_iff.mp H; obtain ⟨t220, A120, H⟩ := H; have A12 := Aside0.mk A120; clear A120
       by_cases c13 : t220 = true
       · subst c13
         rw [if_pos rfl] at H; have H' := Aside0.mk H; clear H; have p11 : 0 ≤ (x3_2 : Int) := zD; have q11 : x3_2 < (a0.size : Int) := zD; have hx11 := bt_at a0 x3_2; replace p11 := eq_true p11; replace q11 := eq_true q11
         go_wp2_with (first | ((with_reducible refine gate_callee (f := 127) rfl ?_); refine zJ (some 26) Try.func127 #[.int .u8 (bt a0 x3_2)] ?_; (with_reducible refine (spec_l01Small.calls (bt a0 x3_2) true _ A12.out).mono ?_); rintro e w' ⟨rfl, ⟨nd, rfl⟩⟩; refine ⟨_, rfl, ?_⟩))
         go_roundg k2
         case measure => have := HJ1.out; have := HK2.out; omega
         case rel => exact ⟨(wrap64 (x3_2 + 1)), zR, H', ⟨by have := HJ1.out; have := HK2.out; omega⟩, zV⟩
       replace c13 := Bool.eq_false_iff.mpr c13; subst c13
       rw [if_neg (show ¬ (false = true) by decide)] at H
       replace H := Option.bind_eq_some_iff.mp H; obtain ⟨t221, A150, H⟩ := H; have A15 := Aside0.mk A150; clear A150
       by_cases c16 : t221 = true
       rotate_left
       · replace c16 := Bool.eq_false_iff.mpr c16
         subst c16
         rw [if_neg (show ¬ (false = true) by decide)] at H
         obtain rfl := Option.some.inj H; have p11 : 0 ≤ (x3_2 : Int) := zD; have q11 : x3_2 < (a0.size : Int) := zD; have hx11 := bt_at a0 x3_2; replace p11 := eq_true p11; replace q11 := eq_true q11
         go_wp2_with (first | ((with_reducible refine gate_callee (f := 127) rfl ?_); refine zJ (some 26) Try.func127 #[.int .u8 (bt a0 x3_2)] ?_; (with_reducible refine (spec_l01Small.calls (bt a0 x3_2) false _ A12.out).mono ?_); rintro e w' ⟨rfl, ⟨nd, rfl⟩⟩; refine ⟨_, rfl, ?_⟩; have p14 : 0 ≤ (x3_2 : Int) := zD; have q14 : x3_2 < (a0.size : Int) := zD; have hx14 := bt_at a0 x3_2; replace p14 := eq_true p14; replace q14 := eq_true q14) | (go_at_call 128; (with_reducible refine (spec_l01Digit.calls (bt a0 x3_2) false _ A15.out).mono ?_); rintro e w' ⟨rfl, ⟨nd, rfl⟩⟩))
         go_ret
         exact ⟨by first | rfl | (simp; done) | (simp [*]; done), zV⟩
       subst c16; rw [if_pos rfl] at H; have H' := Aside0.mk H; clear H; have p11 : 0 ≤ (x3_2 : Int) := zD; have q11 : x3_2 < (a0.size : Int) := zD; have hx11 := bt_at a0 x3_2; replace p11 := eq_true p11; replace q11 := eq_true q11
       go_wp2_with (first | ((with_reducible refine gate_callee (f := 127) rfl ?_); refine zJ (some 26) Try.func127 #[.int .u8 (bt a0 x3_2)] ?_; (with_reducible refine (spec_l01Small.calls (bt a0 x3_2) false _ A12.out).mono ?_); rintro e w' ⟨rfl, ⟨nd, rfl⟩⟩; refine ⟨_, rfl, ?_⟩; have p14 : 0 ≤ (x3_2 : Int) := zD; have q14 : x3_2 < (a0.size : Int) := zD; have hx14 := bt_at a0 x3_2; replace p14 := eq_true p14; replace q14 := eq_true q14) | (go_at_call 128; (with_reducible refine (spec_l01Digit.calls (bt a0 x3_2) true _ A15.out).mono ?_); rintro e w' ⟨rfl, ⟨nd, rfl⟩⟩))
       go_roundg k2
       case measure => have := HJ1.out; have := HK2.out; omega
       case rel => exact ⟨(wrap64 (x3_2 + 1)), zR, H', ⟨by have := HJ1.out; have := HK2.out; omega⟩, zV⟩
def spec_l07Names.f  : Option (List ByteArray) := some (([(⟨#[97, 115, 104]⟩ : ByteArray), (⟨#[98, 101, 101, 99, 104]⟩ : ByteArray), (⟨#[98, 105, 114, 99, 104]⟩ : ByteArray), (⟨#[99, 104, 101, 114, 114, 121]⟩ : ByteArray), (⟨#[101, 98, 111, 110, 121]⟩ : ByteArray), (⟨#[104, 111, 108, 108, 121]⟩ : ByteArray), (⟨#[109, 97, 112, 108, 101]⟩ : ByteArray), (⟨#[111, 97, 107]⟩ : ByteArray), (⟨#[114, 111, 115, 101, 119, 111, 111, 100]⟩ : ByteArray), (⟨#[119, 97, 108, 110, 117, 116]⟩ : ByteArray)] : List ByteArray))
set_option maxHeartbeats 8000000 in
set_option maxRecDepth 100000 in
theorem spec_l07Names.calls  (r : List ByteArray) (w : World) (h : spec_l07Names.f  = some r) :
 Calls Try.prog 141 #[] w fun e w' => ∃ v0_ : Value, e = .returned (v0_) ∧ Kd.R Kd.string 9 w' w.heap.size (fun _ => True) v0_ r ∧ Below w.heap.size w w' := by
 have HB := Aside0.mk (Below.refl w.heap.size w)
 have H : (some (([(⟨#[97, 115, 104]⟩ : ByteArray), (⟨#[98, 101, 101, 99, 104]⟩ : ByteArray), (⟨#[98, 105, 114, 99, 104]⟩ : ByteArray), (⟨#[99, 104, 101, 114, 114, 121]⟩ : ByteArray), (⟨#[101, 98, 111, 110, 121]⟩ : ByteArray), (⟨#[104, 111, 108, 108, 121]⟩ : ByteArray), (⟨#[109, 97, 112, 108, 101]⟩ : ByteArray), (⟨#[111, 97, 107]⟩ : ByteArray), (⟨#[114, 111, 115, 101, 119, 111, 111, 100]⟩ : ByteArray), (⟨#[119, 97, 108, 110, 117, 116]⟩ : ByteArray)] : List ByteArray))) = some r := h
 clear h
 obtain ⟨y222, hy222⟩ : ∃ y_ : List ByteArray, y_ = (([(⟨#[97, 115, 104]⟩ : ByteArray), (⟨#[98, 101, 101, 99, 104]⟩ : ByteArray), (⟨#[98, 105, 114, 99, 104]⟩ : ByteArray), (⟨#[99, 104, 101, 114, 114, 121]⟩ : ByteArray), (⟨#[101, 98, 111, 110, 121]⟩ : ByteArray), (⟨#[104, 111, 108, 108, 121]⟩ : ByteArray), (⟨#[109, 97, 112, 108, 101]⟩ : ByteArray), (⟨#[111, 97, 107]⟩ : ByteArray), (⟨#[114, 111, 115, 101, 119, 111, 111, 100]⟩ : ByteArray), (⟨#[119, 97, 108, 110, 117, 116]⟩ : ByteArray)] : List ByteArray)) := ⟨_, rfl⟩
 replace H : (some y222) = some r := zY hy222 H; have Ny222 := Aside0.mk hy222; clear hy222; obtain rfl := Option.some.inj H
 go_enter Try.func141, Try.ntmps141
 go_wp2_with (first | ((with_reducible refine zI 1 rfl ?_); refine Kd.R_lit Kd.string _ 9 ?hg (N := 1) ?hd (xs := ([(⟨#[97, 115, 104]⟩ : ByteArray), (⟨#[98, 101, 101, 99, 104]⟩ : ByteArray), (⟨#[98, 105, 114, 99, 104]⟩ : ByteArray), (⟨#[99, 104, 101, 114, 114, 121]⟩ : ByteArray), (⟨#[101, 98, 111, 110, 121]⟩ : ByteArray), (⟨#[104, 111, 108, 108, 121]⟩ : ByteArray), (⟨#[109, 97, 112, 108, 101]⟩ : ByteArray), (⟨#[111, 97, 107]⟩ : ByteArray), (⟨#[114, 111, 115, 101, 119, 111, 111, 100]⟩ : ByteArray), (⟨#[119, 97, 108, 110, 117, 116]⟩ : ByteArray)] : List ByteArray)) (inner := [.string (⟨#[97, 115, 104]⟩ : ByteArray), .string (⟨#[98, 101, 101, 99, 104]⟩ : ByteArray), .string (⟨#[98, 105, 114, 99, 104]⟩ : ByteArray), .string (⟨#[99, 104, 101, 114, 114, 121]⟩ : ByteArray), .string (⟨#[101, 98, 111, 110, 121]⟩ : ByteArray), .string (⟨#[104, 111, 108, 108, 121]⟩ : ByteArray), .string (⟨#[109, 97, 112, 108, 101]⟩ : ByteArray), .string (⟨#[111, 97, 107]⟩ : ByteArray), .string (⟨#[114, 111, 115, 101, 119, 111, 111, 100]⟩ : ByteArray), .string (⟨#[119, 97, 108, 110, 117, 116]⟩ : ByteArray)]) (ok := fun _ => True) (okp := fun _ => True) ?hr ?hp (fun _ hk => hk) trivial (Below.refl _ _) (Nat.le_refl _) (by simp) ?_; (case hd => rfl); (case hg => rfl); (case hr => first | (go_simp; done) | (go_simp; rfl)); (case hp => exact (Reps.one (show Kd.M Kd.string _ _ _ (⟨#[97, 115, 104]⟩ : ByteArray) [.string (⟨#[97, 115, 104]⟩ : ByteArray)] from rfl) (Reps.one (show Kd.M Kd.string _ _ _ (⟨#[98, 101, 101, 99, 104]⟩ : ByteArray) [.string (⟨#[98, 101, 101, 99, 104]⟩ : ByteArray)] from rfl) (Reps.one (show Kd.M Kd.string _ _ _ (⟨#[98, 105, 114, 99, 104]⟩ : ByteArray) [.string (⟨#[98, 105, 114, 99, 104]⟩ : ByteArray)] from rfl) (Reps.one (show Kd.M Kd.string _ _ _ (⟨#[99, 104, 101, 114, 114, 121]⟩ : ByteArray) [.string (⟨#[99, 104, 101, 114, 114, 121]⟩ : ByteArray)] from rfl) (Reps.one (show Kd.M Kd.string _ _ _ (⟨#[101, 98, 111, 110, 121]⟩ : ByteArray) [.string (⟨#[101, 98, 111, 110, 121]⟩ : ByteArray)] from rfl) (Reps.one (show Kd.M Kd.string _ _ _ (⟨#[104, 111, 108, 108, 121]⟩ : ByteArray) [.string (⟨#[104, 111, 108, 108, 121]⟩ : ByteArray)] from rfl) (Reps.one (show Kd.M Kd.string _ _ _ (⟨#[109, 97, 112, 108, 101]⟩ : ByteArray) [.string (⟨#[109, 97, 112, 108, 101]⟩ : ByteArray)] from rfl) (Reps.one (show Kd.M Kd.string _ _ _ (⟨#[111, 97, 107]⟩ : ByteArray) [.string (⟨#[111, 97, 107]⟩ : ByteArray)] from rfl) (Reps.one (show Kd.M Kd.string _ _ _ (⟨#[114, 111, 115, 101, 119, 111, 111, 100]⟩ : ByteArray) [.string (⟨#[114, 111, 115, 101, 119, 111, 111, 100]⟩ : ByteArray)] from rfl) (Reps.one (show Kd.M Kd.string _ _ _ (⟨#[119, 97, 108, 110, 117, 116]⟩ : ByteArray) [.string (⟨#[119, 97, 108, 110, 117, 116]⟩ : ByteArray)] from rfl) (Reps.none _ _)))))))))))); intro v223 w1 ho2 hb hg_ hnew_; clear hg_ hnew_; (first | rw [← Ny222.out] at ho2 | (simp only [Int.reduceToNat] at ho2; rw [← Ny222.out] at ho2)); have HO224 := Aside0.mk (Kd.R_lower ho2 (below_size (pB0 HB.out))); replace HB := zW (pB0 HB.out) hb; clear hb ho2))
 go_ret
 exact ⟨_, zE, by (with_reducible repeat (first | apply Kd.R_alloc | apply Kd.R_drewN | apply Kd.R_drew)); exact HO224.out, pB0 HB.out⟩
def spec_l07Find.l0 : Nat → ByteArray → List ByteArray → Int → Option (Int)
 | 0, _, _, _ => none
 | k + 1, x0, x3, x4 => if x4 < (x3.length : Int) then (if 0 ≤ x4 then (if (rdOf ByteArray.empty x3 x4).toList = x0.toList then (some x4) else (spec_l07Find.l0 k x0 x3 (wrap64 (x4 + 1)))) else (none)) else (some (-1))
def spec_l07Find.f (k : Nat) (a0 : ByteArray) : Option (Int) := (spec_l07Names.f).bind fun t225 => (spec_l07Find.l0 k a0 t225 0)
theorem spec_l07Find.mono_l : ∀ k, (∀ y0 y1 y2, LeO (spec_l07Find.l0 k y0 y1 y2) (spec_l07Find.l0 (k + 1) y0 y1 y2))
 | 0 => fun _ _ _ r h => by simp [spec_l07Find.l0] at h
 | k + 1 => by
   have ih0 := spec_l07Find.mono_l k
   · intro y0 y1 y2
     unfold spec_l07Find.l0
     repeat' first
     | (with_reducible exact ih0 _ _ _)
     | (with_reducible exact LeO.refl _)
     | (with_reducible exact LeO.none _)
     | (with_reducible refine LeO.ite ?_ ?_)
     | (with_reducible refine LeO.bind ?_ (fun _ => ?_))
     | exact ih0 _ _ _
     | exact LeO.none _
     | refine LeO.ite ?_ ?_
     | refine LeO.bind ?_ (fun _ => ?_)
theorem spec_l07Find.mono : ∀ a0 k, LeO (spec_l07Find.f k a0) (spec_l07Find.f (k + 1) a0) := by
 intro a0 k; have ih0 := spec_l07Find.mono_l k; unfold spec_l07Find.f
 repeat' first
  | (with_reducible exact ih0 _ _ _)
  | (with_reducible exact LeO.refl _)
  | (with_reducible exact LeO.none _)
  | (with_reducible refine LeO.ite ?_ ?_)
  | (with_reducible refine LeO.bind ?_ (fun _ => ?_))
  | exact ih0 _ _ _
  | exact LeO.none _
  | refine LeO.ite ?_ ?_
  | refine LeO.bind ?_ (fun _ => ?_)
set_option maxHeartbeats 8000000 in
set_option maxRecDepth 100000 in
theorem spec_l07Find.calls (k : Nat) (a0 : ByteArray) (r : Int) (w : World) (h : spec_l07Find.f k a0 = some r) :
 Calls Try.prog 129 #[.string a0] w fun e w' => e = .returned (.int .i64 r) ∧ Below w.heap.size w w' := by
 have HB := Aside0.mk (Below.refl w.heap.size w)
 have H : ((spec_l07Names.f).bind fun t225 => (spec_l07Find.l0 k a0 t225 0)) = some r := h
 clear h; replace H := Option.bind_eq_some_iff.mp H; obtain ⟨t225, A20, H⟩ := H; have A2 := Aside0.mk A20; clear A20; have H' := Aside0.mk H; clear H
 go_enter Try.func129, Try.ntmps129
 go_wp2_with (first | ((with_reducible refine gate_callee (f := 141) rfl ?_); refine zJ (some 5) Try.func141 #[] ?_; (with_reducible refine (spec_l07Names.calls  t225 _ A2.out).mono ?_); rintro e w3 ⟨v226, rfl, ho0, hb⟩; refine ⟨_, rfl, ?_⟩; have HO227 := Aside0.mk (Kd.R_lower ho0 (below_size (pB0 HB.out))); replace HB := zW (pB0 HB.out) hb; (try clear hb); (try clear hb2); (try clear hk); (try clear hi); (try clear ho0)))
 go_loopg [4] k (fun kq v4 w' => ∃ (x4_1 : Int), v4 = .int .i64 x4_1 ∧ Aside0 (spec_l07Find.l0 kq a0 t225 x4_1 = some r) ∧ Aside0 (kq ≤ k) ∧ Aside0 (Kd.R Kd.string 9 w' w.heap.size (fun _ => True) v226 t225) ∧ Aside0 (Below w.heap.size w w'))
 case atStart => exact ⟨(0), zR, H', ⟨Nat.le_refl _⟩, ⟨pR HO227.out⟩, ⟨pB0 HB.out⟩⟩
 case round =>
  clear H'; (try clear c1); (try clear p2); obtain ⟨x4_1, rfl, HA, HK1, HO_3, HB⟩ := hrel
  cases gk with
  | zero => exact absurd HA.out (by simp [spec_l07Find.l0])
  | succ k1 =>
    have H := HA.out; clear HA; simp only [spec_l07Find.l0] at H
    by_cases c4 : x4_1 < (t225.length : Int)
    rotate_left
    · rw [if_neg c4] at H
      have c4b0 := decide_eq_false c4; clear c4; obtain rfl := Option.some.inj H; obtain ⟨Ao9, co9, eo9⟩ := Kd.R_slice HO_3.out; subst eo9
      go_wp2
      go_ret
      exact ⟨zE, pB0 HB.out⟩
    rw [if_pos c4] at H; have c4b0 := decide_eq_true c4; clear c4
    by_cases c5 : 0 ≤ x4_1
    rotate_left
    · rw [if_neg c5] at H
      exact absurd H (by simp)
    rw [if_pos c5] at H; have c5b0 := decide_eq_true c5; clear c5
    by_cases c6 : (rdOf ByteArray.empty t225 x4_1).toList = a0.toList
    · rw [if_pos c6] at H
      have c6b0 : ((rdOf ByteArray.empty t225 x4_1).toList == a0.toList) = true := beq_iff_eq.mpr c6; have c6b1 : ((rdOf ByteArray.empty t225 x4_1).toList != a0.toList) = false := bne_eq_false_iff_eq.mpr c6; clear c6; obtain rfl := Option.some.inj H; obtain ⟨Ao7, co7, eo7⟩ := Kd.R_slice HO_3.out; subst eo7; have p228 : 0 ≤ (x4_1 : Int) := zD; have q228 : x4_1 < (t225.length : Int) := zD; obtain ⟨ad228, e228, hx228_0⟩ := Kd.at_string (Kd.R_reads' HO_3.out).2.2 x4_1 p228 q228; cases e228; replace p228 := eq_true p228; replace q228 := eq_true q228
      go_wp2
      go_ret
      exact ⟨zE, pB0 HB.out⟩
    rw [if_neg c6] at H; have c6b0 : ((rdOf ByteArray.empty t225 x4_1).toList == a0.toList) = false := beq_eq_false_iff_ne.mpr c6; have c6b1 : ((rdOf ByteArray.empty t225 x4_1).toList != a0.toList) = true := bne_iff_ne.mpr c6; have H' := Aside0.mk H; clear H; obtain ⟨Ao8, co8, eo8⟩ := Kd.R_slice HO_3.out; subst eo8; have p228 : 0 ≤ (x4_1 : Int) := zD; have q228 : x4_1 < (t225.length : Int) := zD; obtain ⟨ad228, e228, hx228_0⟩ := Kd.at_string (Kd.R_reads' HO_3.out).2.2 x4_1 p228 q228; cases e228; replace p228 := eq_true p228; replace q228 := eq_true q228
    go_wp2
    go_roundg k1
    case measure => have := HK1.out; omega
    case rel => exact ⟨(wrap64 (x4_1 + 1)), zR, H', ⟨by have := HK1.out; omega⟩, ⟨pR HO_3.out⟩, ⟨pB0 HB.out⟩⟩
def spec_l07Table.f  : Option ((List (List Int))) := some (([(([20, 40, 310] : List Int)), (([35, 45, 410] : List Int)), (([15, 33, 280] : List Int)), (([50, 36, 240] : List Int)), (([95, 85, 270] : List Int)), (([5, 35, 370] : List Int)), (([10, 42, 290] : List Int)), (([40, 40, 330] : List Int)), (([80, 60, 220] : List Int)), (([70, 38, 260] : List Int))] : List (List Int)))
set_option maxHeartbeats 8000000 in
set_option maxRecDepth 100000 in
theorem spec_l07Table.calls  (r : List (List Int)) (w : World) (h : spec_l07Table.f  = some r) :
 Calls Try.prog 130 #[] w fun e w' => ∃ v0_ : Value, e = .returned (v0_) ∧ Kd.N (Kd.slice 2 (Kd.int .i64)) 41 w' w.heap.size (fun k_ => (w.heap.size ≤ k_)) v0_ r ∧ Below w.heap.size w w' := by
 have HB := Aside0.mk (Below.refl w.heap.size w); have H : (some (([(([20, 40, 310] : List Int)), (([35, 45, 410] : List Int)), (([15, 33, 280] : List Int)), (([50, 36, 240] : List Int)), (([95, 85, 270] : List Int)), (([5, 35, 370] : List Int)), (([10, 42, 290] : List Int)), (([40, 40, 330] : List Int)), (([80, 60, 220] : List Int)), (([70, 38, 260] : List Int))] : List (List Int)))) = some r := h; clear h; obtain ⟨y229, hy229⟩ : ∃ y_ : List Int, y_ = (([20, 40, 310] : List Int)) := ⟨_, rfl⟩; replace H : (some (([y229, (([35, 45, 410] : List Int)), (([15, 33, 280] : List Int)), (([50, 36, 240] : List Int)), (([95, 85, 270] : List Int)), (([5, 35, 370] : List Int)), (([10, 42, 290] : List Int)), (([40, 40, 330] : List Int)), (([80, 60, 220] : List Int)), (([70, 38, 260] : List Int))] : List (List Int)))) = some r := zY hy229 H; have Ny229 := Aside0.mk hy229; clear hy229; obtain ⟨y232, hy232⟩ : ∃ y_ : List Int, y_ = (([35, 45, 410] : List Int)) := ⟨_, rfl⟩; replace H : (some (([y229, y232, (([15, 33, 280] : List Int)), (([50, 36, 240] : List Int)), (([95, 85, 270] : List Int)), (([5, 35, 370] : List Int)), (([10, 42, 290] : List Int)), (([40, 40, 330] : List Int)), (([80, 60, 220] : List Int)), (([70, 38, 260] : List Int))] : List (List Int)))) = some r := zY hy232 H; have Ny232 := Aside0.mk hy232; clear hy232; obtain ⟨y235, hy235⟩ : ∃ y_ : List Int, y_ = (([15, 33, 280] : List Int)) := ⟨_, rfl⟩; replace H : (some (([y229, y232, y235, (([50, 36, 240] : List Int)), (([95, 85, 270] : List Int)), (([5, 35, 370] : List Int)), (([10, 42, 290] : List Int)), (([40, 40, 330] : List Int)), (([80, 60, 220] : List Int)), (([70, 38, 260] : List Int))] : List (List Int)))) = some r := zY hy235 H; have Ny235 := Aside0.mk hy235; clear hy235; obtain ⟨y238, hy238⟩ : ∃ y_ : List Int, y_ = (([50, 36, 240] : List Int)) := ⟨_, rfl⟩; replace H : (some (([y229, y232, y235, y238, (([95, 85, 270] : List Int)), (([5, 35, 370] : List Int)), (([10, 42, 290] : List Int)), (([40, 40, 330] : List Int)), (([80, 60, 220] : List Int)), (([70, 38, 260] : List Int))] : List (List Int)))) = some r := zY hy238 H; have Ny238 := Aside0.mk hy238; clear hy238; obtain ⟨y241, hy241⟩ : ∃ y_ : List Int, y_ = (([95, 85, 270] : List Int)) := ⟨_, rfl⟩; replace H : (some (([y229, y232, y235, y238, y241, (([5, 35, 370] : List Int)), (([10, 42, 290] : List Int)), (([40, 40, 330] : List Int)), (([80, 60, 220] : List Int)), (([70, 38, 260] : List Int))] : List (List Int)))) = some r := zY hy241 H; have Ny241 := Aside0.mk hy241; clear hy241; obtain ⟨y244, hy244⟩ : ∃ y_ : List Int, y_ = (([5, 35, 370] : List Int)) := ⟨_, rfl⟩; replace H : (some (([y229, y232, y235, y238, y241, y244, (([10, 42, 290] : List Int)), (([40, 40, 330] : List Int)), (([80, 60, 220] : List Int)), (([70, 38, 260] : List Int))] : List (List Int)))) = some r := zY hy244 H; have Ny244 := Aside0.mk hy244; clear hy244; obtain ⟨y247, hy247⟩ : ∃ y_ : List Int, y_ = (([10, 42, 290] : List Int)) := ⟨_, rfl⟩; replace H : (some (([y229, y232, y235, y238, y241, y244, y247, (([40, 40, 330] : List Int)), (([80, 60, 220] : List Int)), (([70, 38, 260] : List Int))] : List (List Int)))) = some r := zY hy247 H
 have Ny247 := Aside0.mk hy247; clear hy247; obtain ⟨y250, hy250⟩ : ∃ y_ : List Int, y_ = (([40, 40, 330] : List Int)) := ⟨_, rfl⟩; replace H : (some (([y229, y232, y235, y238, y241, y244, y247, y250, (([80, 60, 220] : List Int)), (([70, 38, 260] : List Int))] : List (List Int)))) = some r := zY hy250 H; have Ny250 := Aside0.mk hy250; clear hy250; obtain ⟨y253, hy253⟩ : ∃ y_ : List Int, y_ = (([80, 60, 220] : List Int)) := ⟨_, rfl⟩; replace H : (some (([y229, y232, y235, y238, y241, y244, y247, y250, y253, (([70, 38, 260] : List Int))] : List (List Int)))) = some r := zY hy253 H; have Ny253 := Aside0.mk hy253; clear hy253; obtain ⟨y256, hy256⟩ : ∃ y_ : List Int, y_ = (([70, 38, 260] : List Int)) := ⟨_, rfl⟩; replace H : (some (([y229, y232, y235, y238, y241, y244, y247, y250, y253, y256] : List (List Int)))) = some r := zY hy256 H; have Ny256 := Aside0.mk hy256; clear hy256; obtain ⟨y259, hy259⟩ : ∃ y_ : List (List Int), y_ = (([y229, y232, y235, y238, y241, y244, y247, y250, y253, y256] : List (List Int))) := ⟨_, rfl⟩; replace H : (some y259) = some r := zY hy259 H; have Ny259 := Aside0.mk hy259; clear hy259; obtain rfl := Option.some.inj H
 go_enter Try.func130, Try.ntmps130
 go_wp2_with (first | ((with_reducible refine zI 1 rfl ?_); refine Kd.R_lit (Kd.int .i64) _ 2 ?hg (N := 1) ?hd (xs := ([20, 40, 310] : List Int)) (inner := [.int .i64 20, .int .i64 40, .int .i64 310]) (ok := fun _ => True) (okp := fun _ => True) ?hr ?hp (fun _ hk => hk) trivial (Below.refl _ _) (Nat.le_refl _) (by simp) ?_; (case hd => rfl); (case hg => rfl); (case hr => first | (go_simp; done) | (go_simp; rfl)); (case hp => exact (Reps.one (show Kd.M (Kd.int .i64) _ _ _ 20 [.int .i64 20] from rfl) (Reps.one (show Kd.M (Kd.int .i64) _ _ _ 40 [.int .i64 40] from rfl) (Reps.one (show Kd.M (Kd.int .i64) _ _ _ 310 [.int .i64 310] from rfl) (Reps.none _ _))))); intro v230 w1 ho2 hb hg_ hnew_; clear hg_ hnew_; (first | rw [← Ny229.out] at ho2 | (simp only [Int.reduceToNat] at ho2; rw [← Ny229.out] at ho2)); have HO231 := Aside0.mk (Kd.R_lower (Kd.R_newM (M := fun k_ => (w.heap.size ≤ k_)) ho2 (below_size (pB0 HB.out)) (fun k_ h_ => h_)) (below_size (pB0 HB.out))); replace HB := zW (pB0 HB.out) hb; clear hb ho2) | ((with_reducible refine zI 2 rfl ?_); refine Kd.R_lit (Kd.int .i64) _ 2 ?hg (N := 2) ?hd (xs := ([35, 45, 410] : List Int)) (inner := [.int .i64 35, .int .i64 45, .int .i64 410]) (ok := fun _ => True) (okp := fun _ => True) ?hr ?hp (fun _ hk => hk) trivial (Below.refl _ _) (Nat.le_refl _) (by simp) ?_; (case hd => rfl); (case hg => rfl); (case hr => first | (go_simp; done) | (go_simp; rfl)); (case hp => exact (Reps.one (show Kd.M (Kd.int .i64) _ _ _ 35 [.int .i64 35] from rfl) (Reps.one (show Kd.M (Kd.int .i64) _ _ _ 45 [.int .i64 45] from rfl) (Reps.one (show Kd.M (Kd.int .i64) _ _ _ 410 [.int .i64 410] from rfl) (Reps.none _ _))))); intro v233 w3 ho4 hb hg_ hnew_; clear hg_ hnew_; (first | rw [← Ny232.out] at ho4 | (simp only [Int.reduceToNat] at ho4; rw [← Ny232.out] at ho4)); have HO234 := Aside0.mk (Kd.R_lower (Kd.R_new' (Kd.R_newM (M := fun k_ => (w.heap.size ≤ k_)) ho4 (below_size (pB0 HB.out)) (fun k_ h_ => h_)) (Kd.R_lt (pR HO231.out))) (below_size (pB0 HB.out))); replace HO231 := Aside0.mk (Kd.R_elder' (pR HO231.out) (Kd.R_base ho4) hb); replace HB := zW (pB0 HB.out) hb; clear hb ho4) | ((with_reducible refine zI 3 rfl ?_); refine Kd.R_lit (Kd.int .i64) _ 2 ?hg (N := 3) ?hd (xs := ([15, 33, 280] : List Int)) (inner := [.int .i64 15, .int .i64 33, .int .i64 280]) (ok := fun _ => True) (okp := fun _ => True) ?hr ?hp (fun _ hk => hk) trivial (Below.refl _ _) (Nat.le_refl _) (by simp) ?_; (case hd => rfl); (case hg => rfl); (case hr => first | (go_simp; done) | (go_simp; rfl)); (case hp => exact (Reps.one (show Kd.M (Kd.int .i64) _ _ _ 15 [.int .i64 15] from rfl) (Reps.one (show Kd.M (Kd.int .i64) _ _ _ 33 [.int .i64 33] from rfl) (Reps.one (show Kd.M (Kd.int .i64) _ _ _ 280 [.int .i64 280] from rfl) (Reps.none _ _))))); intro v236 w5 ho6 hb hg_ hnew_; clear hg_ hnew_; (first | rw [← Ny235.out] at ho6 | (simp only [Int.reduceToNat] at ho6; rw [← Ny235.out] at ho6)); have HO237 := Aside0.mk (Kd.R_lower (Kd.R_new' (Kd.R_new' (Kd.R_newM (M := fun k_ => (w.heap.size ≤ k_)) ho6 (below_size (pB0 HB.out)) (fun k_ h_ => h_)) (Kd.R_lt (pR HO231.out))) (Kd.R_lt (pR HO234.out))) (below_size (pB0 HB.out))); replace HO231 := Aside0.mk (Kd.R_elder' (pR HO231.out) (Kd.R_base ho6) hb); replace HO234 := Aside0.mk (Kd.R_elder' (pR HO234.out) (Kd.R_base ho6) hb); replace HB := zW (pB0 HB.out) hb; clear hb ho6) | ((with_reducible refine zI 4 rfl ?_); refine Kd.R_lit (Kd.int .i64) _ 2 ?hg (N := 4) ?hd (xs := ([50, 36, 240] : List Int)) (inner := [.int .i64 50, .int .i64 36, .int .i64 240]) (ok := fun _ => True) (okp := fun _ => True) ?hr ?hp (fun _ hk => hk) trivial (Below.refl _ _) (Nat.le_refl _) (by simp) ?_; (case hd => rfl); (case hg => rfl); (case hr => first | (go_simp; done) | (go_simp; rfl)); (case hp => exact (Reps.one (show Kd.M (Kd.int .i64) _ _ _ 50 [.int .i64 50] from rfl) (Reps.one (show Kd.M (Kd.int .i64) _ _ _ 36 [.int .i64 36] from rfl) (Reps.one (show Kd.M (Kd.int .i64) _ _ _ 240 [.int .i64 240] from rfl) (Reps.none _ _))))); intro v239 w7 ho8 hb hg_ hnew_; clear hg_ hnew_; (first | rw [← Ny238.out] at ho8 | (simp only [Int.reduceToNat] at ho8; rw [← Ny238.out] at ho8)); have HO240 := Aside0.mk (Kd.R_lower (Kd.R_new' (Kd.R_new' (Kd.R_new' (Kd.R_newM (M := fun k_ => (w.heap.size ≤ k_)) ho8 (below_size (pB0 HB.out)) (fun k_ h_ => h_)) (Kd.R_lt (pR HO231.out))) (Kd.R_lt (pR HO234.out))) (Kd.R_lt (pR HO237.out))) (below_size (pB0 HB.out))); replace HO231 := Aside0.mk (Kd.R_elder' (pR HO231.out) (Kd.R_base ho8) hb); replace HO234 := Aside0.mk (Kd.R_elder' (pR HO234.out) (Kd.R_base ho8) hb); replace HO237 := Aside0.mk (Kd.R_elder' (pR HO237.out) (Kd.R_base ho8) hb); replace HB := zW (pB0 HB.out) hb; clear hb ho8) | ((with_reducible refine zI 5 rfl ?_); refine Kd.R_lit (Kd.int .i64) _ 2 ?hg (N := 5) ?hd (xs := ([95, 85, 270] : List Int)) (inner := [.int .i64 95, .int .i64 85, .int .i64 270]) (ok := fun _ => True) (okp := fun _ => True) ?hr ?hp (fun _ hk => hk) trivial (Below.refl _ _) (Nat.le_refl _) (by simp) ?_; (case hd => rfl); (case hg => rfl); (case hr => first | (go_simp; done) | (go_simp; rfl)); (case hp => exact (Reps.one (show Kd.M (Kd.int .i64) _ _ _ 95 [.int .i64 95] from rfl) (Reps.one (show Kd.M (Kd.int .i64) _ _ _ 85 [.int .i64 85] from rfl) (Reps.one (show Kd.M (Kd.int .i64) _ _ _ 270 [.int .i64 270] from rfl) (Reps.none _ _))))); intro v242 w9 ho10 hb hg_ hnew_; clear hg_ hnew_; (first | rw [← Ny241.out] at ho10 | (simp only [Int.reduceToNat] at ho10; rw [← Ny241.out] at ho10)); have HO243 := Aside0.mk (Kd.R_lower (Kd.R_new' (Kd.R_new' (Kd.R_new' (Kd.R_new' (Kd.R_newM (M := fun k_ => (w.heap.size ≤ k_)) ho10 (below_size (pB0 HB.out)) (fun k_ h_ => h_)) (Kd.R_lt (pR HO231.out))) (Kd.R_lt (pR HO234.out))) (Kd.R_lt (pR HO237.out))) (Kd.R_lt (pR HO240.out))) (below_size (pB0 HB.out))); replace HO231 := Aside0.mk (Kd.R_elder' (pR HO231.out) (Kd.R_base ho10) hb); replace HO234 := Aside0.mk (Kd.R_elder' (pR HO234.out) (Kd.R_base ho10) hb); replace HO237 := Aside0.mk (Kd.R_elder' (pR HO237.out) (Kd.R_base ho10) hb); replace HO240 := Aside0.mk (Kd.R_elder' (pR HO240.out) (Kd.R_base ho10) hb); replace HB := zW (pB0 HB.out) hb; clear hb ho10) | ((with_reducible refine zI 6 rfl ?_); refine Kd.R_lit (Kd.int .i64) _ 2 ?hg (N := 6) ?hd (xs := ([5, 35, 370] : List Int)) (inner := [.int .i64 5, .int .i64 35, .int .i64 370]) (ok := fun _ => True) (okp := fun _ => True) ?hr ?hp (fun _ hk => hk) trivial (Below.refl _ _) (Nat.le_refl _) (by simp) ?_; (case hd => rfl); (case hg => rfl); (case hr => first | (go_simp; done) | (go_simp; rfl)); (case hp => exact (Reps.one (show Kd.M (Kd.int .i64) _ _ _ 5 [.int .i64 5] from rfl) (Reps.one (show Kd.M (Kd.int .i64) _ _ _ 35 [.int .i64 35] from rfl) (Reps.one (show Kd.M (Kd.int .i64) _ _ _ 370 [.int .i64 370] from rfl) (Reps.none _ _))))); intro v245 w11 ho12 hb hg_ hnew_; clear hg_ hnew_; (first | rw [← Ny244.out] at ho12 | (simp only [Int.reduceToNat] at ho12; rw [← Ny244.out] at ho12)); have HO246 := Aside0.mk (Kd.R_lower (Kd.R_new' (Kd.R_new' (Kd.R_new' (Kd.R_new' (Kd.R_new' (Kd.R_newM (M := fun k_ => (w.heap.size ≤ k_)) ho12 (below_size (pB0 HB.out)) (fun k_ h_ => h_)) (Kd.R_lt (pR HO231.out))) (Kd.R_lt (pR HO234.out))) (Kd.R_lt (pR HO237.out))) (Kd.R_lt (pR HO240.out))) (Kd.R_lt (pR HO243.out))) (below_size (pB0 HB.out))); replace HO231 := Aside0.mk (Kd.R_elder' (pR HO231.out) (Kd.R_base ho12) hb); replace HO234 := Aside0.mk (Kd.R_elder' (pR HO234.out) (Kd.R_base ho12) hb); replace HO237 := Aside0.mk (Kd.R_elder' (pR HO237.out) (Kd.R_base ho12) hb); replace HO240 := Aside0.mk (Kd.R_elder' (pR HO240.out) (Kd.R_base ho12) hb); replace HO243 := Aside0.mk (Kd.R_elder' (pR HO243.out) (Kd.R_base ho12) hb); replace HB := zW (pB0 HB.out) hb; clear hb ho12) | ((with_reducible refine zI 7 rfl ?_); refine Kd.R_lit (Kd.int .i64) _ 2 ?hg (N := 7) ?hd (xs := ([10, 42, 290] : List Int)) (inner := [.int .i64 10, .int .i64 42, .int .i64 290]) (ok := fun _ => True) (okp := fun _ => True) ?hr ?hp (fun _ hk => hk) trivial (Below.refl _ _) (Nat.le_refl _) (by simp) ?_; (case hd => rfl); (case hg => rfl); (case hr => first | (go_simp; done) | (go_simp; rfl)); (case hp => exact (Reps.one (show Kd.M (Kd.int .i64) _ _ _ 10 [.int .i64 10] from rfl) (Reps.one (show Kd.M (Kd.int .i64) _ _ _ 42 [.int .i64 42] from rfl) (Reps.one (show Kd.M (Kd.int .i64) _ _ _ 290 [.int .i64 290] from rfl) (Reps.none _ _))))); intro v248 w13 ho14 hb hg_ hnew_; clear hg_ hnew_; (first | rw [← Ny247.out] at ho14 | (simp only [Int.reduceToNat] at ho14; rw [← Ny247.out] at ho14)); have HO249 := Aside0.mk (Kd.R_lower (Kd.R_new' (Kd.R_new' (Kd.R_new' (Kd.R_new' (Kd.R_new' (Kd.R_new' (Kd.R_newM (M := fun k_ => (w.heap.size ≤ k_)) ho14 (below_size (pB0 HB.out)) (fun k_ h_ => h_)) (Kd.R_lt (pR HO231.out))) (Kd.R_lt (pR HO234.out))) (Kd.R_lt (pR HO237.out))) (Kd.R_lt (pR HO240.out))) (Kd.R_lt (pR HO243.out))) (Kd.R_lt (pR HO246.out))) (below_size (pB0 HB.out))); replace HO231 := Aside0.mk (Kd.R_elder' (pR HO231.out) (Kd.R_base ho14) hb); replace HO234 := Aside0.mk (Kd.R_elder' (pR HO234.out) (Kd.R_base ho14) hb); replace HO237 := Aside0.mk (Kd.R_elder' (pR HO237.out) (Kd.R_base ho14) hb); replace HO240 := Aside0.mk (Kd.R_elder' (pR HO240.out) (Kd.R_base ho14) hb); replace HO243 := Aside0.mk (Kd.R_elder' (pR HO243.out) (Kd.R_base ho14) hb); replace HO246 := Aside0.mk (Kd.R_elder' (pR HO246.out) (Kd.R_base ho14) hb); replace HB := zW (pB0 HB.out) hb; clear hb ho14) | ((with_reducible refine zI 8 rfl ?_); refine Kd.R_lit (Kd.int .i64) _ 2 ?hg (N := 8) ?hd (xs := ([40, 40, 330] : List Int)) (inner := [.int .i64 40, .int .i64 40, .int .i64 330]) (ok := fun _ => True) (okp := fun _ => True) ?hr ?hp (fun _ hk => hk) trivial (Below.refl _ _) (Nat.le_refl _) (by simp) ?_; (case hd => rfl); (case hg => rfl); (case hr => first | (go_simp; done) | (go_simp; rfl)); (case hp => exact (Reps.one (show Kd.M (Kd.int .i64) _ _ _ 40 [.int .i64 40] from rfl) (Reps.one (show Kd.M (Kd.int .i64) _ _ _ 40 [.int .i64 40] from rfl) (Reps.one (show Kd.M (Kd.int .i64) _ _ _ 330 [.int .i64 330] from rfl) (Reps.none _ _))))); intro v251 w15 ho16 hb hg_ hnew_; clear hg_ hnew_; (first | rw [← Ny250.out] at ho16 | (simp only [Int.reduceToNat] at ho16; rw [← Ny250.out] at ho16)); have HO252 := Aside0.mk (Kd.R_lower (Kd.R_new' (Kd.R_new' (Kd.R_new' (Kd.R_new' (Kd.R_new' (Kd.R_new' (Kd.R_new' (Kd.R_newM (M := fun k_ => (w.heap.size ≤ k_)) ho16 (below_size (pB0 HB.out)) (fun k_ h_ => h_)) (Kd.R_lt (pR HO231.out))) (Kd.R_lt (pR HO234.out))) (Kd.R_lt (pR HO237.out))) (Kd.R_lt (pR HO240.out))) (Kd.R_lt (pR HO243.out))) (Kd.R_lt (pR HO246.out))) (Kd.R_lt (pR HO249.out))) (below_size (pB0 HB.out))); replace HO231 := Aside0.mk (Kd.R_elder' (pR HO231.out) (Kd.R_base ho16) hb); replace HO234 := Aside0.mk (Kd.R_elder' (pR HO234.out) (Kd.R_base ho16) hb); replace HO237 := Aside0.mk (Kd.R_elder' (pR HO237.out) (Kd.R_base ho16) hb); replace HO240 := Aside0.mk (Kd.R_elder' (pR HO240.out) (Kd.R_base ho16) hb); replace HO243 := Aside0.mk (Kd.R_elder' (pR HO243.out) (Kd.R_base ho16) hb); replace HO246 := Aside0.mk (Kd.R_elder' (pR HO246.out) (Kd.R_base ho16) hb); replace HO249 := Aside0.mk (Kd.R_elder' (pR HO249.out) (Kd.R_base ho16) hb); replace HB := zW (pB0 HB.out) hb; clear hb ho16) | ((with_reducible refine zI 9 rfl ?_); refine Kd.R_lit (Kd.int .i64) _ 2 ?hg (N := 9) ?hd (xs := ([80, 60, 220] : List Int)) (inner := [.int .i64 80, .int .i64 60, .int .i64 220]) (ok := fun _ => True) (okp := fun _ => True) ?hr ?hp (fun _ hk => hk) trivial (Below.refl _ _) (Nat.le_refl _) (by simp) ?_; (case hd => rfl); (case hg => rfl); (case hr => first | (go_simp; done) | (go_simp; rfl)); (case hp => exact (Reps.one (show Kd.M (Kd.int .i64) _ _ _ 80 [.int .i64 80] from rfl) (Reps.one (show Kd.M (Kd.int .i64) _ _ _ 60 [.int .i64 60] from rfl) (Reps.one (show Kd.M (Kd.int .i64) _ _ _ 220 [.int .i64 220] from rfl) (Reps.none _ _))))); intro v254 w17 ho18 hb hg_ hnew_; clear hg_ hnew_; (first | rw [← Ny253.out] at ho18 | (simp only [Int.reduceToNat] at ho18; rw [← Ny253.out] at ho18)); have HO255 := Aside0.mk (Kd.R_lower (Kd.R_new' (Kd.R_new' (Kd.R_new' (Kd.R_new' (Kd.R_new' (Kd.R_new' (Kd.R_new' (Kd.R_new' (Kd.R_newM (M := fun k_ => (w.heap.size ≤ k_)) ho18 (below_size (pB0 HB.out)) (fun k_ h_ => h_)) (Kd.R_lt (pR HO231.out))) (Kd.R_lt (pR HO234.out))) (Kd.R_lt (pR HO237.out))) (Kd.R_lt (pR HO240.out))) (Kd.R_lt (pR HO243.out))) (Kd.R_lt (pR HO246.out))) (Kd.R_lt (pR HO249.out))) (Kd.R_lt (pR HO252.out))) (below_size (pB0 HB.out))); replace HO231 := Aside0.mk (Kd.R_elder' (pR HO231.out) (Kd.R_base ho18) hb); replace HO234 := Aside0.mk (Kd.R_elder' (pR HO234.out) (Kd.R_base ho18) hb); replace HO237 := Aside0.mk (Kd.R_elder' (pR HO237.out) (Kd.R_base ho18) hb); replace HO240 := Aside0.mk (Kd.R_elder' (pR HO240.out) (Kd.R_base ho18) hb); replace HO243 := Aside0.mk (Kd.R_elder' (pR HO243.out) (Kd.R_base ho18) hb); replace HO246 := Aside0.mk (Kd.R_elder' (pR HO246.out) (Kd.R_base ho18) hb); replace HO249 := Aside0.mk (Kd.R_elder' (pR HO249.out) (Kd.R_base ho18) hb); replace HO252 := Aside0.mk (Kd.R_elder' (pR HO252.out) (Kd.R_base ho18) hb); replace HB := zW (pB0 HB.out) hb; clear hb ho18) | ((with_reducible refine zI 10 rfl ?_); refine Kd.R_lit (Kd.int .i64) _ 2 ?hg (N := 10) ?hd (xs := ([70, 38, 260] : List Int)) (inner := [.int .i64 70, .int .i64 38, .int .i64 260]) (ok := fun _ => True) (okp := fun _ => True) ?hr ?hp (fun _ hk => hk) trivial (Below.refl _ _) (Nat.le_refl _) (by simp) ?_; (case hd => rfl); (case hg => rfl); (case hr => first | (go_simp; done) | (go_simp; rfl)); (case hp => exact (Reps.one (show Kd.M (Kd.int .i64) _ _ _ 70 [.int .i64 70] from rfl) (Reps.one (show Kd.M (Kd.int .i64) _ _ _ 38 [.int .i64 38] from rfl) (Reps.one (show Kd.M (Kd.int .i64) _ _ _ 260 [.int .i64 260] from rfl) (Reps.none _ _))))); intro v257 w19 ho20 hb hg_ hnew_; clear hg_ hnew_; (first | rw [← Ny256.out] at ho20 | (simp only [Int.reduceToNat] at ho20; rw [← Ny256.out] at ho20)); have HO258 := Aside0.mk (Kd.R_lower (Kd.R_new' (Kd.R_new' (Kd.R_new' (Kd.R_new' (Kd.R_new' (Kd.R_new' (Kd.R_new' (Kd.R_new' (Kd.R_new' (Kd.R_newM (M := fun k_ => (w.heap.size ≤ k_)) ho20 (below_size (pB0 HB.out)) (fun k_ h_ => h_)) (Kd.R_lt (pR HO231.out))) (Kd.R_lt (pR HO234.out))) (Kd.R_lt (pR HO237.out))) (Kd.R_lt (pR HO240.out))) (Kd.R_lt (pR HO243.out))) (Kd.R_lt (pR HO246.out))) (Kd.R_lt (pR HO249.out))) (Kd.R_lt (pR HO252.out))) (Kd.R_lt (pR HO255.out))) (below_size (pB0 HB.out))); replace HO231 := Aside0.mk (Kd.R_elder' (pR HO231.out) (Kd.R_base ho20) hb); replace HO234 := Aside0.mk (Kd.R_elder' (pR HO234.out) (Kd.R_base ho20) hb); replace HO237 := Aside0.mk (Kd.R_elder' (pR HO237.out) (Kd.R_base ho20) hb); replace HO240 := Aside0.mk (Kd.R_elder' (pR HO240.out) (Kd.R_base ho20) hb); replace HO243 := Aside0.mk (Kd.R_elder' (pR HO243.out) (Kd.R_base ho20) hb); replace HO246 := Aside0.mk (Kd.R_elder' (pR HO246.out) (Kd.R_base ho20) hb); replace HO249 := Aside0.mk (Kd.R_elder' (pR HO249.out) (Kd.R_base ho20) hb); replace HO252 := Aside0.mk (Kd.R_elder' (pR HO252.out) (Kd.R_base ho20) hb); replace HO255 := Aside0.mk (Kd.R_elder' (pR HO255.out) (Kd.R_base ho20) hb); replace HB := zW (pB0 HB.out) hb; clear hb ho20; obtain ⟨Ao21, co21, eo21⟩ := Kd.R_slice HO231.out; subst eo21; obtain ⟨Ao22, co22, eo22⟩ := Kd.R_slice HO234.out; subst eo22; obtain ⟨Ao23, co23, eo23⟩ := Kd.R_slice HO237.out; subst eo23; obtain ⟨Ao24, co24, eo24⟩ := Kd.R_slice HO240.out; subst eo24; obtain ⟨Ao25, co25, eo25⟩ := Kd.R_slice HO243.out; subst eo25; obtain ⟨Ao26, co26, eo26⟩ := Kd.R_slice HO246.out; subst eo26; obtain ⟨Ao27, co27, eo27⟩ := Kd.R_slice HO249.out; subst eo27; obtain ⟨Ao28, co28, eo28⟩ := Kd.R_slice HO252.out; subst eo28; obtain ⟨Ao29, co29, eo29⟩ := Kd.R_slice HO255.out; subst eo29; obtain ⟨Ao30, co30, eo30⟩ := Kd.R_slice HO258.out; subst eo30) | ((with_reducible refine zI 11 rfl ?_); refine Kd.N_lit (Kd.slice 2 (Kd.int .i64)) _ 41 ?hg (N' := 11) ?hd (xs := ([y229, y232, y235, y238, y241, y244, y247, y250, y253, y256] : List (List Int))) (inner := [.slice Ao21 y229.length co21, .slice Ao22 y232.length co22, .slice Ao23 y235.length co23, .slice Ao24 y238.length co24, .slice Ao25 y241.length co25, .slice Ao26 y244.length co26, .slice Ao27 y247.length co27, .slice Ao28 y250.length co28, .slice Ao29 y253.length co29, .slice Ao30 y256.length co30]) (ok := (fun k_ => (w.heap.size ≤ k_))) (okp := (fun k_ => (w.heap.size ≤ k_))) ?hr ?hp (fun _ hk => hk) ((show ∀ k_, w19.heap.size ≤ k_ → (fun k_ => (w.heap.size ≤ k_)) k_ from fun k_ hk => (Nat.le_trans (below_size (pB0 HB.out)) hk)) _ (Nat.le_refl _)) (Below.refl _ _) (Nat.le_refl _) (by simp) ?_; (case hd => rfl); (case hg => rfl); (case hr => first | (go_simp; done) | (go_simp; rfl)); (case hp => exact (Reps.one (show Kd.FK (Kd.slice 2 (Kd.int .i64)) _ _ y229 [.slice Ao21 y229.length co21] from (Kd.FK_slice_mk (Kd.R_reads' (Kd.R_mono (ok' := (fun k_ => (w.heap.size ≤ k_))) (HO231.out) (fun k_ hk => hk.1.1.1.1.1.1.1.1.1.1))).2.1 (Kd.R_F (Kd.R_mono (ok' := (fun k_ => (w.heap.size ≤ k_))) (HO231.out) (fun k_ hk => hk.1.1.1.1.1.1.1.1.1.1))))) (Reps.one (show Kd.FK (Kd.slice 2 (Kd.int .i64)) _ _ y232 [.slice Ao22 y232.length co22] from (Kd.FK_slice_mk (Kd.R_reads' (Kd.R_mono (ok' := (fun k_ => (w.heap.size ≤ k_))) (HO234.out) (fun k_ hk => hk.1.1.1.1.1.1.1.1.1.1))).2.1 (Kd.R_F (Kd.R_mono (ok' := (fun k_ => (w.heap.size ≤ k_))) (HO234.out) (fun k_ hk => hk.1.1.1.1.1.1.1.1.1.1))))) (Reps.one (show Kd.FK (Kd.slice 2 (Kd.int .i64)) _ _ y235 [.slice Ao23 y235.length co23] from (Kd.FK_slice_mk (Kd.R_reads' (Kd.R_mono (ok' := (fun k_ => (w.heap.size ≤ k_))) (HO237.out) (fun k_ hk => hk.1.1.1.1.1.1.1.1.1.1))).2.1 (Kd.R_F (Kd.R_mono (ok' := (fun k_ => (w.heap.size ≤ k_))) (HO237.out) (fun k_ hk => hk.1.1.1.1.1.1.1.1.1.1))))) (Reps.one (show Kd.FK (Kd.slice 2 (Kd.int .i64)) _ _ y238 [.slice Ao24 y238.length co24] from (Kd.FK_slice_mk (Kd.R_reads' (Kd.R_mono (ok' := (fun k_ => (w.heap.size ≤ k_))) (HO240.out) (fun k_ hk => hk.1.1.1.1.1.1.1.1.1.1))).2.1 (Kd.R_F (Kd.R_mono (ok' := (fun k_ => (w.heap.size ≤ k_))) (HO240.out) (fun k_ hk => hk.1.1.1.1.1.1.1.1.1.1))))) (Reps.one (show Kd.FK (Kd.slice 2 (Kd.int .i64)) _ _ y241 [.slice Ao25 y241.length co25] from (Kd.FK_slice_mk (Kd.R_reads' (Kd.R_mono (ok' := (fun k_ => (w.heap.size ≤ k_))) (HO243.out) (fun k_ hk => hk.1.1.1.1.1.1.1.1.1.1))).2.1 (Kd.R_F (Kd.R_mono (ok' := (fun k_ => (w.heap.size ≤ k_))) (HO243.out) (fun k_ hk => hk.1.1.1.1.1.1.1.1.1.1))))) (Reps.one (show Kd.FK (Kd.slice 2 (Kd.int .i64)) _ _ y244 [.slice Ao26 y244.length co26] from (Kd.FK_slice_mk (Kd.R_reads' (Kd.R_mono (ok' := (fun k_ => (w.heap.size ≤ k_))) (HO246.out) (fun k_ hk => hk.1.1.1.1.1.1.1.1.1.1))).2.1 (Kd.R_F (Kd.R_mono (ok' := (fun k_ => (w.heap.size ≤ k_))) (HO246.out) (fun k_ hk => hk.1.1.1.1.1.1.1.1.1.1))))) (Reps.one (show Kd.FK (Kd.slice 2 (Kd.int .i64)) _ _ y247 [.slice Ao27 y247.length co27] from (Kd.FK_slice_mk (Kd.R_reads' (Kd.R_mono (ok' := (fun k_ => (w.heap.size ≤ k_))) (HO249.out) (fun k_ hk => hk.1.1.1.1.1.1.1.1.1.1))).2.1 (Kd.R_F (Kd.R_mono (ok' := (fun k_ => (w.heap.size ≤ k_))) (HO249.out) (fun k_ hk => hk.1.1.1.1.1.1.1.1.1.1))))) (Reps.one (show Kd.FK (Kd.slice 2 (Kd.int .i64)) _ _ y250 [.slice Ao28 y250.length co28] from (Kd.FK_slice_mk (Kd.R_reads' (Kd.R_mono (ok' := (fun k_ => (w.heap.size ≤ k_))) (HO252.out) (fun k_ hk => hk.1.1.1.1.1.1.1.1.1.1))).2.1 (Kd.R_F (Kd.R_mono (ok' := (fun k_ => (w.heap.size ≤ k_))) (HO252.out) (fun k_ hk => hk.1.1.1.1.1.1.1.1.1.1))))) (Reps.one (show Kd.FK (Kd.slice 2 (Kd.int .i64)) _ _ y253 [.slice Ao29 y253.length co29] from (Kd.FK_slice_mk (Kd.R_reads' (Kd.R_mono (ok' := (fun k_ => (w.heap.size ≤ k_))) (HO255.out) (fun k_ hk => hk.1.1.1.1.1.1.1.1.1.1))).2.1 (Kd.R_F (Kd.R_mono (ok' := (fun k_ => (w.heap.size ≤ k_))) (HO255.out) (fun k_ hk => hk.1.1.1.1.1.1.1.1.1.1))))) (Reps.one (show Kd.FK (Kd.slice 2 (Kd.int .i64)) _ _ y256 [.slice Ao30 y256.length co30] from (Kd.FK_slice_mk (Kd.R_reads' (Kd.R_mono (ok' := (fun k_ => (w.heap.size ≤ k_))) (HO258.out) (fun k_ hk => hk.1.1.1.1.1.1.1.1.1.1))).2.1 (Kd.R_F (Kd.R_mono (ok' := (fun k_ => (w.heap.size ≤ k_))) (HO258.out) (fun k_ hk => hk.1.1.1.1.1.1.1.1.1.1))))) (Reps.none _ _)))))))))))); intro v260 w31 ho32 hb hg_ hnew_; clear hg_ hnew_; (first | rw [← Ny259.out] at ho32 | (simp only [Int.reduceToNat] at ho32; rw [← Ny259.out] at ho32)); have HO261 := Aside0.mk (Kd.N_lower ho32 (below_size (pB0 HB.out))); replace HB := zW (pB0 HB.out) hb; clear HO231; clear HO234; clear HO237; clear HO240; clear HO243; clear HO246; clear HO249; clear HO252; clear HO255; clear HO258; clear hb ho32))
 go_ret
 exact ⟨_, zE, by (with_reducible repeat (first | apply Kd.N_alloc | apply Kd.N_drewN | apply Kd.N_drew)); exact HO261.out, pB0 HB.out⟩
def spec_l07Grain.f (a0 : Int) : Option (Bool) := (spec_l00In.f a0 0 179).bind fun t262 => (some t262)
set_option maxHeartbeats 8000000 in
set_option maxRecDepth 100000 in
theorem spec_l07Grain.calls (a0 : Int) (r : Bool) (w : World) (h : spec_l07Grain.f a0 = some r) :
 Calls Try.prog 131 #[.int .i64 a0] w fun e w' => e = .returned (.bool r) ∧ Drawn0 w w' := by
 have H : ((spec_l00In.f a0 0 179).bind fun t262 => (some t262)) = some r := h
 clear h; replace H := Option.bind_eq_some_iff.mp H; obtain ⟨t262, A20, H⟩ := H; have A2 := Aside0.mk A20; clear A20; obtain rfl := Option.some.inj H
 go_enter Try.func131, Try.ntmps131
 go_wp2_with (first | ((with_reducible refine gate_callee (f := 81) rfl ?_); refine zJ (some 4) Try.func81 #[.int .i64 a0, .int .i64 0, .int .i64 179] ?_; (with_reducible refine (spec_l00In.calls a0 0 179 t262 _ A2.out).mono ?_); rintro e w' ⟨rfl, ⟨nd, rfl⟩⟩; refine ⟨_, rfl, ?_⟩))
 go_ret
 exact ⟨by first | rfl | (simp; done) | (simp [*]; done), zV⟩
def spec_l07Ok.j0 : Nat → List (S33) → Int → Bool → Option (Bool)
 | 0, _, _, _ => none
 | k + 1, x0, x3, x19 => if x19 = true then (some false) else ((spec_l07Table.f).bind fun t267 => (if 0 ≤ x3 then (if x3 < (t267.length : Int) then (if 0 < ((rd_L6 t267 x3).length : Int) then (if 0 < (x0.length : Int) then ((spec_l00In.f ((rd_T33 x0 0).f1) (wrap64 ((rd (rd_L6 t267 x3) 0) - 15)) (wrap64 ((rd (rd_L6 t267 x3) 0) + 15))).bind fun t273 => (if t273 = true then ((spec_l07Grain.f ((rd_T33 x0 0).f2)).bind fun t274 => (some t274)) else (some false))) else (none)) else (none)) else (none)) else (none)))
def spec_l07Ok.f (k : Nat) (l0 : List (S33)) : Option (Bool) := if 0 < (l0.length : Int) then ((spec_l07Find.f k ((rd_T33 l0 0).f0)).bind fun t264 => (if t264 < 0 then (spec_l07Ok.j0 k l0 t264 true) else ((spec_l00In.f ((rd_T33 l0 0).f1) 0 100).bind fun t266 => (spec_l07Ok.j0 k l0 t264 (!t266))))) else (none)
theorem spec_l07Ok.mono_l : ∀ k, (∀ y0 y1 y2, LeO (spec_l07Ok.j0 k y0 y1 y2) (spec_l07Ok.j0 (k + 1) y0 y1 y2))
 | 0 => fun _ _ _ r h => by simp [spec_l07Ok.j0] at h
 | k + 1 => by
   have ih0 := spec_l07Ok.mono_l k
   · intro y0 y1 y2
     unfold spec_l07Ok.j0
     repeat' first
     | (with_reducible exact ih0 _ _ _)
     | (with_reducible exact spec_l07Find.mono _ _)
     | (with_reducible exact LeO.refl _)
     | (with_reducible exact LeO.none _)
     | (with_reducible refine LeO.ite ?_ ?_)
     | (with_reducible refine LeO.bind ?_ (fun _ => ?_))
     | exact ih0 _ _ _
     | exact spec_l07Find.mono _ _
     | exact LeO.none _
     | refine LeO.ite ?_ ?_
     | refine LeO.bind ?_ (fun _ => ?_)
theorem spec_l07Ok.mono : ∀ a0 k, LeO (spec_l07Ok.f k a0) (spec_l07Ok.f (k + 1) a0) := by
 intro a0 k; have ih0 := spec_l07Ok.mono_l k; unfold spec_l07Ok.f
 repeat' first
  | (with_reducible exact ih0 _ _ _)
  | (with_reducible exact spec_l07Find.mono _ _)
  | (with_reducible exact LeO.refl _)
  | (with_reducible exact LeO.none _)
  | (with_reducible refine LeO.ite ?_ ?_)
  | (with_reducible refine LeO.bind ?_ (fun _ => ?_))
  | exact ih0 _ _ _
  | exact spec_l07Find.mono _ _
  | exact LeO.none _
  | refine LeO.ite ?_ ?_
  | refine LeO.bind ?_ (fun _ => ?_)
set_option maxHeartbeats 8000000 in
set_option maxRecDepth 100000 in
theorem spec_l07Ok.calls (k : Nat) (A0 : Option Addr) (c0 : Nat) (l0 : List (S33)) (r : Bool) (w : World) (hr0 : Kd.C k33 w A0 l0.length l0) (hc0 : l0.length ≤ c0) (h : spec_l07Ok.f k l0 = some r) :
 Calls Try.prog 92 #[.pointer A0] w fun e w' => e = .returned (.bool r) ∧ Below w.heap.size w w' := by
 have HR0 := Aside0.mk hr0; have HC0 := Aside0.mk hc0; clear hr0 hc0; have HB := Aside0.mk (Below.refl w.heap.size w)
 have H : (if 0 < (l0.length : Int) then ((spec_l07Find.f k ((rd_T33 l0 0).f0)).bind fun t264 => (if t264 < 0 then (spec_l07Ok.j0 k l0 t264 true) else ((spec_l00In.f ((rd_T33 l0 0).f1) 0 100).bind fun t266 => (spec_l07Ok.j0 k l0 t264 (!t266))))) else (none)) = some r := h
 clear h
 by_cases c2 : 0 < (l0.length : Int)
 rotate_left
 · rw [if_neg c2] at H
   exact absurd H (by simp)
 rw [if_pos c2] at H; have c2b0 := decide_eq_true c2
 have c2b1 : decide (0 < l0.length) = true := decide_eq_true (by omega)
 clear c2; replace H := Option.bind_eq_some_iff.mp H; obtain ⟨t264, A30, H⟩ := H; have A3 := Aside0.mk A30; clear A30; have HC4 := Aside0.mk H; clear H
 have p263 : 0 ≤ (0 : Int) := (by omega)
 have q263 : 0 < (l0.length : Int) := zD; obtain ⟨ad263, e263, hx263_0, hx263_1, hx263_2⟩ := at_T33 HR0.out 0 p263 q263; cases e263
 have qi263 : (0 < l0.length) = True := eq_true (by omega)
 (try rw [z0, Nat.zero_mul, Addr.add_zero'] at hx263_0); (try rw [z0, Nat.zero_mul, Addr.add_zero'] at hx263_1); (try rw [z0, Nat.zero_mul, Addr.add_zero'] at hx263_2); replace p263 := eq_true p263; replace q263 := eq_true q263
 go_enter Try.func92, Try.ntmps92
 go_upto_region 2 with (first | ((with_reducible refine gate_callee (f := 129) rfl ?_); refine zJ (some 9) Try.func129 #[.string ((rd_T33 l0 0).f0)] ?_; (with_reducible refine (spec_l07Find.calls k ((rd_T33 l0 0).f0) t264 _ A3.out).mono ?_); rintro e w5 ⟨rfl, hb⟩; refine ⟨_, rfl, ?_⟩; replace HB := zW (pB0 HB.out) hb; (try clear hb); (try clear hb2); (try clear hk); (try clear hi)))
 (try simp only [Act.put, List.setIfInBounds_toArray, List.set_cons_zero, List.set_cons_succ])
 go_cut [19] (fun v19 wc => ∃ (kq : Nat) (x19_3 : Bool), v19 = .bool x19_3 ∧ Aside0 (spec_l07Ok.j0 kq l0 t264 x19_3 = some r) ∧ Aside0 (kq ≤ k) ∧ Aside0 (Below w.heap.size w wc))
 case first =>
  have H := HC4.out; clear HC4
  by_cases c6 : t264 < 0
  · rw [if_pos c6] at H
    have c6b0 := decide_eq_true c6; clear c6; (first | rw [c6b0] | (simp only [i64_w, i32_w]; rw [c6b0]) | skip); have H' := Aside0.mk H; clear H
    go_wp2
    go_meet
    case rel => exact ⟨_, (true), zR, H', ⟨by first | omega | exact Nat.le_refl _⟩, ⟨pB0 HB.out⟩⟩
  rw [if_neg c6] at H; have c6b0 := decide_eq_false c6; clear c6; (first | rw [c6b0] | (simp only [i64_w, i32_w]; rw [c6b0]) | skip); replace H := Option.bind_eq_some_iff.mp H; obtain ⟨t266, A70, H⟩ := H; have A7 := Aside0.mk A70; clear A70; have H' := Aside0.mk H; clear H
  have p265 : 0 ≤ (0 : Int) := (by omega)
  have q265 : 0 < (l0.length : Int) := zD; obtain ⟨ad265, e265, hx265_0, hx265_1, hx265_2⟩ := at_T33 HR0.out 0 p265 q265
  obtain rfl : ad263 = ad265 := (by injection e265)
  have qi265 : (0 < l0.length) = True := eq_true (by omega)
  (try rw [z0, Nat.zero_mul, Addr.add_zero'] at hx265_0); (try rw [z0, Nat.zero_mul, Addr.add_zero'] at hx265_1); (try rw [z0, Nat.zero_mul, Addr.add_zero'] at hx265_2)
  try replace hx265_0 := zH HB hx265_0
  try replace hx265_1 := zH HB hx265_1
  try replace hx265_2 := zH HB hx265_2
  replace p265 := eq_true p265; replace q265 := eq_true q265
  go_wp2_with (first | (go_at_call 81; (with_reducible refine (spec_l00In.calls ((rd_T33 l0 0).f1) 0 100 t266 _ A7.out).mono ?_); rintro e w' ⟨rfl, ⟨nd, rfl⟩⟩))
  go_meet
  case rel => exact ⟨_, (!t266), zR, H', ⟨by first | omega | exact Nat.le_refl _⟩, ⟨pB0 HB.out⟩⟩
 case rest =>
  clear HC4; (try clear c1); (try clear c2); (try clear c2b0); (try clear c2b1); (try clear p2); (try clear q2); (try clear hx2); (try clear qi2); (try clear c6); (try clear c6b0); (try clear hx263_0); (try clear hx263_1); (try clear hx263_2); (try clear hx265_0); (try clear hx265_1); (try clear hx265_2); (try clear p263); (try clear p265); (try clear q263); (try clear q265); obtain ⟨kq, x19_3, rfl, HA, HJ3, HB⟩ := hcut
  cases kq with
  | zero => exact absurd HA.out (by simp [spec_l07Ok.j0])
  | succ kj3 =>
    have H := HA.out; clear HA; simp only [spec_l07Ok.j0] at H
    by_cases c8 : x19_3 = true
    · subst c8
      rw [if_pos rfl] at H; obtain rfl := Option.some.inj H
      go_wp2
      go_ret
      exact ⟨zE, pB0 HB.out⟩
    replace c8 := Bool.eq_false_iff.mpr c8; subst c8
    rw [if_neg (show ¬ (false = true) by decide)] at H
    replace H := Option.bind_eq_some_iff.mp H; obtain ⟨t267, A90, H⟩ := H; have A9 := Aside0.mk A90; clear A90
    by_cases c10 : 0 ≤ t264
    rotate_left
    · rw [if_neg c10] at H
      exact absurd H (by simp)
    rw [if_pos c10] at H; have c10b0 := decide_eq_true c10; clear c10
    by_cases c11 : t264 < (t267.length : Int)
    rotate_left
    · rw [if_neg c11] at H
      exact absurd H (by simp)
    rw [if_pos c11] at H; have c11b0 := decide_eq_true c11; clear c11
    by_cases c12 : 0 < ((rd_L6 t267 t264).length : Int)
    rotate_left
    · rw [if_neg c12] at H
      exact absurd H (by simp)
    rw [if_pos c12] at H; have c12b0 := decide_eq_true c12
    have c12b1 : decide (0 < (rd_L6 t267 t264).length) = true := decide_eq_true (by omega)
    clear c12
    by_cases c13 : 0 < (l0.length : Int)
    rotate_left
    · rw [if_neg c13] at H
      exact absurd H (by simp)
    rw [if_pos c13] at H; have c13b0 := decide_eq_true c13
    have c13b1 : decide (0 < l0.length) = true := decide_eq_true (by omega)
    clear c13; replace H := Option.bind_eq_some_iff.mp H; obtain ⟨t273, A140, H⟩ := H; have A14 := Aside0.mk A140; clear A140
    by_cases c15 : t273 = true
    rotate_left
    · replace c15 := Bool.eq_false_iff.mpr c15
      subst c15
      rw [if_neg (show ¬ (false = true) by decide)] at H
      obtain rfl := Option.some.inj H
      go_wp2_with (first | ((with_reducible refine gate_callee (f := 130) rfl ?_); refine zJ (some 20) Try.func130 #[] ?_; (with_reducible refine (spec_l07Table.calls  t267 _ A9.out).mono ?_); rintro e w19 ⟨v268, rfl, ho0, hb⟩; refine ⟨_, rfl, ?_⟩; have HO269 := Aside0.mk (Kd.N_lower (Kd.N_mono (ok' := fun k_ => True) ho0 (fun k_ hk_ => trivial)) (below_size (pB0 HB.out))); replace HB := zW (pB0 HB.out) hb; (try clear hb); (try clear hb2); (try clear hk); (try clear hi); (try clear ho0); obtain ⟨Ao20, co20, eo20⟩ := Kd.N_slice HO269.out; subst eo20; have p270 : 0 ≤ (t264 : Int) := zD; have q270 : t264 < (t267.length : Int) := zD; obtain ⟨ad270, A270_0, c270_0, e270, hx270_0, hl270_0, hi270_0⟩ := at_L6 (Kd.N_reads' HO269.out).2.2 t264 p270 q270; cases e270; obtain ⟨ce270, hce270, hMe270, hcc270⟩ := Kd.N_get HO269.out [] t264 p270 (by first | exact q270 | exact zD | (have e_ := (Kd.N_reads' HO269.out).1; omega)); obtain ⟨ua270_0, uc270_0, rfl, ul270_0, ge270_0⟩ := Kd.FK_slice_open hMe270; have hv270_0 := hcc270 0 _ rfl; rw [Nat.add_zero, show ((Kd.slice 2 (Kd.int .i64))).sz = 1 from rfl, Nat.mul_one] at hv270_0; replace hv270_0 := Option.some.inj (hv270_0.symm.trans hx270_0); injection hv270_0 with hva_ hvn_ hvc_; rw [hva_] at ge270_0; rw [hvc_] at ul270_0; have HL270_0 := Aside0.mk (show Kd.V (Kd.int .i64) 2 _ w.heap.size _ _ (rd_L6 t267 t264) from Kd.V_mk ul270_0 ge270_0); clear hva_ hvn_ hvc_ ge270_0 ul270_0; clear hcc270 hce270; have HR270_0 := Aside0.mk hi270_0; have HC270_0 := Aside0.mk hl270_0; clear hi270_0 hl270_0; replace p270 := eq_true p270; replace q270 := eq_true q270; have p271 : 0 ≤ (0 : Int) := (by omega); have q271 : 0 < ((rd_L6 t267 t264).length : Int) := zD; obtain ⟨ad271, e271, hx271_0⟩ := Kd.at_int (by repeat (first | (with_reducible exact HR270_0.out) | (with_reducible refine Kd.C_alloc ?_ _) | (with_reducible refine Kd.C_drewN ?_ _) | (with_reducible refine Kd.C_drew ?_) | exact HR270_0.out)) 0 p271 q271; cases e271; have qi271 : (0 < (rd_L6 t267 t264).length) = True := eq_true (by omega); (try rw [z0] at hx271_0); (try rw [Addr.add_zero'] at hx271_0); replace p271 := eq_true p271; replace q271 := eq_true q271; have p272 : 0 ≤ (0 : Int) := (by omega); have q272 : 0 < (l0.length : Int) := zD; obtain ⟨ad272, e272, hx272_0, hx272_1, hx272_2⟩ := at_T33 HR0.out 0 p272 q272; obtain rfl : ad263 = ad272 := (by injection e272); have qi272 : (0 < l0.length) = True := eq_true (by omega); (try rw [z0] at hx272_0); (try rw [Nat.zero_mul] at hx272_0); (try rw [Addr.add_zero'] at hx272_0); (try rw [z0] at hx272_1); (try rw [Nat.zero_mul] at hx272_1); (try rw [Addr.add_zero'] at hx272_1); (try rw [z0] at hx272_2); (try rw [Nat.zero_mul] at hx272_2); (try rw [Addr.add_zero'] at hx272_2); try replace hx272_0 := zH HB hx272_0; try replace hx272_1 := zH HB hx272_1; try replace hx272_2 := zH HB hx272_2; replace p272 := eq_true p272; replace q272 := eq_true q272) | ((with_reducible refine gate_callee (f := 81) rfl ?_); refine zJ (some 34) Try.func81 #[.int .i64 ((rd_T33 l0 0).f1), .int .i64 (wrap64 ((rd (rd_L6 t267 t264) 0) - 15)), .int .i64 (wrap64 ((rd (rd_L6 t267 t264) 0) + 15))] ?_; (with_reducible refine (spec_l00In.calls ((rd_T33 l0 0).f1) (wrap64 ((rd (rd_L6 t267 t264) 0) - 15)) (wrap64 ((rd (rd_L6 t267 t264) 0) + 15)) false _ A14.out).mono ?_); rintro e w' ⟨rfl, ⟨nd, rfl⟩⟩; refine ⟨_, rfl, ?_⟩))
      go_ret
      exact ⟨zE, pB0 HB.out⟩
    subst c15; rw [if_pos rfl] at H; replace H := Option.bind_eq_some_iff.mp H; obtain ⟨t274, A160, H⟩ := H; have A16 := Aside0.mk A160; clear A160; obtain rfl := Option.some.inj H
    go_wp2_with (first | ((with_reducible refine gate_callee (f := 130) rfl ?_); refine zJ (some 20) Try.func130 #[] ?_; (with_reducible refine (spec_l07Table.calls  t267 _ A9.out).mono ?_); rintro e w17 ⟨v268, rfl, ho0, hb⟩; refine ⟨_, rfl, ?_⟩; have HO269 := Aside0.mk (Kd.N_lower (Kd.N_mono (ok' := fun k_ => True) ho0 (fun k_ hk_ => trivial)) (below_size (pB0 HB.out))); replace HB := zW (pB0 HB.out) hb; (try clear hb); (try clear hb2); (try clear hk); (try clear hi); (try clear ho0); obtain ⟨Ao18, co18, eo18⟩ := Kd.N_slice HO269.out; subst eo18; have p270 : 0 ≤ (t264 : Int) := zD; have q270 : t264 < (t267.length : Int) := zD; obtain ⟨ad270, A270_0, c270_0, e270, hx270_0, hl270_0, hi270_0⟩ := at_L6 (Kd.N_reads' HO269.out).2.2 t264 p270 q270; cases e270; obtain ⟨ce270, hce270, hMe270, hcc270⟩ := Kd.N_get HO269.out [] t264 p270 (by first | exact q270 | exact zD | (have e_ := (Kd.N_reads' HO269.out).1; omega)); obtain ⟨ua270_0, uc270_0, rfl, ul270_0, ge270_0⟩ := Kd.FK_slice_open hMe270; have hv270_0 := hcc270 0 _ rfl; rw [Nat.add_zero, show ((Kd.slice 2 (Kd.int .i64))).sz = 1 from rfl, Nat.mul_one] at hv270_0; replace hv270_0 := Option.some.inj (hv270_0.symm.trans hx270_0); injection hv270_0 with hva_ hvn_ hvc_; rw [hva_] at ge270_0; rw [hvc_] at ul270_0; have HL270_0 := Aside0.mk (show Kd.V (Kd.int .i64) 2 _ w.heap.size _ _ (rd_L6 t267 t264) from Kd.V_mk ul270_0 ge270_0); clear hva_ hvn_ hvc_ ge270_0 ul270_0; clear hcc270 hce270; have HR270_0 := Aside0.mk hi270_0; have HC270_0 := Aside0.mk hl270_0; clear hi270_0 hl270_0; replace p270 := eq_true p270; replace q270 := eq_true q270; have p271 : 0 ≤ (0 : Int) := (by omega); have q271 : 0 < ((rd_L6 t267 t264).length : Int) := zD; obtain ⟨ad271, e271, hx271_0⟩ := Kd.at_int (by repeat (first | (with_reducible exact HR270_0.out) | (with_reducible refine Kd.C_alloc ?_ _) | (with_reducible refine Kd.C_drewN ?_ _) | (with_reducible refine Kd.C_drew ?_) | exact HR270_0.out)) 0 p271 q271; cases e271; have qi271 : (0 < (rd_L6 t267 t264).length) = True := eq_true (by omega); (try rw [z0] at hx271_0); (try rw [Addr.add_zero'] at hx271_0); replace p271 := eq_true p271; replace q271 := eq_true q271; have p272 : 0 ≤ (0 : Int) := (by omega); have q272 : 0 < (l0.length : Int) := zD; obtain ⟨ad272, e272, hx272_0, hx272_1, hx272_2⟩ := at_T33 HR0.out 0 p272 q272; obtain rfl : ad263 = ad272 := (by injection e272); have qi272 : (0 < l0.length) = True := eq_true (by omega); (try rw [z0] at hx272_0); (try rw [Nat.zero_mul] at hx272_0); (try rw [Addr.add_zero'] at hx272_0); (try rw [z0] at hx272_1); (try rw [Nat.zero_mul] at hx272_1); (try rw [Addr.add_zero'] at hx272_1); (try rw [z0] at hx272_2); (try rw [Nat.zero_mul] at hx272_2); (try rw [Addr.add_zero'] at hx272_2); try replace hx272_0 := zH HB hx272_0; try replace hx272_1 := zH HB hx272_1; try replace hx272_2 := zH HB hx272_2; replace p272 := eq_true p272; replace q272 := eq_true q272) | ((with_reducible refine gate_callee (f := 81) rfl ?_); refine zJ (some 34) Try.func81 #[.int .i64 ((rd_T33 l0 0).f1), .int .i64 (wrap64 ((rd (rd_L6 t267 t264) 0) - 15)), .int .i64 (wrap64 ((rd (rd_L6 t267 t264) 0) + 15))] ?_; (with_reducible refine (spec_l00In.calls ((rd_T33 l0 0).f1) (wrap64 ((rd (rd_L6 t267 t264) 0) - 15)) (wrap64 ((rd (rd_L6 t267 t264) 0) + 15)) true _ A14.out).mono ?_); rintro e w' ⟨rfl, ⟨nd, rfl⟩⟩; refine ⟨_, rfl, ?_⟩) | (go_at_call 131; (with_reducible refine (spec_l07Grain.calls ((rd_T33 l0 0).f2) t274 _ A16.out).mono ?_); rintro e w' ⟨rfl, ⟨nd, rfl⟩⟩))
    go_ret
    exact ⟨zE, pB0 HB.out⟩
end Go.Proofs.Ytfiiakhpdkdebaa.PFnExactOffcutsOf

/- What each function that a law reaches comes to, and the proof that its walk comes to it; laid by a program of this session. No condition. -/
import Derived.Test.YtfiiakhpdkdebaaZFnExactRotateSheets0
namespace Go.Proofs.Ytfiiakhpdkdebaa.PFnExactRotateSheets
open Go.RowKit Go.Proofs.YtfiiakhpdkdebaaW.PrintWords Go.Proofs.YtfiiakhpdkdebaaW.PrintLast Go.Proofs.YtfiiakhpdkdebaaW.PrintMore
attribute [local go_sem] max2_int min2_int max_two min_two max_three min_three max_four min_four
set_option linter.unusedVariables false
set_option linter.unusedSimpArgs false
def laws_szVeneer.f (a0_0 : ByteArray) (a0_1 : Int) (a0_2 : Int) (a1 : Int) : Option (Int) := if (wrap64 (a1 - (a0_0.size : Int))) < 0 then (some (-1)) else (some (wrap64 (a1 - (a0_0.size : Int))))
set_option maxHeartbeats 8000000 in
set_option maxRecDepth 100000 in
theorem laws_szVeneer.calls (a0_0 : ByteArray) (a0_1 : Int) (a0_2 : Int) (a1 : Int) (r : Int) (w : World) (h : laws_szVeneer.f a0_0 a0_1 a0_2 a1 = some r) :
 Calls Try.prog 47 #[.agg #[.string a0_0, .int .i64 a0_1, .int .i64 a0_2], .int .i64 a1] w fun e w' => e = .returned (.int .i64 r) ∧ Below w.heap.size w w' := by
 have hu24 := Try.underlying24; have HB := Aside0.mk (Below.refl w.heap.size w); have H : (if (wrap64 (a1 - (a0_0.size : Int))) < 0 then (some (-1)) else (some (wrap64 (a1 - (a0_0.size : Int))))) = some r := h; clear h
 by_cases c3 : (wrap64 (a1 - (a0_0.size : Int))) < 0
 · rw [if_pos c3] at H
   have c3b0 := decide_eq_true c3; clear c3; obtain rfl := Option.some.inj H
   go_enter Try.func47, Try.ntmps47
   go_wp2_with (first | ((with_reducible refine zI 2 rfl ?_); refine zB 2 #[.string a0_0, .int .i64 a0_1, .int .i64 a0_2] 24 ?_; intro gb101 hg w4 hbox hb; have BK101 := Aside0.mk (hbox); have GW101 := zS (pB0 HB.out) hg; have GE101 := GW101; replace HB := zW (pB0 HB.out) hb; clear hb hbox hg; obtain ⟨Y5_0, X5_0, Y5_1, X5_1, Y5_2, X5_2⟩ := zw3 BK101))
   go_ret
   exact ⟨zE, pB1 HB.out GE101.out⟩
 rw [if_neg c3] at H; have c3b0 := decide_eq_false c3; clear c3; obtain rfl := Option.some.inj H
 go_enter Try.func47, Try.ntmps47
 go_wp2_with (first | ((with_reducible refine zI 2 rfl ?_); refine zB 2 #[.string a0_0, .int .i64 a0_1, .int .i64 a0_2] 24 ?_; intro gb101 hg w6 hbox hb; have BK101 := Aside0.mk (hbox); have GW101 := zS (pB0 HB.out) hg; have GE101 := GW101; replace HB := zW (pB0 HB.out) hb; clear hb hbox hg; obtain ⟨Y7_0, X7_0, Y7_1, X7_1, Y7_2, X7_2⟩ := zw3 BK101))
 go_ret
 exact ⟨zE, pB1 HB.out GE101.out⟩
def laws_szVeneerS.l0 : Nat → List (S24) → Int → Int → Option (Int)
 | 0, _, _, _ => none
 | k + 1, x0, x1, x5 => if x5 < (x0.length : Int) then (if 0 ≤ x5 then ((laws_szVeneer.f ((rd_T24 x0 x5).f0) ((rd_T24 x0 x5).f1) ((rd_T24 x0 x5).f2) x1).bind fun t103 => (if t103 < 0 then (some (-1)) else (laws_szVeneerS.l0 k x0 t103 (wrap64 (x5 + 1))))) else (none)) else (some x1)
def laws_szVeneerS.f (k : Nat) (l0 : List (S24)) (a1 : Int) : Option (Int) := if (wrap64 (a1 - (l0.length : Int))) < 0 then (some (-1)) else (laws_szVeneerS.l0 k l0 (wrap64 (a1 - (l0.length : Int))) 0)
theorem laws_szVeneerS.mono_l : ∀ k, (∀ y0 y1 y2, LeO (laws_szVeneerS.l0 k y0 y1 y2) (laws_szVeneerS.l0 (k + 1) y0 y1 y2))
 | 0 => fun _ _ _ r h => by simp [laws_szVeneerS.l0] at h
 | k + 1 => by
   have ih0 := laws_szVeneerS.mono_l k
   · intro y0 y1 y2
     unfold laws_szVeneerS.l0
     repeat' first
     | (with_reducible exact ih0 _ _ _)
     | (with_reducible exact LeO.refl _)
     | (with_reducible exact LeO.none _)
     | (with_reducible refine LeO.ite ?_ ?_)
     | (with_reducible refine LeO.bind ?_ (fun _ => ?_))
     | exact ih0 _ _ _
     | exact LeO.none _
     | refine LeO.ite ?_ ?_
     | refine LeO.bind ?_ (fun _ => ?_)
theorem laws_szVeneerS.mono : ∀ a0 a1 k, LeO (laws_szVeneerS.f k a0 a1) (laws_szVeneerS.f (k + 1) a0 a1) := by
 intro a0 a1 k; have ih0 := laws_szVeneerS.mono_l k; unfold laws_szVeneerS.f
 repeat' first
  | (with_reducible exact ih0 _ _ _)
  | (with_reducible exact LeO.refl _)
  | (with_reducible exact LeO.none _)
  | (with_reducible refine LeO.ite ?_ ?_)
  | (with_reducible refine LeO.bind ?_ (fun _ => ?_))
  | exact ih0 _ _ _
  | exact LeO.none _
  | refine LeO.ite ?_ ?_
  | refine LeO.bind ?_ (fun _ => ?_)
set_option maxHeartbeats 8000000 in
set_option maxRecDepth 100000 in
theorem laws_szVeneerS.calls (k : Nat) (A0 : Option Addr) (c0 : Nat) (l0 : List (S24)) (a1 : Int) (r : Int) (w : World) (hr0 : Kd.C k24 w A0 l0.length l0) (hc0 : l0.length ≤ c0) (h : laws_szVeneerS.f k l0 a1 = some r) :
 Calls Try.prog 64 #[.slice A0 l0.length c0, .int .i64 a1] w fun e w' => e = .returned (.int .i64 r) ∧ Below w.heap.size w w' := by
 have hu24 := Try.underlying24; have HR0 := Aside0.mk hr0; have HC0 := Aside0.mk hc0; clear hr0 hc0; have HB := Aside0.mk (Below.refl w.heap.size w); have H : (if (wrap64 (a1 - (l0.length : Int))) < 0 then (some (-1)) else (laws_szVeneerS.l0 k l0 (wrap64 (a1 - (l0.length : Int))) 0)) = some r := h; clear h
 by_cases c3 : (wrap64 (a1 - (l0.length : Int))) < 0
 · rw [if_pos c3] at H
   have c3b0 := decide_eq_true c3; clear c3; obtain rfl := Option.some.inj H
   go_enter Try.func64, Try.ntmps64
   go_wp2
   go_ret
   exact ⟨zE, pB0 HB.out⟩
 rw [if_neg c3] at H; have c3b0 := decide_eq_false c3; clear c3; have H' := Aside0.mk H; clear H
 go_enter Try.func64, Try.ntmps64
 go_wp2
 go_loopg [1, 5] k (fun kq v1 v5 w' => ∃ (x1_1 : Int) (x5_1 : Int), v1 = .int .i64 x1_1 ∧ v5 = .int .i64 x5_1 ∧ Aside0 (laws_szVeneerS.l0 kq l0 x1_1 x5_1 = some r) ∧ Aside0 (kq ≤ k) ∧ Aside0 (Below w.heap.size w w'))
 case atStart => exact ⟨(wrap64 (a1 - (l0.length : Int))), (0), zR, zR, H', ⟨Nat.le_refl _⟩, ⟨pB0 HB.out⟩⟩
 case round =>
  clear H'; (try clear p2); (try clear c3); (try clear c3b0); obtain ⟨x1_1, x5_1, rfl, rfl, HA, HK1, HB⟩ := hrel
  cases gk with
  | zero => exact absurd HA.out (by simp [laws_szVeneerS.l0])
  | succ k1 =>
    have H := HA.out; clear HA; simp only [laws_szVeneerS.l0] at H
    by_cases c4 : x5_1 < (l0.length : Int)
    rotate_left
    · rw [if_neg c4] at H
      have c4b0 := decide_eq_false c4; clear c4; obtain rfl := Option.some.inj H
      go_wp2
      go_ret
      exact ⟨zE, pB0 HB.out⟩
    rw [if_pos c4] at H; have c4b0 := decide_eq_true c4; clear c4
    by_cases c5 : 0 ≤ x5_1
    rotate_left
    · rw [if_neg c5] at H
      exact absurd H (by simp)
    rw [if_pos c5] at H; have c5b0 := decide_eq_true c5; clear c5; replace H := Option.bind_eq_some_iff.mp H; obtain ⟨t103, A60, H⟩ := H; have A6 := Aside0.mk A60; clear A60
    by_cases c7 : t103 < 0
    · rw [if_pos c7] at H
      have c7b0 := decide_eq_true c7; clear c7; obtain rfl := Option.some.inj H; have p102 : 0 ≤ (x5_1 : Int) := zD; have q102 : x5_1 < (l0.length : Int) := zD; obtain ⟨ad102, e102, hx102_0, hx102_1, hx102_2⟩ := at_T24 HR0.out x5_1 p102 q102; cases e102
      try replace hx102_0 := zH HB hx102_0
      try replace hx102_1 := zH HB hx102_1
      try replace hx102_2 := zH HB hx102_2
      replace p102 := eq_true p102; replace q102 := eq_true q102
      go_wp2_with (first | ((with_reducible refine gate_callee (f := 47) rfl ?_); refine zJ (some 23) Try.func47 #[.agg #[.string ((rd_T24 l0 x5_1).f0), .int .i64 ((rd_T24 l0 x5_1).f1), .int .i64 ((rd_T24 l0 x5_1).f2)], .int .i64 x1_1] ?_; (with_reducible refine (laws_szVeneer.calls ((rd_T24 l0 x5_1).f0) ((rd_T24 l0 x5_1).f1) ((rd_T24 l0 x5_1).f2) x1_1 t103 _ A6.out).mono ?_); rintro e w8 ⟨rfl, hb⟩; refine ⟨_, rfl, ?_⟩; replace HB := zW (pB0 HB.out) hb; (try clear hb); (try clear hb2); (try clear hk); (try clear hi)))
      go_ret
      exact ⟨zE, pB0 HB.out⟩
    rw [if_neg c7] at H; have c7b0 := decide_eq_false c7; clear c7; have H' := Aside0.mk H; clear H; have p102 : 0 ≤ (x5_1 : Int) := zD; have q102 : x5_1 < (l0.length : Int) := zD; obtain ⟨ad102, e102, hx102_0, hx102_1, hx102_2⟩ := at_T24 HR0.out x5_1 p102 q102; cases e102
    try replace hx102_0 := zH HB hx102_0
    try replace hx102_1 := zH HB hx102_1
    try replace hx102_2 := zH HB hx102_2
    replace p102 := eq_true p102; replace q102 := eq_true q102
    go_wp2_with (first | ((with_reducible refine gate_callee (f := 47) rfl ?_); refine zJ (some 23) Try.func47 #[.agg #[.string ((rd_T24 l0 x5_1).f0), .int .i64 ((rd_T24 l0 x5_1).f1), .int .i64 ((rd_T24 l0 x5_1).f2)], .int .i64 x1_1] ?_; (with_reducible refine (laws_szVeneer.calls ((rd_T24 l0 x5_1).f0) ((rd_T24 l0 x5_1).f1) ((rd_T24 l0 x5_1).f2) x1_1 t103 _ A6.out).mono ?_); rintro e w9 ⟨rfl, hb⟩; refine ⟨_, rfl, ?_⟩; replace HB := zW (pB0 HB.out) hb; (try clear hb); (try clear hb2); (try clear hk); (try clear hi)))
    go_roundg k1
    case measure => have := HK1.out; omega
    case rel => exact ⟨(t103), (wrap64 (x5_1 + 1)), zR, zR, H', ⟨by have := HK1.out; omega⟩, ⟨pB0 HB.out⟩⟩
def laws_szInt64S.f (l0 : List Int) (a1 : Int) : Option (Int) := if (wrap64 (a1 - (l0.length : Int))) < 0 then (some (-1)) else (some (wrap64 (a1 - (l0.length : Int))))
set_option maxHeartbeats 8000000 in
set_option maxRecDepth 100000 in
theorem laws_szInt64S.calls (A0 : Option Addr) (c0 : Nat) (l0 : List Int) (a1 : Int) (r : Int) (w : World) (hr0 : Kd.C (Kd.int .i64) w A0 l0.length l0) (hc0 : l0.length ≤ c0) (h : laws_szInt64S.f l0 a1 = some r) :
 Calls Try.prog 65 #[.slice A0 l0.length c0, .int .i64 a1] w fun e w' => e = .returned (.int .i64 r) ∧ Drawn0 w w' := by
 have HR0 := Aside0.mk hr0; have HC0 := Aside0.mk hc0; clear hr0 hc0; have H : (if (wrap64 (a1 - (l0.length : Int))) < 0 then (some (-1)) else (some (wrap64 (a1 - (l0.length : Int))))) = some r := h; clear h
 by_cases c3 : (wrap64 (a1 - (l0.length : Int))) < 0
 · rw [if_pos c3] at H
   have c3b0 := decide_eq_true c3; clear c3; obtain rfl := Option.some.inj H
   go_enter Try.func65, Try.ntmps65
   go_wp2
   go_ret
   exact ⟨by first | rfl | (simp; done) | (simp [*]; done), zV⟩
 rw [if_neg c3] at H; have c3b0 := decide_eq_false c3; clear c3; obtain rfl := Option.some.inj H
 go_enter Try.func65, Try.ntmps65
 go_wp2
 go_ret
 exact ⟨by first | rfl | (simp; done) | (simp [*]; done), zV⟩
def laws_szPacket.f (k : Nat) (l0_0 : List (S24)) (l0_1 : List Int) (a1 : Int) : Option (Int) := (laws_szVeneerS.f k l0_0 a1).bind fun t105 => (if t105 < 0 then (some (-1)) else ((laws_szInt64S.f l0_1 t105).bind fun t106 => (if t106 < 0 then (some (-1)) else (some t106))))
theorem laws_szPacket.mono : ∀ a0 a1 a2 k, LeO (laws_szPacket.f k a0 a1 a2) (laws_szPacket.f (k + 1) a0 a1 a2) := by
 intro a0 a1 a2 k; unfold laws_szPacket.f
 repeat' first
  | (with_reducible exact laws_szVeneerS.mono _ _ _)
  | (with_reducible exact LeO.refl _)
  | (with_reducible exact LeO.none _)
  | (with_reducible refine LeO.ite ?_ ?_)
  | (with_reducible refine LeO.bind ?_ (fun _ => ?_))
  | exact laws_szVeneerS.mono _ _ _
  | exact LeO.none _
  | refine LeO.ite ?_ ?_
  | refine LeO.bind ?_ (fun _ => ?_)
set_option maxHeartbeats 8000000 in
set_option maxRecDepth 100000 in
theorem laws_szPacket.calls (k : Nat) (A0_0 : Option Addr) (c0_0 : Nat) (l0_0 : List (S24)) (A0_1 : Option Addr) (c0_1 : Nat) (l0_1 : List Int) (a1 : Int) (r : Int) (w : World) (hr0_0 : Kd.C k24 w A0_0 l0_0.length l0_0) (hc0_0 : l0_0.length ≤ c0_0) (hr0_1 : Kd.C (Kd.int .i64) w A0_1 l0_1.length l0_1) (hc0_1 : l0_1.length ≤ c0_1) (h : laws_szPacket.f k l0_0 l0_1 a1 = some r) :
 Calls Try.prog 29 #[.agg #[.slice A0_0 l0_0.length c0_0, .slice A0_1 l0_1.length c0_1], .int .i64 a1] w fun e w' => e = .returned (.int .i64 r) ∧ Below w.heap.size w w' := by
 have hu55 := Try.underlying55; have HR0_0 := Aside0.mk hr0_0; have HC0_0 := Aside0.mk hc0_0; clear hr0_0 hc0_0; have HR0_1 := Aside0.mk hr0_1; have HC0_1 := Aside0.mk hc0_1; clear hr0_1 hc0_1; have HB := Aside0.mk (Below.refl w.heap.size w)
 have H : ((laws_szVeneerS.f k l0_0 a1).bind fun t105 => (if t105 < 0 then (some (-1)) else ((laws_szInt64S.f l0_1 t105).bind fun t106 => (if t106 < 0 then (some (-1)) else (some t106))))) = some r := h
 clear h; replace H := Option.bind_eq_some_iff.mp H; obtain ⟨t105, A30, H⟩ := H; have A3 := Aside0.mk A30; clear A30
 by_cases c4 : t105 < 0
 · rw [if_pos c4] at H
   have c4b0 := decide_eq_true c4; clear c4; obtain rfl := Option.some.inj H
   go_enter Try.func29, Try.ntmps29
   go_wp2_with (first | ((with_reducible refine zI 2 rfl ?_); refine zB 2 #[.slice A0_0 l0_0.length c0_0, .slice A0_1 l0_1.length c0_1] 55 ?_; intro gb104 hg w5 hbox hb; have BK104 := Aside0.mk (hbox); have GW104 := zS (pB0 HB.out) hg; have GE104 := GW104; replace HB := zW (pB0 HB.out) hb; clear hb hbox hg; obtain ⟨Y6_0, X6_0, Y6_1, X6_1⟩ := zw2 BK104) | ((with_reducible refine gate_callee (f := 64) rfl ?_); refine zJ (some 8) Try.func64 #[.slice A0_0 l0_0.length c0_0, .int .i64 a1] ?_; (with_reducible refine (laws_szVeneerS.calls k _ _ l0_0 a1 t105 _ ?side1 ?side2 A3.out).mono ?_); (case side1 => exact pC (Kd.C_below HR0_0.out HB.out)); (case side2 => exact HC0_0.out); rintro e w7 ⟨rfl, hb⟩; refine ⟨_, rfl, ?_⟩; replace BK104 := zK BK104 hb; replace HB := zW (pB1 HB.out GE104.out) hb; (try clear hb); (try clear hb2); (try clear hk); (try clear hi)))
   go_ret
   exact ⟨zE, pB1 HB.out GE104.out⟩
 rw [if_neg c4] at H; have c4b0 := decide_eq_false c4; clear c4; replace H := Option.bind_eq_some_iff.mp H; obtain ⟨t106, A80, H⟩ := H; have A8 := Aside0.mk A80; clear A80
 by_cases c9 : t106 < 0
 · rw [if_pos c9] at H
   have c9b0 := decide_eq_true c9; clear c9; obtain rfl := Option.some.inj H
   go_enter Try.func29, Try.ntmps29
   go_wp2_with (first | ((with_reducible refine zI 2 rfl ?_); refine zB 2 #[.slice A0_0 l0_0.length c0_0, .slice A0_1 l0_1.length c0_1] 55 ?_; intro gb104 hg w10 hbox hb; have BK104 := Aside0.mk (hbox); have GW104 := zS (pB0 HB.out) hg; have GE104 := GW104; replace HB := zW (pB0 HB.out) hb; clear hb hbox hg; obtain ⟨Y11_0, X11_0, Y11_1, X11_1⟩ := zw2 BK104) | ((with_reducible refine gate_callee (f := 64) rfl ?_); refine zJ (some 8) Try.func64 #[.slice A0_0 l0_0.length c0_0, .int .i64 a1] ?_; (with_reducible refine (laws_szVeneerS.calls k _ _ l0_0 a1 t105 _ ?side1 ?side2 A3.out).mono ?_); (case side1 => exact pC (Kd.C_below HR0_0.out HB.out)); (case side2 => exact HC0_0.out); rintro e w12 ⟨rfl, hb⟩; refine ⟨_, rfl, ?_⟩; replace BK104 := zK BK104 hb; replace HB := zW (pB1 HB.out GE104.out) hb; (try clear hb); (try clear hb2); (try clear hk); (try clear hi); obtain ⟨Y13_0, X13_0, Y13_1, X13_1⟩ := zw2 BK104) | ((with_reducible refine gate_callee (f := 65) rfl ?_); refine zJ (some 14) Try.func65 #[.slice A0_1 l0_1.length c0_1, .int .i64 t105] ?_; (with_reducible refine (laws_szInt64S.calls _ _ l0_1 t105 t106 _ ?side1 ?side2 A8.out).mono ?_); (case side1 => exact pC (Kd.C_below HR0_1.out HB.out)); (case side2 => exact HC0_1.out); rintro e w' ⟨rfl, ⟨nd, rfl⟩⟩; refine ⟨_, rfl, ?_⟩))
   go_ret
   exact ⟨zE, pB1 HB.out GE104.out⟩
 rw [if_neg c9] at H; have c9b0 := decide_eq_false c9; clear c9; obtain rfl := Option.some.inj H
 go_enter Try.func29, Try.ntmps29
 go_wp2_with (first | ((with_reducible refine zI 2 rfl ?_); refine zB 2 #[.slice A0_0 l0_0.length c0_0, .slice A0_1 l0_1.length c0_1] 55 ?_; intro gb104 hg w14 hbox hb; have BK104 := Aside0.mk (hbox); have GW104 := zS (pB0 HB.out) hg; have GE104 := GW104; replace HB := zW (pB0 HB.out) hb; clear hb hbox hg; obtain ⟨Y15_0, X15_0, Y15_1, X15_1⟩ := zw2 BK104) | ((with_reducible refine gate_callee (f := 64) rfl ?_); refine zJ (some 8) Try.func64 #[.slice A0_0 l0_0.length c0_0, .int .i64 a1] ?_; (with_reducible refine (laws_szVeneerS.calls k _ _ l0_0 a1 t105 _ ?side1 ?side2 A3.out).mono ?_); (case side1 => exact pC (Kd.C_below HR0_0.out HB.out)); (case side2 => exact HC0_0.out); rintro e w16 ⟨rfl, hb⟩; refine ⟨_, rfl, ?_⟩; replace BK104 := zK BK104 hb; replace HB := zW (pB1 HB.out GE104.out) hb; (try clear hb); (try clear hb2); (try clear hk); (try clear hi); obtain ⟨Y17_0, X17_0, Y17_1, X17_1⟩ := zw2 BK104) | ((with_reducible refine gate_callee (f := 65) rfl ?_); refine zJ (some 14) Try.func65 #[.slice A0_1 l0_1.length c0_1, .int .i64 t105] ?_; (with_reducible refine (laws_szInt64S.calls _ _ l0_1 t105 t106 _ ?side1 ?side2 A8.out).mono ?_); (case side1 => exact pC (Kd.C_below HR0_1.out HB.out)); (case side2 => exact HC0_1.out); rintro e w' ⟨rfl, ⟨nd, rfl⟩⟩; refine ⟨_, rfl, ?_⟩))
 go_ret
 exact ⟨zE, pB1 HB.out GE104.out⟩
def laws_toVeneer.f (a0_0 : ByteArray) (a0_1 : Int) (a0_2 : Int) : Option (ByteArray × Int × Int) := some (a0_0, a0_1, a0_2)
set_option maxHeartbeats 8000000 in
set_option maxRecDepth 100000 in
theorem laws_toVeneer.calls (a0_0 : ByteArray) (a0_1 : Int) (a0_2 : Int) (r1 : ByteArray) (r2 : Int) (r3 : Int) (w : World) (h : laws_toVeneer.f a0_0 a0_1 a0_2 = some (r1, r2, r3)) :
 Calls Try.prog 53 #[.agg #[.string a0_0, .int .i64 a0_1, .int .i64 a0_2]] w fun e w' => e = .returned (.agg #[.string r1, .int .i64 r2, .int .i64 r3]) ∧ Below w.heap.size w w' := by
 have hu24 := Try.underlying24; have hu33 := Try.underlying33; have HB := Aside0.mk (Below.refl w.heap.size w); have H : (some (a0_0, a0_1, a0_2)) = some (r1, r2, r3) := h; clear h; simp only [Option.some.injEq, Prod.mk.injEq] at H; obtain ⟨rfl, rfl, rfl⟩ := H
 go_enter Try.func53, Try.ntmps53
 go_wp2_with (first | ((with_reducible refine zI 1 rfl ?_); refine zB 1 #[.string a0_0, .int .i64 a0_1, .int .i64 a0_2] 24 ?_; intro gb107 hg w2 hbox hb; have BK107 := Aside0.mk (hbox); have GW107 := zS (pB0 HB.out) hg; have GE107 := GW107; replace HB := zW (pB0 HB.out) hb; clear hb hbox hg) | ((with_reducible refine zI 2 rfl ?_); refine zB 2 #[.string (⟨#[]⟩ : ByteArray), .int .i64 0, .int .i64 0] 33 ?_; intro gb108 hg w3 hbox hb; have BK108 := Aside0.mk (hbox); have GW108 := zS (pB1 HB.out GE107.out) hg; have GE108 := GW108; have NB107_108 := zL BK107 hg; have NB108_107 := zM BK107 hg; replace BK107 := zK BK107 hb; replace HB := zW (pB1 HB.out GE107.out) hb; clear hb hbox hg) | ((with_reducible refine zI 3 rfl ?_); refine zB 3 #[.string (⟨#[]⟩ : ByteArray), .int .i64 0, .int .i64 0] 33 ?_; intro gb109 hg w4 hbox hb; have BK109 := Aside0.mk (hbox); have GW109 := zS (pB2 HB.out GE107.out GE108.out) hg; have GE109 := GW109; have NB107_109 := zL BK107 hg; have NB109_107 := zM BK107 hg; have NB108_109 := zL BK108 hg; have NB109_108 := zM BK108 hg; replace BK107 := zK BK107 hb; replace BK108 := zK BK108 hb; replace HB := zW (pB2 HB.out GE107.out GE108.out) hb; clear hb hbox hg; have hnb5 := NB107_108.out; have hnc5 := NB108_107.out; have hnb6 := NB107_109.out; have hnc6 := NB109_107.out; obtain ⟨Y7_0, X7_0, Y7_1, X7_1, Y7_2, X7_2⟩ := zw3 BK107; have hnb8 := NB109_108.out; have hnc8 := NB108_109.out; obtain ⟨Y9_0, X9_0, Y9_1, X9_1, Y9_2, X9_2⟩ := zw3 BK109; obtain ⟨Y10_0, X10_0, Y10_1, X10_1, Y10_2, X10_2⟩ := zw3 BK108))
 refine bodyPost_ret (results_cell_row rfl _ _ gb108 33 #[.string a0_0, .int .i64 a0_1, .int .i64 a0_2] (0, 0) _ rfl (by refine zg #[.string a0_0, .int .i64 a0_1, .int .i64 0] 2 ?_; refine zg #[.string a0_0, .int .i64 0, .int .i64 0] 1 ?_; refine zg #[.string (⟨#[]⟩ : ByteArray), .int .i64 0, .int .i64 0] 0 ?_; refine zf ?_ NB108_109; refine zf ?_ NB108_109; refine zf ?_ NB108_109; exact pK BK108.out) Try.underlying33 rfl (by kernel_rfl)) rfl ?_
 exact ⟨zE, pB3 HB.out GE107.out GE108.out GE109.out⟩
def laws_toVeneerS.l0 : Nat → List (S24) → List (S33) → Int → Option ((List (S33)))
 | 0, _, _, _ => none
 | k + 1, x0, x3, x4 => if x4 < (x0.length : Int) then (if 0 ≤ x4 then ((laws_toVeneer.f ((rd_T24 x0 x4).f0) ((rd_T24 x0 x4).f1) ((rd_T24 x0 x4).f2)).bind fun bt114 => (if x4 < (x3.length : Int) then (laws_toVeneerS.l0 k x0 (x3.set (x4 : Int).toNat (⟨bt114.1, bt114.2.1, bt114.2.2⟩ : S33)) (wrap64 (x4 + 1))) else (none))) else (none)) else (some x3)
def laws_toVeneerS.f (k : Nat) (l0 : List (S24)) : Option ((List (S33))) := if 0 ≤ (l0.length : Int) then (if ((l0.length : Int) : Int).toNat ≤ 8796093022208 then (laws_toVeneerS.l0 k l0 (List.replicate ((l0.length : Int) : Int).toNat z33) 0) else (none)) else (none)
theorem laws_toVeneerS.mono_l : ∀ k, (∀ y0 y1 y2, LeO (laws_toVeneerS.l0 k y0 y1 y2) (laws_toVeneerS.l0 (k + 1) y0 y1 y2))
 | 0 => fun _ _ _ r h => by simp [laws_toVeneerS.l0] at h
 | k + 1 => by
   have ih0 := laws_toVeneerS.mono_l k
   · intro y0 y1 y2
     unfold laws_toVeneerS.l0
     repeat' first
     | (with_reducible exact ih0 _ _ _)
     | (with_reducible exact LeO.refl _)
     | (with_reducible exact LeO.none _)
     | (with_reducible refine LeO.ite ?_ ?_)
     | (with_reducible refine LeO.bind ?_ (fun _ => ?_))
     | exact ih0 _ _ _
     | exact LeO.none _
     | refine LeO.ite ?_ ?_
     | refine LeO.bind ?_ (fun _ => ?_)
theorem laws_toVeneerS.mono : ∀ a0 k, LeO (laws_toVeneerS.f k a0) (laws_toVeneerS.f (k + 1) a0) := by
 intro a0 k; have ih0 := laws_toVeneerS.mono_l k; unfold laws_toVeneerS.f
 repeat' first
  | (with_reducible exact ih0 _ _ _)
  | (with_reducible exact LeO.refl _)
  | (with_reducible exact LeO.none _)
  | (with_reducible refine LeO.ite ?_ ?_)
  | (with_reducible refine LeO.bind ?_ (fun _ => ?_))
  | exact ih0 _ _ _
  | exact LeO.none _
  | refine LeO.ite ?_ ?_
  | refine LeO.bind ?_ (fun _ => ?_)
set_option maxHeartbeats 8000000 in
set_option maxRecDepth 100000 in
theorem laws_toVeneerS.calls (k : Nat) (A0 : Option Addr) (c0 : Nat) (l0 : List (S24)) (r : List (S33)) (w : World) (hr0 : Kd.C k24 w A0 l0.length l0) (hc0 : l0.length ≤ c0) (h : laws_toVeneerS.f k l0 = some r) :
 Calls Try.prog 68 #[.slice A0 l0.length c0] w fun e w' => ∃ v0_ : Value, e = .returned (v0_) ∧ Kd.R k33 33 w' w.heap.size (fun _ => True) v0_ r ∧ Below w.heap.size w w' := by
 have hu24 := Try.underlying24; have hu33 := Try.underlying33; have HR0 := Aside0.mk hr0; have HC0 := Aside0.mk hc0; clear hr0 hc0; have HB := Aside0.mk (Below.refl w.heap.size w); have H : (if 0 ≤ (l0.length : Int) then (if ((l0.length : Int) : Int).toNat ≤ 8796093022208 then (laws_toVeneerS.l0 k l0 (List.replicate ((l0.length : Int) : Int).toNat z33) 0) else (none)) else (none)) = some r := h; clear h
 by_cases c2 : 0 ≤ (l0.length : Int)
 rotate_left
 · rw [if_neg c2] at H
   exact absurd H (by simp)
 rw [if_pos c2] at H; have c2b0 := eq_true c2; have c2b1 := decide_eq_true c2; clear c2
 by_cases c3 : ((l0.length : Int) : Int).toNat ≤ 8796093022208
 rotate_left
 · rw [if_neg c3] at H
   exact absurd H (by simp)
 rw [if_pos c3] at H; have c3b0 := eq_true c3; have c3b1 := decide_eq_true c3; clear c3; obtain ⟨y110, hy110⟩ : ∃ y_ : List (S33), y_ = (List.replicate ((l0.length : Int) : Int).toNat z33) := ⟨_, rfl⟩; replace H : (laws_toVeneerS.l0 k l0 y110 0) = some r := zY hy110 H; have Ny110 := Aside0.mk hy110; clear hy110; have H' := Aside0.mk H; clear H
 go_enter Try.func68, Try.ntmps68
 go_wp2_with (first | ((with_reducible refine zI 7 rfl ?_); refine Kd.R_make k33 _ 33 rfl (N := 7) rfl 60 _ _ rfl (l0.length : Int) rfl rfl Try.underlying60 (.agg #[(.string ⟨#[]⟩), (.int .i64 0), (.int .i64 0)]) 32 info33 rfl (by decide) (by omega) z33 (ok := fun _ => True) (okp := fun _ => True) (k33_mkM _ _ _ z33 ) (fun _ hk => hk) trivial (zD) (Nat.le_trans (Nat.mul_le_mul_right _ (zD : (l0.length : Int).toNat ≤ 8796093022208)) (by omega)) (Below.refl _ _) (Nat.le_refl _) ?_; intro v111 w4 ho5 hb hg_ hnew_; clear hg_ hnew_; (first | rw [← Ny110.out] at ho5 | (simp only [Int.reduceToNat] at ho5; rw [← Ny110.out] at ho5)); have HO112 := Aside0.mk (Kd.R_lower ho5 (below_size (pB0 HB.out))); replace HB := zW (pB0 HB.out) hb; clear hb ho5))
 go_loopg [4] k (fun kq v4 w' => ∃ (x3_1 : List (S33)) (x4_1 : Int), v4 = .int .i64 x4_1 ∧ Aside0 (laws_toVeneerS.l0 kq l0 x3_1 x4_1 = some r) ∧ Aside0 (kq ≤ k) ∧ Aside0 (Kd.R k33 33 w' w.heap.size (fun _ => True) v111 x3_1) ∧ Aside0 (Below w.heap.size w w'))
 case atStart => exact ⟨(y110), (0), zR, H', ⟨Nat.le_refl _⟩, ⟨pR HO112.out⟩, ⟨pB0 HB.out⟩⟩
 case round =>
  clear H'; (try clear c2); (try clear c2b0); (try clear c2b1); (try clear p2); (try clear c3); (try clear c3b0); (try clear c3b1); obtain ⟨x3_1, x4_1, rfl, HA, HK1, HO_3, HB⟩ := hrel
  cases gk with
  | zero => exact absurd HA.out (by simp [laws_toVeneerS.l0])
  | succ k1 =>
    have H := HA.out; clear HA; simp only [laws_toVeneerS.l0] at H
    by_cases c6 : x4_1 < (l0.length : Int)
    rotate_left
    · rw [if_neg c6] at H
      have c6b0 := decide_eq_false c6; clear c6; obtain rfl := Option.some.inj H
      go_wp2
      go_ret
      exact ⟨_, zE, by (with_reducible repeat (first | apply Kd.R_alloc | apply Kd.R_drewN | apply Kd.R_drew)); exact HO_3.out, pB0 HB.out⟩
    rw [if_pos c6] at H; have c6b0 := decide_eq_true c6; clear c6
    by_cases c7 : 0 ≤ x4_1
    rotate_left
    · rw [if_neg c7] at H
      exact absurd H (by simp)
    rw [if_pos c7] at H; have c7b0 := decide_eq_true c7; clear c7; replace H := Option.bind_eq_some_iff.mp H; obtain ⟨⟨t114, t115, t116⟩, A80, H⟩ := H; replace H : (if x4_1 < (x3_1.length : Int) then (laws_toVeneerS.l0 k1 l0 (x3_1.set (x4_1 : Int).toNat (⟨t114, t115, t116⟩ : S33)) (wrap64 (x4_1 + 1))) else (none)) = some r := H; have A8 := Aside0.mk A80; clear A80
    by_cases c9 : x4_1 < (x3_1.length : Int)
    rotate_left
    · rw [if_neg c9] at H
      exact absurd H (by simp)
    rw [if_pos c9] at H; have c9b0 := decide_eq_true c9; clear c9; obtain ⟨y117, hy117⟩ : ∃ y_ : List (S33), y_ = (x3_1.set (x4_1 : Int).toNat (⟨t114, t115, t116⟩ : S33)) := ⟨_, rfl⟩; replace H : (laws_toVeneerS.l0 k1 l0 y117 (wrap64 (x4_1 + 1))) = some r := zY hy117 H; have Ny117 := Aside0.mk hy117; clear hy117; have H' := Aside0.mk H; clear H; have p113 : 0 ≤ (x4_1 : Int) := zD; have q113 : x4_1 < (l0.length : Int) := zD; obtain ⟨ad113, e113, hx113_0, hx113_1, hx113_2⟩ := at_T24 HR0.out x4_1 p113 q113; cases e113
    try replace hx113_0 := zH HB hx113_0
    try replace hx113_1 := zH HB hx113_1
    try replace hx113_2 := zH HB hx113_2
    replace p113 := eq_true p113; replace q113 := eq_true q113
    go_wp2_with (first | ((with_reducible refine gate_callee (f := 53) rfl ?_); refine zJ (some 20) Try.func53 #[.agg #[.string ((rd_T24 l0 x4_1).f0), .int .i64 ((rd_T24 l0 x4_1).f1), .int .i64 ((rd_T24 l0 x4_1).f2)]] ?_; (with_reducible refine (laws_toVeneer.calls ((rd_T24 l0 x4_1).f0) ((rd_T24 l0 x4_1).f1) ((rd_T24 l0 x4_1).f2) t114 t115 t116 _ A8.out).mono ?_); rintro e w11 ⟨rfl, hb⟩; refine ⟨_, rfl, ?_⟩; replace HO_3 := Aside0.mk (Kd.R_below (pR HO_3.out) hb); replace HB := zW (pB0 HB.out) hb; (try clear hb); (try clear hb2); (try clear hk); (try clear hi); have p10 : 0 ≤ (x4_1 : Int) := zD; have q10 : (x4_1 : Int) < ((x3_1.length : Int) : Int) := zD; obtain ⟨go10, co10, eo10, gb10, gl10, cl10, HG10⟩ := Kd.R_form HO_3.out (by omega); (first | cases eo10 | (injection eo10 with ea_ en_ ec_; (first | subst ea_ | (injection ea_ with ea_; subst ea_)); subst ec_; clear en_)); have GB10 := Aside0.mk gb10; have GG10 := Aside0.mk HG10; clear gb10 gl10 HG10; obtain ⟨ce10, hcl10, hM10, hcc10, hfr10⟩ := Kd.R_elem HO_3.out z33 (x4_1 : Int) p10 q10; obtain rfl := k33_openM hM10; have hx10_0 : w11.cell? ⟨go10, (x4_1 : Int).toNat * 3, none⟩ = some (.string ((rd_T33 x3_1 x4_1).f0)) := hcc10 0 _ rfl; have hx10_1 : w11.cell? ⟨go10, (x4_1 : Int).toNat * 3 + 1, none⟩ = some (.int .i64 ((rd_T33 x3_1 x4_1).f1)) := hcc10 1 _ rfl; have hx10_2 : w11.cell? ⟨go10, (x4_1 : Int).toNat * 3 + 2, none⟩ = some (.int .i64 ((rd_T33 x3_1 x4_1).f2)) := hcc10 2 _ rfl; have hf10_0 : w11.frozen? ⟨go10, (x4_1 : Int).toNat * 3, none⟩ = false := hfr10 0; have hf10_1 : w11.frozen? ⟨go10, (x4_1 : Int).toNat * 3 + 1, none⟩ = false := hfr10 1; have hf10_2 : w11.frozen? ⟨go10, (x4_1 : Int).toNat * 3 + 2, none⟩ = false := hfr10 2; clear hcl10 hcc10 hfr10; (try clear hM10); replace p10 := eq_true p10; replace q10 := eq_true q10; have HX12 := Aside0.mk (show Kd.R k33 33 w11 w.heap.size (fun _ => True) (.slice (some ⟨go10, 0, none⟩) x3_1.length co10) x3_1 from (pR HO_3.out)); obtain ⟨ce12, hcl12, hM12, hcc12, hfr12⟩ := Kd.R_elem HX12.out z33 (x4_1 : Int) (zD) (by have h_ : (x4_1 : Int) < ((x3_1.length : Int) : Int) := zD; first | exact h_ | (have e_ := (Kd.R_reads' HO_3.out).1; omega) | simpa using h_); obtain rfl := k33_openM hM12; have HP12 := Kd.R_seg HX12.out (x4_1 : Int) (zD) (by have h_ : (x4_1 : Int) < ((x3_1.length : Int) : Int) := zD; first | exact h_ | (have e_ := (Kd.R_reads' HO_3.out).1; omega) | simpa using h_) (seg := [.string t114, .int .i64 t115, .int .i64 t116]) (j := 0) hcl12 hcc12 (show 3 ≤ 3 from by decide) (x' := (⟨t114, t115, t116⟩ : S33)) (k33_mkM _ _ _ (⟨t114, t115, t116⟩ : S33) ) (fun _ hk => hk); have hx12_0 := hcc12 0 _ rfl; (try simp only [show (k33).sz = 3 from rfl, Nat.mul_one, Nat.add_zero] at hx12_0); have hf12_0 := hfr12 0; (try simp only [show (k33).sz = 3 from rfl, Nat.mul_one, Nat.add_zero] at hf12_0); have hx12_1 := hcc12 1 _ rfl; (try simp only [show (k33).sz = 3 from rfl, Nat.mul_one, Nat.add_zero] at hx12_1); have hf12_1 := hfr12 1; (try simp only [show (k33).sz = 3 from rfl, Nat.mul_one, Nat.add_zero] at hf12_1); have hx12_2 := hcc12 2 _ rfl; (try simp only [show (k33).sz = 3 from rfl, Nat.mul_one, Nat.add_zero] at hx12_2); have hf12_2 := hfr12 2; (try simp only [show (k33).sz = 3 from rfl, Nat.mul_one, Nat.add_zero] at hf12_2); clear hcl12 hcc12 hfr12; (try clear hM12)) | ((with_reducible refine gate_store (t := 33) (p := 21) rfl ?_); refine store_event (t := 33) (p := 21) (v := ?vo_w13) (w1 := (((w11.setCell ⟨go10, (x4_1 : Int).toNat * 3, none⟩ (.string t114)).setCell ⟨go10, (x4_1 : Int).toNat * 3 + 1, none⟩ (.int .i64 t115)).setCell ⟨go10, (x4_1 : Int).toNat * 3 + 2, none⟩ (.int .i64 t116))) ?hg ?ho ?hn ?hr ?_; (case ho => rfl); (case hg => rfl); (case hn => rfl); (case hr => first | (go_simp; done) | (go_simp; rfl)); intro w13 hw; have hg : w11.grownBy w13 (some go10) := (by rw [hw]; exact HP12.2); have hp_ : Kd.R k33 33 w13 w.heap.size (fun _ => True) (.slice (some ⟨go10, 0, none⟩) x3_1.length co10) y117 := (by rw [hw, Ny117.out]; exact HP12.1); clear HP12; replace HO_3 := Aside0.mk (hp_); replace HB := Aside0.mk ((by rw [hw]; exact below_set (below_set (below_set (HB.out) GB10.out) GB10.out) GB10.out : Below w.heap.size w w13)); clear hg hw hp_))
    go_roundg k1
    case measure => have := HK1.out; omega
    case rel => exact ⟨(y117), (wrap64 (x4_1 + 1)), zR, H', ⟨by have := HK1.out; omega⟩, ⟨pR HO_3.out⟩, ⟨pB0 HB.out⟩⟩
def laws_toInt64S.l0 : Nat → List Int → List Int → Int → Option (List Int)
 | 0, _, _, _ => none
 | k + 1, x0, x3, x4 => if x4 < (x0.length : Int) then (if 0 ≤ x4 then (if x4 < (x3.length : Int) then (laws_toInt64S.l0 k x0 (x3.set (x4 : Int).toNat (rd x0 x4)) (wrap64 (x4 + 1))) else (none)) else (none)) else (some x3)
def laws_toInt64S.f (k : Nat) (l0 : List Int) : Option (List Int) := if 0 ≤ (l0.length : Int) then (if ((l0.length : Int) : Int).toNat ≤ 35184372088832 then (laws_toInt64S.l0 k l0 (List.replicate ((l0.length : Int) : Int).toNat 0) 0) else (none)) else (none)
theorem laws_toInt64S.mono_l : ∀ k, (∀ y0 y1 y2, LeO (laws_toInt64S.l0 k y0 y1 y2) (laws_toInt64S.l0 (k + 1) y0 y1 y2))
 | 0 => fun _ _ _ r h => by simp [laws_toInt64S.l0] at h
 | k + 1 => by
   have ih0 := laws_toInt64S.mono_l k
   · intro y0 y1 y2
     unfold laws_toInt64S.l0
     repeat' first
     | (with_reducible exact ih0 _ _ _)
     | (with_reducible exact LeO.refl _)
     | (with_reducible exact LeO.none _)
     | (with_reducible refine LeO.ite ?_ ?_)
     | (with_reducible refine LeO.bind ?_ (fun _ => ?_))
     | exact ih0 _ _ _
     | exact LeO.none _
     | refine LeO.ite ?_ ?_
     | refine LeO.bind ?_ (fun _ => ?_)
theorem laws_toInt64S.mono : ∀ a0 k, LeO (laws_toInt64S.f k a0) (laws_toInt64S.f (k + 1) a0) := by
 intro a0 k; have ih0 := laws_toInt64S.mono_l k; unfold laws_toInt64S.f
 repeat' first
  | (with_reducible exact ih0 _ _ _)
  | (with_reducible exact LeO.refl _)
  | (with_reducible exact LeO.none _)
  | (with_reducible refine LeO.ite ?_ ?_)
  | (with_reducible refine LeO.bind ?_ (fun _ => ?_))
  | exact ih0 _ _ _
  | exact LeO.none _
  | refine LeO.ite ?_ ?_
  | refine LeO.bind ?_ (fun _ => ?_)
set_option maxHeartbeats 8000000 in
set_option maxRecDepth 100000 in
theorem laws_toInt64S.calls (k : Nat) (A0 : Option Addr) (c0 : Nat) (l0 : List Int) (r : List Int) (w : World) (hr0 : Kd.C (Kd.int .i64) w A0 l0.length l0) (hc0 : l0.length ≤ c0) (h : laws_toInt64S.f k l0 = some r) :
 Calls Try.prog 69 #[.slice A0 l0.length c0] w fun e w' => ∃ v0_ : Value, e = .returned (v0_) ∧ Kd.R (Kd.int .i64) 2 w' w.heap.size (fun _ => True) v0_ r ∧ Below w.heap.size w w' := by
 have HR0 := Aside0.mk hr0; have HC0 := Aside0.mk hc0; clear hr0 hc0; have HB := Aside0.mk (Below.refl w.heap.size w); have H : (if 0 ≤ (l0.length : Int) then (if ((l0.length : Int) : Int).toNat ≤ 35184372088832 then (laws_toInt64S.l0 k l0 (List.replicate ((l0.length : Int) : Int).toNat 0) 0) else (none)) else (none)) = some r := h; clear h
 by_cases c2 : 0 ≤ (l0.length : Int)
 rotate_left
 · rw [if_neg c2] at H
   exact absurd H (by simp)
 rw [if_pos c2] at H; have c2b0 := eq_true c2; have c2b1 := decide_eq_true c2; clear c2
 by_cases c3 : ((l0.length : Int) : Int).toNat ≤ 35184372088832
 rotate_left
 · rw [if_neg c3] at H
   exact absurd H (by simp)
 rw [if_pos c3] at H; have c3b0 := eq_true c3; have c3b1 := decide_eq_true c3; clear c3; obtain ⟨y118, hy118⟩ : ∃ y_ : List Int, y_ = (List.replicate ((l0.length : Int) : Int).toNat 0) := ⟨_, rfl⟩; replace H : (laws_toInt64S.l0 k l0 y118 0) = some r := zY hy118 H; have Ny118 := Aside0.mk hy118; clear hy118; have H' := Aside0.mk H; clear H
 go_enter Try.func69, Try.ntmps69
 go_wp2_with (first | ((with_reducible refine zI 7 rfl ?_); refine Kd.R_make (Kd.int .i64) _ 2 rfl (N := 7) rfl 41 _ _ rfl (l0.length : Int) rfl rfl Try.underlying41 (.int .i64 0) 8 info2 rfl (by decide) (by omega) 0 (ok := fun _ => True) (okp := fun _ => True) rfl (fun _ hk => hk) trivial (zD) (Nat.le_trans (Nat.mul_le_mul_right _ (zD : (l0.length : Int).toNat ≤ 35184372088832)) (by omega)) (Below.refl _ _) (Nat.le_refl _) ?_; intro v119 w4 ho5 hb hg_ hnew_; clear hg_ hnew_; (first | rw [← Ny118.out] at ho5 | (simp only [Int.reduceToNat] at ho5; rw [← Ny118.out] at ho5)); have HO120 := Aside0.mk (Kd.R_lower ho5 (below_size (pB0 HB.out))); replace HB := zW (pB0 HB.out) hb; clear hb ho5))
 go_loopg [4] k (fun kq v4 w' => ∃ (x3_1 : List Int) (x4_1 : Int), v4 = .int .i64 x4_1 ∧ Aside0 (laws_toInt64S.l0 kq l0 x3_1 x4_1 = some r) ∧ Aside0 (kq ≤ k) ∧ Aside0 (Kd.R (Kd.int .i64) 2 w' w.heap.size (fun _ => True) v119 x3_1) ∧ Aside0 (Below w.heap.size w w'))
 case atStart => exact ⟨(y118), (0), zR, H', ⟨Nat.le_refl _⟩, ⟨pR HO120.out⟩, ⟨pB0 HB.out⟩⟩
 case round =>
  clear H'; (try clear c2); (try clear c2b0); (try clear c2b1); (try clear p2); (try clear c3); (try clear c3b0); (try clear c3b1); obtain ⟨x3_1, x4_1, rfl, HA, HK1, HO_3, HB⟩ := hrel
  cases gk with
  | zero => exact absurd HA.out (by simp [laws_toInt64S.l0])
  | succ k1 =>
    have H := HA.out; clear HA; simp only [laws_toInt64S.l0] at H
    by_cases c6 : x4_1 < (l0.length : Int)
    rotate_left
    · rw [if_neg c6] at H
      have c6b0 := decide_eq_false c6; clear c6; obtain rfl := Option.some.inj H
      go_wp2
      go_ret
      exact ⟨_, zE, by (with_reducible repeat (first | apply Kd.R_alloc | apply Kd.R_drewN | apply Kd.R_drew)); exact HO_3.out, pB0 HB.out⟩
    rw [if_pos c6] at H; have c6b0 := decide_eq_true c6; clear c6
    by_cases c7 : 0 ≤ x4_1
    rotate_left
    · rw [if_neg c7] at H
      exact absurd H (by simp)
    rw [if_pos c7] at H; have c7b0 := decide_eq_true c7; clear c7
    by_cases c8 : x4_1 < (x3_1.length : Int)
    rotate_left
    · rw [if_neg c8] at H
      exact absurd H (by simp)
    rw [if_pos c8] at H; have c8b0 := decide_eq_true c8; clear c8; obtain ⟨y122, hy122⟩ : ∃ y_ : List Int, y_ = (x3_1.set (x4_1 : Int).toNat (rd l0 x4_1)) := ⟨_, rfl⟩; replace H : (laws_toInt64S.l0 k1 l0 y122 (wrap64 (x4_1 + 1))) = some r := zY hy122 H; have Ny122 := Aside0.mk hy122; clear hy122; have H' := Aside0.mk H; clear H; have p121 : 0 ≤ (x4_1 : Int) := zD; have q121 : x4_1 < (l0.length : Int) := zD; obtain ⟨ad121, e121, hx121_0⟩ := Kd.at_int HR0.out x4_1 p121 q121; cases e121
    try replace hx121_0 := zH HB hx121_0
    replace p121 := eq_true p121; replace q121 := eq_true q121; have p9 : 0 ≤ (x4_1 : Int) := zD; have q9 : (x4_1 : Int) < ((x3_1.length : Int) : Int) := zD
    obtain ⟨go9, co9, eo9, gb9, gl9, cl9, HG9⟩ := Kd.R_form HO_3.out (by omega)
    (first | cases eo9 | (injection eo9 with ea_ en_ ec_; (first | subst ea_ | (injection ea_ with ea_; subst ea_)); subst ec_; clear en_))
    have GB9 := Aside0.mk gb9; have GG9 := Aside0.mk HG9; clear gb9 gl9 HG9; obtain ⟨hx9_0, hf9_0⟩ := Kd.R_celln 0 HO_3.out (x4_1 : Int) p9 q9; replace p9 := eq_true p9; replace q9 := eq_true q9; have HP10 := Kd.R_putg HO_3.out (x4_1 : Int) (rd l0 x4_1)
    go_wp2_with (first | ((with_reducible refine gate_store (t := 2) (p := 20) rfl ?_); refine store_event (t := 2) (p := 20) (v := ?vo_w11) (w1 := (wr.setCell ⟨go9, (x4_1 : Int).toNat, none⟩ (.int .i64 (rd l0 x4_1)))) ?hg ?ho ?hn ?hr ?_; (case ho => rfl); (case hg => rfl); (case hn => rfl); (case hr => first | (go_simp; done) | (go_simp; rfl)); intro w11 hw; have hg : wr.grownBy w11 (some go9) := (by rw [hw]; exact HP10.2); have hp_ : Kd.R (Kd.int .i64) 2 w11 w.heap.size (fun _ => True) (.slice (some ⟨go9, 0, none⟩) x3_1.length co9) y122 := (by rw [hw, Ny122.out]; exact HP10.1); clear HP10; replace HO_3 := Aside0.mk (hp_); replace HB := Aside0.mk ((by rw [hw]; exact below_set (HB.out) GB9.out : Below w.heap.size w w11)); clear hg hw hp_))
    go_roundg k1
    case measure => have := HK1.out; omega
    case rel => exact ⟨(y122), (wrap64 (x4_1 + 1)), zR, H', ⟨by have := HK1.out; omega⟩, ⟨pR HO_3.out⟩, ⟨pB0 HB.out⟩⟩
def laws_toPacket.f (k : Nat) (l0_0 : List (S24)) (l0_1 : List Int) : Option ((List (S33)) × List Int) := (laws_toVeneerS.f k l0_0).bind fun t126 => ((laws_toInt64S.f k l0_1).bind fun t129 => (some (t126, t129)))
theorem laws_toPacket.mono : ∀ a0 a1 k, LeO (laws_toPacket.f k a0 a1) (laws_toPacket.f (k + 1) a0 a1) := by
 intro a0 a1 k; unfold laws_toPacket.f
 repeat' first
  | (with_reducible exact laws_toInt64S.mono _ _)
  | (with_reducible exact laws_toVeneerS.mono _ _)
  | (with_reducible exact LeO.refl _)
  | (with_reducible exact LeO.none _)
  | (with_reducible refine LeO.ite ?_ ?_)
  | (with_reducible refine LeO.bind ?_ (fun _ => ?_))
  | exact laws_toInt64S.mono _ _
  | exact laws_toVeneerS.mono _ _
  | exact LeO.none _
  | refine LeO.ite ?_ ?_
  | refine LeO.bind ?_ (fun _ => ?_)
set_option maxHeartbeats 8000000 in
set_option maxRecDepth 100000 in
theorem laws_toPacket.calls (k : Nat) (A0_0 : Option Addr) (c0_0 : Nat) (l0_0 : List (S24)) (A0_1 : Option Addr) (c0_1 : Nat) (l0_1 : List Int) (r1 : List (S33)) (r2 : List Int) (w : World) (hr0_0 : Kd.C k24 w A0_0 l0_0.length l0_0) (hc0_0 : l0_0.length ≤ c0_0) (hr0_1 : Kd.C (Kd.int .i64) w A0_1 l0_1.length l0_1) (hc0_1 : l0_1.length ≤ c0_1) (h : laws_toPacket.f k l0_0 l0_1 = some (r1, r2)) :
 Calls Try.prog 31 #[.agg #[.slice A0_0 l0_0.length c0_0, .slice A0_1 l0_1.length c0_1]] w fun e w' => ∃ v0_ v1_ : Value, e = .returned (.agg #[v0_, v1_]) ∧ Kd.R k33 33 w' w.heap.size (fun _ => True) v0_ r1 ∧ Kd.R (Kd.int .i64) 2 w' w.heap.size (fun _ => True) v1_ r2 ∧ Below w.heap.size w w' := by
 have hu55 := Try.underlying55; have hu62 := Try.underlying62; have HR0_0 := Aside0.mk hr0_0; have HC0_0 := Aside0.mk hc0_0; clear hr0_0 hc0_0; have HR0_1 := Aside0.mk hr0_1; have HC0_1 := Aside0.mk hc0_1; clear hr0_1 hc0_1; have HB := Aside0.mk (Below.refl w.heap.size w)
 have H : ((laws_toVeneerS.f k l0_0).bind fun t126 => ((laws_toInt64S.f k l0_1).bind fun t129 => (some (t126, t129)))) = some (r1, r2) := h
 clear h; replace H := Option.bind_eq_some_iff.mp H; obtain ⟨t126, A20, H⟩ := H; have A2 := Aside0.mk A20; clear A20; replace H := Option.bind_eq_some_iff.mp H; obtain ⟨t129, A30, H⟩ := H; have A3 := Aside0.mk A30; clear A30; simp only [Option.some.injEq, Prod.mk.injEq] at H; obtain ⟨rfl, rfl⟩ := H
 go_enter Try.func31, Try.ntmps31
 go_wp2_with (first | ((with_reducible refine zI 1 rfl ?_); refine zB 1 #[.slice A0_0 l0_0.length c0_0, .slice A0_1 l0_1.length c0_1] 55 ?_; intro gb123 hg w4 hbox hb; have BK123 := Aside0.mk (hbox); have GW123 := zS (pB0 HB.out) hg; have GE123 := GW123; replace HB := zW (pB0 HB.out) hb; clear hb hbox hg) | ((with_reducible refine zI 2 rfl ?_); refine zB 2 #[.slice none 0 0, .slice none 0 0] 62 ?_; intro gb124 hg w5 hbox hb; have BK124 := Aside0.mk (hbox); have GW124 := zS (pB1 HB.out GE123.out) hg; have GE124 := GW124; have NB123_124 := zL BK123 hg; have NB124_123 := zM BK123 hg; replace BK123 := zK BK123 hb; replace HB := zW (pB1 HB.out GE123.out) hb; clear hb hbox hg) | ((with_reducible refine zI 3 rfl ?_); refine zB 3 #[.slice none 0 0, .slice none 0 0] 62 ?_; intro gb125 hg w6 hbox hb; have BK125 := Aside0.mk (hbox); have GW125 := zS (pB2 HB.out GE123.out GE124.out) hg; have GE125 := GW125; have NB123_125 := zL BK123 hg; have NB125_123 := zM BK123 hg; have NB124_125 := zL BK124 hg; have NB125_124 := zM BK124 hg; replace BK123 := zK BK123 hb; replace BK124 := zK BK124 hb; replace HB := zW (pB2 HB.out GE123.out GE124.out) hb; clear hb hbox hg; have hnb7 := NB123_124.out; have hnc7 := NB124_123.out; have hnb8 := NB123_125.out; have hnc8 := NB125_123.out; obtain ⟨Y9_0, X9_0, Y9_1, X9_1⟩ := zw2 BK123) | ((with_reducible refine gate_callee (f := 68) rfl ?_); refine zJ (some 6) Try.func68 #[.slice A0_0 l0_0.length c0_0] ?_; (with_reducible refine (laws_toVeneerS.calls k _ _ l0_0 t126 _ ?side1 ?side2 A2.out).mono ?_); (case side1 => exact pC (Kd.C_below HR0_0.out HB.out)); (case side2 => exact HC0_0.out); rintro e w10 ⟨v127, rfl, ho0, hb⟩; refine ⟨_, rfl, ?_⟩; have HO128 := Aside0.mk (Kd.R_lower ho0 (below_size (pB3 HB.out GE123.out GE124.out GE125.out))); replace BK123 := zK BK123 hb; replace BK124 := zK BK124 hb; replace BK125 := zK BK125 hb; replace HB := zW (pB3 HB.out GE123.out GE124.out GE125.out) hb; (try clear hb); (try clear hb2); (try clear hk); (try clear hi); (try clear ho0); obtain ⟨Ao11, co11, eo11⟩ := Kd.R_slice HO128.out; subst eo11; have hnb12 := NB125_124.out; have hnc12 := NB124_125.out; obtain ⟨Y13_0, X13_0, Y13_1, X13_1⟩ := zw2 BK125; obtain ⟨Y14_0, X14_0, Y14_1, X14_1⟩ := zw2 BK123) | ((with_reducible refine gate_callee (f := 69) rfl ?_); refine zJ (some 10) Try.func69 #[.slice A0_1 l0_1.length c0_1] ?_; (with_reducible refine (laws_toInt64S.calls k _ _ l0_1 t129 _ ?side1 ?side2 A3.out).mono ?_); (case side1 => exact Kd.C_below HR0_1.out (pB3 HB.out GE123.out GE124.out GE125.out)); (case side2 => exact HC0_1.out); rintro e w15 ⟨v130, rfl, ho0, hb⟩; refine ⟨_, rfl, ?_⟩; have HO131 := Aside0.mk (Kd.R_lower ho0 (below_size (pB3 HB.out GE123.out GE124.out GE125.out))); replace HO128 := Aside0.mk (Kd.R_below (by (with_reducible repeat (first | apply Kd.R_alloc | apply Kd.R_drewN | apply Kd.R_drew)); exact (Kd.R_mono (Kd.R_far (p := ⟨gb125, 0, none⟩) (Kd.R_types HO128.out BK125.out (by decide)) (fun _ hk => hk.2) (.slice Ao11 t126.length co11)) (fun _ h_ => h_.1))) hb); replace BK123 := Aside0.mk (blk_below (g := gb123) (o := .cells #[.slice A0_0 l0_0.length c0_0, .slice A0_1 l0_1.length c0_1] 55 (0, 0)) (by refine zf ?_ NB123_125; exact pK BK123.out) hb); replace BK124 := Aside0.mk (blk_below (g := gb124) (o := .cells #[.slice none 0 0, .slice none 0 0] 62 (0, 0)) (by refine zf ?_ NB124_125; exact pK BK124.out) hb); replace BK125 := Aside0.mk (blk_below (g := gb125) (o := .cells #[.slice Ao11 t126.length co11, .slice none 0 0] 62 (0, 0)) (by refine zg #[.slice none 0 0, .slice none 0 0] 0 ?_; exact pK BK125.out) hb); replace HB := zW (pB3 HB.out GE123.out GE124.out GE125.out) hb; (try clear hb); (try clear hb2); (try clear hk); (try clear hi); (try clear ho0); obtain ⟨Ao16, co16, eo16⟩ := Kd.R_slice HO131.out; subst eo16; obtain ⟨Y17_0, X17_0, Y17_1, X17_1⟩ := zw2 BK125; obtain ⟨Y18_0, X18_0, Y18_1, X18_1⟩ := zw2 BK124))
 refine bodyPost_ret (results_cell_row rfl _ _ gb124 62 #[.slice Ao11 t126.length co11, .slice Ao16 t129.length co16] (0, 0) _ rfl (by refine zg #[.slice Ao11 t126.length co11, .slice none 0 0] 1 ?_; refine zg #[.slice none 0 0, .slice none 0 0] 0 ?_; refine zf ?_ NB124_125; exact pK BK124.out) Try.underlying62 rfl (by kernel_rfl)) rfl ?_
 exact ⟨_, _, zE, by (with_reducible repeat (first | apply Kd.R_alloc | apply Kd.R_drewN | apply Kd.R_drew)); exact Kd.R_mono (Kd.R_far (p := ⟨gb124, 1, none⟩) (Kd.R_far (p := ⟨gb124, 0, none⟩) (Kd.R_far (p := ⟨gb125, 1, none⟩) (Kd.R_types (Kd.R_types HO128.out BK125.out (by decide)) BK124.out (by decide)) (fun _ hk => hk.1.2) (.slice Ao16 t129.length co16)) (fun _ hk => hk.2) (.slice Ao11 t126.length co11)) (fun _ hk => hk.2) (.slice Ao16 t129.length co16)) (fun _ hk => trivial), by (with_reducible repeat (first | apply Kd.R_alloc | apply Kd.R_drewN | apply Kd.R_drew)); exact Kd.R_mono (Kd.R_far (p := ⟨gb124, 1, none⟩) (Kd.R_far (p := ⟨gb124, 0, none⟩) (Kd.R_far (p := ⟨gb125, 1, none⟩) (Kd.R_types (Kd.R_types HO131.out BK125.out (by decide)) BK124.out (by decide)) (fun _ hk => hk.1.2) (.slice Ao16 t129.length co16)) (fun _ hk => hk.2) (.slice Ao11 t126.length co11)) (fun _ hk => hk.2) (.slice Ao16 t129.length co16)) (fun _ hk => trivial), pB3 HB.out GE123.out GE124.out GE125.out⟩
def laws_eqInt64S.l0 : Nat → List Int → List Int → Int → Option (Bool)
 | 0, _, _, _ => none
 | k + 1, x0, x1, x5 => if x5 < (x0.length : Int) then (if 0 ≤ x5 then (if x5 < (x1.length : Int) then (if (rd x0 x5) = (rd x1 x5) then (laws_eqInt64S.l0 k x0 x1 (wrap64 (x5 + 1))) else (some false)) else (none)) else (none)) else (some true)
def laws_eqInt64S.f (k : Nat) (l0 : List Int) (l1 : List Int) : Option (Bool) := if (l0.length : Int) = (l1.length : Int) then (laws_eqInt64S.l0 k l0 l1 0) else (some false)
theorem laws_eqInt64S.mono_l : ∀ k, (∀ y0 y1 y2, LeO (laws_eqInt64S.l0 k y0 y1 y2) (laws_eqInt64S.l0 (k + 1) y0 y1 y2))
 | 0 => fun _ _ _ r h => by simp [laws_eqInt64S.l0] at h
 | k + 1 => by
   have ih0 := laws_eqInt64S.mono_l k
   · intro y0 y1 y2
     unfold laws_eqInt64S.l0
     repeat' first
     | (with_reducible exact ih0 _ _ _)
     | (with_reducible exact LeO.refl _)
     | (with_reducible exact LeO.none _)
     | (with_reducible refine LeO.ite ?_ ?_)
     | (with_reducible refine LeO.bind ?_ (fun _ => ?_))
     | exact ih0 _ _ _
     | exact LeO.none _
     | refine LeO.ite ?_ ?_
     | refine LeO.bind ?_ (fun _ => ?_)
theorem laws_eqInt64S.mono : ∀ a0 a1 k, LeO (laws_eqInt64S.f k a0 a1) (laws_eqInt64S.f (k + 1) a0 a1) := by
 intro a0 a1 k; have ih0 := laws_eqInt64S.mono_l k; unfold laws_eqInt64S.f
 repeat' first
  | (with_reducible exact ih0 _ _ _)
  | (with_reducible exact LeO.refl _)
  | (with_reducible exact LeO.none _)
  | (with_reducible refine LeO.ite ?_ ?_)
  | (with_reducible refine LeO.bind ?_ (fun _ => ?_))
  | exact ih0 _ _ _
  | exact LeO.none _
  | refine LeO.ite ?_ ?_
  | refine LeO.bind ?_ (fun _ => ?_)
set_option maxHeartbeats 8000000 in
set_option maxRecDepth 100000 in
theorem laws_eqInt64S.calls (k : Nat) (A0 : Option Addr) (c0 : Nat) (l0 : List Int) (A1 : Option Addr) (c1 : Nat) (l1 : List Int) (r : Bool) (w : World) (hr0 : Kd.C (Kd.int .i64) w A0 l0.length l0) (hc0 : l0.length ≤ c0) (hr1 : Kd.C (Kd.int .i64) w A1 l1.length l1) (hc1 : l1.length ≤ c1) (h : laws_eqInt64S.f k l0 l1 = some r) :
 Calls Try.prog 19 #[.slice A0 l0.length c0, .slice A1 l1.length c1] w fun e w' => e = .returned (.bool r) ∧ Drawn0 w w' := by
 have HR0 := Aside0.mk hr0; have HC0 := Aside0.mk hc0; clear hr0 hc0; have HR1 := Aside0.mk hr1; have HC1 := Aside0.mk hc1; clear hr1 hc1; have H : (if (l0.length : Int) = (l1.length : Int) then (laws_eqInt64S.l0 k l0 l1 0) else (some false)) = some r := h; clear h
 by_cases c3 : (l0.length : Int) = (l1.length : Int)
 rotate_left
 · rw [if_neg c3] at H
   have c3b0 : ((l0.length : Int) == (l1.length : Int)) = false := beq_eq_false_iff_ne.mpr c3; have c3b1 : ((l0.length : Int) != (l1.length : Int)) = true := bne_iff_ne.mpr c3
   have c3b2 : (l0.length == l1.length) = false := by first | simpa using c3 | (simp at c3 ⊢; omega)
   obtain rfl := Option.some.inj H
   go_enter Try.func19, Try.ntmps19
   go_wp2
   repeat (go_quiet (fail); try go_wp2)
   go_ret
   exact ⟨by first | rfl | (simp; done) | (simp [*]; done), zV⟩
 rw [if_pos c3] at H; have c3b0 : ((l0.length : Int) == (l1.length : Int)) = true := beq_iff_eq.mpr c3; have c3b1 : ((l0.length : Int) != (l1.length : Int)) = false := bne_eq_false_iff_eq.mpr c3
 have c3b2 : (l0.length == l1.length) = true := by first | simpa using c3 | (simp at c3 ⊢; omega)
 clear c3; have H' := Aside0.mk H; clear H
 go_enter Try.func19, Try.ntmps19
 go_wp2
 repeat (go_quiet (fail); try go_wp2)
 go_loopg [5] k (fun kq v5 w' => ∃ (x5_1 : Int), v5 = .int .i64 x5_1 ∧ Aside0 (laws_eqInt64S.l0 kq l0 l1 x5_1 = some r) ∧ Aside0 (kq ≤ k) ∧ Drawn0 w w')
 case atStart => exact ⟨(0), zR, H', ⟨Nat.le_refl _⟩, zV⟩
 case round =>
  clear H'; (try clear c1); (try clear p2); (try clear c3); (try clear c3b0); (try clear c3b1); (try clear c3b2); obtain ⟨x5_1, rfl, HA, HK1, ⟨m1, rfl⟩⟩ := hrel
  cases gk with
  | zero => exact absurd HA.out (by simp [laws_eqInt64S.l0])
  | succ k1 =>
    have H := HA.out; clear HA; simp only [laws_eqInt64S.l0] at H
    by_cases c4 : x5_1 < (l0.length : Int)
    rotate_left
    · rw [if_neg c4] at H
      have c4b0 := decide_eq_false c4; clear c4; obtain rfl := Option.some.inj H
      go_wp2
      repeat (go_quiet (fail); try go_wp2)
      go_ret
      exact ⟨by first | rfl | (simp; done) | (simp [*]; done), zV⟩
    rw [if_pos c4] at H; have c4b0 := decide_eq_true c4; clear c4
    by_cases c5 : 0 ≤ x5_1
    rotate_left
    · rw [if_neg c5] at H
      exact absurd H (by simp)
    rw [if_pos c5] at H; have c5b0 := decide_eq_true c5; clear c5
    by_cases c6 : x5_1 < (l1.length : Int)
    rotate_left
    · rw [if_neg c6] at H
      exact absurd H (by simp)
    rw [if_pos c6] at H; have c6b0 := decide_eq_true c6; clear c6
    by_cases c7 : (rd l0 x5_1) = (rd l1 x5_1)
    rotate_left
    · rw [if_neg c7] at H
      have c7b0 : ((rd l0 x5_1) == (rd l1 x5_1)) = false := beq_eq_false_iff_ne.mpr c7; have c7b1 : ((rd l0 x5_1) != (rd l1 x5_1)) = true := bne_iff_ne.mpr c7; obtain rfl := Option.some.inj H; have p132 : 0 ≤ (x5_1 : Int) := zD; have q132 : x5_1 < (l0.length : Int) := zD; obtain ⟨ad132, e132, hx132_0⟩ := Kd.at_int HR0.out x5_1 p132 q132; cases e132; replace p132 := eq_true p132; replace q132 := eq_true q132; have p133 : 0 ≤ (x5_1 : Int) := zD; have q133 : x5_1 < (l1.length : Int) := zD; obtain ⟨ad133, e133, hx133_0⟩ := Kd.at_int HR1.out x5_1 p133 q133; cases e133; replace p133 := eq_true p133; replace q133 := eq_true q133
      go_wp2
      repeat (go_quiet (fail); try go_wp2)
      go_ret
      exact ⟨by first | rfl | (simp; done) | (simp [*]; done), zV⟩
    rw [if_pos c7] at H; have c7b0 : ((rd l0 x5_1) == (rd l1 x5_1)) = true := beq_iff_eq.mpr c7; have c7b1 : ((rd l0 x5_1) != (rd l1 x5_1)) = false := bne_eq_false_iff_eq.mpr c7; clear c7; have H' := Aside0.mk H; clear H; have p132 : 0 ≤ (x5_1 : Int) := zD; have q132 : x5_1 < (l0.length : Int) := zD; obtain ⟨ad132, e132, hx132_0⟩ := Kd.at_int HR0.out x5_1 p132 q132; cases e132; replace p132 := eq_true p132; replace q132 := eq_true q132; have p133 : 0 ≤ (x5_1 : Int) := zD; have q133 : x5_1 < (l1.length : Int) := zD; obtain ⟨ad133, e133, hx133_0⟩ := Kd.at_int HR1.out x5_1 p133 q133; cases e133; replace p133 := eq_true p133; replace q133 := eq_true q133
    go_wp2
    repeat (go_quiet (fail); try go_wp2)
    go_roundg k1
    case measure => have := HK1.out; omega
    case rel => exact ⟨(wrap64 (x5_1 + 1)), zR, H', ⟨by have := HK1.out; omega⟩, zV⟩
def laws_eqVeneer.f (a0_0 : ByteArray) (a0_1 : Int) (a0_2 : Int) (a1_0 : ByteArray) (a1_1 : Int) (a1_2 : Int) : Option (Bool) := if a0_0.toList = a1_0.toList then (if a0_1 = a1_1 then (if a0_2 = a1_2 then (some true) else (some false)) else (some false)) else (some false)
set_option maxHeartbeats 8000000 in
set_option maxRecDepth 100000 in
theorem laws_eqVeneer.calls (a0_0 : ByteArray) (a0_1 : Int) (a0_2 : Int) (a1_0 : ByteArray) (a1_1 : Int) (a1_2 : Int) (r : Bool) (w : World) (h : laws_eqVeneer.f a0_0 a0_1 a0_2 a1_0 a1_1 a1_2 = some r) :
 Calls Try.prog 59 #[.agg #[.string a0_0, .int .i64 a0_1, .int .i64 a0_2], .agg #[.string a1_0, .int .i64 a1_1, .int .i64 a1_2]] w fun e w' => e = .returned (.bool r) ∧ Below w.heap.size w w' := by
 have hu33 := Try.underlying33; have HB := Aside0.mk (Below.refl w.heap.size w); have H : (if a0_0.toList = a1_0.toList then (if a0_1 = a1_1 then (if a0_2 = a1_2 then (some true) else (some false)) else (some false)) else (some false)) = some r := h; clear h
 by_cases c3 : a0_0.toList = a1_0.toList
 rotate_left
 · rw [if_neg c3] at H
   have c3b0 : (a0_0.toList == a1_0.toList) = false := beq_eq_false_iff_ne.mpr c3; have c3b1 : (a0_0.toList != a1_0.toList) = true := bne_iff_ne.mpr c3; obtain rfl := Option.some.inj H
   go_enter Try.func59, Try.ntmps59
   go_wp2_with (first | ((with_reducible refine zI 2 rfl ?_); refine zB 2 #[.string a0_0, .int .i64 a0_1, .int .i64 a0_2] 33 ?_; intro gb134 hg w21 hbox hb; have BK134 := Aside0.mk (hbox); have GW134 := zS (pB0 HB.out) hg; have GE134 := GW134; replace HB := zW (pB0 HB.out) hb; clear hb hbox hg) | ((with_reducible refine zI 3 rfl ?_); refine zB 3 #[.string a1_0, .int .i64 a1_1, .int .i64 a1_2] 33 ?_; intro gb135 hg w22 hbox hb; have BK135 := Aside0.mk (hbox); have GW135 := zS (pB1 HB.out GE134.out) hg; have GE135 := GW135; have NB134_135 := zL BK134 hg; have NB135_134 := zM BK134 hg; replace BK134 := zK BK134 hb; replace HB := zW (pB1 HB.out GE134.out) hb; clear hb hbox hg; have hnb23 := NB134_135.out; have hnc23 := NB135_134.out; obtain ⟨Y24_0, X24_0, Y24_1, X24_1, Y24_2, X24_2⟩ := zw3 BK134; obtain ⟨Y25_0, X25_0, Y25_1, X25_1, Y25_2, X25_2⟩ := zw3 BK135))
   go_ret
   exact ⟨zE, pB2 HB.out GE134.out GE135.out⟩
 rw [if_pos c3] at H; have c3b0 : (a0_0.toList == a1_0.toList) = true := beq_iff_eq.mpr c3; have c3b1 : (a0_0.toList != a1_0.toList) = false := bne_eq_false_iff_eq.mpr c3; clear c3
 by_cases c4 : a0_1 = a1_1
 rotate_left
 · rw [if_neg c4] at H
   have c4b0 : (a0_1 == a1_1) = false := beq_eq_false_iff_ne.mpr c4; have c4b1 : (a0_1 != a1_1) = true := bne_iff_ne.mpr c4; obtain rfl := Option.some.inj H
   go_enter Try.func59, Try.ntmps59
   go_wp2_with (first | ((with_reducible refine zI 2 rfl ?_); refine zB 2 #[.string a0_0, .int .i64 a0_1, .int .i64 a0_2] 33 ?_; intro gb134 hg w16 hbox hb; have BK134 := Aside0.mk (hbox); have GW134 := zS (pB0 HB.out) hg; have GE134 := GW134; replace HB := zW (pB0 HB.out) hb; clear hb hbox hg) | ((with_reducible refine zI 3 rfl ?_); refine zB 3 #[.string a1_0, .int .i64 a1_1, .int .i64 a1_2] 33 ?_; intro gb135 hg w17 hbox hb; have BK135 := Aside0.mk (hbox); have GW135 := zS (pB1 HB.out GE134.out) hg; have GE135 := GW135; have NB134_135 := zL BK134 hg; have NB135_134 := zM BK134 hg; replace BK134 := zK BK134 hb; replace HB := zW (pB1 HB.out GE134.out) hb; clear hb hbox hg; have hnb18 := NB134_135.out; have hnc18 := NB135_134.out; obtain ⟨Y19_0, X19_0, Y19_1, X19_1, Y19_2, X19_2⟩ := zw3 BK134; obtain ⟨Y20_0, X20_0, Y20_1, X20_1, Y20_2, X20_2⟩ := zw3 BK135))
   go_ret
   exact ⟨zE, pB2 HB.out GE134.out GE135.out⟩
 rw [if_pos c4] at H; have c4b0 : (a0_1 == a1_1) = true := beq_iff_eq.mpr c4; have c4b1 : (a0_1 != a1_1) = false := bne_eq_false_iff_eq.mpr c4; clear c4
 by_cases c5 : a0_2 = a1_2
 rotate_left
 · rw [if_neg c5] at H
   have c5b0 : (a0_2 == a1_2) = false := beq_eq_false_iff_ne.mpr c5; have c5b1 : (a0_2 != a1_2) = true := bne_iff_ne.mpr c5; obtain rfl := Option.some.inj H
   go_enter Try.func59, Try.ntmps59
   go_wp2_with (first | ((with_reducible refine zI 2 rfl ?_); refine zB 2 #[.string a0_0, .int .i64 a0_1, .int .i64 a0_2] 33 ?_; intro gb134 hg w11 hbox hb; have BK134 := Aside0.mk (hbox); have GW134 := zS (pB0 HB.out) hg; have GE134 := GW134; replace HB := zW (pB0 HB.out) hb; clear hb hbox hg) | ((with_reducible refine zI 3 rfl ?_); refine zB 3 #[.string a1_0, .int .i64 a1_1, .int .i64 a1_2] 33 ?_; intro gb135 hg w12 hbox hb; have BK135 := Aside0.mk (hbox); have GW135 := zS (pB1 HB.out GE134.out) hg; have GE135 := GW135; have NB134_135 := zL BK134 hg; have NB135_134 := zM BK134 hg; replace BK134 := zK BK134 hb; replace HB := zW (pB1 HB.out GE134.out) hb; clear hb hbox hg; have hnb13 := NB134_135.out; have hnc13 := NB135_134.out; obtain ⟨Y14_0, X14_0, Y14_1, X14_1, Y14_2, X14_2⟩ := zw3 BK134; obtain ⟨Y15_0, X15_0, Y15_1, X15_1, Y15_2, X15_2⟩ := zw3 BK135))
   go_ret
   exact ⟨zE, pB2 HB.out GE134.out GE135.out⟩
 rw [if_pos c5] at H; have c5b0 : (a0_2 == a1_2) = true := beq_iff_eq.mpr c5; have c5b1 : (a0_2 != a1_2) = false := bne_eq_false_iff_eq.mpr c5; clear c5; obtain rfl := Option.some.inj H
 go_enter Try.func59, Try.ntmps59
 go_wp2_with (first | ((with_reducible refine zI 2 rfl ?_); refine zB 2 #[.string a0_0, .int .i64 a0_1, .int .i64 a0_2] 33 ?_; intro gb134 hg w6 hbox hb; have BK134 := Aside0.mk (hbox); have GW134 := zS (pB0 HB.out) hg; have GE134 := GW134; replace HB := zW (pB0 HB.out) hb; clear hb hbox hg) | ((with_reducible refine zI 3 rfl ?_); refine zB 3 #[.string a1_0, .int .i64 a1_1, .int .i64 a1_2] 33 ?_; intro gb135 hg w7 hbox hb; have BK135 := Aside0.mk (hbox); have GW135 := zS (pB1 HB.out GE134.out) hg; have GE135 := GW135; have NB134_135 := zL BK134 hg; have NB135_134 := zM BK134 hg; replace BK134 := zK BK134 hb; replace HB := zW (pB1 HB.out GE134.out) hb; clear hb hbox hg; have hnb8 := NB134_135.out; have hnc8 := NB135_134.out; obtain ⟨Y9_0, X9_0, Y9_1, X9_1, Y9_2, X9_2⟩ := zw3 BK134; obtain ⟨Y10_0, X10_0, Y10_1, X10_1, Y10_2, X10_2⟩ := zw3 BK135))
 go_ret
 exact ⟨zE, pB2 HB.out GE134.out GE135.out⟩
end Go.Proofs.Ytfiiakhpdkdebaa.PFnExactRotateSheets

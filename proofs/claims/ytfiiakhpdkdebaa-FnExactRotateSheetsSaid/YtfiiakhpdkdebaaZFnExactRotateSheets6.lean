/- What each function that a law reaches comes to, and the proof that its walk comes to it; laid by a program of this session. No condition. -/
import Derived.Test.YtfiiakhpdkdebaaZFnExactRotateSheets0
import Derived.Test.YtfiiakhpdkdebaaZFnExactRotateSheets4
import Derived.Test.YtfiiakhpdkdebaaZFnExactRotateSheets5
namespace Go.Proofs.Ytfiiakhpdkdebaa.PFnExactRotateSheets
open Go.RowKit Go.Proofs.YtfiiakhpdkdebaaW.PrintWords Go.Proofs.YtfiiakhpdkdebaaW.PrintLast Go.Proofs.YtfiiakhpdkdebaaW.PrintMore
attribute [local go_sem] max2_int min2_int max_two min_two max_three min_three max_four min_four
set_option linter.unusedVariables false
set_option linter.unusedSimpArgs false
mutual
def impl_Veneer_84.l0 : Nat → List (List (S33)) → Int → List (List (S33)) → Int → Int → Option ((List (S33)))
 | 0, _, _, _, _, _ => none
 | k + 1, x0, x3, x9, x10, x11 => if x11 < x10 then (if 0 ≤ x11 then (if x11 < (x9.length : Int) then (if (wrap64 (x3 + ((rd_L6 x9 x11).length : Int))) < 0 then (none) else (impl_Veneer_84.l0 k x0 (wrap64 (x3 + ((rd_L6 x9 x11).length : Int))) x9 x10 (wrap64 (x11 + 1)))) else (none)) else (none)) else ((impl_Veneer_124.f ([] : List (S33)) x3).bind fun t274 => (impl_Veneer_84.l1 k t274 x0 (x0.length : Int) 0))
def impl_Veneer_84.l1 : Nat → List (S33) → List (List (S33)) → Int → Int → Option ((List (S33)))
 | 0, _, _, _, _ => none
 | k + 1, x6, x25, x26, x27 => if x27 < x26 then (if 0 ≤ x27 then (if x27 < (x25.length : Int) then (if x6.length + (rd_L6 x25 x27).length < 4398046511104 then (impl_Veneer_84.l1 k (x6 ++ (rd_L6 x25 x27)) x25 x26 (wrap64 (x27 + 1))) else (none)) else (none)) else (none)) else (some x6)
end
def impl_Veneer_84.f (k : Nat) (l0 : List (List (S33))) : Option ((List (S33))) := impl_Veneer_84.l0 k l0 0 l0 (l0.length : Int) 0
theorem impl_Veneer_84.mono_l : ∀ k, (∀ y0 y1 y2 y3 y4, LeO (impl_Veneer_84.l0 k y0 y1 y2 y3 y4) (impl_Veneer_84.l0 (k + 1) y0 y1 y2 y3 y4)) ∧ (∀ y0 y1 y2 y3, LeO (impl_Veneer_84.l1 k y0 y1 y2 y3) (impl_Veneer_84.l1 (k + 1) y0 y1 y2 y3))
 | 0 => ⟨fun _ _ _ _ _ r h => by simp [impl_Veneer_84.l0] at h, fun _ _ _ _ r h => by simp [impl_Veneer_84.l1] at h⟩
 | k + 1 => by
   obtain ⟨ih0, ih1⟩ := impl_Veneer_84.mono_l k; refine ⟨?_, ?_⟩
   · intro y0 y1 y2 y3 y4
     unfold impl_Veneer_84.l0
     repeat' first
     | (with_reducible exact ih0 _ _ _ _ _)
     | (with_reducible exact ih1 _ _ _ _)
     | (with_reducible exact LeO.refl _)
     | (with_reducible exact LeO.none _)
     | (with_reducible refine LeO.ite ?_ ?_)
     | (with_reducible refine LeO.bind ?_ (fun _ => ?_))
     | exact ih0 _ _ _ _ _
     | exact ih1 _ _ _ _
     | exact LeO.none _
     | refine LeO.ite ?_ ?_
     | refine LeO.bind ?_ (fun _ => ?_)
   · intro y0 y1 y2 y3
     unfold impl_Veneer_84.l1
     repeat' first
     | (with_reducible exact ih0 _ _ _ _ _)
     | (with_reducible exact ih1 _ _ _ _)
     | (with_reducible exact LeO.refl _)
     | (with_reducible exact LeO.none _)
     | (with_reducible refine LeO.ite ?_ ?_)
     | (with_reducible refine LeO.bind ?_ (fun _ => ?_))
     | exact ih0 _ _ _ _ _
     | exact ih1 _ _ _ _
     | exact LeO.none _
     | refine LeO.ite ?_ ?_
     | refine LeO.bind ?_ (fun _ => ?_)
theorem impl_Veneer_84.mono : ∀ a0 k, LeO (impl_Veneer_84.f k a0) (impl_Veneer_84.f (k + 1) a0) := by
 intro a0 k; obtain ⟨ih0, ih1⟩ := impl_Veneer_84.mono_l k; unfold impl_Veneer_84.f
 repeat' first
  | (with_reducible exact ih0 _ _ _ _ _)
  | (with_reducible exact ih1 _ _ _ _)
  | (with_reducible exact LeO.refl _)
  | (with_reducible exact LeO.none _)
  | (with_reducible refine LeO.ite ?_ ?_)
  | (with_reducible refine LeO.bind ?_ (fun _ => ?_))
  | exact ih0 _ _ _ _ _
  | exact ih1 _ _ _ _
  | exact LeO.none _
  | refine LeO.ite ?_ ?_
  | refine LeO.bind ?_ (fun _ => ?_)
set_option maxHeartbeats 8000000 in
set_option maxRecDepth 100000 in
theorem impl_Veneer_84.calls (k : Nat) (A0 : Option Addr) (c0 : Nat) (l0 : List (List (S33))) (r : List (S33)) (w : World) (hr0 : Kd.C (Kd.slice 33 k33) w A0 l0.length l0) (hc0 : l0.length ≤ c0) (h : impl_Veneer_84.f k l0 = some r) :
 Calls Try.prog 84 #[.slice A0 l0.length c0] w fun e w' => ∃ v0_ : Value, e = .returned (v0_) ∧ Kd.R k33 33 w' w.heap.size (fun _ => True) v0_ r ∧ Below w.heap.size w w' := by
 have HR0 := Aside0.mk hr0; have HC0 := Aside0.mk hc0; clear hr0 hc0; have HB := Aside0.mk (Below.refl w.heap.size w); have H : (impl_Veneer_84.l0 k l0 0 l0 (l0.length : Int) 0) = some r := h; clear h; have H' := Aside0.mk H; clear H
 go_enter Try.func84, Try.ntmps84
 go_wp2
 go_loopg [3, 11] k (fun kq v3 v11 w' => ∃ (x3_1 : Int) (x11_1 : Int), v3 = .int .i64 x3_1 ∧ v11 = .int .i64 x11_1 ∧ Aside0 (impl_Veneer_84.l0 kq l0 x3_1 l0 (l0.length : Int) x11_1 = some r) ∧ Aside0 (kq ≤ k) ∧ Aside0 (Below w.heap.size w w'))
 case atStart => exact ⟨(0), (0), zR, zR, H', ⟨Nat.le_refl _⟩, ⟨pB0 HB.out⟩⟩
 case round =>
  clear H'; obtain ⟨x3_1, x11_1, rfl, rfl, HA, HK1, HB⟩ := hrel
  cases gk with
  | zero => exact absurd HA.out (by simp [impl_Veneer_84.l0])
  | succ k1 =>
    have H := HA.out; clear HA; simp only [impl_Veneer_84.l0] at H
    by_cases c2 : x11_1 < (l0.length : Int)
    · rw [if_pos c2] at H
      have c2b0 := decide_eq_true c2; clear c2
      by_cases c3 : 0 ≤ x11_1
      rotate_left
      · rw [if_neg c3] at H
        exact absurd H (by simp)
      rw [if_pos c3] at H; have c3b0 := decide_eq_true c3; clear c3
      by_cases c4 : x11_1 < (l0.length : Int)
      rotate_left
      · rw [if_neg c4] at H
        exact absurd H (by simp)
      rw [if_pos c4] at H; have c4b0 := decide_eq_true c4; clear c4
      by_cases c5 : (wrap64 (x3_1 + ((rd_L6 l0 x11_1).length : Int))) < 0
      · rw [if_pos c5] at H
        exact absurd H (by simp)
      rw [if_neg c5] at H; have c5b0 := decide_eq_false c5; clear c5; have H' := Aside0.mk H; clear H; have p273 : 0 ≤ (x11_1 : Int) := zD; have q273 : x11_1 < (l0.length : Int) := zD; obtain ⟨ad273, A273_0, c273_0, e273, hx273_0, hl273_0, hi273_0⟩ := at_L6 HR0.out x11_1 p273 q273; cases e273
      try replace hx273_0 := zH HB hx273_0
      have HR273_0 := Aside0.mk hi273_0; have HC273_0 := Aside0.mk hl273_0; clear hi273_0 hl273_0; replace p273 := eq_true p273; replace q273 := eq_true q273
      go_wp2
      go_roundg k1
      case measure => have := HK1.out; omega
      case rel => exact ⟨(wrap64 (x3_1 + ((rd_L6 l0 x11_1).length : Int))), (wrap64 (x11_1 + 1)), zR, zR, H', ⟨by have := HK1.out; omega⟩, ⟨pB0 HB.out⟩⟩
    rw [if_neg c2] at H; have c2b0 := decide_eq_false c2; clear c2; replace H := Option.bind_eq_some_iff.mp H; obtain ⟨t274, A60, H⟩ := H; have A6 := Aside0.mk A60; clear A60; have H' := Aside0.mk H; clear H
    go_wp2_with (first | ((with_reducible refine gate_callee (f := 124) rfl ?_); refine zJ (some 24) Try.func124 #[.slice none 0 0, .int .i64 x3_1] ?_; (refine (impl_Veneer_124.calls _ _ ([] : List (S33)) x3_1 t274 _ ?side1 ?side2 A6.out).mono ?_); (case side1 => exact Kd.C_nil _ _); (case side2 => exact Nat.le_refl _); rintro e w7 ⟨v275, rfl, ho0, hb⟩; refine ⟨_, rfl, ?_⟩; have HO276 := Aside0.mk (Kd.R_lower ho0 (below_size (pB0 HB.out))); replace HB := zW (pB0 HB.out) hb; (try clear hb); (try clear hb2); (try clear hk); (try clear hi); (try clear ho0)))
    go_loopg [6, 27] k1 (fun kq v6 v27 w' => ∃ (x6_2 : List (S33)) (x27_2 : Int), v27 = .int .i64 x27_2 ∧ Aside0 (impl_Veneer_84.l1 kq x6_2 l0 (l0.length : Int) x27_2 = some r) ∧ Aside0 (kq ≤ k1) ∧ Aside0 (Kd.R k33 33 w' w.heap.size (fun _ => True) v6 x6_2) ∧ Aside0 (Below w.heap.size w w'))
    case atStart => exact ⟨(t274), (0), zR, H', ⟨Nat.le_refl _⟩, ⟨pR HO276.out⟩, ⟨pB0 HB.out⟩⟩
    case round =>
     clear H'; (try clear c1); (try clear c2); (try clear c2b0); (try clear p2); (try clear q2); (try clear hx2); (try clear c3); (try clear c3b0); (try clear c4); (try clear c4b0); (try clear c5); (try clear c5b0); (try clear p6); (try clear hx273_0); (try clear p273); (try clear q273); obtain ⟨x6_2, x27_2, rfl, HA, HK2, HO_6, HB⟩ := hrel
     cases gk with
     | zero => exact absurd HA.out (by simp [impl_Veneer_84.l1])
     | succ k2 =>
       have H := HA.out; clear HA; simp only [impl_Veneer_84.l1] at H
       by_cases c8 : x27_2 < (l0.length : Int)
       rotate_left
       · rw [if_neg c8] at H
         have c8b0 := decide_eq_false c8; clear c8; obtain rfl := Option.some.inj H
         go_wp2
         go_ret
         exact ⟨_, zE, by (with_reducible repeat (first | apply Kd.R_alloc | apply Kd.R_drewN | apply Kd.R_drew)); exact HO_6.out, pB0 HB.out⟩
       rw [if_pos c8] at H; have c8b0 := decide_eq_true c8; clear c8
       by_cases c9 : 0 ≤ x27_2
       rotate_left
       · rw [if_neg c9] at H
         exact absurd H (by simp)
       rw [if_pos c9] at H; have c9b0 := decide_eq_true c9; clear c9
       by_cases c10 : x27_2 < (l0.length : Int)
       rotate_left
       · rw [if_neg c10] at H
         exact absurd H (by simp)
       rw [if_pos c10] at H; have c10b0 := decide_eq_true c10; clear c10
       by_cases c11 : x6_2.length + (rd_L6 l0 x27_2).length < 4398046511104
       rotate_left
       · rw [if_neg c11] at H
         exact absurd H (by simp)
       rw [if_pos c11] at H; have LMc11 := Aside0.mk c11; clear c11; obtain ⟨y278, hy278⟩ : ∃ y_ : List (S33), y_ = (x6_2 ++ (rd_L6 l0 x27_2)) := ⟨_, rfl⟩; replace H : (impl_Veneer_84.l1 k2 y278 l0 (l0.length : Int) (wrap64 (x27_2 + 1))) = some r := zY hy278 H; have Ny278 := Aside0.mk hy278; clear hy278; have H' := Aside0.mk H; clear H; have p277 : 0 ≤ (x27_2 : Int) := zD; have q277 : x27_2 < (l0.length : Int) := zD; obtain ⟨ad277, A277_0, c277_0, e277, hx277_0, hl277_0, hi277_0⟩ := at_L6 HR0.out x27_2 p277 q277; cases e277
       try replace hx277_0 := zH HB hx277_0
       have HR277_0 := Aside0.mk hi277_0; have HC277_0 := Aside0.mk hl277_0; clear hi277_0 hl277_0; replace p277 := eq_true p277; replace q277 := eq_true q277
       go_wp2_with (first | ((with_reducible refine gate_builtin (b := .append) (xs := #[.tmp 31, .tmp 32]) rfl ?_); at_builtin; refine Kd.R_append_rows k33 (w0 := w) w.heap.size rfl (.tmp 31) (.tmp 32) 60 33 (.agg #[(.string ⟨#[]⟩), (.int .i64 0), (.int .i64 0)]) 32 rfl Try.underlying60 info33 rfl (by decide) (by omega) u6 x6_2 (rd_L6 l0 x27_2) _ _ _ (fun _ => True) (fun _ => False) rfl rfl ?aO ?aR (fun _ _ h => h) (fun _ h => h.elim) ?aF ?aB ?aS ?aL ?_; (case aR => exact pC (Kd.C_below HR277_0.out HB.out)); (case aB => exact (pB0 HB.out)); (case aF => exact (fun _ _ => trivial)); (case aO => exact (pR HO_6.out)); (case aS => exact (below_size (pB0 HB.out))); (case aL => have := LMc11.out; omega); intro v279 w12 ho hb hg hat; rw [← Ny278.out] at ho; have HO280 := Aside0.mk (ho); replace HB := Aside0.mk (hb); clear HO_6; clear ho hb hg hat))
       go_roundg k2
       case measure => have := HK1.out; have := HK2.out; omega
       case rel => exact ⟨(y278), (wrap64 (x27_2 + 1)), zR, H', ⟨by have := HK1.out; have := HK2.out; omega⟩, ⟨pR HO280.out⟩, ⟨pB0 HB.out⟩⟩
def slices_Clone_int64_int64.f (l0 : List Int) : Option (List Int) := if l0.length ≤ 17592186044416 then (some l0) else (none)
set_option maxHeartbeats 2000000 in
set_option maxRecDepth 100000 in
theorem slices_Clone_int64_int64.calls (A0 : Option Addr) (c0 : Nat) (l0 : List Int) (r : List Int) (w : World) (hr0 : Kd.C (Kd.int .i64) w A0 l0.length l0) (hc0 : l0.length ≤ c0) (h : slices_Clone_int64_int64.f l0 = some r) :
 Calls Try.prog 85 #[.slice A0 l0.length c0] w fun e w' => ∃ v0_ : Value, e = .returned (v0_) ∧ Kd.R (Kd.int .i64) 2 w' w.heap.size (fun _ => True) v0_ r ∧ Below w.heap.size w w' := by
 unfold slices_Clone_int64_int64.f at h
 have q22 : ∀ (w : World) (a : Option Addr) (n c n' c' : Nat), (binOp .eql 41 (.slice a n c) (.slice none n' c')).run Try.prog w = .ok (.bool a.isNone) w := fun w a n c n' c' => Lib.run_eql_slice_nil w _ _ a n c n' c' Try.underlying41
 have u22 : ∀ w, Sem.run Try.prog (underlying 41) w = .ok (TypeDesc.slice 2) w := run_underlying Try.underlying41
 by_cases h1 : l0.length ≤ 17592186044416
 rotate_left
 · rw [if_neg h1] at h; cases h
 rw [if_pos h1] at h; obtain rfl := Option.some.inj h
 rcases A0 with _ | ad
 · have h0 : l0.length = 0 := by
    rcases Nat.eq_zero_or_pos l0.length with h0 | h0
    · exact h0
    · obtain ⟨ad, h, _⟩ := hr0.2.2 h0
      cases h
   obtain rfl : l0 = [] := List.length_eq_zero_iff.1 h0; clear hr0 hc0 h
   go_enter Try.func85, Try.ntmps85
   go_wp2
   go_ret
   exact ⟨_, rfl, Kd.R_nil _ _ _ _ _, Below.refl _ _⟩
 · obtain ⟨i0, hi, hzz⟩ := Option.map_eq_some_iff.1 (show (Try.prog.info? 2).map (fun i => (i.zero, i.size, i.bytes)) = some (some (.int .i64 0), 1, 8) from by kernel_rfl)
   simp only [Prod.mk.injEq] at hzz; obtain ⟨hz0, hz1, hz2⟩ := hzz
   have AS : Aside0 (∀ (j : Nat) (u : Value), (encs (Value.int .i64) l0)[j]? = some u → w.cell? (ad.add j) = some u) := ⟨by
    intro j u hu; simp only [encs, List.getElem?_map, Option.map_eq_some_iff] at hu; obtain ⟨x, hx, rfl⟩ := hu; obtain ⟨hjl, _⟩ := List.getElem?_eq_some_iff.1 hx
    obtain ⟨ad', ha, hall⟩ := hr0.2.2 (by omega)
    obtain rfl : ad = ad' := by injection ha
    obtain ⟨c, hc1, hc2, hc3⟩ := hall j x hx; have hc : c = [.int .i64 x] := hc2; subst hc; have := hc3 0 (.int .i64 x) rfl
    rw [show j * (Kd.int .i64).sz + 0 = j from by show j * 1 + 0 = j; omega] at this
    exact this⟩
   clear hr0
   go_enter Try.func85, Try.ntmps85
   go_wp2_with (at_builtin; refine wpList_append_own _ rfl _ _ 41 rfl w.heap.size 2 i0 (.int .i64 0) 1 8 Try.underlying41 hi hz0 hz1 hz2 rfl (by omega) _ _ _ rfl (World.ownsRow_made w #[] 0 (Nat.le_refl _) (Nat.zero_le _) (by simp)) ad l0.length c0 (encs (Value.int .i64) l0) rfl ?qc1 ?qc2 ?qc3 ?qc4 ?qc5 ?qc6 ?_)
   case qc1 => simp [encs]
   case qc2 =>
    intro j u hj; exact Lib.cell?_alloc_some _ (AS.out j u hj)
   case qc3 =>
    intro u hu; simp only [encs, List.mem_map] at hu; obtain ⟨x, _, rfl⟩ := hu
    rfl
   case qc4 => simp only [maxLen]; omega
   case qc5 => omega
   intro v' w1 hown hgrow hnil
   go_wp2
   go_ret
   refine ⟨v', rfl, Kd.R_of_own (by simpa using hown) (fun _ _ => trivial), ?_⟩
   exact ((Below.refl _ w).alloc (Nat.le_refl _) _).grown hgrow (by simp) (by intro k hk; simp [Value.ownBlock] at hk; omega)
def impl_RotateSheets.f (k : Nat) (l0_0 : List (S33)) (l0_1 : List Int) (a1 : Int) : Option ((List (S33)) × List Int × Int) := (impl_ValidPacket.f k l0_0 l0_1).bind fun t283 => (if t283 = true then ((impl_within.f a1 0 (l0_0.length : Int)).bind fun t284 => (if t284 = true then (if 0 ≤ a1 then (if a1 ≤ (l0_0.length : Int) then ((impl_Veneer_84.f k (([(l0_0.drop (a1 : Int).toNat), (l0_0.take (a1 : Int).toNat)] : List (List (S33))))).bind fun t298 => ((slices_Clone_int64_int64.f l0_1).bind fun t301 => (some (t298, t301, 0)))) else (none)) else (none)) else (some (([] : List (S33)), ([] : List Int), 2)))) else (some (([] : List (S33)), ([] : List Int), 1)))
theorem impl_RotateSheets.mono : ∀ a0 a1 a2 k, LeO (impl_RotateSheets.f k a0 a1 a2) (impl_RotateSheets.f (k + 1) a0 a1 a2) := by
 intro a0 a1 a2 k; unfold impl_RotateSheets.f
 repeat' first
  | (with_reducible exact impl_ValidPacket.mono _ _ _)
  | (with_reducible exact impl_Veneer_84.mono _ _)
  | (with_reducible exact LeO.refl _)
  | (with_reducible exact LeO.none _)
  | (with_reducible refine LeO.ite ?_ ?_)
  | (with_reducible refine LeO.bind ?_ (fun _ => ?_))
  | exact impl_ValidPacket.mono _ _ _
  | exact impl_Veneer_84.mono _ _
  | exact LeO.none _
  | refine LeO.ite ?_ ?_
  | refine LeO.bind ?_ (fun _ => ?_)
def impl_RotateSheets.T5 : Bool × List (List Nat × List Nat) := (true, [([], []), ([0], [0]), ([], []), ([1, 2], [1, 2]), ([], []), ([4], [4]), ([], []), ([5, 6], [5, 6]), ([3, 7], [3, 7]), ([8], [8]), ([], []), ([10], [10]), ([11, 9], [11]), ([9, 12], [9, 12]), ([13, 12, 0, 1, 2, 3, 4, 5, 6, 7, 8, 9, 10, 11, 12, 13], [13]), ([14, 0, 1, 2, 3, 4, 5, 6, 7, 8, 9, 10, 11, 12, 13, 14], [])])
def impl_RotateSheets.B5 : List Nat := [0, 1, 0, 7, 0, 16, 0, 112, 255, 511, 0, 1024, 4095, 8191, 16383, 32767]
theorem impl_RotateSheets.tab5 : rtab .any (opsOf Try.f45 5) = impl_RotateSheets.T5 := by kernel_rfl
theorem impl_RotateSheets.bits5 : waitsOk impl_RotateSheets.T5.2 impl_RotateSheets.B5 = true := by kernel_rfl
set_option maxHeartbeats 8000000 in
set_option maxRecDepth 100000 in
theorem impl_RotateSheets.calls (k : Nat) (P0_0_ : Nat → Prop) (A0_0 : Option Addr) (c0_0 : Nat) (l0_0 : List (S33)) (A0_1 : Option Addr) (c0_1 : Nat) (l0_1 : List Int) (a1 : Int) (r1 : List (S33)) (r2 : List Int) (r3 : Int) (w : World) (hs0_0 : Kd.V k33 33 w w.heap.size (fun k_ => P0_0_ k_) (.slice A0_0 l0_0.length c0_0) l0_0) (hr0_1 : Kd.C (Kd.int .i64) w A0_1 l0_1.length l0_1) (hc0_1 : l0_1.length ≤ c0_1) (h : impl_RotateSheets.f k l0_0 l0_1 a1 = some (r1, r2, r3)) :
 Calls Try.prog 45 #[.agg #[.slice A0_0 l0_0.length c0_0, .slice A0_1 l0_1.length c0_1], .int .i64 a1] w fun e w' => ∃ v0_ v1_ : Value, e = .returned (.tuple #[.agg #[v0_, v1_], .int .i64 r3]) ∧ Kd.R k33 33 w' w.heap.size (fun k_ => (w.heap.size ≤ k_)) v0_ r1 ∧ Kd.R (Kd.int .i64) 2 w' w.heap.size (fun k_ => (w.heap.size ≤ k_)) v1_ r2 ∧ Below w.heap.size w w' := by
 have hu62 := Try.underlying62
 have HO0_0 := Aside0.mk (show Kd.V k33 33 w w.heap.size (fun k_ => (P0_0_ k_ ∨ w.heap.size ≤ k_)) (.slice A0_0 l0_0.length c0_0) l0_0 from Kd.V_mono hs0_0 (fun k_ hk => .inl hk))
 have HR0_1 := Aside0.mk hr0_1; have HC0_1 := Aside0.mk hc0_1; clear hr0_1 hc0_1; have HB := Aside0.mk (Below.refl w.heap.size w)
 have H : ((impl_ValidPacket.f k l0_0 l0_1).bind fun t283 => (if t283 = true then ((impl_within.f a1 0 (l0_0.length : Int)).bind fun t284 => (if t284 = true then (if 0 ≤ a1 then (if a1 ≤ (l0_0.length : Int) then ((impl_Veneer_84.f k (([(l0_0.drop (a1 : Int).toNat), (l0_0.take (a1 : Int).toNat)] : List (List (S33))))).bind fun t298 => ((slices_Clone_int64_int64.f l0_1).bind fun t301 => (some (t298, t301, 0)))) else (none)) else (none)) else (some (([] : List (S33)), ([] : List Int), 2)))) else (some (([] : List (S33)), ([] : List Int), 1)))) = some (r1, r2, r3) := h
 clear h; replace H := Option.bind_eq_some_iff.mp H; obtain ⟨t283, A30, H⟩ := H; have A3 := Aside0.mk A30; clear A30
 by_cases c4 : t283 = true
 rotate_left
 · replace c4 := Bool.eq_false_iff.mpr c4
   subst c4
   rw [if_neg (show ¬ (false = true) by decide)] at H
   simp only [Option.some.injEq, Prod.mk.injEq] at H; obtain ⟨rfl, rfl, rfl⟩ := H
   go_enter Try.func45, Try.ntmps45
   go_wp2_with (first | ((with_reducible refine zI 2 rfl ?_); refine zB 2 #[.slice A0_0 l0_0.length c0_0, .slice A0_1 l0_1.length c0_1] 62 ?_; intro gb281 hg w38 hbox hb; have BK281 := Aside0.mk (hbox); have GW281 := zS (pB0 HB.out) hg; have GE281 := GW281; replace HO0_0 := Aside0.mk (Kd.V_below (Kd.V_elderB (pV HO0_0.out) gb281 (Nat.le_of_eq hg.symm)) hb); replace HB := zW (pB0 HB.out) hb; clear hb hbox hg) | ((with_reducible refine zI 4 rfl ?_); refine zB 4 #[.slice none 0 0, .slice none 0 0] 62 ?_; intro gb282 hg w39 hbox hb; have BK282 := Aside0.mk (hbox); have GW282 := zS (pB1 HB.out GE281.out) hg; have GE282 := GW282; have NB281_282 := zL BK281 hg; have NB282_281 := zM BK281 hg; replace HO0_0 := Aside0.mk (Kd.V_below (Kd.V_elderB (pV HO0_0.out) gb282 (Nat.le_of_eq hg.symm)) hb); replace BK281 := zK BK281 hb; replace HB := zW (pB1 HB.out GE281.out) hb; clear hb hbox hg; have hnb40 := NB281_282.out; have hnc40 := NB282_281.out; obtain ⟨Y41_0, X41_0, Y41_1, X41_1⟩ := zw2 BK281) | ((with_reducible refine gate_callee (f := 70) rfl ?_); refine zJ (some 8) Try.func70 #[.agg #[.slice A0_0 l0_0.length c0_0, .slice A0_1 l0_1.length c0_1]] ?_; (with_reducible refine (impl_ValidPacket.calls k _ _ l0_0 _ _ l0_1 false _ ?side1 ?side2 ?side3 ?side4 A3.out).mono ?_); (case side1 => exact pC ((Kd.V_reads' HO0_0.out).2.2)); (case side2 => exact (Kd.V_reads' HO0_0.out).2.1); (case side3 => exact pC (Kd.C_below HR0_1.out HB.out)); (case side4 => exact HC0_1.out); rintro e w42 ⟨rfl, hb⟩; refine ⟨_, rfl, ?_⟩; replace HO0_0 := Aside0.mk (Kd.V_below (pV HO0_0.out) hb); replace BK281 := zK BK281 hb; replace BK282 := zK BK282 hb; replace HB := zW (pB2 HB.out GE281.out GE282.out) hb; (try clear hb); (try clear hb2); (try clear hk); (try clear hi); obtain ⟨Y43_0, X43_0, Y43_1, X43_1⟩ := zw2 BK282))
   refine bodyPost_ret (results_ct rfl _ _ gb282 62 #[.slice none 0 0, .slice none 0 0] (0, 0) _ rfl (by refine zg #[.slice none 0 0, .slice none 0 0] 1 ?_; refine zg #[.slice none 0 0, .slice none 0 0] 0 ?_; exact pK BK282.out) Try.underlying62 rfl (by kernel_rfl)) rfl ?_
   exact ⟨_, _, zE, by first | exact Kd.R_nil _ _ _ _ _ | exact Kd.N_nil _ _ _ _ _ | exact Kd.V_nil _ _ _ _ _ | exact Kd.Q_nil _ _ _ _ _ | exact Kd.S_nil _ _ _ _ _, by first | exact Kd.R_nil _ _ _ _ _ | exact Kd.N_nil _ _ _ _ _ | exact Kd.V_nil _ _ _ _ _ | exact Kd.Q_nil _ _ _ _ _ | exact Kd.S_nil _ _ _ _ _, pB2 HB.out GE281.out GE282.out⟩
 subst c4; rw [if_pos rfl] at H; replace H := Option.bind_eq_some_iff.mp H; obtain ⟨t284, A50, H⟩ := H; have A5 := Aside0.mk A50; clear A50
 by_cases c6 : t284 = true
 rotate_left
 · replace c6 := Bool.eq_false_iff.mpr c6
   subst c6
   rw [if_neg (show ¬ (false = true) by decide)] at H
   simp only [Option.some.injEq, Prod.mk.injEq] at H; obtain ⟨rfl, rfl, rfl⟩ := H
   go_enter Try.func45, Try.ntmps45
   go_wp2_with (first | ((with_reducible refine zI 2 rfl ?_); refine zB 2 #[.slice A0_0 l0_0.length c0_0, .slice A0_1 l0_1.length c0_1] 62 ?_; intro gb281 hg w31 hbox hb; have BK281 := Aside0.mk (hbox); have GW281 := zS (pB0 HB.out) hg; have GE281 := GW281; replace HO0_0 := Aside0.mk (Kd.V_below (Kd.V_elderB (pV HO0_0.out) gb281 (Nat.le_of_eq hg.symm)) hb); replace HB := zW (pB0 HB.out) hb; clear hb hbox hg) | ((with_reducible refine zI 4 rfl ?_); refine zB 4 #[.slice none 0 0, .slice none 0 0] 62 ?_; intro gb282 hg w32 hbox hb; have BK282 := Aside0.mk (hbox); have GW282 := zS (pB1 HB.out GE281.out) hg; have GE282 := GW282; have NB281_282 := zL BK281 hg; have NB282_281 := zM BK281 hg; replace HO0_0 := Aside0.mk (Kd.V_below (Kd.V_elderB (pV HO0_0.out) gb282 (Nat.le_of_eq hg.symm)) hb); replace BK281 := zK BK281 hb; replace HB := zW (pB1 HB.out GE281.out) hb; clear hb hbox hg; have hnb33 := NB281_282.out; have hnc33 := NB282_281.out; obtain ⟨Y34_0, X34_0, Y34_1, X34_1⟩ := zw2 BK281) | ((with_reducible refine gate_callee (f := 70) rfl ?_); refine zJ (some 8) Try.func70 #[.agg #[.slice A0_0 l0_0.length c0_0, .slice A0_1 l0_1.length c0_1]] ?_; (with_reducible refine (impl_ValidPacket.calls k _ _ l0_0 _ _ l0_1 true _ ?side1 ?side2 ?side3 ?side4 A3.out).mono ?_); (case side1 => exact pC ((Kd.V_reads' HO0_0.out).2.2)); (case side2 => exact (Kd.V_reads' HO0_0.out).2.1); (case side3 => exact pC (Kd.C_below HR0_1.out HB.out)); (case side4 => exact HC0_1.out); rintro e w35 ⟨rfl, hb⟩; refine ⟨_, rfl, ?_⟩; replace HO0_0 := Aside0.mk (Kd.V_below (pV HO0_0.out) hb); replace BK281 := zK BK281 hb; replace BK282 := zK BK282 hb; replace HB := zW (pB2 HB.out GE281.out GE282.out) hb; (try clear hb); (try clear hb2); (try clear hk); (try clear hi); obtain ⟨Y36_0, X36_0, Y36_1, X36_1⟩ := zw2 BK281) | ((with_reducible refine gate_callee (f := 83) rfl ?_); refine zJ (some 16) Try.func83 #[.int .i64 a1, .int .i64 0, .int .i64 (l0_0.length : Int)] ?_; (with_reducible refine (impl_within.calls a1 0 (l0_0.length : Int) false _ A5.out).mono ?_); rintro e w' ⟨rfl, ⟨nd, rfl⟩⟩; refine ⟨_, rfl, ?_⟩; (try (rw [drewN_self w35]; generalize hq_ : World.drewN w35 _ = w35; have n0_ : Aside0 (Kd.V k33 33 w35 w.heap.size (fun k_ => (P0_0_ k_ ∨ w.heap.size ≤ k_) ∧ k_ ≠ gb281 ∧ k_ ≠ gb282) (.slice A0_0 l0_0.length c0_0) l0_0) := ⟨by rw [← hq_]; exact (by (with_reducible repeat (first | apply Kd.V_alloc | apply Kd.V_drewN | apply Kd.V_drew)); exact Kd.V_mono HO0_0.out (fun _ hk => ⟨hk.1.1, ⟨hk.1.2, hk.2⟩⟩))⟩; have n1_ : Aside0 (w35.heap[gb281]? = some (.cells #[.slice A0_0 l0_0.length c0_0, .slice A0_1 l0_1.length c0_1] 62 (0, 0))) := ⟨by rw [← hq_]; exact (pK BK281.out)⟩; have n2_ : Aside0 (w35.heap[gb282]? = some (.cells #[.slice none 0 0, .slice none 0 0] 62 (0, 0))) := ⟨by rw [← hq_]; exact (pK BK282.out)⟩; have n3_ : Aside0 (Below w.heap.size w w35) := ⟨by rw [← hq_]; exact (pB2 HB.out GE281.out GE282.out)⟩; clear HO0_0 BK281 BK282 HB hq_; have HO0_0 := n0_; have BK281 := n1_; have BK282 := n2_; have HB := n3_; clear n0_ n1_ n2_ n3_)); (try (obtain ⟨hcq281_0, hfq281_0, hcq281_1, hfq281_1⟩ := zw2 BK281; obtain ⟨hcq282_0, hfq282_0, hcq282_1, hfq282_1⟩ := zw2 BK282)); obtain ⟨Y37_0, X37_0, Y37_1, X37_1⟩ := zw2 BK282))
   refine bodyPost_ret (results_ct rfl _ _ gb282 62 #[.slice none 0 0, .slice none 0 0] (0, 0) _ rfl (by refine zg #[.slice none 0 0, .slice none 0 0] 1 ?_; refine zg #[.slice none 0 0, .slice none 0 0] 0 ?_; exact pK BK282.out) Try.underlying62 rfl (by kernel_rfl)) rfl ?_
   exact ⟨_, _, zE, by first | exact Kd.R_nil _ _ _ _ _ | exact Kd.N_nil _ _ _ _ _ | exact Kd.V_nil _ _ _ _ _ | exact Kd.Q_nil _ _ _ _ _ | exact Kd.S_nil _ _ _ _ _, by first | exact Kd.R_nil _ _ _ _ _ | exact Kd.N_nil _ _ _ _ _ | exact Kd.V_nil _ _ _ _ _ | exact Kd.Q_nil _ _ _ _ _ | exact Kd.S_nil _ _ _ _ _, pB2 HB.out GE281.out GE282.out⟩
 subst c6; rw [if_pos rfl] at H
 by_cases c7 : 0 ≤ a1
 rotate_left
 · rw [if_neg c7] at H
   exact absurd H (by simp)
 rw [if_pos c7] at H; have c7b0 := eq_true c7; have c7b1 := decide_eq_true c7; clear c7
 by_cases c8 : a1 ≤ (l0_0.length : Int)
 rotate_left
 · rw [if_neg c8] at H
   exact absurd H (by simp)
 rw [if_pos c8] at H; have c8b0 := eq_true c8; have c8b1 := decide_eq_true c8; clear c8; obtain ⟨y285, hy285⟩ : ∃ y_ : List (S33), y_ = (l0_0.drop (a1 : Int).toNat) := ⟨_, rfl⟩
 replace H : ((impl_Veneer_84.f k (([y285, (l0_0.take (a1 : Int).toNat)] : List (List (S33))))).bind fun t298 => ((slices_Clone_int64_int64.f l0_1).bind fun t301 => (some (t298, t301, 0)))) = some (r1, r2, r3) := zY hy285 H
 have Ny285 := Aside0.mk hy285; clear hy285; have c9b0 := eq_true (zD : 0 ≤ a1); have c10b0 := eq_true (zD : a1 ≤ (l0_0.length : Int)); obtain ⟨y290, hy290⟩ : ∃ y_ : List (S33), y_ = (l0_0.take (a1 : Int).toNat) := ⟨_, rfl⟩
 replace H : ((impl_Veneer_84.f k (([y285, y290] : List (List (S33))))).bind fun t298 => ((slices_Clone_int64_int64.f l0_1).bind fun t301 => (some (t298, t301, 0)))) = some (r1, r2, r3) := zY hy290 H
 have Ny290 := Aside0.mk hy290; clear hy290; obtain ⟨y295, hy295⟩ : ∃ y_ : List (List (S33)), y_ = (([y285, y290] : List (List (S33)))) := ⟨_, rfl⟩
 replace H : ((impl_Veneer_84.f k y295).bind fun t298 => ((slices_Clone_int64_int64.f l0_1).bind fun t301 => (some (t298, t301, 0)))) = some (r1, r2, r3) := zY hy295 H
 have Ny295 := Aside0.mk hy295; clear hy295; replace H := Option.bind_eq_some_iff.mp H; obtain ⟨t298, A110, H⟩ := H; have A11 := Aside0.mk A110; clear A110; replace H := Option.bind_eq_some_iff.mp H; obtain ⟨t301, A120, H⟩ := H; have A12 := Aside0.mk A120; clear A120; simp only [Option.some.injEq, Prod.mk.injEq] at H; obtain ⟨rfl, rfl, rfl⟩ := H
 go_enter Try.func45, Try.ntmps45
 try go_wp2_with (first | ((with_reducible refine zI 2 rfl ?_); refine zB 2 #[.slice A0_0 l0_0.length c0_0, .slice A0_1 l0_1.length c0_1] 62 ?_; intro gb281 hg w13 hbox hb; have BK281 := Aside0.mk (hbox); have GW281 := zS (pB0 HB.out) hg; have GE281 := GW281; replace HO0_0 := Aside0.mk (Kd.V_below (Kd.V_elderB (pV HO0_0.out) gb281 (Nat.le_of_eq hg.symm)) hb); replace HB := zW (pB0 HB.out) hb; clear hb hbox hg) | ((with_reducible refine zI 4 rfl ?_); refine zB 4 #[.slice none 0 0, .slice none 0 0] 62 ?_; intro gb282 hg w14 hbox hb; have BK282 := Aside0.mk (hbox); have GW282 := zS (pB1 HB.out GE281.out) hg; have GE282 := GW282; have NB281_282 := zL BK281 hg; have NB282_281 := zM BK281 hg; replace HO0_0 := Aside0.mk (Kd.V_below (Kd.V_elderB (pV HO0_0.out) gb282 (Nat.le_of_eq hg.symm)) hb); replace BK281 := zK BK281 hb; replace HB := zW (pB1 HB.out GE281.out) hb; clear hb hbox hg; have hnb15 := NB281_282.out; have hnc15 := NB282_281.out; obtain ⟨Y16_0, X16_0, Y16_1, X16_1⟩ := zw2 BK281) | ((with_reducible refine gate_callee (f := 70) rfl ?_); refine zJ (some 8) Try.func70 #[.agg #[.slice A0_0 l0_0.length c0_0, .slice A0_1 l0_1.length c0_1]] ?_; (with_reducible refine (impl_ValidPacket.calls k _ _ l0_0 _ _ l0_1 true _ ?side1 ?side2 ?side3 ?side4 A3.out).mono ?_); (case side1 => exact pC ((Kd.V_reads' HO0_0.out).2.2)); (case side2 => exact (Kd.V_reads' HO0_0.out).2.1); (case side3 => exact pC (Kd.C_below HR0_1.out HB.out)); (case side4 => exact HC0_1.out); rintro e w17 ⟨rfl, hb⟩; refine ⟨_, rfl, ?_⟩; replace HO0_0 := Aside0.mk (Kd.V_below (pV HO0_0.out) hb); replace BK281 := zK BK281 hb; replace BK282 := zK BK282 hb; replace HB := zW (pB2 HB.out GE281.out GE282.out) hb; (try clear hb); (try clear hb2); (try clear hk); (try clear hi); obtain ⟨Y18_0, X18_0, Y18_1, X18_1⟩ := zw2 BK281) | ((with_reducible refine gate_callee (f := 83) rfl ?_); refine zJ (some 16) Try.func83 #[.int .i64 a1, .int .i64 0, .int .i64 (l0_0.length : Int)] ?_; (with_reducible refine (impl_within.calls a1 0 (l0_0.length : Int) true _ A5.out).mono ?_); rintro e w' ⟨rfl, ⟨nd, rfl⟩⟩; refine ⟨_, rfl, ?_⟩; (try (rw [drewN_self w17]; generalize hq_ : World.drewN w17 _ = w17; have n0_ : Aside0 (Kd.V k33 33 w17 w.heap.size (fun k_ => (P0_0_ k_ ∨ w.heap.size ≤ k_) ∧ k_ ≠ gb281 ∧ k_ ≠ gb282) (.slice A0_0 l0_0.length c0_0) l0_0) := ⟨by rw [← hq_]; exact (by (with_reducible repeat (first | apply Kd.V_alloc | apply Kd.V_drewN | apply Kd.V_drew)); exact Kd.V_mono HO0_0.out (fun _ hk => ⟨hk.1.1, ⟨hk.1.2, hk.2⟩⟩))⟩; have n1_ : Aside0 (w17.heap[gb281]? = some (.cells #[.slice A0_0 l0_0.length c0_0, .slice A0_1 l0_1.length c0_1] 62 (0, 0))) := ⟨by rw [← hq_]; exact (pK BK281.out)⟩; have n2_ : Aside0 (w17.heap[gb282]? = some (.cells #[.slice none 0 0, .slice none 0 0] 62 (0, 0))) := ⟨by rw [← hq_]; exact (pK BK282.out)⟩; have n3_ : Aside0 (Below w.heap.size w w17) := ⟨by rw [← hq_]; exact (pB2 HB.out GE281.out GE282.out)⟩; clear HO0_0 BK281 BK282 HB hq_; have HO0_0 := n0_; have BK281 := n1_; have BK282 := n2_; have HB := n3_; clear n0_ n1_ n2_ n3_)); (try (obtain ⟨hcq281_0, hfq281_0, hcq281_1, hfq281_1⟩ := zw2 BK281; obtain ⟨hcq282_0, hfq282_0, hcq282_1, hfq282_1⟩ := zw2 BK282))))
 replace HO0_0 := Aside0.mk (Kd.V_drew HO0_0.out); replace BK281 := Aside0.mk (blk_drew BK281.out); replace BK282 := Aside0.mk (blk_drew BK282.out); replace HB := Aside0.mk (below_drew1 HB.out); have q20 : (a1 : Int) ≤ ((l0_0.length : Int) : Int) := zD; obtain ⟨i020, hi020, _, hsz20, _⟩ := info_parts info33; have hroom20 : l0_0.length ≤ c0_0 := (Kd.V_reads' HO0_0.out).2.1; have hC20 : Kd.F k33 _ _ A0_0 l0_0.length l0_0 := (Kd.V_at (base := w.heap.size) HO0_0.out).2.2; have q020 : (0 : Int) ≤ (a1 : Int) := zD; have hcut20 := cut_from (P := Try.prog) 60 33 .i64 Try.underlying60 hi020 3 hsz20 A0_0 l0_0.length c0_0 a1 q020 q20
 have hr20 := Kd.F_cut (m := (a1 : Int).toNat) (c := c0_0) hC20 (by omega) hroom20
 obtain ⟨A20, hA20⟩ : ∃ A1, A1 = (if c0_0 = (a1 : Int).toNat then A0_0 else (A0_0 : Option Addr).map (·.add ((a1 : Int).toNat * 3))) := ⟨_, rfl⟩
 obtain ⟨c20, hc20⟩ : ∃ c1, c1 = c0_0 - (a1 : Int).toNat := ⟨_, rfl⟩
 have hy20 : y285.length = l0_0.length - (a1 : Int).toNat := (by rw [Ny285.out, List.length_drop] <;> omega)
 rw [show (l0_0).drop (a1 : Int).toNat = y285 from Ny285.out.symm] at hr20
 replace hr20 : Kd.F k33 _ _ A20 y285.length y285 := (by rw [hA20]; exact hr20)
 rw [← hy20, ← hA20, ← hc20] at hcut20
 have HO289 := Aside0.mk (show Kd.V k33 33 _ w.heap.size _ (.slice A20 y285.length c20) y285 from Kd.V_mk (by rw [hy20, hc20]; exact Nat.sub_le_sub_right hroom20 _) hr20)
 have HC289 := Aside0.mk (show y285.length ≤ c20 from by rw [hy20, hc20]; exact Nat.sub_le_sub_right hroom20 _)
 have KCC20 := Aside0.mk hc20; clear hr20 hC20 hroom20 hi020 hsz20 hc20; have KY20 := Aside0.mk hy20; have KA20 := Aside0.mk hA20; have KC20 := KCC20; clear hy20 hA20; replace q20 := eq_true q20; have q21 : (a1 : Int) ≤ ((l0_0.length : Int) : Int) := zD; obtain ⟨i021, hi021, _, hsz21, _⟩ := info_parts info33; have hroom21 : l0_0.length ≤ c0_0 := (Kd.V_reads' HO0_0.out).2.1; have hC21 : Kd.F k33 _ _ A0_0 l0_0.length l0_0 := (Kd.V_at (base := w.heap.size) HO0_0.out).2.2; have hcut21 := cut_to (P := Try.prog) 60 33 .i64 Try.underlying60 hi021 A0_0 l0_0.length c0_0 a1 (zD) q21 hroom21
 have hr21 := Kd.F_take (m := (a1 : Int).toNat) hC21 (by omega)
 have hy21 : y290.length = (a1 : Int).toNat := (by rw [Ny290.out, List.length_take]; omega)
 rw [← Ny290.out] at hr21; rw [← hy21] at hcut21
 have HO294 := Aside0.mk (show Kd.V k33 33 _ w.heap.size _ (.slice A0_0 y290.length c0_0) y290 from Kd.V_mk (by omega) hr21)
 have HC294 := Aside0.mk (show y290.length ≤ c0_0 from by omega)
 clear hr21 hC21 hroom21 hi021 hsz21; have KY21 := Aside0.mk hy21; clear hy21; replace q21 := eq_true q21
 refine start_ (n := 16) (S := fun w' => w'.cell? ⟨gb281, 0, none⟩ = some (.slice A0_0 l0_0.length c0_0) ∧ w'.cell? ⟨gb281, 1, none⟩ = some (.slice A0_1 l0_1.length c0_1)) (ds := []) (Array.replicate 16 false) (by kernel_rfl) rfl rfl ⟨zQ BK281 0, zQ BK281 1⟩ (fun hHeld => ?_); refine with_tabW impl_RotateSheets.tab5 impl_RotateSheets.bits5 (fun HT_ HW_ => ?_)
 generalize w17.drew = w19 at HO0_0 BK281 BK282 HB HO289 HO294 hHeld ⊢
 refine zP 0 (some 19) (zb 16 1) HT_ ?_; refine zP 2 (some 21) (zb 16 5) HT_ ?_; refine zP 4 (some 23) (zb 16 21) HT_ ?_; refine zP 6 (some 25) (zb 16 85) HT_ ?_; refine zP 10 (some 29) (zb 16 1109) HT_ ?_; refine zT2 1 (some 20) (zb 16 1111) HT_ HW_ hHeld ?_; refine zP 3 (some 22) (zb 16 1119) HT_ ?_; refine zT2 5 (some 24) (zb 16 1151) HT_ HW_ hHeld ?_; refine zP 7 (some 26) (zb 16 1279) HT_ ?_; refine zT2 11 (some 30) (zb 16 3327) HT_ HW_ hHeld ?_
 refine one_ (i := 8) (N := some 27) (zb 16 3583) rfl rfl (one_of HT_.out (by kernel_rfl)) (by decide) (fun K hK => ?_)
 refine Kd.N_lit_step (Kd.slice 33 k33) _ 60 ?hg (N' := 27) ?hd (xs := ([y285, y290] : List (List (S33)))) (inner := [.slice A20 y285.length c20, .slice A0_0 y290.length c0_0]) (ok := (fun k_ => (P0_0_ k_ ∨ w.heap.size ≤ k_) ∧ k_ ≠ gb281 ∧ k_ ≠ gb282)) (okp := (fun k_ => (P0_0_ k_ ∨ w.heap.size ≤ k_) ∧ k_ ≠ gb281 ∧ k_ ≠ gb282)) ?hr ?hp (fun _ hk => hk) ((show ∀ k_, w19.heap.size ≤ k_ → (fun k_ => (P0_0_ k_ ∨ w.heap.size ≤ k_) ∧ k_ ≠ gb281 ∧ k_ ≠ gb282) k_ from fun k_ hk => ⟨(.inr (Nat.le_trans (below_size (pB2 HB.out GE281.out GE282.out)) hk)), Kd.freshB (g := gb281) (o := .cells #[.slice A0_0 l0_0.length c0_0, .slice A0_1 l0_1.length c0_1] 62 (0, 0)) (pK BK281.out) k_ hk, Kd.freshB (g := gb282) (o := .cells #[.slice none 0 0, .slice none 0 0] 62 (0, 0)) (pK BK282.out) k_ hk⟩) _ (Nat.le_refl _)) (Below.refl _ _) (Nat.le_refl _) (by simp) ?_; (case hd => rfl); (case hg => rfl); (case hr => first | (go_simp; done) | (go_simp; rfl)); (case hp => exact (Reps.one (show Kd.FK (Kd.slice 33 k33) _ _ y285 [.slice A20 y285.length c20] from (Kd.FK_slice_mk (Kd.V_reads' (Kd.V_mono (ok' := (fun k_ => (P0_0_ k_ ∨ w.heap.size ≤ k_) ∧ k_ ≠ gb281 ∧ k_ ≠ gb282)) (HO289.out) (by intro k_ hk; first | exact ⟨hk.1.1, ⟨hk.1.2, hk.2⟩⟩ | exact hk | exact ⟨hk.1, hk.2.1, hk.2.2⟩))).2.1 (Kd.V_F (Kd.V_mono (ok' := (fun k_ => (P0_0_ k_ ∨ w.heap.size ≤ k_) ∧ k_ ≠ gb281 ∧ k_ ≠ gb282)) (HO289.out) (by intro k_ hk; first | exact ⟨hk.1.1, ⟨hk.1.2, hk.2⟩⟩ | exact hk | exact ⟨hk.1, hk.2.1, hk.2.2⟩))))) (Reps.one (show Kd.FK (Kd.slice 33 k33) _ _ y290 [.slice A0_0 y290.length c0_0] from (Kd.FK_slice_mk (Kd.V_reads' (Kd.V_mono (ok' := (fun k_ => (P0_0_ k_ ∨ w.heap.size ≤ k_) ∧ k_ ≠ gb281 ∧ k_ ≠ gb282)) (HO294.out) (by intro k_ hk; first | exact ⟨hk.1.1, ⟨hk.1.2, hk.2⟩⟩ | exact hk | exact ⟨hk.1, hk.2.1, hk.2.2⟩))).2.1 (Kd.V_F (Kd.V_mono (ok' := (fun k_ => (P0_0_ k_ ∨ w.heap.size ≤ k_) ∧ k_ ≠ gb281 ∧ k_ ≠ gb282)) (HO294.out) (by intro k_ hk; first | exact ⟨hk.1.1, ⟨hk.1.2, hk.2⟩⟩ | exact hk | exact ⟨hk.1, hk.2.1, hk.2.2⟩))))) (Reps.none _ _))))
 intro v296 w22 ho23 hb hg_ hnew_; clear hg_ hnew_; (first | rw [← Ny295.out] at ho23 | (simp only [Int.reduceToNat] at ho23; rw [← Ny295.out] at ho23)); have HO297 := Aside0.mk (Kd.N_lower ho23 (below_size (pB2 HB.out GE281.out GE282.out))); replace HO0_0 := Aside0.mk (Kd.V_elder' (pV HO0_0.out) (Kd.N_base ho23) hb); replace HO289 := Aside0.mk (Kd.V_elder' (pV HO289.out) (Kd.N_base ho23) hb); replace HO294 := Aside0.mk (Kd.V_elder' (pV HO294.out) (Kd.N_base ho23) hb); replace BK281 := zK BK281 hb; replace BK282 := zK BK282 hb; replace HB := zW (pB2 HB.out GE281.out GE282.out) hb; clear hb ho23; obtain ⟨Ao24, co24, eo24⟩ := Kd.N_slice HO297.out
 (first | subst eo24 | (injection eo24 with f1_ f2_ f3_; have f4_ := f1_.symm; have f5_ := f3_.symm; clear f1_ f2_ f3_; subst f4_; subst f5_))
 refine hK.out _ _ ⟨zQ BK281 0, zQ BK281 1⟩ (fun hHeld => ?_)
 clear hK K; refine zN ?_
 refine one_ (i := 9) (N := some 28) (zb 16 4095) rfl rfl (one_of HT_.out (by kernel_rfl)) (by decide) (fun K hK => ?_)
 refine goes_ Try.func84 (by kernel_rfl) rfl #[.slice Ao24 y295.length co24] (by rfl) rfl rfl pA ?_
 with_reducible refine (impl_Veneer_84.calls k _ _ y295 t298 _ ?side1 ?side2 A11.out).mono ?_
 (case side1 => exact pC ((Kd.N_reads' HO297.out).2.2))
 (case side2 => exact (Kd.N_reads' HO297.out).2.1)
 rintro e w25 ⟨v299, rfl, ho0, hb⟩; refine ⟨_, rfl, ?_⟩
 have HO300 := Aside0.mk (Kd.R_lower (Kd.R_newM (M := fun k_ => (w.heap.size ≤ k_)) ho0 (below_size (pB2 HB.out GE281.out GE282.out)) (fun k_ h_ => h_)) (below_size (pB2 HB.out GE281.out GE282.out)))
 replace HO0_0 := Aside0.mk (Kd.V_elder' (pV HO0_0.out) (Kd.R_base ho0) hb); replace HO289 := Aside0.mk (Kd.V_elder' (pV HO289.out) (Kd.R_base ho0) hb); replace HO294 := Aside0.mk (Kd.V_elder' (pV HO294.out) (Kd.R_base ho0) hb); replace HO297 := Aside0.mk (Kd.N_elder' (pN HO297.out) (Kd.R_base ho0) hb); replace BK281 := zK BK281 hb; replace BK282 := zK BK282 hb; replace HB := zW (pB2 HB.out GE281.out GE282.out) hb; (try clear hb); (try clear hb2); (try clear hk); (try clear hi); (try clear ho0)
 refine hK.out _ _ ⟨zQ BK281 0, zQ BK281 1⟩ (fun hHeld => ?_)
 clear hK K; refine zN ?_
 refine one_ (i := 12) (N := some 31) (zb 16 8191) rfl rfl (one_of HT_.out (by kernel_rfl)) (by decide) (fun K hK => ?_)
 refine goes_ Try.func85 (by kernel_rfl) rfl #[.slice A0_1 l0_1.length c0_1] (by rfl) rfl rfl pA ?_
 with_reducible refine (slices_Clone_int64_int64.calls _ _ l0_1 t301 _ ?side1 ?side2 A12.out).mono ?_
 (case side1 => exact pC (Kd.C_below HR0_1.out HB.out))
 (case side2 => exact HC0_1.out)
 rintro e w26 ⟨v302, rfl, ho0, hb⟩; refine ⟨_, rfl, ?_⟩
 have HO303 := Aside0.mk (Kd.R_lower (Kd.R_newM (M := fun k_ => (w.heap.size ≤ k_)) ho0 (below_size (pB2 HB.out GE281.out GE282.out)) (fun k_ h_ => h_)) (below_size (pB2 HB.out GE281.out GE282.out)))
 replace HO0_0 := Aside0.mk (Kd.V_elder' (pV HO0_0.out) (Kd.R_base ho0) hb); replace HO289 := Aside0.mk (Kd.V_elder' (pV HO289.out) (Kd.R_base ho0) hb); replace HO294 := Aside0.mk (Kd.V_elder' (pV HO294.out) (Kd.R_base ho0) hb); replace HO297 := Aside0.mk (Kd.N_elder' (pN HO297.out) (Kd.R_base ho0) hb); replace HO300 := Aside0.mk (Kd.R_below (pR HO300.out) hb); replace BK281 := zK BK281 hb; replace BK282 := zK BK282 hb; replace HB := zW (pB2 HB.out GE281.out GE282.out) hb; (try clear hb); (try clear hb2); (try clear hk); (try clear hi); (try clear ho0); obtain ⟨Ao27, co27, eo27⟩ := Kd.R_slice HO303.out
 (first | subst eo27 | (injection eo27 with f1_ f2_ f3_; have f4_ := f1_.symm; have f5_ := f3_.symm; clear f1_ f2_ f3_; subst f4_; subst f5_))
 obtain ⟨Ao28, co28, eo28⟩ := Kd.R_slice HO300.out
 (first | subst eo28 | (injection eo28 with f1_ f2_ f3_; have f4_ := f1_.symm; have f5_ := f3_.symm; clear f1_ f2_ f3_; subst f4_; subst f5_))
 refine hK.out _ _ ⟨zQ BK281 0, zQ BK281 1⟩ (fun hHeld => ?_)
 clear hK K; refine zN ?_; refine zP 13 (some 32) (zb 16 16383) HT_ ?_
 refine one_ (i := 14) (N := none) (zb 16 32767) rfl rfl (one_of HT_.out (by kernel_rfl)) (by decide) (fun K hK => ?_)
 have hs29 : w26.cell? ⟨gb282, 0, none⟩ = some (.slice none 0 0) := zQ BK282 0; have hfs29 := blk_frozen BK282.out 0; have hns29_0 := NB281_282.out; have hms29_0 := NB282_281.out; have hs30 : w26.cell? ⟨gb282, 1, none⟩ = some (.slice none 0 0) := zQ BK282 1; have hfs30 := blk_frozen BK282.out 1; have hns30_0 := NB281_282.out; have hms30_0 := NB282_281.out
 refine skip_ (w1 := ?_) (by rfl) rfl ?_ ?_
 rotate_left
 · go_simp
   rfl
 refine hK.out _ _ ⟨((cell_far (p := ⟨gb282, _, none⟩) NB281_282.out _).trans (((cell_far (p := ⟨gb282, _, none⟩) NB281_282.out _).trans (hHeld.1)))), ((cell_far (p := ⟨gb282, _, none⟩) NB281_282.out _).trans (((cell_far (p := ⟨gb282, _, none⟩) NB281_282.out _).trans (hHeld.2))))⟩ (fun hHeld => ?_)
 clear hK K; refine zP 15 (some 5) (zb 16 65535) HT_ ?_
 refine done_ (done_of HT_.out (by kernel_rfl)) ?_
 try go_wp2
 refine bodyPost_ret (results_ct rfl _ _ gb282 62 #[.slice Ao28 t298.length co28, .slice Ao27 t301.length co27] (0, 0) _ rfl (by refine zg #[.slice Ao28 t298.length co28, .slice none 0 0] 1 ?_; refine zg #[.slice none 0 0, .slice none 0 0] 0 ?_; exact pK BK282.out) Try.underlying62 rfl (by kernel_rfl)) rfl ?_
 exact ⟨_, _, zE, by (with_reducible repeat (first | apply Kd.R_alloc | apply Kd.R_drewN | apply Kd.R_drew)); exact Kd.R_mono (Kd.R_far (p := ⟨gb282, 1, none⟩) (Kd.R_far (p := ⟨gb282, 0, none⟩) (Kd.R_types HO300.out BK282.out (by decide)) (fun _ hk => hk.2) (.slice Ao28 t298.length co28)) (fun _ hk => hk.2) (.slice Ao27 t301.length co27)) (fun _ hk => hk.1.1), by (with_reducible repeat (first | apply Kd.R_alloc | apply Kd.R_drewN | apply Kd.R_drew)); exact Kd.R_mono (Kd.R_far (p := ⟨gb282, 1, none⟩) (Kd.R_far (p := ⟨gb282, 0, none⟩) (Kd.R_types HO303.out BK282.out (by decide)) (fun _ hk => hk.2) (.slice Ao28 t298.length co28)) (fun _ hk => hk.2) (.slice Ao27 t301.length co27)) (fun _ hk => hk.1.1), pB2 HB.out GE281.out GE282.out⟩
def laws_heldInt64S.l0 : Nat → List Int → Int → Int → Option (Int)
 | 0, _, _, _ => none
 | k + 1, x0, x1, x5 => if x5 < (x0.length : Int) then (if 0 ≤ x5 then (if (rd x0 x5) = x1 then (laws_heldInt64S.l0 k x0 (wrap64 (x1 + 1)) (wrap64 (x5 + 1))) else (some (-1))) else (none)) else (some x1)
def laws_heldInt64S.f (k : Nat) (l0 : List Int) (a1 : Int) : Option (Int) := laws_heldInt64S.l0 k l0 a1 0
theorem laws_heldInt64S.mono_l : ∀ k, (∀ y0 y1 y2, LeO (laws_heldInt64S.l0 k y0 y1 y2) (laws_heldInt64S.l0 (k + 1) y0 y1 y2))
 | 0 => fun _ _ _ r h => by simp [laws_heldInt64S.l0] at h
 | k + 1 => by
   have ih0 := laws_heldInt64S.mono_l k
   · intro y0 y1 y2
     unfold laws_heldInt64S.l0
     repeat' first
     | (with_reducible exact ih0 _ _ _)
     | (with_reducible exact LeO.refl _)
     | (with_reducible exact LeO.none _)
     | (with_reducible refine LeO.ite ?_ ?_)
     | (with_reducible refine LeO.bind ?_ (fun _ => ?_))
     | exact ih0 _ _ _
     | exact LeO.none _
     | refine LeO.ite ?_ ?_
     | refine LeO.bind ?_ (fun _ => ?_)
theorem laws_heldInt64S.mono : ∀ a0 a1 k, LeO (laws_heldInt64S.f k a0 a1) (laws_heldInt64S.f (k + 1) a0 a1) := by
 intro a0 a1 k; have ih0 := laws_heldInt64S.mono_l k; unfold laws_heldInt64S.f
 repeat' first
  | (with_reducible exact ih0 _ _ _)
  | (with_reducible exact LeO.refl _)
  | (with_reducible exact LeO.none _)
  | (with_reducible refine LeO.ite ?_ ?_)
  | (with_reducible refine LeO.bind ?_ (fun _ => ?_))
  | exact ih0 _ _ _
  | exact LeO.none _
  | refine LeO.ite ?_ ?_
  | refine LeO.bind ?_ (fun _ => ?_)
set_option maxHeartbeats 8000000 in
set_option maxRecDepth 100000 in
theorem laws_heldInt64S.calls (k : Nat) (A0 : Option Addr) (c0 : Nat) (l0 : List Int) (a1 : Int) (r : Int) (w : World) (hr0 : Kd.C (Kd.int .i64) w A0 l0.length l0) (hc0 : l0.length ≤ c0) (h : laws_heldInt64S.f k l0 a1 = some r) :
 Calls Try.prog 23 #[.slice A0 l0.length c0, .int .i64 a1] w fun e w' => e = .returned (.int .i64 r) ∧ Drawn0 w w' := by
 have HR0 := Aside0.mk hr0; have HC0 := Aside0.mk hc0; clear hr0 hc0; have H : (laws_heldInt64S.l0 k l0 a1 0) = some r := h; clear h; have H' := Aside0.mk H; clear H
 go_enter Try.func23, Try.ntmps23
 go_wp2
 go_loopg [1, 5] k (fun kq v1 v5 w' => ∃ (x1_1 : Int) (x5_1 : Int), v1 = .int .i64 x1_1 ∧ v5 = .int .i64 x5_1 ∧ Aside0 (laws_heldInt64S.l0 kq l0 x1_1 x5_1 = some r) ∧ Aside0 (kq ≤ k) ∧ Drawn0 w w')
 case atStart => exact ⟨(a1), (0), zR, zR, H', ⟨Nat.le_refl _⟩, zV⟩
 case round =>
  clear H'; (try clear c2); (try clear p2); obtain ⟨x1_1, x5_1, rfl, rfl, HA, HK1, ⟨m1, rfl⟩⟩ := hrel
  cases gk with
  | zero => exact absurd HA.out (by simp [laws_heldInt64S.l0])
  | succ k1 =>
    have H := HA.out; clear HA; simp only [laws_heldInt64S.l0] at H
    by_cases c3 : x5_1 < (l0.length : Int)
    rotate_left
    · rw [if_neg c3] at H
      have c3b0 := decide_eq_false c3; clear c3; obtain rfl := Option.some.inj H
      go_wp2
      go_ret
      exact ⟨by first | rfl | (simp; done) | (simp [*]; done), zV⟩
    rw [if_pos c3] at H; have c3b0 := decide_eq_true c3; clear c3
    by_cases c4 : 0 ≤ x5_1
    rotate_left
    · rw [if_neg c4] at H
      exact absurd H (by simp)
    rw [if_pos c4] at H; have c4b0 := decide_eq_true c4; clear c4
    by_cases c5 : (rd l0 x5_1) = x1_1
    rotate_left
    · rw [if_neg c5] at H
      have c5b0 : ((rd l0 x5_1) == x1_1) = false := beq_eq_false_iff_ne.mpr c5; have c5b1 : ((rd l0 x5_1) != x1_1) = true := bne_iff_ne.mpr c5; obtain rfl := Option.some.inj H; have p304 : 0 ≤ (x5_1 : Int) := zD; have q304 : x5_1 < (l0.length : Int) := zD; obtain ⟨ad304, e304, hx304_0⟩ := Kd.at_int HR0.out x5_1 p304 q304; cases e304; replace p304 := eq_true p304; replace q304 := eq_true q304
      go_wp2
      go_ret
      exact ⟨by first | rfl | (simp; done) | (simp [*]; done), zV⟩
    rw [if_pos c5] at H; have c5b0 : ((rd l0 x5_1) == x1_1) = true := beq_iff_eq.mpr c5; have c5b1 : ((rd l0 x5_1) != x1_1) = false := bne_eq_false_iff_eq.mpr c5; clear c5; have H' := Aside0.mk H; clear H; have p304 : 0 ≤ (x5_1 : Int) := zD; have q304 : x5_1 < (l0.length : Int) := zD; obtain ⟨ad304, e304, hx304_0⟩ := Kd.at_int HR0.out x5_1 p304 q304; cases e304; replace p304 := eq_true p304; replace q304 := eq_true q304
    go_wp2
    go_roundg k1
    case measure => have := HK1.out; omega
    case rel => exact ⟨(wrap64 (x1_1 + 1)), (wrap64 (x5_1 + 1)), zR, zR, H', ⟨by have := HK1.out; omega⟩, zV⟩
end Go.Proofs.Ytfiiakhpdkdebaa.PFnExactRotateSheets

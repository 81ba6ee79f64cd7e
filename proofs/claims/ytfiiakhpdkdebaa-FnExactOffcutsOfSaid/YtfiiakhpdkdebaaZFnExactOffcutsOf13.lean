/- What each function that a law reaches comes to, and the proof that its walk comes to it; laid by a program of this session. No condition. -/
import Derived.Test.YtfiiakhpdkdebaaZFnExactOffcutsOf0
import Derived.Test.YtfiiakhpdkdebaaZFnExactOffcutsOf7
import Derived.Test.YtfiiakhpdkdebaaZFnExactOffcutsOf10
import Derived.Test.YtfiiakhpdkdebaaZFnExactOffcutsOf11
import Derived.Test.YtfiiakhpdkdebaaZFnExactOffcutsOf12
namespace Go.Proofs.Ytfiiakhpdkdebaa.PFnExactOffcutsOf
open Go.RowKit Go.Proofs.YtfiiakhpdkdebaaW.PrintWords Go.Proofs.YtfiiakhpdkdebaaW.PrintLast Go.Proofs.YtfiiakhpdkdebaaW.PrintMore
attribute [local go_sem] max2_int min2_int max_two min_two max_three min_three max_four min_four
set_option linter.unusedVariables false
set_option linter.unusedSimpArgs false
mutual
def spec_OffcutsOf.j0 : Nat → List (S91) → Bool → ByteArray → ByteArray → Int → ByteArray → Int → Int → Int → Int → List (S103) → Option ((List (S103)) × Int)
 | 0, _, _, _, _, _, _, _, _, _, _, _ => none
 | k + 1, x1, x18, x324000, x324001, x324002, x324003, x324004, x324005, x324006, x324007, x324008 => if x18 = true then (some (([] : List (S103)), 1)) else ((spec_l12Turns.f k x1 [(⟨x324000, x324001, x324002, (⟨x324003, x324004, x324005⟩ : S33), x324006, x324007, x324008⟩ : S36)]).bind fun t326 => (if (t326.length : Int) = 0 then (some (([] : List (S103)), 6)) else ((spec_l03Bounds.f k x1).bind fun bt329 => (if 0 < (t326.length : Int) then (if (Int.tmod (rd t326 0) 2) = 1 then (spec_OffcutsOf.j1 k (wrap64 (bt329.2.2.2 - bt329.2.1)) (wrap64 (bt329.2.2.1 - bt329.1)) x324000 x324001 x324002 x324003 x324004 x324005 x324006 x324007 x324008) else (spec_OffcutsOf.j1 k (wrap64 (bt329.2.2.1 - bt329.1)) (wrap64 (bt329.2.2.2 - bt329.2.1)) x324000 x324001 x324002 x324003 x324004 x324005 x324006 x324007 x324008)) else (none)))))
def spec_OffcutsOf.j1 : Nat → Int → Int → ByteArray → ByteArray → Int → ByteArray → Int → Int → Int → Int → List (S103) → Option ((List (S103)) × Int)
 | 0, _, _, _, _, _, _, _, _, _, _, _ => none
 | k + 1, x9, x10, x324000, x324001, x324002, x324003, x324004, x324005, x324006, x324007, x324008 => (some (([] : List (S103)) : List (S103))).bind fun y336 => (if x9 < x324006 then (if y336.length < 4398046511104 then ((some (y336 ++ [(⟨x9, 0, wrap64 (x324006 - x9), x10⟩ : S103)] : List (S103))).bind fun y339 => (if x10 < x324007 then (if y339.length < 4398046511104 then (some ((y339 ++ [(⟨0, x10, x324006, wrap64 (x324007 - x10)⟩ : S103)]), 0)) else (none)) else (some (y339, 0)))) else (none)) else (if x10 < x324007 then (if y336.length < 4398046511104 then (some ((y336 ++ [(⟨0, x10, x324006, wrap64 (x324007 - x10)⟩ : S103)]), 0)) else (none)) else (some (y336, 0))))
end
def spec_OffcutsOf.f (k : Nat) (a0_0 : ByteArray) (a0_1 : ByteArray) (a0_2 : Int) (a0_3 : ByteArray) (a0_4 : Int) (a0_5 : Int) (a0_6 : Int) (a0_7 : Int) (l0_8 : List (S103)) (l1 : List (S91)) : Option ((List (S103)) × Int) := (spec_l09One.f k [(⟨a0_0, a0_1, a0_2, (⟨a0_3, a0_4, a0_5⟩ : S33), a0_6, a0_7, l0_8⟩ : S36)]).bind fun t324 => (if t324 = true then ((spec_l03Ok.f k l1).bind fun t325 => (spec_OffcutsOf.j0 k l1 (!t325) a0_0 a0_1 a0_2 a0_3 a0_4 a0_5 a0_6 a0_7 l0_8)) else (spec_OffcutsOf.j0 k l1 true a0_0 a0_1 a0_2 a0_3 a0_4 a0_5 a0_6 a0_7 l0_8))
theorem spec_OffcutsOf.mono_l : ∀ k, (∀ y0 y1 y2 y3 y4 y5 y6 y7 y8 y9 y10, LeO (spec_OffcutsOf.j0 k y0 y1 y2 y3 y4 y5 y6 y7 y8 y9 y10) (spec_OffcutsOf.j0 (k + 1) y0 y1 y2 y3 y4 y5 y6 y7 y8 y9 y10)) ∧ (∀ y0 y1 y2 y3 y4 y5 y6 y7 y8 y9 y10, LeO (spec_OffcutsOf.j1 k y0 y1 y2 y3 y4 y5 y6 y7 y8 y9 y10) (spec_OffcutsOf.j1 (k + 1) y0 y1 y2 y3 y4 y5 y6 y7 y8 y9 y10))
 | 0 => ⟨fun _ _ _ _ _ _ _ _ _ _ _ r h => by simp [spec_OffcutsOf.j0] at h, fun _ _ _ _ _ _ _ _ _ _ _ r h => by simp [spec_OffcutsOf.j1] at h⟩
 | k + 1 => by
   obtain ⟨ih0, ih1⟩ := spec_OffcutsOf.mono_l k; refine ⟨?_, ?_⟩
   · intro y0 y1 y2 y3 y4 y5 y6 y7 y8 y9 y10
     unfold spec_OffcutsOf.j0
     repeat' first
     | (with_reducible exact ih0 _ _ _ _ _ _ _ _ _ _ _)
     | (with_reducible exact ih1 _ _ _ _ _ _ _ _ _ _ _)
     | (with_reducible exact spec_l03Bounds.mono _ _)
     | (with_reducible exact spec_l03Ok.mono _ _)
     | (with_reducible exact spec_l09One.mono _ _)
     | (with_reducible exact spec_l12Turns.mono _ _ _)
     | (with_reducible exact LeO.refl _)
     | (with_reducible exact LeO.none _)
     | (with_reducible refine LeO.ite ?_ ?_)
     | (with_reducible refine LeO.bind ?_ (fun _ => ?_))
     | exact ih0 _ _ _ _ _ _ _ _ _ _ _
     | exact ih1 _ _ _ _ _ _ _ _ _ _ _
     | exact spec_l03Bounds.mono _ _
     | exact spec_l03Ok.mono _ _
     | exact spec_l09One.mono _ _
     | exact spec_l12Turns.mono _ _ _
     | exact LeO.none _
     | refine LeO.ite ?_ ?_
     | refine LeO.bind ?_ (fun _ => ?_)
   · intro y0 y1 y2 y3 y4 y5 y6 y7 y8 y9 y10
     unfold spec_OffcutsOf.j1
     repeat' first
     | (with_reducible exact ih0 _ _ _ _ _ _ _ _ _ _ _)
     | (with_reducible exact ih1 _ _ _ _ _ _ _ _ _ _ _)
     | (with_reducible exact spec_l03Bounds.mono _ _)
     | (with_reducible exact spec_l03Ok.mono _ _)
     | (with_reducible exact spec_l09One.mono _ _)
     | (with_reducible exact spec_l12Turns.mono _ _ _)
     | (with_reducible exact LeO.refl _)
     | (with_reducible exact LeO.none _)
     | (with_reducible refine LeO.ite ?_ ?_)
     | (with_reducible refine LeO.bind ?_ (fun _ => ?_))
     | exact ih0 _ _ _ _ _ _ _ _ _ _ _
     | exact ih1 _ _ _ _ _ _ _ _ _ _ _
     | exact spec_l03Bounds.mono _ _
     | exact spec_l03Ok.mono _ _
     | exact spec_l09One.mono _ _
     | exact spec_l12Turns.mono _ _ _
     | exact LeO.none _
     | refine LeO.ite ?_ ?_
     | refine LeO.bind ?_ (fun _ => ?_)
theorem spec_OffcutsOf.mono : ∀ a0 a1 a2 a3 a4 a5 a6 a7 a8 a9 k, LeO (spec_OffcutsOf.f k a0 a1 a2 a3 a4 a5 a6 a7 a8 a9) (spec_OffcutsOf.f (k + 1) a0 a1 a2 a3 a4 a5 a6 a7 a8 a9) := by
 intro a0 a1 a2 a3 a4 a5 a6 a7 a8 a9 k; obtain ⟨ih0, ih1⟩ := spec_OffcutsOf.mono_l k; unfold spec_OffcutsOf.f
 repeat' first
  | (with_reducible exact ih0 _ _ _ _ _ _ _ _ _ _ _)
  | (with_reducible exact ih1 _ _ _ _ _ _ _ _ _ _ _)
  | (with_reducible exact spec_l03Bounds.mono _ _)
  | (with_reducible exact spec_l03Ok.mono _ _)
  | (with_reducible exact spec_l09One.mono _ _)
  | (with_reducible exact spec_l12Turns.mono _ _ _)
  | (with_reducible exact LeO.refl _)
  | (with_reducible exact LeO.none _)
  | (with_reducible refine LeO.ite ?_ ?_)
  | (with_reducible refine LeO.bind ?_ (fun _ => ?_))
  | exact ih0 _ _ _ _ _ _ _ _ _ _ _
  | exact ih1 _ _ _ _ _ _ _ _ _ _ _
  | exact spec_l03Bounds.mono _ _
  | exact spec_l03Ok.mono _ _
  | exact spec_l09One.mono _ _
  | exact spec_l12Turns.mono _ _ _
  | exact LeO.none _
  | refine LeO.ite ?_ ?_
  | refine LeO.bind ?_ (fun _ => ?_)
set_option maxHeartbeats 8000000 in
set_option maxRecDepth 100000 in
theorem spec_OffcutsOf.calls (k : Nat) (a0_0 : ByteArray) (a0_1 : ByteArray) (a0_2 : Int) (a0_3 : ByteArray) (a0_4 : Int) (a0_5 : Int) (a0_6 : Int) (a0_7 : Int) (A0_8 : Option Addr) (c0_8 : Nat) (l0_8 : List (S103)) (A1 : Option Addr) (c1 : Nat) (l1 : List (S91)) (r1 : List (S103)) (r2 : Int) (w : World) (hr0_8 : Kd.C k103 w A0_8 l0_8.length l0_8) (hc0_8 : l0_8.length ≤ c0_8) (hr1 : Kd.C k91 w A1 l1.length l1) (hc1 : l1.length ≤ c1) (h : spec_OffcutsOf.f k a0_0 a0_1 a0_2 a0_3 a0_4 a0_5 a0_6 a0_7 l0_8 l1 = some (r1, r2)) :
 Calls Try.prog 24 #[.agg #[.string a0_0, .string a0_1, .int .i64 a0_2, .string a0_3, .int .i64 a0_4, .int .i64 a0_5, .int .i64 a0_6, .int .i64 a0_7, .slice A0_8 l0_8.length c0_8], .slice A1 l1.length c1] w fun e w' => ∃ v0_ : Value, e = .returned (.tuple #[v0_, .int .i64 r2]) ∧ Kd.R k103 103 w' w.heap.size (fun _ => True) v0_ r1 ∧ Below w.heap.size w w' := by
 have hu36 := Try.underlying36; have hu91 := Try.underlying91; have hu103 := Try.underlying103; have HR0_8 := Aside0.mk hr0_8; have HC0_8 := Aside0.mk hc0_8; clear hr0_8 hc0_8; have HR1 := Aside0.mk hr1; have HC1 := Aside0.mk hc1; clear hr1 hc1; have HB := Aside0.mk (Below.refl w.heap.size w)
 have H : ((spec_l09One.f k [(⟨a0_0, a0_1, a0_2, (⟨a0_3, a0_4, a0_5⟩ : S33), a0_6, a0_7, l0_8⟩ : S36)]).bind fun t324 => (if t324 = true then ((spec_l03Ok.f k l1).bind fun t325 => (spec_OffcutsOf.j0 k l1 (!t325) a0_0 a0_1 a0_2 a0_3 a0_4 a0_5 a0_6 a0_7 l0_8)) else (spec_OffcutsOf.j0 k l1 true a0_0 a0_1 a0_2 a0_3 a0_4 a0_5 a0_6 a0_7 l0_8))) = some (r1, r2) := h
 clear h; have HC3 := Aside0.mk H; clear H
 go_enter Try.func24, Try.ntmps24
 go_upto_region 1 with (first | ((with_reducible refine zI 2 rfl ?_); refine zB 2 #[.string a0_0, .string a0_1, .int .i64 a0_2, .string a0_3, .int .i64 a0_4, .int .i64 a0_5, .int .i64 a0_6, .int .i64 a0_7, .slice A0_8 l0_8.length c0_8] 36 ?_; intro gb323 hg w4 hbox hb; have BK323 := Aside0.mk (hbox); have GW323 := zS (pB0 HB.out) hg; have GE323 := GW323; replace HB := zW (pB0 HB.out) hb; clear hb hbox hg))
 (try simp only [Act.put, List.setIfInBounds_toArray, List.set_cons_zero, List.set_cons_succ])
 go_cut [18] (fun v18 wc => ∃ (kq : Nat) (x18_2 : Bool), v18 = .bool x18_2 ∧ Aside0 (spec_OffcutsOf.j0 kq l1 x18_2 a0_0 a0_1 a0_2 a0_3 a0_4 a0_5 a0_6 a0_7 l0_8 = some (r1, r2)) ∧ Aside0 (kq ≤ k) ∧ Aside0 (wc.heap[gb323]? = some (.cells #[.string a0_0, .string a0_1, .int .i64 a0_2, .string a0_3, .int .i64 a0_4, .int .i64 a0_5, .int .i64 a0_6, .int .i64 a0_7, (.slice A0_8 l0_8.length c0_8)] 36 (0, 0))) ∧ Aside0 (Below w.heap.size w wc))
 case first =>
  have H := HC3.out; clear HC3; replace H := Option.bind_eq_some_iff.mp H; obtain ⟨t324, A50, H⟩ := H; have A5 := Aside0.mk A50; clear A50
  by_cases c6 : t324 = true
  rotate_left
  · replace c6 := Bool.eq_false_iff.mpr c6
    subst c6
    rw [if_neg (show ¬ (false = true) by decide)] at H
    have H' := Aside0.mk H; clear H
    go_wp2_with (first | ((with_reducible refine gate_callee (f := 50) rfl ?_); refine zJ (some 12) Try.func50 #[.pointer (some ⟨gb323, 0, none⟩)] ?_; (with_reducible refine (spec_l09One.calls k _ 1 [(⟨a0_0, a0_1, a0_2, (⟨a0_3, a0_4, a0_5⟩ : S33), a0_6, a0_7, l0_8⟩ : S36)] false _ ?side1 ?side2 A5.out).mono ?_); (case side1 => exact C_box (cs := #[.string a0_0, .string a0_1, .int .i64 a0_2, .string a0_3, .int .i64 a0_4, .int .i64 a0_5, .int .i64 a0_6, .int .i64 a0_7, .slice A0_8 l0_8.length c0_8]) (t := 36) (pK BK323.out) (k36_mk _ _ (by exact HC0_8.out) (by exact pC (Kd.C_below HR0_8.out HB.out)))); (case side2 => exact Nat.le_refl _); rintro e w10 ⟨rfl, hb⟩; refine ⟨_, rfl, ?_⟩; replace BK323 := zK BK323 hb; replace HB := zW (pB1 HB.out GE323.out) hb; (try clear hb); (try clear hb2); (try clear hk); (try clear hi)))
    go_meet
    case rel => exact ⟨_, (true), zR, H', ⟨by first | omega | exact Nat.le_refl _⟩, ⟨pK BK323.out⟩, ⟨pB1 HB.out GE323.out⟩⟩
  subst c6; rw [if_pos rfl] at H; replace H := Option.bind_eq_some_iff.mp H; obtain ⟨t325, A70, H⟩ := H; have A7 := Aside0.mk A70; clear A70; have H' := Aside0.mk H; clear H
  go_wp2_with (first | ((with_reducible refine gate_callee (f := 50) rfl ?_); refine zJ (some 12) Try.func50 #[.pointer (some ⟨gb323, 0, none⟩)] ?_; (with_reducible refine (spec_l09One.calls k _ 1 [(⟨a0_0, a0_1, a0_2, (⟨a0_3, a0_4, a0_5⟩ : S33), a0_6, a0_7, l0_8⟩ : S36)] true _ ?side1 ?side2 A5.out).mono ?_); (case side1 => exact C_box (cs := #[.string a0_0, .string a0_1, .int .i64 a0_2, .string a0_3, .int .i64 a0_4, .int .i64 a0_5, .int .i64 a0_6, .int .i64 a0_7, .slice A0_8 l0_8.length c0_8]) (t := 36) (pK BK323.out) (k36_mk _ _ (by exact HC0_8.out) (by exact pC (Kd.C_below HR0_8.out HB.out)))); (case side2 => exact Nat.le_refl _); rintro e w8 ⟨rfl, hb⟩; refine ⟨_, rfl, ?_⟩; replace BK323 := zK BK323 hb; replace HB := zW (pB1 HB.out GE323.out) hb; (try clear hb); (try clear hb2); (try clear hk); (try clear hi)) | (go_at_call 49; (with_reducible refine (spec_l03Ok.calls k _ _ l1 t325 _ ?side1 ?side2 A7.out).mono ?_); (case side1 => exact pC (Kd.C_below HR1.out HB.out)); (case side2 => exact HC1.out); rintro e w9 ⟨rfl, hb⟩; replace BK323 := zK BK323 hb; replace HB := zW (pB1 HB.out GE323.out) hb; (try clear hb); (try clear hb2); (try clear hk); (try clear hi)))
  go_meet
  case rel => exact ⟨_, (!t325), zR, H', ⟨by first | omega | exact Nat.le_refl _⟩, ⟨pK BK323.out⟩, ⟨pB1 HB.out GE323.out⟩⟩
 case rest =>
  clear HC3; (try clear c1); (try clear c2); (try clear p2); (try clear c5); (try clear c6); obtain ⟨kq, x18_2, rfl, HA, HJ2, BK323, HB⟩ := hcut
  cases kq with
  | zero => exact absurd HA.out (by simp [spec_OffcutsOf.j0])
  | succ kj2 =>
    have H := HA.out; clear HA; simp only [spec_OffcutsOf.j0] at H
    by_cases c11 : x18_2 = true
    · subst c11
      rw [if_pos rfl] at H; simp only [Option.some.injEq, Prod.mk.injEq] at H; obtain ⟨rfl, rfl⟩ := H
      go_wp2
      go_ret2
      exact ⟨_, zE, by first | exact Kd.R_nil _ _ _ _ _ | exact Kd.N_nil _ _ _ _ _ | exact Kd.V_nil _ _ _ _ _ | exact Kd.Q_nil _ _ _ _ _ | exact Kd.S_nil _ _ _ _ _, pB1 HB.out GE323.out⟩
    replace c11 := Bool.eq_false_iff.mpr c11; subst c11
    rw [if_neg (show ¬ (false = true) by decide)] at H
    replace H := Option.bind_eq_some_iff.mp H; obtain ⟨t326, A120, H⟩ := H; have A12 := Aside0.mk A120; clear A120
    by_cases c13 : (t326.length : Int) = 0
    · rw [if_pos c13] at H
      have c13b0 : ((t326.length : Int) == 0) = true := beq_iff_eq.mpr c13; have c13b1 : ((t326.length : Int) != 0) = false := bne_eq_false_iff_eq.mpr c13; clear c13; simp only [Option.some.injEq, Prod.mk.injEq] at H; obtain ⟨rfl, rfl⟩ := H
      go_wp2_with (first | ((with_reducible refine gate_callee (f := 51) rfl ?_); refine zJ (some 20) Try.func51 #[.slice A1 l1.length c1, .pointer (some ⟨gb323, 0, none⟩)] ?_; (with_reducible refine (spec_l12Turns.calls kj2 _ _ l1 _ 1 [(⟨a0_0, a0_1, a0_2, (⟨a0_3, a0_4, a0_5⟩ : S33), a0_6, a0_7, l0_8⟩ : S36)] t326 _ ?side1 ?side2 ?side3 ?side4 A12.out).mono ?_); (case side1 => exact pC (Kd.C_below HR1.out HB.out)); (case side2 => exact HC1.out); (case side3 => exact C_box (cs := #[.string a0_0, .string a0_1, .int .i64 a0_2, .string a0_3, .int .i64 a0_4, .int .i64 a0_5, .int .i64 a0_6, .int .i64 a0_7, .slice A0_8 l0_8.length c0_8]) (t := 36) (pK BK323.out) (k36_mk _ _ (by exact HC0_8.out) (by exact pC (Kd.C_below HR0_8.out HB.out)))); (case side4 => exact Nat.le_refl _); rintro e w14 ⟨v327, rfl, ho0, hb⟩; refine ⟨_, rfl, ?_⟩; have HO328 := Aside0.mk (Kd.R_lower ho0 (below_size (pB1 HB.out GE323.out))); replace BK323 := zK BK323 hb; replace HB := zW (pB1 HB.out GE323.out) hb; (try clear hb); (try clear hb2); (try clear hk); (try clear hi); (try clear ho0); obtain ⟨Ao15, co15, eo15⟩ := Kd.R_slice HO328.out; subst eo15))
      go_ret2
      exact ⟨_, zE, by first | exact Kd.R_nil _ _ _ _ _ | exact Kd.N_nil _ _ _ _ _ | exact Kd.V_nil _ _ _ _ _ | exact Kd.Q_nil _ _ _ _ _ | exact Kd.S_nil _ _ _ _ _, pB1 HB.out GE323.out⟩
    rw [if_neg c13] at H; have c13b0 : ((t326.length : Int) == 0) = false := beq_eq_false_iff_ne.mpr c13; have c13b1 : ((t326.length : Int) != 0) = true := bne_iff_ne.mpr c13
    have c13b2 : ¬ (t326 = []) := fun h_ => c13 (by rw [h_]; rfl)
    replace H := Option.bind_eq_some_iff.mp H; obtain ⟨⟨t329, t330, t331, t332⟩, A160, H⟩ := H; replace H : (if 0 < (t326.length : Int) then (if (Int.tmod (rd t326 0) 2) = 1 then (spec_OffcutsOf.j1 kj2 (wrap64 (t332 - t330)) (wrap64 (t331 - t329)) a0_0 a0_1 a0_2 a0_3 a0_4 a0_5 a0_6 a0_7 l0_8) else (spec_OffcutsOf.j1 kj2 (wrap64 (t331 - t329)) (wrap64 (t332 - t330)) a0_0 a0_1 a0_2 a0_3 a0_4 a0_5 a0_6 a0_7 l0_8)) else (none)) = some (r1, r2) := H; have A16 := Aside0.mk A160; clear A160
    by_cases c17 : 0 < (t326.length : Int)
    rotate_left
    · rw [if_neg c17] at H
      exact absurd H (by simp)
    rw [if_pos c17] at H; have c17b0 := decide_eq_true c17
    have c17b1 : decide (0 < t326.length) = true := decide_eq_true (by omega)
    clear c17; have HC18 := Aside0.mk H; clear H
    go_upto_if 43 with (first | ((with_reducible refine gate_callee (f := 51) rfl ?_); refine zJ (some 20) Try.func51 #[.slice A1 l1.length c1, .pointer (some ⟨gb323, 0, none⟩)] ?_; (with_reducible refine (spec_l12Turns.calls kj2 _ _ l1 _ 1 [(⟨a0_0, a0_1, a0_2, (⟨a0_3, a0_4, a0_5⟩ : S33), a0_6, a0_7, l0_8⟩ : S36)] t326 _ ?side1 ?side2 ?side3 ?side4 A12.out).mono ?_); (case side1 => exact pC (Kd.C_below HR1.out HB.out)); (case side2 => exact HC1.out); (case side3 => exact C_box (cs := #[.string a0_0, .string a0_1, .int .i64 a0_2, .string a0_3, .int .i64 a0_4, .int .i64 a0_5, .int .i64 a0_6, .int .i64 a0_7, .slice A0_8 l0_8.length c0_8]) (t := 36) (pK BK323.out) (k36_mk _ _ (by exact HC0_8.out) (by exact pC (Kd.C_below HR0_8.out HB.out)))); (case side4 => exact Nat.le_refl _); rintro e w19 ⟨v327, rfl, ho0, hb⟩; refine ⟨_, rfl, ?_⟩; have HO328 := Aside0.mk (Kd.R_lower ho0 (below_size (pB1 HB.out GE323.out))); replace BK323 := zK BK323 hb; replace HB := zW (pB1 HB.out GE323.out) hb; (try clear hb); (try clear hb2); (try clear hk); (try clear hi); (try clear ho0); obtain ⟨Ao20, co20, eo20⟩ := Kd.R_slice HO328.out; subst eo20) | ((with_reducible refine gate_callee (f := 60) rfl ?_); refine zJ (some 26) Try.func60 #[.slice A1 l1.length c1] ?_; (with_reducible refine (spec_l03Bounds.calls kj2 _ _ l1 t329 t330 t331 t332 _ ?side1 ?side2 A16.out).mono ?_); (case side1 => exact pC (Kd.C_below HR1.out HB.out)); (case side2 => exact HC1.out); rintro e w21 ⟨rfl, hb⟩; refine ⟨_, rfl, ?_⟩; replace HO328 := Aside0.mk (Kd.R_below (pR HO328.out) hb); replace BK323 := zK BK323 hb; replace HB := zW (pB1 HB.out GE323.out) hb; (try clear hb); (try clear hb2); (try clear hk); (try clear hi)) | ((with_reducible refine zI 7 rfl ?_); refine zB 7 #[.int .i64 0, .int .i64 0] 91 ?_; intro gb333 hg w22 hbox hb; have BK333 := Aside0.mk (hbox); have GW333 := zS (pB1 HB.out GE323.out) hg; have GE333 := GW333; have NB323_333 := zL BK323 hg; have NB333_323 := zM BK323 hg; replace HO328 := Aside0.mk (Kd.R_below (pR HO328.out) hb); replace BK323 := zK BK323 hb; replace HB := zW (pB1 HB.out GE323.out) hb; clear hb hbox hg) | ((with_reducible refine zI 8 rfl ?_); refine zB 8 #[.int .i64 0, .int .i64 0] 91 ?_; intro gb334 hg w23 hbox hb; have BK334 := Aside0.mk (hbox); have GW334 := zS (pB2 HB.out GE323.out GE333.out) hg; have GE334 := GW334; have NB323_334 := zL BK323 hg; have NB334_323 := zM BK323 hg; have NB333_334 := zL BK333 hg; have NB334_333 := zM BK333 hg; replace HO328 := Aside0.mk (Kd.R_below (pR HO328.out) hb); replace BK323 := zK BK323 hb; replace BK333 := zK BK333 hb; replace HB := zW (pB2 HB.out GE323.out GE333.out) hb; clear hb hbox hg; have hnb24 := NB333_323.out; have hnc24 := NB323_333.out; have hnb25 := NB333_334.out; have hnc25 := NB334_333.out; obtain ⟨Y26_0, X26_0, Y26_1, X26_1⟩ := zw2 BK333; have hnb27 := NB334_323.out; have hnc27 := NB323_334.out; obtain ⟨Y28_0, X28_0, Y28_1, X28_1⟩ := zw2 BK334; have p335 : 0 ≤ (0 : Int) := (by omega); have q335 : 0 < (t326.length : Int) := zD; obtain ⟨ad335, e335, hx335_0⟩ := Kd.at_int (Kd.R_reads' HO328.out).2.2 0 p335 q335; cases e335; have qi335 : (0 < t326.length) = True := eq_true (by omega); (try rw [z0] at hx335_0); (try rw [Addr.add_zero'] at hx335_0); have hn335_0 : ad335.block ≠ gb333 := Kd.own_blk (Kd.R_ne HO328.out BK333.out (by decide)); have hn335_1 : ad335.block ≠ gb333 := Kd.own_blk (Kd.R_ne HO328.out BK333.out (by decide)); have hn335_2 : ad335.block ≠ gb334 := Kd.own_blk (Kd.R_ne HO328.out BK334.out (by decide)); have hn335_3 : ad335.block ≠ gb334 := Kd.own_blk (Kd.R_ne HO328.out BK334.out (by decide)); replace hx335_0 := (cell_far (p := ⟨gb333, 0, none⟩) (by first | (rw [add_block]; exact hn335_0) | (show (Addr.add _ _).block ≠ _; rw [add_block]; exact hn335_0) | exact hn335_0) (.int .i64 t329)).trans hx335_0; replace hx335_0 := (cell_far (p := ⟨gb333, 1, none⟩) (by first | (rw [add_block]; exact hn335_1) | (show (Addr.add _ _).block ≠ _; rw [add_block]; exact hn335_1) | exact hn335_1) (.int .i64 t330)).trans hx335_0; replace hx335_0 := (cell_far (p := ⟨gb334, 0, none⟩) (by first | (rw [add_block]; exact hn335_2) | (show (Addr.add _ _).block ≠ _; rw [add_block]; exact hn335_2) | exact hn335_2) (.int .i64 t331)).trans hx335_0; replace hx335_0 := (cell_far (p := ⟨gb334, 1, none⟩) (by first | (rw [add_block]; exact hn335_3) | (show (Addr.add _ _).block ≠ _; rw [add_block]; exact hn335_3) | exact hn335_3) (.int .i64 t332)).trans hx335_0; clear hn335_0; clear hn335_1; clear hn335_2; clear hn335_3; replace p335 := eq_true p335; replace q335 := eq_true q335))
    (try simp only [Act.put, List.setIfInBounds_toArray, List.set_cons_zero, List.set_cons_succ])
    go_cut [9, 10] (fun v9 v10 wc => ∃ (kq : Nat) (x9_17 : Int) (x10_17 : Int), v9 = .int .i64 x9_17 ∧ v10 = .int .i64 x10_17 ∧ Aside0 (spec_OffcutsOf.j1 kq x9_17 x10_17 a0_0 a0_1 a0_2 a0_3 a0_4 a0_5 a0_6 a0_7 l0_8 = some (r1, r2)) ∧ Aside0 (kq ≤ kj2) ∧ Aside0 (wc.heap[gb323]? = some (.cells #[.string a0_0, .string a0_1, .int .i64 a0_2, .string a0_3, .int .i64 a0_4, .int .i64 a0_5, .int .i64 a0_6, .int .i64 a0_7, (.slice A0_8 l0_8.length c0_8)] 36 (0, 0))) ∧ Aside0 (wc.heap[gb333]? = some (.cells #[.int .i64 t329, .int .i64 t330] 91 (0, 0))) ∧ Aside0 (wc.heap[gb334]? = some (.cells #[.int .i64 t331, .int .i64 t332] 91 (0, 0))) ∧ Aside0 (Below w.heap.size w wc))
    case first =>
     have H := HC18.out; clear HC18
     by_cases c29 : (Int.tmod (rd t326 0) 2) = 1
     rotate_left
     · rw [if_neg c29] at H
       have c29b0 : ((Int.tmod (rd t326 0) 2) == 1) = false := beq_eq_false_iff_ne.mpr c29; have c29b1 : ((Int.tmod (rd t326 0) 2) != 1) = true := bne_iff_ne.mpr c29; (first | rw [c29b0] | (simp only [i64_w, i32_w]; rw [c29b0]) | skip); have H' := Aside0.mk H; clear H
       go_wp2
       go_meet
       case rel => exact ⟨_, (wrap64 (t331 - t329)), (wrap64 (t332 - t330)), zR, zR, H', ⟨by have := HJ2.out; first | omega | exact Nat.le_refl _⟩, ⟨by refine zf ?_ NB323_334; refine zf ?_ NB323_334; refine zf ?_ NB323_333; refine zf ?_ NB323_333; exact pK BK323.out⟩, ⟨by refine zf ?_ NB333_334; refine zf ?_ NB333_334; refine zg #[.int .i64 t329, .int .i64 0] 1 ?_; refine zg #[.int .i64 0, .int .i64 0] 0 ?_; exact pK BK333.out⟩, ⟨by refine zg #[.int .i64 t331, .int .i64 0] 1 ?_; refine zg #[.int .i64 0, .int .i64 0] 0 ?_; refine zf ?_ NB334_333; refine zf ?_ NB334_333; exact pK BK334.out⟩, ⟨pB3 HB.out GE323.out GE333.out GE334.out⟩⟩
     rw [if_pos c29] at H; have c29b0 : ((Int.tmod (rd t326 0) 2) == 1) = true := beq_iff_eq.mpr c29; have c29b1 : ((Int.tmod (rd t326 0) 2) != 1) = false := bne_eq_false_iff_eq.mpr c29; clear c29; (first | rw [c29b0] | (simp only [i64_w, i32_w]; rw [c29b0]) | skip); have H' := Aside0.mk H; clear H; have hnb30 := NB334_323.out; have hnc30 := NB323_334.out; have hnb31 := NB334_333.out; have hnc31 := NB333_334.out; have Y32_0 := zC (.int .i64 0) BK334 0; have Y32_1 := zC (.int .i64 0) BK334 1; have X32_0 := blk_frozen BK334.out 0; have X32_1 := blk_frozen BK334.out 1; have hnb33 := NB333_323.out; have hnc33 := NB323_333.out; have Y34_0 := zC (.int .i64 0) BK333 0; have Y34_1 := zC (.int .i64 0) BK333 1; have X34_0 := blk_frozen BK333.out 0; have X34_1 := blk_frozen BK333.out 1
     go_wp2
     go_meet
     case rel => exact ⟨_, (wrap64 (t332 - t330)), (wrap64 (t331 - t329)), zR, zR, H', ⟨by have := HJ2.out; first | omega | exact Nat.le_refl _⟩, ⟨by refine zf ?_ NB323_334; refine zf ?_ NB323_334; refine zf ?_ NB323_333; refine zf ?_ NB323_333; exact pK BK323.out⟩, ⟨by refine zf ?_ NB333_334; refine zf ?_ NB333_334; refine zg #[.int .i64 t329, .int .i64 0] 1 ?_; refine zg #[.int .i64 0, .int .i64 0] 0 ?_; exact pK BK333.out⟩, ⟨by refine zg #[.int .i64 t331, .int .i64 0] 1 ?_; refine zg #[.int .i64 0, .int .i64 0] 0 ?_; refine zf ?_ NB334_333; refine zf ?_ NB334_333; exact pK BK334.out⟩, ⟨pB3 HB.out GE323.out GE333.out GE334.out⟩⟩
    case rest =>
     clear HC18; (try clear c1); (try clear c2); (try clear p2); (try clear c3); (try clear p3); (try clear q3); (try clear hx3); (try clear qi3); (try clear c5); (try clear c6); (try clear p6); (try clear c11); (try clear c13); (try clear c13b0); (try clear c13b1); (try clear c13b2); (try clear c17); (try clear c17b0); (try clear c17b1); (try clear c24); (try clear c25); (try clear c27); (try clear c29); (try clear c29b0); (try clear c29b1); (try clear c30); (try clear c31); (try clear c33); (try clear p33); (try clear q33); (try clear hx33); (try clear qi33); (try clear Y26_0 Y26_1); (try clear Y28_0 Y28_1); (try clear Y32_0 Y32_1); (try clear Y34_0 Y34_1); (try clear X26_0 X26_1); (try clear X28_0 X28_1); (try clear X32_0 X32_1); (try clear X34_0 X34_1); (try clear hx335_0); (try clear p2); (try clear p335); (try clear q335); obtain ⟨kq, x9_17, x10_17, rfl, rfl, HA, HJ17, BK323, BK333, BK334, HB⟩ := hcut
     cases kq with
     | zero => exact absurd HA.out (by simp [spec_OffcutsOf.j1])
     | succ kj17 =>
       have H := HA.out; clear HA; simp only [spec_OffcutsOf.j1] at H; obtain ⟨y336, hy336⟩ : ∃ y_ : List (S103), y_ = (([] : List (S103))) := ⟨_, rfl⟩
       replace H : (if x9_17 < a0_6 then (if y336.length < 4398046511104 then ((some (y336 ++ [(⟨x9_17, 0, wrap64 (a0_6 - x9_17), x10_17⟩ : S103)] : List (S103))).bind fun y339 => (if x10_17 < a0_7 then (if y339.length < 4398046511104 then (some ((y339 ++ [(⟨0, x10_17, a0_6, wrap64 (a0_7 - x10_17)⟩ : S103)]), 0)) else (none)) else (some (y339, 0)))) else (none)) else (if x10_17 < a0_7 then (if y336.length < 4398046511104 then (some ((y336 ++ [(⟨0, x10_17, a0_6, wrap64 (a0_7 - x10_17)⟩ : S103)]), 0)) else (none)) else (some (y336, 0)))) = some (r1, r2) := zY hy336 H
       have Ny336 := Aside0.mk hy336; clear hy336
       by_cases c35 : x9_17 < a0_6
       rotate_left
       · rw [if_neg c35] at H
         have c35b0 := decide_eq_false c35; clear c35
         by_cases c54 : x10_17 < a0_7
         rotate_left
         · rw [if_neg c54] at H
           have c54b0 := decide_eq_false c54; clear c54; simp only [Option.some.injEq, Prod.mk.injEq] at H; obtain ⟨rfl, rfl⟩ := H
           go_wp2_with (first | ((with_reducible refine zI 54 rfl ?_); refine Kd.R_lit k103 _ 103 ?hg (N := 54) ?hd (xs := ([] : List (S103))) (inner := []) (ok := fun _ => True) (okp := fun _ => True) ?hr ?hp (fun _ hk => hk) trivial (Below.refl _ _) (Nat.le_refl _) (by simp) ?_; (case hd => rfl); (case hg => rfl); (case hr => first | (go_simp; done) | (go_simp; rfl)); (case hp => exact (Reps.none _ _)); intro v337 w62 ho63 hb hg_ hnew_; clear hg_ hnew_; (first | rw [← Ny336.out] at ho63 | (simp only [Int.reduceToNat] at ho63; rw [← Ny336.out] at ho63)); have HO338 := Aside0.mk (Kd.R_lower ho63 (below_size (pB3 HB.out GE323.out GE333.out GE334.out))); replace BK323 := zK BK323 hb; replace BK333 := zK BK333 hb; replace BK334 := zK BK334 hb; replace HB := zW (pB3 HB.out GE323.out GE333.out GE334.out) hb; clear hb ho63; have hnb64 := NB323_333.out; have hnc64 := NB333_323.out; have hnb65 := NB323_334.out; have hnc65 := NB334_323.out; obtain ⟨Y66_0, X66_0, Y66_1, X66_1, Y66_2, X66_2, Y66_3, X66_3, Y66_4, X66_4, Y66_5, X66_5, Y66_6, X66_6, Y66_7, X66_7, Y66_8, X66_8⟩ := zw9 BK323))
           go_ret2
           exact ⟨_, zE, by (with_reducible repeat (first | apply Kd.R_alloc | apply Kd.R_drewN | apply Kd.R_drew)); exact HO338.out, pB3 HB.out GE323.out GE333.out GE334.out⟩
         rw [if_pos c54] at H; have c54b0 := decide_eq_true c54; clear c54
         by_cases c55 : y336.length < 4398046511104
         rotate_left
         · rw [if_neg c55] at H
           exact absurd H (by simp)
         rw [if_pos c55] at H; have LMc55 := Aside0.mk c55; clear c55; obtain ⟨y345, hy345⟩ : ∃ y_ : List (S103), y_ = (y336 ++ [(⟨0, x10_17, a0_6, wrap64 (a0_7 - x10_17)⟩ : S103)]) := ⟨_, rfl⟩; replace H : (some (y345, 0)) = some (r1, r2) := zY hy345 H; have Ny345 := Aside0.mk hy345; clear hy345; simp only [Option.some.injEq, Prod.mk.injEq] at H; obtain ⟨rfl, rfl⟩ := H
         go_wp2_with (first | ((with_reducible refine zI 54 rfl ?_); refine Kd.R_lit k103 _ 103 ?hg (N := 54) ?hd (xs := ([] : List (S103))) (inner := []) (ok := fun _ => True) (okp := fun _ => True) ?hr ?hp (fun _ hk => hk) trivial (Below.refl _ _) (Nat.le_refl _) (by simp) ?_; (case hd => rfl); (case hg => rfl); (case hr => first | (go_simp; done) | (go_simp; rfl)); (case hp => exact (Reps.none _ _)); intro v337 w56 ho57 hb hg_ hnew_; clear hg_ hnew_; (first | rw [← Ny336.out] at ho57 | (simp only [Int.reduceToNat] at ho57; rw [← Ny336.out] at ho57)); have HO338 := Aside0.mk (Kd.R_lower ho57 (below_size (pB3 HB.out GE323.out GE333.out GE334.out))); replace BK323 := zK BK323 hb; replace BK333 := zK BK333 hb; replace BK334 := zK BK334 hb; replace HB := zW (pB3 HB.out GE323.out GE333.out GE334.out) hb; clear hb ho57; have hnb58 := NB323_333.out; have hnc58 := NB333_323.out; have hnb59 := NB323_334.out; have hnc59 := NB334_323.out; obtain ⟨Y60_0, X60_0, Y60_1, X60_1, Y60_2, X60_2, Y60_3, X60_3, Y60_4, X60_4, Y60_5, X60_5, Y60_6, X60_6, Y60_7, X60_7, Y60_8, X60_8⟩ := zw9 BK323) | ((with_reducible refine gate_builtin (b := .append) (xs := #[.tmp 73, .tmp 82]) rfl ?_); at_builtin; refine Kd.R_append k103 (w0 := w) w.heap.size rfl (.tmp 73) (.tmp 82) 34 103 (.agg #[(.int .i64 0), (.int .i64 0), (.int .i64 0), (.int .i64 0)]) 32 rfl Try.underlying34 info103 rfl (by decide) (by omega) v337 y336 (⟨0, x10_17, a0_6, wrap64 (a0_7 - x10_17)⟩ : S103) [.int .i64 0, .int .i64 x10_17, .int .i64 a0_6, .int .i64 (wrap64 (a0_7 - x10_17))] (fun _ => True) (fun _ => False) rfl rfl ?aP (fun _ hk => hk.elim) ?aF ?aO ?aB ?aS ?aL ?_; (case aP => exact k103_mkM _ _ _ (⟨0, x10_17, a0_6, wrap64 (a0_7 - x10_17)⟩ : S103)); (case aB => exact (pB3 HB.out GE323.out GE333.out GE334.out)); (case aF => exact (fun _ _ => trivial)); (case aO => exact (pR HO338.out)); (case aS => exact (below_size (pB3 HB.out GE323.out GE333.out GE334.out))); (case aL => have := LMc55.out; omega); intro v346 w61 ho hb hg hat; rw [← Ny345.out] at ho; have HO347 := Aside0.mk (ho); replace BK323 := Aside0.mk (blk_grown (g := gb323) (o := .cells #[.string a0_0, .string a0_1, .int .i64 a0_2, .string a0_3, .int .i64 a0_4, .int .i64 a0_5, .int .i64 a0_6, .int .i64 a0_7, .slice A0_8 l0_8.length c0_8] 36 (0, 0)) (pK BK323.out) hg (Kd.R_ne HO338.out BK323.out (by decide))); replace BK333 := Aside0.mk (blk_grown (g := gb333) (o := .cells #[.int .i64 t329, .int .i64 t330] 91 (0, 0)) (pK BK333.out) hg (Kd.R_ne HO338.out BK333.out (by decide))); replace BK334 := Aside0.mk (blk_grown (g := gb334) (o := .cells #[.int .i64 t331, .int .i64 t332] 91 (0, 0)) (pK BK334.out) hg (Kd.R_ne HO338.out BK334.out (by decide))); replace HB := Aside0.mk (hb); clear HO338; clear ho hb hg hat))
         go_ret2
         exact ⟨_, zE, by (with_reducible repeat (first | apply Kd.R_alloc | apply Kd.R_drewN | apply Kd.R_drew)); exact HO347.out, pB3 HB.out GE323.out GE333.out GE334.out⟩
       rw [if_pos c35] at H; have c35b0 := decide_eq_true c35; clear c35
       by_cases c36 : y336.length < 4398046511104
       rotate_left
       · rw [if_neg c36] at H
         exact absurd H (by simp)
       rw [if_pos c36] at H; have LMc36 := Aside0.mk c36; clear c36; obtain ⟨y339, hy339⟩ : ∃ y_ : List (S103), y_ = (y336 ++ [(⟨x9_17, 0, wrap64 (a0_6 - x9_17), x10_17⟩ : S103)]) := ⟨_, rfl⟩; replace H : (if x10_17 < a0_7 then (if y339.length < 4398046511104 then (some ((y339 ++ [(⟨0, x10_17, a0_6, wrap64 (a0_7 - x10_17)⟩ : S103)]), 0)) else (none)) else (some (y339, 0))) = some (r1, r2) := zY hy339 H; have Ny339 := Aside0.mk hy339; clear hy339
       by_cases c37 : x10_17 < a0_7
       rotate_left
       · rw [if_neg c37] at H
         have c37b0 := decide_eq_false c37; clear c37; simp only [Option.some.injEq, Prod.mk.injEq] at H; obtain ⟨rfl, rfl⟩ := H
         go_wp2_with (first | ((with_reducible refine zI 54 rfl ?_); refine Kd.R_lit k103 _ 103 ?hg (N := 54) ?hd (xs := ([] : List (S103))) (inner := []) (ok := fun _ => True) (okp := fun _ => True) ?hr ?hp (fun _ hk => hk) trivial (Below.refl _ _) (Nat.le_refl _) (by simp) ?_; (case hd => rfl); (case hg => rfl); (case hr => first | (go_simp; done) | (go_simp; rfl)); (case hp => exact (Reps.none _ _)); intro v337 w47 ho48 hb hg_ hnew_; clear hg_ hnew_; (first | rw [← Ny336.out] at ho48 | (simp only [Int.reduceToNat] at ho48; rw [← Ny336.out] at ho48)); have HO338 := Aside0.mk (Kd.R_lower ho48 (below_size (pB3 HB.out GE323.out GE333.out GE334.out))); replace BK323 := zK BK323 hb; replace BK333 := zK BK333 hb; replace BK334 := zK BK334 hb; replace HB := zW (pB3 HB.out GE323.out GE333.out GE334.out) hb; clear hb ho48; have hnb49 := NB323_333.out; have hnc49 := NB333_323.out; have hnb50 := NB323_334.out; have hnc50 := NB334_323.out; obtain ⟨Y51_0, X51_0, Y51_1, X51_1, Y51_2, X51_2, Y51_3, X51_3, Y51_4, X51_4, Y51_5, X51_5, Y51_6, X51_6, Y51_7, X51_7, Y51_8, X51_8⟩ := zw9 BK323) | ((with_reducible refine gate_builtin (b := .append) (xs := #[.tmp 59, .tmp 67]) rfl ?_); at_builtin; refine Kd.R_append k103 (w0 := w) w.heap.size rfl (.tmp 59) (.tmp 67) 34 103 (.agg #[(.int .i64 0), (.int .i64 0), (.int .i64 0), (.int .i64 0)]) 32 rfl Try.underlying34 info103 rfl (by decide) (by omega) v337 y336 (⟨x9_17, 0, wrap64 (a0_6 - x9_17), x10_17⟩ : S103) [.int .i64 x9_17, .int .i64 0, .int .i64 (wrap64 (a0_6 - x9_17)), .int .i64 x10_17] (fun _ => True) (fun _ => False) rfl rfl ?aP (fun _ hk => hk.elim) ?aF ?aO ?aB ?aS ?aL ?_; (case aP => exact k103_mkM _ _ _ (⟨x9_17, 0, wrap64 (a0_6 - x9_17), x10_17⟩ : S103)); (case aB => exact (pB3 HB.out GE323.out GE333.out GE334.out)); (case aF => exact (fun _ _ => trivial)); (case aO => exact (pR HO338.out)); (case aS => exact (below_size (pB3 HB.out GE323.out GE333.out GE334.out))); (case aL => have := LMc36.out; omega); intro v340 w52 ho hb hg hat; rw [← Ny339.out] at ho; have HO341 := Aside0.mk (ho); replace BK323 := Aside0.mk (blk_grown (g := gb323) (o := .cells #[.string a0_0, .string a0_1, .int .i64 a0_2, .string a0_3, .int .i64 a0_4, .int .i64 a0_5, .int .i64 a0_6, .int .i64 a0_7, .slice A0_8 l0_8.length c0_8] 36 (0, 0)) (pK BK323.out) hg (Kd.R_ne HO338.out BK323.out (by decide))); replace BK333 := Aside0.mk (blk_grown (g := gb333) (o := .cells #[.int .i64 t329, .int .i64 t330] 91 (0, 0)) (pK BK333.out) hg (Kd.R_ne HO338.out BK333.out (by decide))); replace BK334 := Aside0.mk (blk_grown (g := gb334) (o := .cells #[.int .i64 t331, .int .i64 t332] 91 (0, 0)) (pK BK334.out) hg (Kd.R_ne HO338.out BK334.out (by decide))); replace HB := Aside0.mk (hb); clear HO338; clear ho hb hg hat; obtain ⟨Y53_0, X53_0, Y53_1, X53_1, Y53_2, X53_2, Y53_3, X53_3, Y53_4, X53_4, Y53_5, X53_5, Y53_6, X53_6, Y53_7, X53_7, Y53_8, X53_8⟩ := zw9 BK323))
         go_ret2
         exact ⟨_, zE, by (with_reducible repeat (first | apply Kd.R_alloc | apply Kd.R_drewN | apply Kd.R_drew)); exact HO341.out, pB3 HB.out GE323.out GE333.out GE334.out⟩
       rw [if_pos c37] at H; have c37b0 := decide_eq_true c37; clear c37
       by_cases c38 : y339.length < 4398046511104
       rotate_left
       · rw [if_neg c38] at H
         exact absurd H (by simp)
       rw [if_pos c38] at H; have LMc38 := Aside0.mk c38; clear c38; obtain ⟨y342, hy342⟩ : ∃ y_ : List (S103), y_ = (y339 ++ [(⟨0, x10_17, a0_6, wrap64 (a0_7 - x10_17)⟩ : S103)]) := ⟨_, rfl⟩; replace H : (some (y342, 0)) = some (r1, r2) := zY hy342 H; have Ny342 := Aside0.mk hy342; clear hy342; simp only [Option.some.injEq, Prod.mk.injEq] at H; obtain ⟨rfl, rfl⟩ := H
       go_wp2_with (first | ((with_reducible refine zI 54 rfl ?_); refine Kd.R_lit k103 _ 103 ?hg (N := 54) ?hd (xs := ([] : List (S103))) (inner := []) (ok := fun _ => True) (okp := fun _ => True) ?hr ?hp (fun _ hk => hk) trivial (Below.refl _ _) (Nat.le_refl _) (by simp) ?_; (case hd => rfl); (case hg => rfl); (case hr => first | (go_simp; done) | (go_simp; rfl)); (case hp => exact (Reps.none _ _)); intro v337 w39 ho40 hb hg_ hnew_; clear hg_ hnew_; (first | rw [← Ny336.out] at ho40 | (simp only [Int.reduceToNat] at ho40; rw [← Ny336.out] at ho40)); have HO338 := Aside0.mk (Kd.R_lower ho40 (below_size (pB3 HB.out GE323.out GE333.out GE334.out))); replace BK323 := zK BK323 hb; replace BK333 := zK BK333 hb; replace BK334 := zK BK334 hb; replace HB := zW (pB3 HB.out GE323.out GE333.out GE334.out) hb; clear hb ho40; have hnb41 := NB323_333.out; have hnc41 := NB333_323.out; have hnb42 := NB323_334.out; have hnc42 := NB334_323.out; obtain ⟨Y43_0, X43_0, Y43_1, X43_1, Y43_2, X43_2, Y43_3, X43_3, Y43_4, X43_4, Y43_5, X43_5, Y43_6, X43_6, Y43_7, X43_7, Y43_8, X43_8⟩ := zw9 BK323) | ((with_reducible refine gate_builtin (b := .append) (xs := #[.tmp 59, .tmp 67]) rfl ?_); at_builtin; refine Kd.R_append k103 (w0 := w) w.heap.size rfl (.tmp 59) (.tmp 67) 34 103 (.agg #[(.int .i64 0), (.int .i64 0), (.int .i64 0), (.int .i64 0)]) 32 rfl Try.underlying34 info103 rfl (by decide) (by omega) v337 y336 (⟨x9_17, 0, wrap64 (a0_6 - x9_17), x10_17⟩ : S103) [.int .i64 x9_17, .int .i64 0, .int .i64 (wrap64 (a0_6 - x9_17)), .int .i64 x10_17] (fun _ => True) (fun _ => False) rfl rfl ?aP (fun _ hk => hk.elim) ?aF ?aO ?aB ?aS ?aL ?_; (case aP => exact k103_mkM _ _ _ (⟨x9_17, 0, wrap64 (a0_6 - x9_17), x10_17⟩ : S103)); (case aB => exact (pB3 HB.out GE323.out GE333.out GE334.out)); (case aF => exact (fun _ _ => trivial)); (case aO => exact (pR HO338.out)); (case aS => exact (below_size (pB3 HB.out GE323.out GE333.out GE334.out))); (case aL => have := LMc36.out; omega); intro v340 w44 ho hb hg hat; rw [← Ny339.out] at ho; have HO341 := Aside0.mk (ho); replace BK323 := Aside0.mk (blk_grown (g := gb323) (o := .cells #[.string a0_0, .string a0_1, .int .i64 a0_2, .string a0_3, .int .i64 a0_4, .int .i64 a0_5, .int .i64 a0_6, .int .i64 a0_7, .slice A0_8 l0_8.length c0_8] 36 (0, 0)) (pK BK323.out) hg (Kd.R_ne HO338.out BK323.out (by decide))); replace BK333 := Aside0.mk (blk_grown (g := gb333) (o := .cells #[.int .i64 t329, .int .i64 t330] 91 (0, 0)) (pK BK333.out) hg (Kd.R_ne HO338.out BK333.out (by decide))); replace BK334 := Aside0.mk (blk_grown (g := gb334) (o := .cells #[.int .i64 t331, .int .i64 t332] 91 (0, 0)) (pK BK334.out) hg (Kd.R_ne HO338.out BK334.out (by decide))); replace HB := Aside0.mk (hb); clear HO338; clear ho hb hg hat; obtain ⟨Y45_0, X45_0, Y45_1, X45_1, Y45_2, X45_2, Y45_3, X45_3, Y45_4, X45_4, Y45_5, X45_5, Y45_6, X45_6, Y45_7, X45_7, Y45_8, X45_8⟩ := zw9 BK323) | ((with_reducible refine gate_builtin (b := .append) (xs := #[.tmp 73, .tmp 82]) rfl ?_); at_builtin; refine Kd.R_append k103 (w0 := w) w.heap.size rfl (.tmp 73) (.tmp 82) 34 103 (.agg #[(.int .i64 0), (.int .i64 0), (.int .i64 0), (.int .i64 0)]) 32 rfl Try.underlying34 info103 rfl (by decide) (by omega) v340 y339 (⟨0, x10_17, a0_6, wrap64 (a0_7 - x10_17)⟩ : S103) [.int .i64 0, .int .i64 x10_17, .int .i64 a0_6, .int .i64 (wrap64 (a0_7 - x10_17))] (fun _ => True) (fun _ => False) rfl rfl ?aP (fun _ hk => hk.elim) ?aF ?aO ?aB ?aS ?aL ?_; (case aP => exact k103_mkM _ _ _ (⟨0, x10_17, a0_6, wrap64 (a0_7 - x10_17)⟩ : S103)); (case aB => exact (pB3 HB.out GE323.out GE333.out GE334.out)); (case aF => exact (fun _ _ => trivial)); (case aO => exact (pR HO341.out)); (case aS => exact (below_size (pB3 HB.out GE323.out GE333.out GE334.out))); (case aL => have := LMc38.out; omega); intro v343 w46 ho hb hg hat; rw [← Ny342.out] at ho; have HO344 := Aside0.mk (ho); replace BK323 := Aside0.mk (blk_grown (g := gb323) (o := .cells #[.string a0_0, .string a0_1, .int .i64 a0_2, .string a0_3, .int .i64 a0_4, .int .i64 a0_5, .int .i64 a0_6, .int .i64 a0_7, .slice A0_8 l0_8.length c0_8] 36 (0, 0)) (pK BK323.out) hg (Kd.R_ne HO341.out BK323.out (by decide))); replace BK333 := Aside0.mk (blk_grown (g := gb333) (o := .cells #[.int .i64 t329, .int .i64 t330] 91 (0, 0)) (pK BK333.out) hg (Kd.R_ne HO341.out BK333.out (by decide))); replace BK334 := Aside0.mk (blk_grown (g := gb334) (o := .cells #[.int .i64 t331, .int .i64 t332] 91 (0, 0)) (pK BK334.out) hg (Kd.R_ne HO341.out BK334.out (by decide))); replace HB := Aside0.mk (hb); clear HO341; clear ho hb hg hat))
       go_ret2
       exact ⟨_, zE, by (with_reducible repeat (first | apply Kd.R_alloc | apply Kd.R_drewN | apply Kd.R_drew)); exact HO344.out, pB3 HB.out GE323.out GE333.out GE334.out⟩
def impl_within.f (a0 : Int) (a1 : Int) (a2 : Int) : Option (Bool) := if a0 ≥ a1 then (some (decide (a0 ≤ a2))) else (some false)
set_option maxHeartbeats 8000000 in
set_option maxRecDepth 100000 in
theorem impl_within.calls (a0 : Int) (a1 : Int) (a2 : Int) (r : Bool) (w : World) (h : impl_within.f a0 a1 a2 = some r) :
 Calls Try.prog 83 #[.int .i64 a0, .int .i64 a1, .int .i64 a2] w fun e w' => e = .returned (.bool r) ∧ Drawn0 w w' := by
 have H : (if a0 ≥ a1 then (some (decide (a0 ≤ a2))) else (some false)) = some r := h; clear h
 by_cases c4 : a0 ≥ a1
 · rw [if_pos c4] at H
   have c4b0 := decide_eq_true c4; clear c4; obtain rfl := Option.some.inj H
   go_enter Try.func83, Try.ntmps83
   go_wp2
   go_ret
   exact ⟨by first | rfl | (simp; done) | (simp [*]; done), zV⟩
 rw [if_neg c4] at H; have c4b0 := decide_eq_false c4; clear c4; obtain rfl := Option.some.inj H
 go_enter Try.func83, Try.ntmps83
 go_wp2
 go_ret
 exact ⟨by first | rfl | (simp; done) | (simp [*]; done), zV⟩
def impl_ValidPoint.f (a0_0 : Int) (a0_1 : Int) : Option (Bool) := (impl_within.f a0_0 0 20000).bind fun t349 => (if t349 = true then ((impl_within.f a0_1 0 20000).bind fun t350 => (some t350)) else (some false))
set_option maxHeartbeats 8000000 in
set_option maxRecDepth 100000 in
theorem impl_ValidPoint.calls (a0_0 : Int) (a0_1 : Int) (r : Bool) (w : World) (h : impl_ValidPoint.f a0_0 a0_1 = some r) :
 Calls Try.prog 132 #[.agg #[.int .i64 a0_0, .int .i64 a0_1]] w fun e w' => e = .returned (.bool r) ∧ Below w.heap.size w w' := by
 have hu91 := Try.underlying91; have HB := Aside0.mk (Below.refl w.heap.size w)
 have H : ((impl_within.f a0_0 0 20000).bind fun t349 => (if t349 = true then ((impl_within.f a0_1 0 20000).bind fun t350 => (some t350)) else (some false))) = some r := h
 clear h; replace H := Option.bind_eq_some_iff.mp H; obtain ⟨t349, A20, H⟩ := H; have A2 := Aside0.mk A20; clear A20
 by_cases c3 : t349 = true
 rotate_left
 · replace c3 := Bool.eq_false_iff.mpr c3
   subst c3
   rw [if_neg (show ¬ (false = true) by decide)] at H
   obtain rfl := Option.some.inj H
   go_enter Try.func132, Try.ntmps132
   go_wp2_with (first | ((with_reducible refine zI 1 rfl ?_); refine zB 1 #[.int .i64 a0_0, .int .i64 a0_1] 91 ?_; intro gb348 hg w7 hbox hb; have BK348 := Aside0.mk (hbox); have GW348 := zS (pB0 HB.out) hg; have GE348 := GW348; replace HB := zW (pB0 HB.out) hb; clear hb hbox hg; obtain ⟨Y8_0, X8_0, Y8_1, X8_1⟩ := zw2 BK348) | ((with_reducible refine gate_callee (f := 83) rfl ?_); refine zJ (some 5) Try.func83 #[.int .i64 a0_0, .int .i64 0, .int .i64 20000] ?_; (with_reducible refine (impl_within.calls a0_0 0 20000 false _ A2.out).mono ?_); rintro e w' ⟨rfl, ⟨nd, rfl⟩⟩; refine ⟨_, rfl, ?_⟩))
   go_ret
   exact ⟨zE, pB1 HB.out GE348.out⟩
 subst c3; rw [if_pos rfl] at H; replace H := Option.bind_eq_some_iff.mp H; obtain ⟨t350, A40, H⟩ := H; have A4 := Aside0.mk A40; clear A40; obtain rfl := Option.some.inj H
 go_enter Try.func132, Try.ntmps132
 go_wp2_with (first | ((with_reducible refine zI 1 rfl ?_); refine zB 1 #[.int .i64 a0_0, .int .i64 a0_1] 91 ?_; intro gb348 hg w5 hbox hb; have BK348 := Aside0.mk (hbox); have GW348 := zS (pB0 HB.out) hg; have GE348 := GW348; replace HB := zW (pB0 HB.out) hb; clear hb hbox hg; obtain ⟨Y6_0, X6_0, Y6_1, X6_1⟩ := zw2 BK348) | ((with_reducible refine gate_callee (f := 83) rfl ?_); refine zJ (some 5) Try.func83 #[.int .i64 a0_0, .int .i64 0, .int .i64 20000] ?_; (with_reducible refine (impl_within.calls a0_0 0 20000 true _ A2.out).mono ?_); rintro e w' ⟨rfl, ⟨nd, rfl⟩⟩; refine ⟨_, rfl, ?_⟩) | (go_at_call 83; (with_reducible refine (impl_within.calls a0_1 0 20000 t350 _ A4.out).mono ?_); rintro e w' ⟨rfl, ⟨nd, rfl⟩⟩))
 go_ret
 exact ⟨zE, pB1 HB.out GE348.out⟩
def impl_validPoints.l0 : Nat → List (S91) → Int → Int → Option (Bool)
 | 0, _, _, _ => none
 | k + 1, x5, x6, x7 => if x7 < x6 then (if 0 ≤ x7 then (if x7 < (x5.length : Int) then ((impl_ValidPoint.f ((rd_T91 x5 x7).f0) ((rd_T91 x5 x7).f1)).bind fun t353 => (if t353 = true then (impl_validPoints.l0 k x5 x6 (wrap64 (x7 + 1))) else (some false))) else (none)) else (none)) else (some true)
def impl_validPoints.f (k : Nat) (l0 : List (S91)) : Option (Bool) := impl_validPoints.l0 k l0 (l0.length : Int) 0
theorem impl_validPoints.mono_l : ∀ k, (∀ y0 y1 y2, LeO (impl_validPoints.l0 k y0 y1 y2) (impl_validPoints.l0 (k + 1) y0 y1 y2))
 | 0 => fun _ _ _ r h => by simp [impl_validPoints.l0] at h
 | k + 1 => by
   have ih0 := impl_validPoints.mono_l k
   · intro y0 y1 y2
     unfold impl_validPoints.l0
     repeat' first
     | (with_reducible exact ih0 _ _ _)
     | (with_reducible exact LeO.refl _)
     | (with_reducible exact LeO.none _)
     | (with_reducible refine LeO.ite ?_ ?_)
     | (with_reducible refine LeO.bind ?_ (fun _ => ?_))
     | exact ih0 _ _ _
     | exact LeO.none _
     | refine LeO.ite ?_ ?_
     | refine LeO.bind ?_ (fun _ => ?_)
theorem impl_validPoints.mono : ∀ a0 k, LeO (impl_validPoints.f k a0) (impl_validPoints.f (k + 1) a0) := by
 intro a0 k; have ih0 := impl_validPoints.mono_l k; unfold impl_validPoints.f
 repeat' first
  | (with_reducible exact ih0 _ _ _)
  | (with_reducible exact LeO.refl _)
  | (with_reducible exact LeO.none _)
  | (with_reducible refine LeO.ite ?_ ?_)
  | (with_reducible refine LeO.bind ?_ (fun _ => ?_))
  | exact ih0 _ _ _
  | exact LeO.none _
  | refine LeO.ite ?_ ?_
  | refine LeO.bind ?_ (fun _ => ?_)
set_option maxHeartbeats 8000000 in
set_option maxRecDepth 100000 in
theorem impl_validPoints.calls (k : Nat) (A0 : Option Addr) (c0 : Nat) (l0 : List (S91)) (r : Bool) (w : World) (hr0 : Kd.C k91 w A0 l0.length l0) (hc0 : l0.length ≤ c0) (h : impl_validPoints.f k l0 = some r) :
 Calls Try.prog 95 #[.slice A0 l0.length c0] w fun e w' => e = .returned (.bool r) ∧ Below w.heap.size w w' := by
 have hu91 := Try.underlying91; have HR0 := Aside0.mk hr0; have HC0 := Aside0.mk hc0; clear hr0 hc0; have HB := Aside0.mk (Below.refl w.heap.size w); have H : (impl_validPoints.l0 k l0 (l0.length : Int) 0) = some r := h; clear h; have H' := Aside0.mk H; clear H
 go_enter Try.func95, Try.ntmps95
 go_wp2
 go_loopg [7] k (fun kq v7 w' => ∃ (x7_1 : Int), v7 = .int .i64 x7_1 ∧ Aside0 (impl_validPoints.l0 kq l0 (l0.length : Int) x7_1 = some r) ∧ Aside0 (kq ≤ k) ∧ Aside0 (Below w.heap.size w w'))
 case atStart => exact ⟨(0), zR, H', ⟨Nat.le_refl _⟩, ⟨pB0 HB.out⟩⟩
 case round =>
  clear H'; obtain ⟨x7_1, rfl, HA, HK1, HB⟩ := hrel
  cases gk with
  | zero => exact absurd HA.out (by simp [impl_validPoints.l0])
  | succ k1 =>
    have H := HA.out; clear HA; simp only [impl_validPoints.l0] at H
    by_cases c2 : x7_1 < (l0.length : Int)
    rotate_left
    · rw [if_neg c2] at H
      have c2b0 := decide_eq_false c2; clear c2; obtain rfl := Option.some.inj H
      go_wp2
      go_ret
      exact ⟨zE, pB0 HB.out⟩
    rw [if_pos c2] at H; have c2b0 := decide_eq_true c2; clear c2
    by_cases c3 : 0 ≤ x7_1
    rotate_left
    · rw [if_neg c3] at H
      exact absurd H (by simp)
    rw [if_pos c3] at H; have c3b0 := decide_eq_true c3; clear c3
    by_cases c4 : x7_1 < (l0.length : Int)
    rotate_left
    · rw [if_neg c4] at H
      exact absurd H (by simp)
    rw [if_pos c4] at H; have c4b0 := decide_eq_true c4; clear c4; replace H := Option.bind_eq_some_iff.mp H; obtain ⟨t353, A50, H⟩ := H; have A5 := Aside0.mk A50; clear A50
    by_cases c6 : t353 = true
    rotate_left
    · replace c6 := Bool.eq_false_iff.mpr c6
      subst c6
      rw [if_neg (show ¬ (false = true) by decide)] at H
      obtain rfl := Option.some.inj H; have p351 : 0 ≤ (x7_1 : Int) := zD; have q351 : x7_1 < (l0.length : Int) := zD; obtain ⟨ad351, e351, hx351_0, hx351_1⟩ := at_T91 HR0.out x7_1 p351 q351; cases e351
      try replace hx351_0 := zH HB hx351_0
      try replace hx351_1 := zH HB hx351_1
      replace p351 := eq_true p351; replace q351 := eq_true q351
      go_wp2_with (first | ((with_reducible refine zI 4 rfl ?_); refine zB 4 #[.int .i64 0, .int .i64 0] 91 ?_; intro gb352 hg w10 hbox hb; have BK352 := Aside0.mk (hbox); have GW352 := zS (pB0 HB.out) hg; have GE352 := GW352; replace HB := zW (pB0 HB.out) hb; clear hb hbox hg; obtain ⟨Y11_0, X11_0, Y11_1, X11_1⟩ := zw2 BK352) | ((with_reducible refine gate_callee (f := 132) rfl ?_); refine zJ (some 12) Try.func132 #[.agg #[.int .i64 ((rd_T91 l0 x7_1).f0), .int .i64 ((rd_T91 l0 x7_1).f1)]] ?_; (with_reducible refine (impl_ValidPoint.calls ((rd_T91 l0 x7_1).f0) ((rd_T91 l0 x7_1).f1) false _ A5.out).mono ?_); rintro e w12 ⟨rfl, hb⟩; refine ⟨_, rfl, ?_⟩; replace BK352 := Aside0.mk (blk_below (g := gb352) (o := .cells #[.int .i64 ((rd_T91 l0 x7_1).f0), .int .i64 ((rd_T91 l0 x7_1).f1)] 91 (0, 0)) (by refine zg #[.int .i64 ((rd_T91 l0 x7_1).f0), .int .i64 0] 1 ?_; refine zg #[.int .i64 0, .int .i64 0] 0 ?_; exact pK BK352.out) hb); replace HB := zW (pB1 HB.out GE352.out) hb; (try clear hb); (try clear hb2); (try clear hk); (try clear hi)))
      go_ret
      exact ⟨zE, pB1 HB.out GE352.out⟩
    subst c6; rw [if_pos rfl] at H; have H' := Aside0.mk H; clear H; have p351 : 0 ≤ (x7_1 : Int) := zD; have q351 : x7_1 < (l0.length : Int) := zD; obtain ⟨ad351, e351, hx351_0, hx351_1⟩ := at_T91 HR0.out x7_1 p351 q351; cases e351
    try replace hx351_0 := zH HB hx351_0
    try replace hx351_1 := zH HB hx351_1
    replace p351 := eq_true p351; replace q351 := eq_true q351
    go_wp2_with (first | ((with_reducible refine zI 4 rfl ?_); refine zB 4 #[.int .i64 0, .int .i64 0] 91 ?_; intro gb352 hg w7 hbox hb; have BK352 := Aside0.mk (hbox); have GW352 := zS (pB0 HB.out) hg; have GE352 := GW352; replace HB := zW (pB0 HB.out) hb; clear hb hbox hg; obtain ⟨Y8_0, X8_0, Y8_1, X8_1⟩ := zw2 BK352) | ((with_reducible refine gate_callee (f := 132) rfl ?_); refine zJ (some 12) Try.func132 #[.agg #[.int .i64 ((rd_T91 l0 x7_1).f0), .int .i64 ((rd_T91 l0 x7_1).f1)]] ?_; (with_reducible refine (impl_ValidPoint.calls ((rd_T91 l0 x7_1).f0) ((rd_T91 l0 x7_1).f1) true _ A5.out).mono ?_); rintro e w9 ⟨rfl, hb⟩; refine ⟨_, rfl, ?_⟩; replace BK352 := Aside0.mk (blk_below (g := gb352) (o := .cells #[.int .i64 ((rd_T91 l0 x7_1).f0), .int .i64 ((rd_T91 l0 x7_1).f1)] 91 (0, 0)) (by refine zg #[.int .i64 ((rd_T91 l0 x7_1).f0), .int .i64 0] 1 ?_; refine zg #[.int .i64 0, .int .i64 0] 0 ?_; exact pK BK352.out) hb); replace HB := zW (pB1 HB.out GE352.out) hb; (try clear hb); (try clear hb2); (try clear hk); (try clear hi)))
    go_roundg k1
    case measure => have := HK1.out; omega
    case rel => exact ⟨(wrap64 (x7_1 + 1)), zR, H', ⟨by have := HK1.out; omega⟩, ⟨pB1 HB.out GE352.out⟩⟩
def impl_side.f (a0_0 : Int) (a0_1 : Int) (a1_0 : Int) (a1_1 : Int) (a2_0 : Int) (a2_1 : Int) : Option (Int) := if (wrap64 ((wrap64 ((wrap64 (a1_0 - a0_0)) * (wrap64 (a2_1 - a0_1)))) - (wrap64 ((wrap64 (a1_1 - a0_1)) * (wrap64 (a2_0 - a0_0)))))) > 0 then (some 1) else (if (wrap64 ((wrap64 ((wrap64 (a1_0 - a0_0)) * (wrap64 (a2_1 - a0_1)))) - (wrap64 ((wrap64 (a1_1 - a0_1)) * (wrap64 (a2_0 - a0_0)))))) < 0 then (some (-1)) else (some 0))
set_option maxHeartbeats 8000000 in
set_option maxRecDepth 100000 in
theorem impl_side.calls (a0_0 : Int) (a0_1 : Int) (a1_0 : Int) (a1_1 : Int) (a2_0 : Int) (a2_1 : Int) (r : Int) (w : World) (h : impl_side.f a0_0 a0_1 a1_0 a1_1 a2_0 a2_1 = some r) :
 Calls Try.prog 133 #[.agg #[.int .i64 a0_0, .int .i64 a0_1], .agg #[.int .i64 a1_0, .int .i64 a1_1], .agg #[.int .i64 a2_0, .int .i64 a2_1]] w fun e w' => e = .returned (.int .i64 r) ∧ Below w.heap.size w w' := by
 have hu91 := Try.underlying91; have HB := Aside0.mk (Below.refl w.heap.size w); have H : (if (wrap64 ((wrap64 ((wrap64 (a1_0 - a0_0)) * (wrap64 (a2_1 - a0_1)))) - (wrap64 ((wrap64 (a1_1 - a0_1)) * (wrap64 (a2_0 - a0_0)))))) > 0 then (some 1) else (if (wrap64 ((wrap64 ((wrap64 (a1_0 - a0_0)) * (wrap64 (a2_1 - a0_1)))) - (wrap64 ((wrap64 (a1_1 - a0_1)) * (wrap64 (a2_0 - a0_0)))))) < 0 then (some (-1)) else (some 0))) = some r := h; clear h
 by_cases c4 : (wrap64 ((wrap64 ((wrap64 (a1_0 - a0_0)) * (wrap64 (a2_1 - a0_1)))) - (wrap64 ((wrap64 (a1_1 - a0_1)) * (wrap64 (a2_0 - a0_0)))))) > 0
 · rw [if_pos c4] at H
   have c4b0 := decide_eq_true c4; clear c4; obtain rfl := Option.some.inj H
   go_enter Try.func133, Try.ntmps133
   go_wp2_with (first | ((with_reducible refine zI 3 rfl ?_); refine zB 3 #[.int .i64 a0_0, .int .i64 a0_1] 91 ?_; intro gb354 hg w5 hbox hb; have BK354 := Aside0.mk (hbox); have GW354 := zS (pB0 HB.out) hg; have GE354 := GW354; replace HB := zW (pB0 HB.out) hb; clear hb hbox hg) | ((with_reducible refine zI 4 rfl ?_); refine zB 4 #[.int .i64 a1_0, .int .i64 a1_1] 91 ?_; intro gb355 hg w6 hbox hb; have BK355 := Aside0.mk (hbox); have GW355 := zS (pB1 HB.out GE354.out) hg; have GE355 := GW355; have NB354_355 := zL BK354 hg; have NB355_354 := zM BK354 hg; replace BK354 := zK BK354 hb; replace HB := zW (pB1 HB.out GE354.out) hb; clear hb hbox hg) | ((with_reducible refine zI 5 rfl ?_); refine zB 5 #[.int .i64 a2_0, .int .i64 a2_1] 91 ?_; intro gb356 hg w7 hbox hb; have BK356 := Aside0.mk (hbox); have GW356 := zS (pB2 HB.out GE354.out GE355.out) hg; have GE356 := GW356; have NB354_356 := zL BK354 hg; have NB356_354 := zM BK354 hg; have NB355_356 := zL BK355 hg; have NB356_355 := zM BK355 hg; replace BK354 := zK BK354 hb; replace BK355 := zK BK355 hb; replace HB := zW (pB2 HB.out GE354.out GE355.out) hb; clear hb hbox hg; have hnb8 := NB355_354.out; have hnc8 := NB354_355.out; have hnb9 := NB355_356.out; have hnc9 := NB356_355.out; obtain ⟨Y10_0, X10_0, Y10_1, X10_1⟩ := zw2 BK355; have hnb11 := NB354_356.out; have hnc11 := NB356_354.out; obtain ⟨Y12_0, X12_0, Y12_1, X12_1⟩ := zw2 BK354; obtain ⟨Y13_0, X13_0, Y13_1, X13_1⟩ := zw2 BK356))
   go_ret
   exact ⟨zE, pB3 HB.out GE354.out GE355.out GE356.out⟩
 rw [if_neg c4] at H; have c4b0 := decide_eq_false c4; clear c4
 by_cases c14 : (wrap64 ((wrap64 ((wrap64 (a1_0 - a0_0)) * (wrap64 (a2_1 - a0_1)))) - (wrap64 ((wrap64 (a1_1 - a0_1)) * (wrap64 (a2_0 - a0_0)))))) < 0
 · rw [if_pos c14] at H
   have c14b0 := decide_eq_true c14; clear c14; obtain rfl := Option.some.inj H
   go_enter Try.func133, Try.ntmps133
   go_wp2_with (first | ((with_reducible refine zI 3 rfl ?_); refine zB 3 #[.int .i64 a0_0, .int .i64 a0_1] 91 ?_; intro gb354 hg w15 hbox hb; have BK354 := Aside0.mk (hbox); have GW354 := zS (pB0 HB.out) hg; have GE354 := GW354; replace HB := zW (pB0 HB.out) hb; clear hb hbox hg) | ((with_reducible refine zI 4 rfl ?_); refine zB 4 #[.int .i64 a1_0, .int .i64 a1_1] 91 ?_; intro gb355 hg w16 hbox hb; have BK355 := Aside0.mk (hbox); have GW355 := zS (pB1 HB.out GE354.out) hg; have GE355 := GW355; have NB354_355 := zL BK354 hg; have NB355_354 := zM BK354 hg; replace BK354 := zK BK354 hb; replace HB := zW (pB1 HB.out GE354.out) hb; clear hb hbox hg) | ((with_reducible refine zI 5 rfl ?_); refine zB 5 #[.int .i64 a2_0, .int .i64 a2_1] 91 ?_; intro gb356 hg w17 hbox hb; have BK356 := Aside0.mk (hbox); have GW356 := zS (pB2 HB.out GE354.out GE355.out) hg; have GE356 := GW356; have NB354_356 := zL BK354 hg; have NB356_354 := zM BK354 hg; have NB355_356 := zL BK355 hg; have NB356_355 := zM BK355 hg; replace BK354 := zK BK354 hb; replace BK355 := zK BK355 hb; replace HB := zW (pB2 HB.out GE354.out GE355.out) hb; clear hb hbox hg; have hnb18 := NB355_354.out; have hnc18 := NB354_355.out; have hnb19 := NB355_356.out; have hnc19 := NB356_355.out; obtain ⟨Y20_0, X20_0, Y20_1, X20_1⟩ := zw2 BK355; have hnb21 := NB354_356.out; have hnc21 := NB356_354.out; obtain ⟨Y22_0, X22_0, Y22_1, X22_1⟩ := zw2 BK354; obtain ⟨Y23_0, X23_0, Y23_1, X23_1⟩ := zw2 BK356))
   go_ret
   exact ⟨zE, pB3 HB.out GE354.out GE355.out GE356.out⟩
 rw [if_neg c14] at H; have c14b0 := decide_eq_false c14; clear c14; obtain rfl := Option.some.inj H
 go_enter Try.func133, Try.ntmps133
 go_wp2_with (first | ((with_reducible refine zI 3 rfl ?_); refine zB 3 #[.int .i64 a0_0, .int .i64 a0_1] 91 ?_; intro gb354 hg w24 hbox hb; have BK354 := Aside0.mk (hbox); have GW354 := zS (pB0 HB.out) hg; have GE354 := GW354; replace HB := zW (pB0 HB.out) hb; clear hb hbox hg) | ((with_reducible refine zI 4 rfl ?_); refine zB 4 #[.int .i64 a1_0, .int .i64 a1_1] 91 ?_; intro gb355 hg w25 hbox hb; have BK355 := Aside0.mk (hbox); have GW355 := zS (pB1 HB.out GE354.out) hg; have GE355 := GW355; have NB354_355 := zL BK354 hg; have NB355_354 := zM BK354 hg; replace BK354 := zK BK354 hb; replace HB := zW (pB1 HB.out GE354.out) hb; clear hb hbox hg) | ((with_reducible refine zI 5 rfl ?_); refine zB 5 #[.int .i64 a2_0, .int .i64 a2_1] 91 ?_; intro gb356 hg w26 hbox hb; have BK356 := Aside0.mk (hbox); have GW356 := zS (pB2 HB.out GE354.out GE355.out) hg; have GE356 := GW356; have NB354_356 := zL BK354 hg; have NB356_354 := zM BK354 hg; have NB355_356 := zL BK355 hg; have NB356_355 := zM BK355 hg; replace BK354 := zK BK354 hb; replace BK355 := zK BK355 hb; replace HB := zW (pB2 HB.out GE354.out GE355.out) hb; clear hb hbox hg; have hnb27 := NB355_354.out; have hnc27 := NB354_355.out; have hnb28 := NB355_356.out; have hnc28 := NB356_355.out; obtain ⟨Y29_0, X29_0, Y29_1, X29_1⟩ := zw2 BK355; have hnb30 := NB354_356.out; have hnc30 := NB356_354.out; obtain ⟨Y31_0, X31_0, Y31_1, X31_1⟩ := zw2 BK354; obtain ⟨Y32_0, X32_0, Y32_1, X32_1⟩ := zw2 BK356))
 go_ret
 exact ⟨zE, pB3 HB.out GE354.out GE355.out GE356.out⟩
def impl_on.f (a0_0 : Int) (a0_1 : Int) (a1_0 : Int) (a1_1 : Int) (a2_0 : Int) (a2_1 : Int) : Option (Bool) := (impl_side.f a0_0 a0_1 a1_0 a1_1 a2_0 a2_1).bind fun t360 => (if t360 = 0 then ((impl_within.f a2_0 (mn a0_0 a1_0) (mx a0_0 a1_0)).bind fun t361 => (if t361 = true then ((impl_within.f a2_1 (mn a0_1 a1_1) (mx a0_1 a1_1)).bind fun t362 => (some t362)) else (some false))) else (some false))
set_option maxHeartbeats 8000000 in
set_option maxRecDepth 100000 in
theorem impl_on.calls (a0_0 : Int) (a0_1 : Int) (a1_0 : Int) (a1_1 : Int) (a2_0 : Int) (a2_1 : Int) (r : Bool) (w : World) (h : impl_on.f a0_0 a0_1 a1_0 a1_1 a2_0 a2_1 = some r) :
 Calls Try.prog 96 #[.agg #[.int .i64 a0_0, .int .i64 a0_1], .agg #[.int .i64 a1_0, .int .i64 a1_1], .agg #[.int .i64 a2_0, .int .i64 a2_1]] w fun e w' => e = .returned (.bool r) ∧ Below w.heap.size w w' := by
 have hu91 := Try.underlying91; have HB := Aside0.mk (Below.refl w.heap.size w)
 have H : ((impl_side.f a0_0 a0_1 a1_0 a1_1 a2_0 a2_1).bind fun t360 => (if t360 = 0 then ((impl_within.f a2_0 (mn a0_0 a1_0) (mx a0_0 a1_0)).bind fun t361 => (if t361 = true then ((impl_within.f a2_1 (mn a0_1 a1_1) (mx a0_1 a1_1)).bind fun t362 => (some t362)) else (some false))) else (some false))) = some r := h
 clear h; replace H := Option.bind_eq_some_iff.mp H; obtain ⟨t360, A40, H⟩ := H; have A4 := Aside0.mk A40; clear A40
 by_cases c5 : t360 = 0
 rotate_left
 · rw [if_neg c5] at H
   have c5b0 : (t360 == 0) = false := beq_eq_false_iff_ne.mpr c5; have c5b1 : (t360 != 0) = true := bne_iff_ne.mpr c5; obtain rfl := Option.some.inj H
   go_enter Try.func96, Try.ntmps96
   go_wp2_with (first | ((with_reducible refine zI 3 rfl ?_); (try (refine gate_guard (by rfl) ?_; dsimp only)); refine zB 3 #[.int .i64 a0_0, .int .i64 a0_1] 91 ?_; intro gb357 hg w39 hbox hb; have BK357 := Aside0.mk (hbox); have GW357 := zS (pB0 HB.out) hg; have GE357 := GW357; replace HB := zW (pB0 HB.out) hb; clear hb hbox hg) | ((with_reducible refine zI 4 rfl ?_); (try (refine gate_guard (by rfl) ?_; dsimp only)); refine zB 4 #[.int .i64 a1_0, .int .i64 a1_1] 91 ?_; intro gb358 hg w40 hbox hb; have BK358 := Aside0.mk (hbox); have GW358 := zS (pB1 HB.out GE357.out) hg; have GE358 := GW358; have NB357_358 := zL BK357 hg; have NB358_357 := zM BK357 hg; replace BK357 := zK BK357 hb; replace HB := zW (pB1 HB.out GE357.out) hb; clear hb hbox hg) | ((with_reducible refine zI 5 rfl ?_); (try (refine gate_guard (by rfl) ?_; dsimp only)); refine zB 5 #[.int .i64 a2_0, .int .i64 a2_1] 91 ?_; intro gb359 hg w41 hbox hb; have BK359 := Aside0.mk (hbox); have GW359 := zS (pB2 HB.out GE357.out GE358.out) hg; have GE359 := GW359; have NB357_359 := zL BK357 hg; have NB359_357 := zM BK357 hg; have NB358_359 := zL BK358 hg; have NB359_358 := zM BK358 hg; replace BK357 := zK BK357 hb; replace BK358 := zK BK358 hb; replace HB := zW (pB2 HB.out GE357.out GE358.out) hb; clear hb hbox hg; have hnb42 := NB357_358.out; have hnc42 := NB358_357.out; have hnb43 := NB357_359.out; have hnc43 := NB359_357.out; obtain ⟨Y44_0, X44_0, Y44_1, X44_1⟩ := zw2 BK357; have hnb45 := NB358_359.out; have hnc45 := NB359_358.out; obtain ⟨Y46_0, X46_0, Y46_1, X46_1⟩ := zw2 BK358; obtain ⟨Y47_0, X47_0, Y47_1, X47_1⟩ := zw2 BK359) | ((with_reducible refine gate_callee (f := 133) rfl ?_); refine zJ (some 10) Try.func133 #[.agg #[.int .i64 a0_0, .int .i64 a0_1], .agg #[.int .i64 a1_0, .int .i64 a1_1], .agg #[.int .i64 a2_0, .int .i64 a2_1]] ?_; (with_reducible refine (impl_side.calls a0_0 a0_1 a1_0 a1_1 a2_0 a2_1 t360 _ A4.out).mono ?_); rintro e w48 ⟨rfl, hb⟩; refine ⟨_, rfl, ?_⟩; replace BK357 := zK BK357 hb; replace BK358 := zK BK358 hb; replace BK359 := zK BK359 hb; replace HB := zW (pB3 HB.out GE357.out GE358.out GE359.out) hb; (try clear hb); (try clear hb2); (try clear hk); (try clear hi)))
   go_ret
   exact ⟨zE, pB3 HB.out GE357.out GE358.out GE359.out⟩
 rw [if_pos c5] at H; have c5b0 : (t360 == 0) = true := beq_iff_eq.mpr c5; have c5b1 : (t360 != 0) = false := bne_eq_false_iff_eq.mpr c5; clear c5; obtain ⟨ji6, hji6⟩ : ∃ j_ : Int, (mn a0_0 a1_0) = j_ := ⟨_, rfl⟩
 replace H : ((impl_within.f a2_0 (ji6) (mx a0_0 a1_0)).bind fun t361 => (if t361 = true then ((impl_within.f a2_1 (mn a0_1 a1_1) (mx a0_1 a1_1)).bind fun t362 => (some t362)) else (some false))) = some r := by first | (rw [hji6] at H; exact H) | (simp only [hji6] at H ⊢; exact H)
 (try rw [hji6] at A4); have hji6_ : (if a1_0 < a0_0 then a1_0 else a0_0) = ji6 := hji6; obtain ⟨ji7, hji7⟩ : ∃ j_ : Int, (mx a0_0 a1_0) = j_ := ⟨_, rfl⟩
 replace H : ((impl_within.f a2_0 (ji6) (ji7)).bind fun t361 => (if t361 = true then ((impl_within.f a2_1 (mn a0_1 a1_1) (mx a0_1 a1_1)).bind fun t362 => (some t362)) else (some false))) = some r := by first | (rw [hji7] at H; exact H) | (simp only [hji7] at H ⊢; exact H)
 (try rw [hji7] at A4); have hji7_ : (if a0_0 < a1_0 then a1_0 else a0_0) = ji7 := hji7; replace H := Option.bind_eq_some_iff.mp H; obtain ⟨t361, A80, H⟩ := H; have A8 := Aside0.mk A80; clear A80
 by_cases c9 : t361 = true
 rotate_left
 · replace c9 := Bool.eq_false_iff.mpr c9
   subst c9
   rw [if_neg (show ¬ (false = true) by decide)] at H
   obtain rfl := Option.some.inj H
   go_enter Try.func96, Try.ntmps96
   go_wp2_with (first | ((with_reducible refine zI 3 rfl ?_); (try (refine gate_guard (by rfl) ?_; dsimp only)); refine zB 3 #[.int .i64 a0_0, .int .i64 a0_1] 91 ?_; intro gb357 hg w26 hbox hb; have BK357 := Aside0.mk (hbox); have GW357 := zS (pB0 HB.out) hg; have GE357 := GW357; replace HB := zW (pB0 HB.out) hb; clear hb hbox hg) | ((with_reducible refine zI 4 rfl ?_); (try (refine gate_guard (by rfl) ?_; dsimp only)); refine zB 4 #[.int .i64 a1_0, .int .i64 a1_1] 91 ?_; intro gb358 hg w27 hbox hb; have BK358 := Aside0.mk (hbox); have GW358 := zS (pB1 HB.out GE357.out) hg; have GE358 := GW358; have NB357_358 := zL BK357 hg; have NB358_357 := zM BK357 hg; replace BK357 := zK BK357 hb; replace HB := zW (pB1 HB.out GE357.out) hb; clear hb hbox hg) | ((with_reducible refine zI 5 rfl ?_); (try (refine gate_guard (by rfl) ?_; dsimp only)); refine zB 5 #[.int .i64 a2_0, .int .i64 a2_1] 91 ?_; intro gb359 hg w28 hbox hb; have BK359 := Aside0.mk (hbox); have GW359 := zS (pB2 HB.out GE357.out GE358.out) hg; have GE359 := GW359; have NB357_359 := zL BK357 hg; have NB359_357 := zM BK357 hg; have NB358_359 := zL BK358 hg; have NB359_358 := zM BK358 hg; replace BK357 := zK BK357 hb; replace BK358 := zK BK358 hb; replace HB := zW (pB2 HB.out GE357.out GE358.out) hb; clear hb hbox hg; have hnb29 := NB357_358.out; have hnc29 := NB358_357.out; have hnb30 := NB357_359.out; have hnc30 := NB359_357.out; obtain ⟨Y31_0, X31_0, Y31_1, X31_1⟩ := zw2 BK357; have hnb32 := NB358_359.out; have hnc32 := NB359_358.out; obtain ⟨Y33_0, X33_0, Y33_1, X33_1⟩ := zw2 BK358; obtain ⟨Y34_0, X34_0, Y34_1, X34_1⟩ := zw2 BK359) | ((with_reducible refine gate_callee (f := 133) rfl ?_); refine zJ (some 10) Try.func133 #[.agg #[.int .i64 a0_0, .int .i64 a0_1], .agg #[.int .i64 a1_0, .int .i64 a1_1], .agg #[.int .i64 a2_0, .int .i64 a2_1]] ?_; (with_reducible refine (impl_side.calls a0_0 a0_1 a1_0 a1_1 a2_0 a2_1 t360 _ A4.out).mono ?_); rintro e w35 ⟨rfl, hb⟩; refine ⟨_, rfl, ?_⟩; replace BK357 := zK BK357 hb; replace BK358 := zK BK358 hb; replace BK359 := zK BK359 hb; replace HB := zW (pB3 HB.out GE357.out GE358.out GE359.out) hb; (try clear hb); (try clear hb2); (try clear hk); (try clear hi); obtain ⟨Y36_0, X36_0, Y36_1, X36_1⟩ := zw2 BK359; obtain ⟨Y37_0, X37_0, Y37_1, X37_1⟩ := zw2 BK357; obtain ⟨Y38_0, X38_0, Y38_1, X38_1⟩ := zw2 BK358) | (go_at_call 83; (with_reducible refine (impl_within.calls a2_0 ji6 ji7 false _ A8.out).mono ?_); rintro e w' ⟨rfl, ⟨nd, rfl⟩⟩))
   go_ret
   exact ⟨by first | rfl | (simp [errW_none, errW_some] <;> rfl) | (simp only [← hji6, ← hji7]; first | rfl | (simp [errW_none, errW_some] <;> rfl)) | (simp [*, errW_none, errW_some] <;> rfl), pB3 HB.out GE357.out GE358.out GE359.out⟩
 subst c9; rw [if_pos rfl] at H; obtain ⟨ji10, hji10⟩ : ∃ j_ : Int, (mn a0_1 a1_1) = j_ := ⟨_, rfl⟩
 replace H : ((impl_within.f a2_1 (ji10) (mx a0_1 a1_1)).bind fun t362 => (some t362)) = some r := by first | (rw [hji10] at H; exact H) | (simp only [hji10] at H ⊢; exact H)
 (try rw [hji10] at A4); (try rw [hji10] at A8); have hji10_ : (if a1_1 < a0_1 then a1_1 else a0_1) = ji10 := hji10; obtain ⟨ji11, hji11⟩ : ∃ j_ : Int, (mx a0_1 a1_1) = j_ := ⟨_, rfl⟩
 replace H : ((impl_within.f a2_1 (ji10) (ji11)).bind fun t362 => (some t362)) = some r := by first | (rw [hji11] at H; exact H) | (simp only [hji11] at H ⊢; exact H)
 (try rw [hji11] at A4); (try rw [hji11] at A8); have hji11_ : (if a0_1 < a1_1 then a1_1 else a0_1) = ji11 := hji11; replace H := Option.bind_eq_some_iff.mp H; obtain ⟨t362, A120, H⟩ := H; have A12 := Aside0.mk A120; clear A120; obtain rfl := Option.some.inj H
 go_enter Try.func96, Try.ntmps96
 go_wp2_with (first | ((with_reducible refine zI 3 rfl ?_); (try (refine gate_guard (by rfl) ?_; dsimp only)); refine zB 3 #[.int .i64 a0_0, .int .i64 a0_1] 91 ?_; intro gb357 hg w13 hbox hb; have BK357 := Aside0.mk (hbox); have GW357 := zS (pB0 HB.out) hg; have GE357 := GW357; replace HB := zW (pB0 HB.out) hb; clear hb hbox hg) | ((with_reducible refine zI 4 rfl ?_); (try (refine gate_guard (by rfl) ?_; dsimp only)); refine zB 4 #[.int .i64 a1_0, .int .i64 a1_1] 91 ?_; intro gb358 hg w14 hbox hb; have BK358 := Aside0.mk (hbox); have GW358 := zS (pB1 HB.out GE357.out) hg; have GE358 := GW358; have NB357_358 := zL BK357 hg; have NB358_357 := zM BK357 hg; replace BK357 := zK BK357 hb; replace HB := zW (pB1 HB.out GE357.out) hb; clear hb hbox hg) | ((with_reducible refine zI 5 rfl ?_); (try (refine gate_guard (by rfl) ?_; dsimp only)); refine zB 5 #[.int .i64 a2_0, .int .i64 a2_1] 91 ?_; intro gb359 hg w15 hbox hb; have BK359 := Aside0.mk (hbox); have GW359 := zS (pB2 HB.out GE357.out GE358.out) hg; have GE359 := GW359; have NB357_359 := zL BK357 hg; have NB359_357 := zM BK357 hg; have NB358_359 := zL BK358 hg; have NB359_358 := zM BK358 hg; replace BK357 := zK BK357 hb; replace BK358 := zK BK358 hb; replace HB := zW (pB2 HB.out GE357.out GE358.out) hb; clear hb hbox hg; have hnb16 := NB357_358.out; have hnc16 := NB358_357.out; have hnb17 := NB357_359.out; have hnc17 := NB359_357.out; obtain ⟨Y18_0, X18_0, Y18_1, X18_1⟩ := zw2 BK357; have hnb19 := NB358_359.out; have hnc19 := NB359_358.out; obtain ⟨Y20_0, X20_0, Y20_1, X20_1⟩ := zw2 BK358; obtain ⟨Y21_0, X21_0, Y21_1, X21_1⟩ := zw2 BK359) | ((with_reducible refine gate_callee (f := 133) rfl ?_); refine zJ (some 10) Try.func133 #[.agg #[.int .i64 a0_0, .int .i64 a0_1], .agg #[.int .i64 a1_0, .int .i64 a1_1], .agg #[.int .i64 a2_0, .int .i64 a2_1]] ?_; (with_reducible refine (impl_side.calls a0_0 a0_1 a1_0 a1_1 a2_0 a2_1 t360 _ A4.out).mono ?_); rintro e w22 ⟨rfl, hb⟩; refine ⟨_, rfl, ?_⟩; replace BK357 := zK BK357 hb; replace BK358 := zK BK358 hb; replace BK359 := zK BK359 hb; replace HB := zW (pB3 HB.out GE357.out GE358.out GE359.out) hb; (try clear hb); (try clear hb2); (try clear hk); (try clear hi); obtain ⟨Y23_0, X23_0, Y23_1, X23_1⟩ := zw2 BK359; obtain ⟨Y24_0, X24_0, Y24_1, X24_1⟩ := zw2 BK357; obtain ⟨Y25_0, X25_0, Y25_1, X25_1⟩ := zw2 BK358) | (go_at_call 83; (with_reducible refine (impl_within.calls a2_0 ji6 ji7 true _ A8.out).mono ?_); rintro e w' ⟨rfl, ⟨nd, rfl⟩⟩) | (go_at_call 83; (with_reducible refine (impl_within.calls a2_1 ji10 ji11 t362 _ A12.out).mono ?_); rintro e w' ⟨rfl, ⟨nd, rfl⟩⟩))
 go_ret
 exact ⟨by first | rfl | (simp [errW_none, errW_some] <;> rfl) | (simp only [← hji6, ← hji7, ← hji10, ← hji11]; first | rfl | (simp [errW_none, errW_some] <;> rfl)) | (simp [*, errW_none, errW_some] <;> rfl), pB3 HB.out GE357.out GE358.out GE359.out⟩
end Go.Proofs.Ytfiiakhpdkdebaa.PFnExactOffcutsOf

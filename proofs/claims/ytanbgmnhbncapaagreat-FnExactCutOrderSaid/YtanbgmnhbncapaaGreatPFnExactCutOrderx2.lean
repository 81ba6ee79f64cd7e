/- What each function that the law FnExactCutOrder reaches comes to, and the proof that its walk comes to it; laid by a program of this session. No condition. -/
import Derived.Test.YtanbgmnhbncapaaGreatPFnExactCutOrderx1
import Derived.KernelRfl
import Derived.OwnWalk
import Derived.Test.YtanbgmnhbncapaaGreatProg
set_option linter.unusedVariables false
set_option linter.unusedSimpArgs false
namespace Go.Proofs.YtanbgmnhbncapaaGreat.PFnExactCutOrder
open Go Go.RowKit Go.Proofs.YtanbgmnhbncapaaGreatM Go.Proofs Go.Proofs.YtanbgmnhbncapaaGreat.SortP
/-! ### slices_IndexFunc_2_int64_2_int64__impl_neighbours_1: function 120 -/
def slices_IndexFunc_2_int64_2_int64__impl_neighbours_1.l0 : Nat → List S89 → List (List S89) → Int → Int → Int → Option (Int)
 | 0, _, _, _, _, _ => none
 | k + 1, x0, x1_0_0, x1_1_0, x7, x8 => if x8 < x7 then (if 0 ≤ x8 then (if x8 < (x0.length : Int) then ((impl_neighbours_1.f k ((rd89 x0 x8).f0) ((rd89 x0 x8).f1) x1_0_0 x1_1_0).bind fun t4 => (if t4 = true then (some x8) else (slices_IndexFunc_2_int64_2_int64__impl_neighbours_1.l0 k x0 x1_0_0 x1_1_0 x7 (wrap64 (x8 + 1))))) else (none)) else (none)) else (some (-1))
def slices_IndexFunc_2_int64_2_int64__impl_neighbours_1.f (k : Nat) (l0 : List S89) (v1_0_0 : List (List S89)) (v1_1_0 : Int) : Option (Int) := slices_IndexFunc_2_int64_2_int64__impl_neighbours_1.l0 k l0 v1_0_0 v1_1_0 (l0.length : Int) 0
set_option maxRecDepth 100000 in
theorem slices_IndexFunc_2_int64_2_int64__impl_neighbours_1.ok {k : Nat} {l0 : List S89} {v1_0_0 : List (List S89)} {v1_1_0 : Int} {r : Int} (H : slices_IndexFunc_2_int64_2_int64__impl_neighbours_1.f k l0 v1_0_0 v1_1_0 = some r) : OkF Tryz.prog 120 [vR 89 (l0.map c89), .c (.d (.fn 108 [.ro [.row 86 (v1_0_0.map c86)], .ro [.v (.int .i64 v1_1_0)]]))] [] (.c (.d (.v (.int .i64 r)))) [] := by
 unfold slices_IndexFunc_2_int64_2_int64__impl_neighbours_1.f at H
 refine OkF.of (N := 19) (rs := [4]) (avs := [.c (.d (.v (.int .i64 r)))]) Tryz.func120 rfl rfl (fun _ _ => results_tmp rfl _ _ _) (by decide) rfl rfl rfl rfl (fun w0 S => ?_)
 refine AG.seq ?_
 refine AG.region HM ?_
 refine a_move (v := vI _) ?_
 refine RA.nil nofun ?_
 refine AG.seq ?_
 refine AG.seq ?_
 refine AG.region HM ?_
 refine a_move (v := vR _ _) ?_
 refine a_lenR ?_ Tryz.underlying86
 refine a_move (v := vI _) ?_
 refine RA.nil nofun ?_
 refine AG.block ?_
 refine AG.loop ?_
 obtain ⟨K0, hK0, gK0⟩ : ∃ K, k ≤ K ∧ K ≤ k := ⟨k, Nat.le_refl k, Nat.le_refl k⟩
 refine AGr.canon id (AGr.loopI (n := k) (fun k s => k ≤ K0 ∧ ∃ (x0 : List S89) (x1_0_0 : List (List S89)) (x1_1_0 : Int) (x7 : Int) (x8 : Int), slices_IndexFunc_2_int64_2_int64__impl_neighbours_1.l0 k x0 x1_0_0 x1_1_0 x7 x8 = some r ∧ s = St.of [(0, vR 89 (x0.map c89)), (1, .c (.d (.fn 108 [.ro [.row 86 (x1_0_0.map c86)], .ro [.v (.int .i64 x1_1_0)]]))), (7, vI x7), (8, vI x8)] []) ⟨hK0, _, _, _, _, _, H, rfl⟩ ?_ ?_) ⟨rfl, rfl, rfl, rfl, trivial⟩ trivial rfl
 ·rintro _ ⟨_, _, _, _, _, _, H, _⟩
  cases H
 ·clear H hK0
  rintro k ih0 _ ⟨hK0, x0, x1_0_0, x1_1_0, x7, x8, H, rfl⟩
  unfold slices_IndexFunc_2_int64_2_int64__impl_neighbours_1.l0 at H
  refine AG.seq ?_
  refine AG.region HM ?_
  refine a_int (u := .bool (decide (x8 < x7))) ?_
  refine RA.nil nofun ?_
  refine AG.seq ?_
  by_cases hc1 : x8 < x7
  ·rw [if_pos hc1] at H
   refine AG.yes rfl (decide_eq_true hc1) ?_
   refine AG.skip ?_
   refine AG.seq ?_
   refine AG.block ?_
   refine AG.seq ?_
   refine AG.region HM ?_
   refine a_move (v := vI _) ?_
   refine a_move (v := vI _) ?_
   refine RA.nil nofun ?_
   refine AG.seq ?_
   refine AG.region HM ?_
   refine a_move (v := .c (.d (.fn _ _))) ?_
   refine a_move (v := vR _ _) ?_
   refine a_move (v := vI _) ?_
   by_cases hc2 : 0 ≤ x8
   ·rw [if_pos hc2] at H
    by_cases hc3 : x8 < (x0.length : Int)
    ·rw [if_pos hc3] at H
     refine a_ixR (el := c89 (rd89 x0 x8)) ?_ ⟨hc2, hc3⟩ T89 Tryz.underlying86 (hel := R89 hc2 hc3)
     refine a_ldR (v := .agg [_, _]) ?_ T89
     obtain ⟨t4, e5, H⟩ := bindO H
     refine a_callW (v := vB t4) (nk := []) (L := []) ?_ rfl rfl (impl_neighbours_1.ok e5) id (qg qn) rfl trivial trivial trivial rfl
     refine RA.nil nofun ?_
     by_cases hc6 : t4 = true
     ·rw [if_pos hc6] at H
      refine AG.yes rfl hc6 ?_
      refine AG.seq ?_
      refine AG.region HM ?_
      refine a_move (v := vI _) ?_
      refine a_move (v := vI _) ?_
      refine RA.nil nofun ?_
      refine AG.ret ?_
      obtain rfl := Option.some.inj H
      exact RetP.mk id ⟨rfl, trivial⟩ trivial rfl
     ·rw [if_neg hc6] at H
      refine AG.no rfl (Bool.eq_false_iff.2 hc6) ?_
      refine AG.skip ?_
      refine AG.region HM ?_
      refine a_int (u := .int .i64 (wrap64 (x8 + 1))) ?_
      refine a_move (v := vI _) ?_
      refine RA.nil nofun ?_
      exact AGr.canon id (ih0 _ (by omega) _ ⟨by omega, _, _, _, _, _, H, rfl⟩) ⟨rfl, rfl, rfl, rfl, trivial⟩ trivial rfl
    ·rw [if_neg hc3] at H
     cases H
   ·rw [if_neg hc2] at H
    cases H
  ·rw [if_neg hc1] at H
   refine AG.no rfl (decide_eq_false hc1) ?_
   refine AG.exit ?_
   refine AG.seq ?_
   refine AG.region HM ?_
   refine a_move (v := vI _) ?_
   refine RA.nil nofun ?_
   refine AG.ret ?_
   obtain rfl := Option.some.inj H
   exact RetP.mk id ⟨rfl, trivial⟩ trivial rfl
/-! ### slices_ContainsFunc_2_int64_2_int64__impl_neighbours_1: function 107 -/
def slices_ContainsFunc_2_int64_2_int64__impl_neighbours_1.f (k : Nat) (l0 : List S89) (v1_0_0 : List (List S89)) (v1_1_0 : Int) : Option (Bool) := (slices_IndexFunc_2_int64_2_int64__impl_neighbours_1.f k l0 v1_0_0 v1_1_0).bind fun t1 => (some (decide (t1 ≥ 0)))
set_option maxRecDepth 100000 in
theorem slices_ContainsFunc_2_int64_2_int64__impl_neighbours_1.ok {k : Nat} {l0 : List S89} {v1_0_0 : List (List S89)} {v1_1_0 : Int} {r : Bool} (H : slices_ContainsFunc_2_int64_2_int64__impl_neighbours_1.f k l0 v1_0_0 v1_1_0 = some r) : OkF Tryz.prog 107 [vR 89 (l0.map c89), .c (.d (.fn 108 [.ro [.row 86 (v1_0_0.map c86)], .ro [.v (.int .i64 v1_1_0)]]))] [] (.c (.d (.v (.bool r)))) [] := by
 unfold slices_ContainsFunc_2_int64_2_int64__impl_neighbours_1.f at H
 refine OkF.of (N := 9) (rs := [4]) (avs := [.c (.d (.v (.bool r)))]) Tryz.func107 rfl rfl (fun _ _ => results_tmp rfl _ _ _) (by decide) rfl rfl rfl rfl (fun w0 S => ?_)
 refine AG.seq ?_
 refine AG.region HM ?_
 refine a_move (v := vB _) ?_
 refine RA.nil nofun ?_
 refine AG.seq ?_
 refine AG.region HM ?_
 refine a_move (v := vR _ _) ?_
 refine a_move (v := .c (.d (.fn _ _))) ?_
 obtain ⟨t1, e2, H⟩ := bindO H
 refine a_call (v := vI t1) (nk := []) (L := []) ?_ rfl (slices_IndexFunc_2_int64_2_int64__impl_neighbours_1.ok e2) id (qd (qd qn)) trivial trivial trivial rfl
 refine a_int (u := .bool (decide (t1 ≥ 0))) ?_
 refine a_move (v := vB _) ?_
 refine RA.nil nofun ?_
 refine AG.ret ?_
 obtain rfl := Option.some.inj H
 exact RetP.mk id ⟨rfl, trivial⟩ trivial rfl
/-! ### impl_neighbours: function 84 -/
mutual
def impl_neighbours.l0 : Nat → List (List S89) → List S72 → Int → Int → Option ((List (List Int)))
 | 0, _, _, _, _ => none
 | k + 1, y204_0, x11, x12, x13 => if x13 < x12 then (if 0 ≤ x13 then (if x13 < (x11.length : Int) then ((impl_ringEdges.f k ((rd72 x11 x13).f1)).bind fun t5 => (if y204_0.length < 5864062014805 then (impl_neighbours.l0 k (y204_0 ++ [t5]) x11 x12 (wrap64 (x13 + 1))) else (none))) else (none)) else (none)) else (if 0 ≤ (y204_0.length : Int) then (if ((y204_0.length : Int) : Int).toNat ≤ 11728124029610 then (impl_neighbours.l1 k y204_0 (List.replicate (((y204_0.length : Int) : Int).toNat) []) (y204_0.length : Int) 0) else (none)) else (none))
def impl_neighbours.l1 : Nat → List (List S89) → List (List Int) → Int → Int → Option ((List (List Int)))
 | 0, _, _, _, _ => none
 | k + 1, y210_0, x6, x28, x29 => if x29 < x28 then (impl_neighbours.l2 k y210_0 x6 x29 x28 x29 (y210_0.length : Int) 0) else (some x6)
def impl_neighbours.l2 : Nat → List (List S89) → List (List Int) → Int → Int → Int → Int → Int → Option ((List (List Int)))
 | 0, _, _, _, _, _, _, _ => none
 | k + 1, y213_0, x6, x7, x28, x29, x33, x34 => if x34 < x33 then (if x7 = x34 then (impl_neighbours.l2 k y213_0 x6 x7 x28 x29 x33 (wrap64 (x34 + 1))) else (if 0 ≤ x7 then (if x7 < (y213_0.length : Int) then ((slices_ContainsFunc_2_int64_2_int64__impl_neighbours_1.f k (rd86 y213_0 x7) y213_0 x34).bind fun t17 => (if t17 = true then (if x7 < (x6.length : Int) then (if (rd27 x6 x7).length < 17592186044416 then (impl_neighbours.l2 k y213_0 (x6.set (x7 : Int).toNat ((rd27 x6 x7) ++ [x34])) x7 x28 x29 x33 (wrap64 (x34 + 1))) else (none)) else (none)) else (impl_neighbours.l2 k y213_0 x6 x7 x28 x29 x33 (wrap64 (x34 + 1))))) else (none)) else (none))) else (impl_neighbours.l1 k y213_0 x6 x28 (wrap64 (x29 + 1)))
end
def impl_neighbours.f (k : Nat) (a0_0 : Int) (a0_1 : Int) (l0_2 : List S50) (l0_3 : List S72) : Option ((List (List Int))) := impl_neighbours.l0 k (([] : List (List S89)) : List (List S89)) l0_3 (l0_3.length : Int) 0
set_option maxRecDepth 100000 in
theorem impl_neighbours.ok {k : Nat} {a0_0 : Int} {a0_1 : Int} {l0_2 : List S50} {l0_3 : List S72} {r : List (List Int)} (H : impl_neighbours.f k a0_0 a0_1 l0_2 l0_3 = some r) : OkF Tryz.prog 84 [.agg [.d (.v (.int .i64 a0_0)), .d (.v (.int .i64 a0_1)), .d (.row 51 (l0_2.map c50)), .d (.row 76 (l0_3.map c72))]] [] (.c (.own 100 r.length)) [(100, .row 27 (r.map c27))] := by
 unfold impl_neighbours.f at H
 refine OkF.of (N := 61) (rs := [2]) (avs := [.c (.own 100 r.length)]) Tryz.func84 rfl rfl (fun _ _ => results_tmp rfl _ _ _) (by decide) rfl rfl rfl rfl (fun w0 S => ?_)
 refine AG.seq ?_
 refine AG.region HM ?_
 refine a_box 200 ?_
 refine a_nilO (e := 27) 201 ?_ T27
 refine RA.nil nofun ?_
 refine AG.seq ?_
 refine AG.region HM ?_
 refine a_lit (cs := []) (D := []) (css := (([] : List (List S89)) : List (List S89)).map c86) 202 ?_ N130 T86 (hcss := by rfl)
 refine a_alloc (cs := [_]) 203 ?_ T130
 refine a_stB (cs' := [_]) ?_ T130
 refine RA.nil nofun ?_
 refine AG.seq ?_
 refine AG.seq ?_
 refine AG.region HM ?_
 refine a_faB (q := 3) ?_ D33_3
 refine a_ldB (v := vR _ _) ?_ T31
 refine a_lenR ?_ Tryz.underlying31
 refine a_move (v := vI _) ?_
 refine RA.nil nofun ?_
 refine AG.block ?_
 refine AG.loop ?_
 obtain ⟨K0, hK0, gK0⟩ : ∃ K, k ≤ K ∧ K ≤ k := ⟨k, Nat.le_refl k, Nat.le_refl k⟩
 refine AGr.canon (fun κ => cond (Nat.beq κ 204) 203 (cond (Nat.beq κ 205) 202 (κ))) (AGr.loopI (n := k) (fun k s => k ≤ K0 ∧ ∃ (y204_0 : List (List S89)) (x11 : List S72) (x12 : Int) (x13 : Int), impl_neighbours.l0 k y204_0 x11 x12 x13 = some r ∧ s = St.of [(3, .c (.ptr 204 0)), (11, vR 76 (x11.map c72)), (12, vI x12), (13, vI x13)] [(204, .box 130 [.own 205 y204_0.length]), (205, .row 86 (y204_0.map c86))]) ⟨hK0, _, _, _, _, H, rfl⟩ ?_ ?_) ⟨rfl, rfl, rfl, rfl, trivial⟩ ⟨rfl, rfl, trivial⟩ rfl
 ·rintro _ ⟨_, _, _, _, _, H, _⟩
  cases H
 ·clear H hK0
  rintro k ih0 _ ⟨hK0, y204_0, x11, x12, x13, H, rfl⟩
  unfold impl_neighbours.l0 at H
  refine AG.seq ?_
  refine AG.region HM ?_
  refine a_int (u := .bool (decide (x13 < x12))) ?_
  refine RA.nil nofun ?_
  refine AG.seq ?_
  by_cases hc2 : x13 < x12
  ·rw [if_pos hc2] at H
   refine AG.yes rfl (decide_eq_true hc2) ?_
   refine AG.skip ?_
   refine AG.seq ?_
   refine AG.block ?_
   refine AG.seq ?_
   refine AG.region HM ?_
   by_cases hc3 : 0 ≤ x13
   ·rw [if_pos hc3] at H
    by_cases hc4 : x13 < (x11.length : Int)
    ·rw [if_pos hc4] at H
     refine a_ixR (el := c72 (rd72 x11 x13)) ?_ ⟨hc3, hc4⟩ T76 Tryz.underlying31 (hel := R72 hc3 hc4)
     refine a_ldR (v := .agg [_, _]) ?_ T76
     refine a_alloc (cs := [_, _]) 206 ?_ T76
     refine a_stB (cs' := [_, _]) ?_ T76
     refine RA.nil nofun ?_
     refine AG.region HM ?_
     refine a_ldB (v := .c (.own _ _)) ?_ T130
     refine a_faB (q := 1) ?_ D76_1
     refine a_ldB (v := vR _ _) ?_ T27
     obtain ⟨t5, e6, H⟩ := bindO H
     refine a_call (v := .c (.own 207 t5.length)) (nk := [(207, .row 89 (t5.map c89))]) (L := []) ?_ rfl (impl_ringEdges.ok e6) (fun κ => cond (Nat.beq κ 207) 100 (κ)) (qd qn) trivial ⟨rfl, trivial⟩ ⟨rfl, trivial⟩ rfl
     refine a_lit (cs := [_]) (D := [207]) (css := ([t5]).map c86) 208 ?_ N130 T86
     by_cases hc7 : y204_0.length < 5864062014805
     ·rw [if_pos hc7] at H
      refine a_appO (css' := (y204_0 ++ [t5]).map c86) (n' := (y204_0 ++ [t5]).length) ?_ T86 (by simp [maxLen]; omega) (by simp; omega) Tryz.underlying130 (hc := by exact List.map_append.symm) (hn := by exact List.length_map _)
      refine a_stB (cs' := [_]) ?_ T130
      refine RA.nil (fun _ => by kernel_rfl) ?_
      refine AG.region HM ?_
      refine a_int (u := .int .i64 (wrap64 (x13 + 1))) ?_
      refine a_move (v := vI _) ?_
      refine RA.nil nofun ?_
      exact AGr.canon id (ih0 _ (by omega) _ ⟨by omega, _, _, _, _, H, rfl⟩) ⟨rfl, rfl, rfl, rfl, trivial⟩ ⟨rfl, rfl, trivial⟩ rfl
     ·rw [if_neg hc7] at H
      cases H
    ·rw [if_neg hc4] at H
     cases H
   ·rw [if_neg hc3] at H
    cases H
  ·rw [if_neg hc2] at H
   refine AG.no rfl (decide_eq_false hc2) ?_
   refine AG.exit ?_
   refine AG.seq ?_
   refine AG.region HM ?_
   refine a_ldB (v := .c (.own _ _)) ?_ T130
   refine a_lenO ?_ Tryz.underlying130
   by_cases hc9 : 0 ≤ (y204_0.length : Int)
   ·rw [if_pos hc9] at H
    by_cases hc10 : ((y204_0.length : Int) : Int).toNat ≤ 11728124029610
    ·rw [if_pos hc10] at H
     refine a_make (n := (y204_0.length : Int)) (css := (List.replicate (((y204_0.length : Int) : Int).toNat) []).map c27) 209 ?_ N46 T27 (zR T2 zN) hc9 (by omega) (by omega) (hcss := by exact rep_map rfl)
     refine a_move (v := .c (.own _ _)) ?_
     refine RA.nil nofun ?_
     refine AG.seq ?_
     refine AG.seq ?_
     refine AG.region HM ?_
     refine a_ldB (v := .c (.own _ _)) ?_ T130
     refine a_lenO ?_ Tryz.underlying130
     refine a_move (v := vI _) ?_
     refine RA.nil nofun ?_
     refine AG.block ?_
     refine AG.loop ?_
     obtain ⟨K1, hK1, gK1⟩ : ∃ K, k ≤ K ∧ K ≤ k := ⟨k, Nat.le_refl k, Nat.le_refl k⟩
     refine AGr.canon (fun κ => cond (Nat.beq κ 210) 204 (cond (Nat.beq κ 211) 205 (cond (Nat.beq κ 212) 209 (κ)))) (AGr.loopI (n := k) (fun k s => k ≤ K1 ∧ ∃ (y210_0 : List (List S89)) (x6 : List (List Int)) (x28 : Int) (x29 : Int), impl_neighbours.l1 k y210_0 x6 x28 x29 = some r ∧ s = St.of [(3, .c (.ptr 210 0)), (6, .c (.own 212 x6.length)), (28, vI x28), (29, vI x29)] [(210, .box 130 [.own 211 y210_0.length]), (211, .row 86 (y210_0.map c86)), (212, .row 27 (x6.map c27))]) ⟨hK1, _, _, _, _, H, rfl⟩ ?_ ?_) ⟨rfl, (ownE rfl (by simp)), rfl, rfl, trivial⟩ ⟨rfl, rfl, rfl, trivial⟩ rfl
     ·rintro _ ⟨_, _, _, _, _, H, _⟩
      cases H
     ·clear H hK1
      rintro k ih1 _ ⟨hK1, y210_0, x6, x28, x29, H, rfl⟩
      unfold impl_neighbours.l1 at H
      refine AG.seq ?_
      refine AG.region HM ?_
      refine a_int (u := .bool (decide (x29 < x28))) ?_
      refine RA.nil nofun ?_
      refine AG.seq ?_
      by_cases hc12 : x29 < x28
      ·rw [if_pos hc12] at H
       refine AG.yes rfl (decide_eq_true hc12) ?_
       refine AG.skip ?_
       refine AG.seq ?_
       refine AG.block ?_
       refine AG.seq ?_
       refine AG.region HM ?_
       refine a_move (v := vI _) ?_
       refine a_move (v := vI _) ?_
       refine RA.nil nofun ?_
       refine AG.seq ?_
       refine AG.region HM ?_
       refine a_ldB (v := .c (.own _ _)) ?_ T130
       refine a_lenO ?_ Tryz.underlying130
       refine a_move (v := vI _) ?_
       refine RA.nil nofun ?_
       refine AG.block ?_
       refine AG.loop ?_
       obtain ⟨K2, hK2, gK2⟩ : ∃ K, k ≤ K ∧ K ≤ k := ⟨k, Nat.le_refl k, Nat.le_refl k⟩
       refine AGr.canon (fun κ => cond (Nat.beq κ 213) 210 (cond (Nat.beq κ 214) 211 (cond (Nat.beq κ 215) 212 (κ)))) (AGr.loopI (n := k) (fun k s => k ≤ K2 ∧ ∃ (y213_0 : List (List S89)) (x6 : List (List Int)) (x7 : Int) (x28 : Int) (x29 : Int) (x33 : Int) (x34 : Int), impl_neighbours.l2 k y213_0 x6 x7 x28 x29 x33 x34 = some r ∧ s = St.of [(3, .c (.ptr 213 0)), (6, .c (.own 215 x6.length)), (7, vI x7), (28, vI x28), (29, vI x29), (33, vI x33), (34, vI x34)] [(213, .box 130 [.own 214 y213_0.length]), (214, .row 86 (y213_0.map c86)), (215, .row 27 (x6.map c27))]) ⟨hK2, _, _, _, _, _, _, _, H, rfl⟩ ?_ ?_) ⟨rfl, rfl, rfl, rfl, rfl, rfl, rfl, trivial⟩ ⟨rfl, rfl, rfl, trivial⟩ rfl
       ·rintro _ ⟨_, _, _, _, _, _, _, _, H, _⟩
        cases H
       ·clear H hK2
        rintro k ih2 _ ⟨hK2, y213_0, x6, x7, x28, x29, x33, x34, H, rfl⟩
        unfold impl_neighbours.l2 at H
        refine AG.seq ?_
        refine AG.region HM ?_
        refine a_int (u := .bool (decide (x34 < x33))) ?_
        refine RA.nil nofun ?_
        refine AG.seq ?_
        by_cases hc13 : x34 < x33
        ·rw [if_pos hc13] at H
         refine AG.yes rfl (decide_eq_true hc13) ?_
         refine AG.skip ?_
         refine AG.seq ?_
         refine AG.block ?_
         refine AG.seq ?_
         refine AG.region HM ?_
         refine a_move (v := vI _) ?_
         refine a_alloc (cs := [_]) 216 ?_ T3
         refine a_stB (cs' := [_]) ?_ T3
         refine RA.nil nofun ?_
         refine AG.seq ?_
         refine AG.region HM ?_
         refine a_move (v := vI _) ?_
         refine a_ldB (v := vI _) ?_ T3
         refine a_int (u := .bool ((x7 != x34))) ?_
         refine a_move (v := vB _) ?_
         by_cases hc14 : x7 = x34
         ·rw [if_pos hc14] at H
          refine RA.skip rfl rfl rfl rfl rfl (bne_eq_false_iff_eq.2 hc14) (by decide) ?_
          refine RA.skip rfl rfl rfl rfl rfl (bne_eq_false_iff_eq.2 hc14) (by decide) ?_
          refine RA.skip rfl rfl rfl rfl rfl (bne_eq_false_iff_eq.2 hc14) (by decide) ?_
          refine RA.skip rfl rfl rfl rfl rfl (bne_eq_false_iff_eq.2 hc14) (by decide) ?_
          refine RA.skip rfl rfl rfl rfl rfl (bne_eq_false_iff_eq.2 hc14) (by decide) ?_
          refine RA.skip rfl rfl rfl rfl rfl (bne_eq_false_iff_eq.2 hc14) (by decide) ?_
          refine a_pick (b := false) (v := vB _) ?_ (bne_eq_false_iff_eq.2 hc14)
          refine RA.nil nofun ?_
          refine AG.no rfl rfl ?_
          refine AG.skip ?_
          refine AG.region HM ?_
          refine a_int (u := .int .i64 (wrap64 (x34 + 1))) ?_
          refine a_move (v := vI _) ?_
          refine RA.nil nofun ?_
          exact AGr.canon id (ih2 _ (by omega) _ ⟨by omega, _, _, _, _, _, _, _, H, rfl⟩) ⟨rfl, rfl, rfl, rfl, rfl, rfl, rfl, trivial⟩ ⟨rfl, rfl, rfl, trivial⟩ rfl
         ·rw [if_neg hc14] at H
          refine a_ldB (v := .c (.own _ _)) ?_ T130 (hg := Gs.yes rfl rfl rfl (bne_iff_ne.2 hc14))
          refine a_move (v := vI _) ?_ (hg := Gs.yes rfl rfl rfl (bne_iff_ne.2 hc14))
          by_cases hc15 : 0 ≤ x7
          ·rw [if_pos hc15] at H
           by_cases hc16 : x7 < (y213_0.length : Int)
           ·rw [if_pos hc16] at H
            refine a_ixO ?_ ⟨hc15, hc16⟩ T86 Tryz.underlying130 (hg := Gs.yes rfl rfl rfl (bne_iff_ne.2 hc14))
            refine a_ldE (v := .c (.sub _ _ _ _)) ?_ (G86 hc15 hc16) T86 (hg := Gs.yes rfl rfl rfl (bne_iff_ne.2 hc14))
            refine a_fnc (ks := [213, 216]) ?_ (hg := Gs.yes rfl rfl rfl (bne_iff_ne.2 hc14))
            obtain ⟨t17, e18, H⟩ := bindO H
            refine a_call (v := vB t17) (nk := []) (L := [(214, _), (213, _), (216, _)]) ?_ rfl (slices_ContainsFunc_2_int64_2_int64__impl_neighbours_1.ok e18) id (qc (rU (G86 hc15 hc16)) (qc (rF2 (rP (κ := 213) (off := 0) (cs := [.own 214 y213_0.length]) (pC rO p0)) (rP (pD p0))) qn)) ⟨rfl, rfl, rfl, trivial⟩ trivial trivial rfl (hg := Gs.yes rfl rfl rfl (bne_iff_ne.2 hc14))
            refine a_pick (b := true) (v := vB _) ?_ (bne_iff_ne.2 hc14)
            refine RA.nil nofun ?_
            by_cases hc19 : t17 = true
            ·rw [if_pos hc19] at H
             refine AG.yes rfl hc19 ?_
             refine AG.region HM ?_
             refine a_move (v := .c (.own _ _)) ?_
             refine a_move (v := vI _) ?_
             refine a_move (v := .c (.own _ _)) ?_
             refine a_move (v := vI _) ?_
             by_cases hc20 : x7 < (x6.length : Int)
             ·rw [if_pos hc20] at H
              refine a_ixO ?_ ⟨hc15, hc20⟩ T27 Tryz.underlying46
              refine a_ldE (v := .c (.sub _ _ _ _)) ?_ (G27 hc15 hc20) T27
              refine a_ldB (v := vI _) ?_ T3
              refine a_lit (cs := [_]) (D := []) (css := ([x34]).map c2) 218 ?_ N27 T2
              by_cases hc21 : (rd27 x6 x7).length < 17592186044416
              ·rw [if_pos hc21] at H
               refine a_appU (css' := ((rd27 x6 x7) ++ [x34]).map c2) (n' := ((rd27 x6 x7) ++ [x34]).length) (cssH := (x6.map c27).set (x7 : Int).toNat ((c27 (rd27 x6 x7)).set 0 .any)) 219 ?_ (G27 hc15 hc20) T2 (by simp [maxLen]; omega) (by simp; omega) (flat_map (fun _ => rfl)) Tryz.underlying27 (by exact List.map_append.symm) (by exact List.length_map _)
               refine a_ixO ?_ ⟨hc15, hc20⟩ T27 Tryz.underlying46
               refine a_stE (D := [219]) (css' := (x6.set (x7 : Int).toNat ((rd27 x6 x7) ++ [x34])).map c27) ?_ (hole_at (G27 hc15 hc20)) T27 (hcss := by exact hole_map rfl)
               refine RA.nil (fun _ => by kernel_rfl) ?_
               refine AG.region HM ?_
               refine a_int (u := .int .i64 (wrap64 (x34 + 1))) ?_
               refine a_move (v := vI _) ?_
               refine RA.nil nofun ?_
               exact AGr.canon id (ih2 _ (by omega) _ ⟨by omega, _, _, _, _, _, _, _, H, rfl⟩) ⟨rfl, (ownE rfl (by simp)), rfl, rfl, rfl, rfl, rfl, trivial⟩ ⟨rfl, rfl, rfl, trivial⟩ rfl
              ·rw [if_neg hc21] at H
               cases H
             ·rw [if_neg hc20] at H
              cases H
            ·rw [if_neg hc19] at H
             refine AG.no rfl (Bool.eq_false_iff.2 hc19) ?_
             refine AG.skip ?_
             refine AG.region HM ?_
             refine a_int (u := .int .i64 (wrap64 (x34 + 1))) ?_
             refine a_move (v := vI _) ?_
             refine RA.nil nofun ?_
             exact AGr.canon id (ih2 _ (by omega) _ ⟨by omega, _, _, _, _, _, _, _, H, rfl⟩) ⟨rfl, rfl, rfl, rfl, rfl, rfl, rfl, trivial⟩ ⟨rfl, rfl, rfl, trivial⟩ rfl
           ·rw [if_neg hc16] at H
            cases H
          ·rw [if_neg hc15] at H
           cases H
        ·rw [if_neg hc13] at H
         refine AG.no rfl (decide_eq_false hc13) ?_
         refine AG.exit ?_
         refine AG.region HM ?_
         refine a_int (u := .int .i64 (wrap64 (x29 + 1))) ?_
         refine a_move (v := vI _) ?_
         refine RA.nil nofun ?_
         exact AGr.canon (fun κ => cond (Nat.beq κ 210) 213 (cond (Nat.beq κ 211) 214 (cond (Nat.beq κ 212) 215 (κ)))) (ih1 _ (by omega) _ ⟨by omega, _, _, _, _, H, rfl⟩) ⟨rfl, rfl, rfl, rfl, trivial⟩ ⟨rfl, rfl, rfl, trivial⟩ rfl
      ·rw [if_neg hc12] at H
       refine AG.no rfl (decide_eq_false hc12) ?_
       refine AG.exit ?_
       refine AG.seq ?_
       refine AG.region HM ?_
       refine a_move (v := .c (.own _ _)) ?_
       refine a_move (v := .c (.own _ _)) ?_
       refine RA.nil nofun ?_
       refine AG.ret ?_
       obtain rfl := Option.some.inj H
       exact RetP.mk (fun κ => cond (Nat.beq κ 100) 212 (κ)) ⟨rfl, trivial⟩ ⟨rfl, trivial⟩ rfl
    ·rw [if_neg hc10] at H
     cases H
   ·rw [if_neg hc9] at H
    cases H
/-! ### impl_faceDepths: function 56 -/
mutual
def impl_faceDepths.l0 : Nat → Int → Int → List S50 → List S72 → List Int → List Int → Int → Int → Option ((List Int))
 | 0, _, _, _, _, _, _, _, _ => none
 | k + 1, y204_0, y204_1, y204_2, y204_3, x3, x4, x20, x21 => if x21 < x20 then (if 0 ≤ x21 then (if x21 < (x3.length : Int) then (impl_faceDepths.l0 k y204_0 y204_1 y204_2 y204_3 (x3.set (x21 : Int).toNat 24) x4 x20 (wrap64 (x21 + 1))) else (none)) else (none)) else ((impl_edgeFaces.f k y204_0 y204_1 y204_2 y204_3).bind fun bt9 => (impl_faceDepths.l1 k y204_0 y204_1 y204_2 y204_3 x3 x4 bt9.2 (bt9.2.length : Int) 0))
def impl_faceDepths.l1 : Nat → Int → Int → List S50 → List S72 → List Int → List Int → List (List Int) → Int → Int → Option ((List Int))
 | 0, _, _, _, _, _, _, _, _, _ => none
 | k + 1, y209_0, y209_1, y209_2, y209_3, x3, x4, x33, x34, x35 => if x35 < x34 then (if 0 ≤ x35 then (if x35 < (x33.length : Int) then (if ((rd27 x33 x35).length : Int) = 1 then (if 0 < ((rd27 x33 x35).length : Int) then (if 0 ≤ (rd2 (rd27 x33 x35) 0) then (if (rd2 (rd27 x33 x35) 0) < (x3.length : Int) then (if (rd2 x3 (rd2 (rd27 x33 x35) 0)) > 0 then (if x4.length < 17592186044416 then (impl_faceDepths.l1 k y209_0 y209_1 y209_2 y209_3 (x3.set ((rd2 (rd27 x33 x35) 0) : Int).toNat 0) (x4 ++ [(rd2 (rd27 x33 x35) 0)]) x33 x34 (wrap64 (x35 + 1))) else (none)) else (impl_faceDepths.l1 k y209_0 y209_1 y209_2 y209_3 x3 x4 x33 x34 (wrap64 (x35 + 1)))) else (none)) else (none)) else (none)) else (impl_faceDepths.l1 k y209_0 y209_1 y209_2 y209_3 x3 x4 x33 x34 (wrap64 (x35 + 1)))) else (none)) else (none)) else ((impl_neighbours.f k y209_0 y209_1 y209_2 y209_3).bind fun t23 => (impl_faceDepths.l2 k x3 x4 t23 0))
def impl_faceDepths.l2 : Nat → List Int → List Int → List (List Int) → Int → Option ((List Int))
 | 0, _, _, _, _ => none
 | k + 1, x3, x4, x10, x11 => if x11 < (x4.length : Int) then (if 0 ≤ x11 then (if 0 ≤ (rd2 x4 x11) then (if (rd2 x4 x11) < (x10.length : Int) then (impl_faceDepths.l3 k x3 x4 x10 x11 (rd27 x10 (rd2 x4 x11)) ((rd27 x10 (rd2 x4 x11)).length : Int) 0) else (none)) else (none)) else (none)) else (some x3)
def impl_faceDepths.l3 : Nat → List Int → List Int → List (List Int) → Int → List Int → Int → Int → Option ((List Int))
 | 0, _, _, _, _, _, _, _ => none
 | k + 1, x3, x4, x10, x11, x77, x78, x79 => if x79 < x78 then (if 0 ≤ x79 then (if x79 < (x77.length : Int) then (if 0 ≤ (rd2 x77 x79) then (if (rd2 x77 x79) < (x3.length : Int) then (if (rd2 x3 (rd2 x77 x79)) = 24 then (if 0 ≤ x11 then (if x11 < (x4.length : Int) then (if 0 ≤ (rd2 x4 x11) then (if (rd2 x4 x11) < (x3.length : Int) then (if x4.length < 17592186044416 then (impl_faceDepths.l3 k (x3.set ((rd2 x77 x79) : Int).toNat (wrap64 ((rd2 x3 (rd2 x4 x11)) + 1))) (x4 ++ [(rd2 x77 x79)]) x10 x11 x77 x78 (wrap64 (x79 + 1))) else (none)) else (none)) else (none)) else (none)) else (none)) else (impl_faceDepths.l3 k x3 x4 x10 x11 x77 x78 (wrap64 (x79 + 1)))) else (none)) else (none)) else (none)) else (none)) else (impl_faceDepths.l2 k x3 x4 x10 (wrap64 (x11 + 1)))
end
def impl_faceDepths.f (k : Nat) (a0_0 : Int) (a0_1 : Int) (l0_2 : List S50) (l0_3 : List S72) : Option ((List Int)) := if 0 ≤ (l0_3.length : Int) then (if ((l0_3.length : Int) : Int).toNat ≤ 35184372088832 then (impl_faceDepths.l0 k a0_0 a0_1 l0_2 l0_3 (List.replicate (((l0_3.length : Int) : Int).toNat) 0) (([] : List Int) : List Int) (((l0_3.length : Int) : Int).toNat : Int) 0) else (none)) else (none)
set_option maxRecDepth 100000 in
theorem impl_faceDepths.ok {k : Nat} {a0_0 : Int} {a0_1 : Int} {l0_2 : List S50} {l0_3 : List S72} {r : List Int} (H : impl_faceDepths.f k a0_0 a0_1 l0_2 l0_3 = some r) : OkF Tryz.prog 56 [.agg [.d (.v (.int .i64 a0_0)), .d (.v (.int .i64 a0_1)), .d (.row 51 (l0_2.map c50)), .d (.row 76 (l0_3.map c72))]] [] (.c (.own 100 r.length)) [(100, .row 2 (r.map c2))] := by
 unfold impl_faceDepths.f at H
 refine OkF.of (N := 105) (rs := [2]) (avs := [.c (.own 100 r.length)]) Tryz.func56 rfl rfl (fun _ _ => results_tmp rfl _ _ _) (by decide) rfl rfl rfl rfl (fun w0 S => ?_)
 refine AG.seq ?_
 refine AG.region HM ?_
 refine a_box 200 ?_
 refine a_nilO (e := 2) 201 ?_ T2
 refine RA.nil nofun ?_
 refine AG.seq ?_
 refine AG.region HM ?_
 refine a_faB (q := 3) ?_ D33_3
 refine a_ldB (v := vR _ _) ?_ T31
 refine a_lenR ?_ Tryz.underlying31
 by_cases hc1 : 0 ≤ (l0_3.length : Int)
 ·rw [if_pos hc1] at H
  by_cases hc2 : ((l0_3.length : Int) : Int).toNat ≤ 35184372088832
  ·rw [if_pos hc2] at H
   refine a_make (n := (l0_3.length : Int)) (css := (List.replicate (((l0_3.length : Int) : Int).toNat) 0).map c2) 202 ?_ N27 T2 (zV zN) hc1 (by omega) (by omega) (hcss := by exact rep_map rfl)
   refine a_lit (cs := []) (D := []) (css := (([] : List Int) : List Int).map c2) 203 ?_ N27 T2 (hcss := by rfl)
   refine a_move (v := .c (.own _ _)) ?_
   refine a_move (v := .c (.own _ _)) ?_
   refine RA.nil nofun ?_
   refine AG.seq ?_
   refine AG.seq ?_
   refine AG.region HM ?_
   refine a_move (v := .c (.own _ _)) ?_
   refine a_lenO ?_ Tryz.underlying27
   refine a_move (v := vI _) ?_
   refine RA.nil nofun ?_
   refine AG.block ?_
   refine AG.loop ?_
   obtain ⟨K0, hK0, gK0⟩ : ∃ K, k ≤ K ∧ K ≤ k := ⟨k, Nat.le_refl k, Nat.le_refl k⟩
   refine AGr.canon (fun κ => cond (Nat.beq κ 204) 200 (cond (Nat.beq κ 205) 202 (cond (Nat.beq κ 206) 203 (κ)))) (AGr.loopI (n := k) (fun k s => k ≤ K0 ∧ ∃ (y204_0 : Int) (y204_1 : Int) (y204_2 : List S50) (y204_3 : List S72) (x3 : List Int) (x4 : List Int) (x20 : Int) (x21 : Int), impl_faceDepths.l0 k y204_0 y204_1 y204_2 y204_3 x3 x4 x20 x21 = some r ∧ s = St.of [(1, .c (.ptr 204 0)), (3, .c (.own 205 x3.length)), (4, .c (.own 206 x4.length)), (20, vI x20), (21, vI x21)] [(204, .box 33 [.d (.v (.int .i64 y204_0)), .d (.v (.int .i64 y204_1)), .d (.row 51 (y204_2.map c50)), .d (.row 76 (y204_3.map c72))]), (205, .row 2 (x3.map c2)), (206, .row 2 (x4.map c2))]) ⟨hK0, _, _, _, _, _, _, _, _, H, rfl⟩ ?_ ?_) ⟨rfl, (ownE rfl (by simp)), (ownE rfl (by simp)), rfl, rfl, trivial⟩ ⟨rfl, rfl, rfl, trivial⟩ rfl
   ·rintro _ ⟨_, _, _, _, _, _, _, _, _, H, _⟩
    cases H
   ·clear H hK0
    rintro k ih0 _ ⟨hK0, y204_0, y204_1, y204_2, y204_3, x3, x4, x20, x21, H, rfl⟩
    unfold impl_faceDepths.l0 at H
    refine AG.seq ?_
    refine AG.region HM ?_
    refine a_int (u := .bool (decide (x21 < x20))) ?_
    refine RA.nil nofun ?_
    refine AG.seq ?_
    by_cases hc5 : x21 < x20
    ·rw [if_pos hc5] at H
     refine AG.yes rfl (decide_eq_true hc5) ?_
     refine AG.skip ?_
     refine AG.seq ?_
     refine AG.block ?_
     refine AG.seq ?_
     refine AG.region HM ?_
     refine a_move (v := vI _) ?_
     refine a_move (v := vI _) ?_
     refine RA.nil nofun ?_
     refine AG.region HM ?_
     refine a_move (v := .c (.own _ _)) ?_
     refine a_move (v := vI _) ?_
     by_cases hc6 : 0 ≤ x21
     ·rw [if_pos hc6] at H
      by_cases hc7 : x21 < (x3.length : Int)
      ·rw [if_pos hc7] at H
       refine a_ixO ?_ ⟨hc6, hc7⟩ T2 Tryz.underlying27
       refine a_stF (css' := (x3.set (x21 : Int).toNat 24).map c2) ?_ (flat_map (fun _ => rfl)) (G2 hc6 hc7) T2 (hcss := by exact set_map rfl)
       refine RA.nil nofun ?_
       refine AG.region HM ?_
       refine a_int (u := .int .i64 (wrap64 (x21 + 1))) ?_
       refine a_move (v := vI _) ?_
       refine RA.nil nofun ?_
       exact AGr.canon id (ih0 _ (by omega) _ ⟨by omega, _, _, _, _, _, _, _, _, H, rfl⟩) ⟨rfl, (ownE rfl (by simp)), rfl, rfl, rfl, trivial⟩ ⟨rfl, rfl, rfl, trivial⟩ rfl
      ·rw [if_neg hc7] at H
       cases H
     ·rw [if_neg hc6] at H
      cases H
    ·rw [if_neg hc5] at H
     refine AG.no rfl (decide_eq_false hc5) ?_
     refine AG.exit ?_
     refine AG.seq ?_
     refine AG.region HM ?_
     refine a_ldB (v := .agg [_, _, _, _]) ?_ T33
     obtain ⟨⟨t9, t10⟩, e11, H⟩ := bindO H
     refine a_call (v := .tup [.c (.own 207 t9.length), .c (.own 208 t10.length)]) (nk := [(207, .row 27 (t9.map c27)), (208, .row 27 (t10.map c27))]) (L := []) ?_ rfl (impl_edgeFaces.ok e11) (fun κ => cond (Nat.beq κ 207) 100 (cond (Nat.beq κ 208) 101 (κ))) (qg qn) trivial ⟨rfl, rfl, trivial⟩ ⟨rfl, rfl, trivial⟩ rfl
     refine a_move (v := .tup [_, _]) ?_
     refine a_ext (v := .c (.own _ _)) ?_
     refine a_ext (v := .c (.own _ _)) ?_
     refine a_move (v := .c (.own _ _)) ?_
     refine a_move (v := .c (.own _ _)) ?_
     refine RA.nil nofun ?_
     refine AG.seq ?_
     refine AG.seq ?_
     refine AG.freeze 207 ?_
     refine AG.freeze 208 ?_
     refine AG.region HM ?_
     refine a_move (v := vR _ _) ?_
     refine a_lenR ?_ Tryz.underlying46
     refine a_move (v := vI _) ?_
     refine RA.nil nofun ?_
     refine AG.block ?_
     refine AG.loop ?_
     obtain ⟨K1, hK1, gK1⟩ : ∃ K, k ≤ K ∧ K ≤ k := ⟨k, Nat.le_refl k, Nat.le_refl k⟩
     refine AGr.canon (fun κ => cond (Nat.beq κ 209) 204 (cond (Nat.beq κ 210) 205 (cond (Nat.beq κ 211) 206 (κ)))) (AGr.loopI (n := k) (fun k s => k ≤ K1 ∧ ∃ (y209_0 : Int) (y209_1 : Int) (y209_2 : List S50) (y209_3 : List S72) (x3 : List Int) (x4 : List Int) (x33 : List (List Int)) (x34 : Int) (x35 : Int), impl_faceDepths.l1 k y209_0 y209_1 y209_2 y209_3 x3 x4 x33 x34 x35 = some r ∧ s = St.of [(1, .c (.ptr 209 0)), (3, .c (.own 210 x3.length)), (4, .c (.own 211 x4.length)), (33, vR 27 (x33.map c27)), (34, vI x34), (35, vI x35)] [(209, .box 33 [.d (.v (.int .i64 y209_0)), .d (.v (.int .i64 y209_1)), .d (.row 51 (y209_2.map c50)), .d (.row 76 (y209_3.map c72))]), (210, .row 2 (x3.map c2)), (211, .row 2 (x4.map c2))]) ⟨hK1, _, _, _, _, _, _, _, _, _, H, rfl⟩ ?_ ?_) ⟨rfl, rfl, rfl, rfl, rfl, rfl, trivial⟩ ⟨rfl, rfl, rfl, trivial⟩ rfl
     ·rintro _ ⟨_, _, _, _, _, _, _, _, _, _, H, _⟩
      cases H
     ·clear H hK1
      rintro k ih1 _ ⟨hK1, y209_0, y209_1, y209_2, y209_3, x3, x4, x33, x34, x35, H, rfl⟩
      unfold impl_faceDepths.l1 at H
      refine AG.seq ?_
      refine AG.region HM ?_
      refine a_int (u := .bool (decide (x35 < x34))) ?_
      refine RA.nil nofun ?_
      refine AG.seq ?_
      by_cases hc12 : x35 < x34
      ·rw [if_pos hc12] at H
       refine AG.yes rfl (decide_eq_true hc12) ?_
       refine AG.skip ?_
       refine AG.seq ?_
       refine AG.block ?_
       refine AG.seq ?_
       refine AG.region HM ?_
       by_cases hc13 : 0 ≤ x35
       ·rw [if_pos hc13] at H
        by_cases hc14 : x35 < (x33.length : Int)
        ·rw [if_pos hc14] at H
         refine a_ixR (el := c27 (rd27 x33 x35)) ?_ ⟨hc13, hc14⟩ T27 Tryz.underlying46 (hel := R27 hc13 hc14)
         refine a_ldR (v := vR _ _) ?_ T27
         refine a_move (v := vR _ _) ?_
         refine RA.nil nofun ?_
         refine AG.seq ?_
         refine AG.region HM ?_
         refine a_move (v := vR _ _) ?_
         refine a_lenR ?_ Tryz.underlying27
         refine a_int (u := .bool ((((rd27 x33 x35).length : Int) == 1))) ?_
         refine a_move (v := vB _) ?_
         by_cases hc15 : ((rd27 x33 x35).length : Int) = 1
         ·rw [if_pos hc15] at H
          refine a_move (v := .c (.own _ _)) ?_ (hg := Gs.yes rfl rfl rfl (beq_iff_eq.2 hc15))
          refine a_move (v := vR _ _) ?_ (hg := Gs.yes rfl rfl rfl (beq_iff_eq.2 hc15))
          by_cases hc16 : 0 < ((rd27 x33 x35).length : Int)
          ·rw [if_pos hc16] at H
           refine a_ixR (el := c2 (rd2 (rd27 x33 x35) 0)) ?_ ⟨(by decide), hc16⟩ T2 Tryz.underlying27 (hel := R2 (by decide) hc16) (hg := Gs.yes rfl rfl rfl (beq_iff_eq.2 hc15))
           refine a_ldR (v := vI _) ?_ T2 (hg := Gs.yes rfl rfl rfl (beq_iff_eq.2 hc15))
           by_cases hc17 : 0 ≤ (rd2 (rd27 x33 x35) 0)
           ·rw [if_pos hc17] at H
            by_cases hc18 : (rd2 (rd27 x33 x35) 0) < (x3.length : Int)
            ·rw [if_pos hc18] at H
             refine a_ixO ?_ ⟨hc17, hc18⟩ T2 Tryz.underlying27 (hg := Gs.yes rfl rfl rfl (beq_iff_eq.2 hc15))
             refine a_ldE (v := vI _) ?_ (G2 hc17 hc18) T2 (hg := Gs.yes rfl rfl rfl (beq_iff_eq.2 hc15))
             refine a_int (u := .bool (decide ((rd2 x3 (rd2 (rd27 x33 x35) 0)) > 0))) ?_ (hg := Gs.yes rfl rfl rfl (beq_iff_eq.2 hc15))
             refine a_pick (b := true) (v := vB _) ?_ (beq_iff_eq.2 hc15)
             refine RA.nil nofun ?_
             by_cases hc19 : (rd2 x3 (rd2 (rd27 x33 x35) 0)) > 0
             ·rw [if_pos hc19] at H
              refine AG.yes rfl (decide_eq_true hc19) ?_
              refine AG.seq ?_
              refine AG.region HM ?_
              refine a_move (v := .c (.own _ _)) ?_
              refine a_move (v := vR _ _) ?_
              refine a_ixR (el := c2 (rd2 (rd27 x33 x35) 0)) ?_ ⟨(by decide), hc16⟩ T2 Tryz.underlying27 (hel := R2 (by decide) hc16)
              refine a_ldR (v := vI _) ?_ T2
              refine a_ixO ?_ ⟨hc17, hc18⟩ T2 Tryz.underlying27
              refine a_stF (css' := (x3.set ((rd2 (rd27 x33 x35) 0) : Int).toNat 0).map c2) ?_ (flat_map (fun _ => rfl)) (G2 hc17 hc18) T2 (hcss := by exact set_map rfl)
              refine RA.nil nofun ?_
              refine AG.region HM ?_
              refine a_move (v := .c (.own _ _)) ?_
              refine a_move (v := vR _ _) ?_
              refine a_ixR (el := c2 (rd2 (rd27 x33 x35) 0)) ?_ ⟨(by decide), hc16⟩ T2 Tryz.underlying27 (hel := R2 (by decide) hc16)
              refine a_ldR (v := vI _) ?_ T2
              refine a_lit (cs := [_]) (D := []) (css := ([(rd2 (rd27 x33 x35) 0)]).map c2) 212 ?_ N27 T2
              by_cases hc21 : x4.length < 17592186044416
              ·rw [if_pos hc21] at H
               refine a_appO (css' := (x4 ++ [(rd2 (rd27 x33 x35) 0)]).map c2) (n' := (x4 ++ [(rd2 (rd27 x33 x35) 0)]).length) ?_ T2 (by simp [maxLen]; omega) (by simp; omega) Tryz.underlying27 (hc := by exact List.map_append.symm) (hn := by exact List.length_map _)
               refine a_move (v := .c (.own _ _)) ?_
               refine RA.nil nofun ?_
               refine AG.region HM ?_
               refine a_int (u := .int .i64 (wrap64 (x35 + 1))) ?_
               refine a_move (v := vI _) ?_
               refine RA.nil nofun ?_
               exact AGr.canon id (ih1 _ (by omega) _ ⟨by omega, _, _, _, _, _, _, _, _, _, H, rfl⟩) ⟨rfl, (ownE rfl (by simp)), rfl, rfl, rfl, rfl, trivial⟩ ⟨rfl, rfl, rfl, trivial⟩ rfl
              ·rw [if_neg hc21] at H
               cases H
             ·rw [if_neg hc19] at H
              refine AG.no rfl (decide_eq_false hc19) ?_
              refine AG.skip ?_
              refine AG.region HM ?_
              refine a_int (u := .int .i64 (wrap64 (x35 + 1))) ?_
              refine a_move (v := vI _) ?_
              refine RA.nil nofun ?_
              exact AGr.canon id (ih1 _ (by omega) _ ⟨by omega, _, _, _, _, _, _, _, _, _, H, rfl⟩) ⟨rfl, rfl, rfl, rfl, rfl, rfl, trivial⟩ ⟨rfl, rfl, rfl, trivial⟩ rfl
            ·rw [if_neg hc18] at H
             cases H
           ·rw [if_neg hc17] at H
            cases H
          ·rw [if_neg hc16] at H
           cases H
         ·rw [if_neg hc15] at H
          refine RA.skip rfl rfl rfl rfl rfl (beq_eq_false_iff_ne.2 hc15) (by decide) ?_
          refine RA.skip rfl rfl rfl rfl rfl (beq_eq_false_iff_ne.2 hc15) (by decide) ?_
          refine RA.skip rfl rfl rfl rfl rfl (beq_eq_false_iff_ne.2 hc15) (by decide) ?_
          refine RA.skip rfl rfl rfl rfl rfl (beq_eq_false_iff_ne.2 hc15) (by decide) ?_
          refine RA.skip rfl rfl rfl rfl rfl (beq_eq_false_iff_ne.2 hc15) (by decide) ?_
          refine RA.skip rfl rfl rfl rfl rfl (beq_eq_false_iff_ne.2 hc15) (by decide) ?_
          refine RA.skip rfl rfl rfl rfl rfl (beq_eq_false_iff_ne.2 hc15) (by decide) ?_
          refine a_pick (b := false) (v := vB _) ?_ (beq_eq_false_iff_ne.2 hc15)
          refine RA.nil nofun ?_
          refine AG.no rfl rfl ?_
          refine AG.skip ?_
          refine AG.region HM ?_
          refine a_int (u := .int .i64 (wrap64 (x35 + 1))) ?_
          refine a_move (v := vI _) ?_
          refine RA.nil nofun ?_
          exact AGr.canon id (ih1 _ (by omega) _ ⟨by omega, _, _, _, _, _, _, _, _, _, H, rfl⟩) ⟨rfl, rfl, rfl, rfl, rfl, rfl, trivial⟩ ⟨rfl, rfl, rfl, trivial⟩ rfl
        ·rw [if_neg hc14] at H
         cases H
       ·rw [if_neg hc13] at H
        cases H
      ·rw [if_neg hc12] at H
       refine AG.no rfl (decide_eq_false hc12) ?_
       refine AG.exit ?_
       refine AG.seq ?_
       refine AG.region HM ?_
       refine a_ldB (v := .agg [_, _, _, _]) ?_ T33
       obtain ⟨t23, et23, H⟩ := bindO H
       refine a_callF (L := []) ?_ rfl (impl_neighbours.ok et23) (qg qn) trivial
       refine a_move (v := vR _ _) ?_
       refine RA.nil nofun ?_
       refine AG.seq ?_
       refine AG.seq ?_
       refine AG.region HM ?_
       refine a_move (v := vI _) ?_
       refine RA.nil nofun ?_
       refine AG.block ?_
       refine AG.loop ?_
       obtain ⟨K2, hK2, gK2⟩ : ∃ K, k ≤ K ∧ K ≤ k := ⟨k, Nat.le_refl k, Nat.le_refl k⟩
       refine AGr.canon (fun κ => cond (Nat.beq κ 213) 210 (cond (Nat.beq κ 214) 211 (κ))) (AGr.loopI (n := k) (fun k s => k ≤ K2 ∧ ∃ (x3 : List Int) (x4 : List Int) (x10 : List (List Int)) (x11 : Int), impl_faceDepths.l2 k x3 x4 x10 x11 = some r ∧ s = St.of [(3, .c (.own 213 x3.length)), (4, .c (.own 214 x4.length)), (10, vR 27 (x10.map c27)), (11, vI x11)] [(213, .row 2 (x3.map c2)), (214, .row 2 (x4.map c2))]) ⟨hK2, _, _, _, _, H, rfl⟩ ?_ ?_) ⟨rfl, rfl, rfl, rfl, trivial⟩ ⟨rfl, rfl, trivial⟩ rfl
       ·rintro _ ⟨_, _, _, _, _, H, _⟩
        cases H
       ·clear H hK2
        rintro k ih2 _ ⟨hK2, x3, x4, x10, x11, H, rfl⟩
        unfold impl_faceDepths.l2 at H
        refine AG.seq ?_
        refine AG.seq ?_
        refine AG.region HM ?_
        refine a_move (v := vI _) ?_
        refine a_move (v := .c (.own _ _)) ?_
        refine a_lenO ?_ Tryz.underlying27
        refine a_int (u := .bool (decide (x11 < (x4.length : Int)))) ?_
        refine RA.nil nofun ?_
        by_cases hc24 : x11 < (x4.length : Int)
        ·rw [if_pos hc24] at H
         refine AG.yes rfl (decide_eq_true hc24) ?_
         refine AG.skip ?_
         refine AG.seq ?_
         refine AG.block ?_
         refine AG.seq ?_
         refine AG.region HM ?_
         refine a_move (v := vR _ _) ?_
         refine a_move (v := .c (.own _ _)) ?_
         refine a_move (v := vI _) ?_
         by_cases hc25 : 0 ≤ x11
         ·rw [if_pos hc25] at H
          refine a_ixO ?_ ⟨hc25, hc24⟩ T2 Tryz.underlying27
          refine a_ldE (v := vI _) ?_ (G2 hc25 hc24) T2
          by_cases hc26 : 0 ≤ (rd2 x4 x11)
          ·rw [if_pos hc26] at H
           by_cases hc27 : (rd2 x4 x11) < (x10.length : Int)
           ·rw [if_pos hc27] at H
            refine a_ixR (el := c27 (rd27 x10 (rd2 x4 x11))) ?_ ⟨hc26, hc27⟩ T27 Tryz.underlying46 (hel := R27 hc26 hc27)
            refine a_ldR (v := vR _ _) ?_ T27
            refine a_lenR ?_ Tryz.underlying27
            refine a_move (v := vI _) ?_
            refine RA.nil nofun ?_
            refine AG.block ?_
            refine AG.loop ?_
            obtain ⟨K3, hK3, gK3⟩ : ∃ K, k ≤ K ∧ K ≤ k := ⟨k, Nat.le_refl k, Nat.le_refl k⟩
            refine AGr.canon (fun κ => cond (Nat.beq κ 215) 213 (cond (Nat.beq κ 216) 214 (κ))) (AGr.loopI (n := k) (fun k s => k ≤ K3 ∧ ∃ (x3 : List Int) (x4 : List Int) (x10 : List (List Int)) (x11 : Int) (x77 : List Int) (x78 : Int) (x79 : Int), impl_faceDepths.l3 k x3 x4 x10 x11 x77 x78 x79 = some r ∧ s = St.of [(3, .c (.own 215 x3.length)), (4, .c (.own 216 x4.length)), (10, vR 27 (x10.map c27)), (11, vI x11), (77, vR 2 (x77.map c2)), (78, vI x78), (79, vI x79)] [(215, .row 2 (x3.map c2)), (216, .row 2 (x4.map c2))]) ⟨hK3, _, _, _, _, _, _, _, H, rfl⟩ ?_ ?_) ⟨rfl, rfl, rfl, rfl, rfl, rfl, rfl, trivial⟩ ⟨rfl, rfl, trivial⟩ rfl
            ·rintro _ ⟨_, _, _, _, _, _, _, _, H, _⟩
             cases H
            ·clear H hK3
             rintro k ih3 _ ⟨hK3, x3, x4, x10, x11, x77, x78, x79, H, rfl⟩
             unfold impl_faceDepths.l3 at H
             refine AG.seq ?_
             refine AG.region HM ?_
             refine a_int (u := .bool (decide (x79 < x78))) ?_
             refine RA.nil nofun ?_
             refine AG.seq ?_
             by_cases hc28 : x79 < x78
             ·rw [if_pos hc28] at H
              refine AG.yes rfl (decide_eq_true hc28) ?_
              refine AG.skip ?_
              refine AG.seq ?_
              refine AG.block ?_
              refine AG.seq ?_
              refine AG.region HM ?_
              by_cases hc29 : 0 ≤ x79
              ·rw [if_pos hc29] at H
               by_cases hc30 : x79 < (x77.length : Int)
               ·rw [if_pos hc30] at H
                refine a_ixR (el := c2 (rd2 x77 x79)) ?_ ⟨hc29, hc30⟩ T2 Tryz.underlying27 (hel := R2 hc29 hc30)
                refine a_ldR (v := vI _) ?_ T2
                refine a_move (v := vI _) ?_
                refine RA.nil nofun ?_
                refine AG.seq ?_
                refine AG.region HM ?_
                refine a_move (v := .c (.own _ _)) ?_
                refine a_move (v := vI _) ?_
                by_cases hc31 : 0 ≤ (rd2 x77 x79)
                ·rw [if_pos hc31] at H
                 by_cases hc32 : (rd2 x77 x79) < (x3.length : Int)
                 ·rw [if_pos hc32] at H
                  refine a_ixO ?_ ⟨hc31, hc32⟩ T2 Tryz.underlying27
                  refine a_ldE (v := vI _) ?_ (G2 hc31 hc32) T2
                  refine a_int (u := .bool (((rd2 x3 (rd2 x77 x79)) == 24))) ?_
                  refine RA.nil nofun ?_
                  by_cases hc33 : (rd2 x3 (rd2 x77 x79)) = 24
                  ·rw [if_pos hc33] at H
                   refine AG.yes rfl (beq_iff_eq.2 hc33) ?_
                   refine AG.seq ?_
                   refine AG.region HM ?_
                   refine a_move (v := .c (.own _ _)) ?_
                   refine a_move (v := vI _) ?_
                   refine a_move (v := .c (.own _ _)) ?_
                   refine a_move (v := .c (.own _ _)) ?_
                   refine a_move (v := vI _) ?_
                   by_cases hc34 : 0 ≤ x11
                   ·rw [if_pos hc34] at H
                    by_cases hc35 : x11 < (x4.length : Int)
                    ·rw [if_pos hc35] at H
                     refine a_ixO ?_ ⟨hc34, hc35⟩ T2 Tryz.underlying27
                     refine a_ldE (v := vI _) ?_ (G2 hc34 hc35) T2
                     by_cases hc36 : 0 ≤ (rd2 x4 x11)
                     ·rw [if_pos hc36] at H
                      by_cases hc37 : (rd2 x4 x11) < (x3.length : Int)
                      ·rw [if_pos hc37] at H
                       refine a_ixO ?_ ⟨hc36, hc37⟩ T2 Tryz.underlying27
                       refine a_ldE (v := vI _) ?_ (G2 hc36 hc37) T2
                       refine a_int (u := .int .i64 (wrap64 ((rd2 x3 (rd2 x4 x11)) + 1))) ?_
                       refine a_ixO ?_ ⟨hc31, hc32⟩ T2 Tryz.underlying27
                       refine a_stF (css' := (x3.set ((rd2 x77 x79) : Int).toNat (wrap64 ((rd2 x3 (rd2 x4 x11)) + 1))).map c2) ?_ (flat_map (fun _ => rfl)) (G2 hc31 hc32) T2 (hcss := by exact set_map rfl)
                       refine RA.nil nofun ?_
                       refine AG.region HM ?_
                       refine a_move (v := .c (.own _ _)) ?_
                       refine a_move (v := vI _) ?_
                       refine a_lit (cs := [_]) (D := []) (css := ([(rd2 x77 x79)]).map c2) 217 ?_ N27 T2
                       by_cases hc39 : x4.length < 17592186044416
                       ·rw [if_pos hc39] at H
                        refine a_appO (css' := (x4 ++ [(rd2 x77 x79)]).map c2) (n' := (x4 ++ [(rd2 x77 x79)]).length) ?_ T2 (by simp [maxLen]; omega) (by simp; omega) Tryz.underlying27 (hc := by exact List.map_append.symm) (hn := by exact List.length_map _)
                        refine a_move (v := .c (.own _ _)) ?_
                        refine RA.nil nofun ?_
                        refine AG.region HM ?_
                        refine a_int (u := .int .i64 (wrap64 (x79 + 1))) ?_
                        refine a_move (v := vI _) ?_
                        refine RA.nil nofun ?_
                        exact AGr.canon id (ih3 _ (by omega) _ ⟨by omega, _, _, _, _, _, _, _, H, rfl⟩) ⟨(ownE rfl (by simp)), rfl, rfl, rfl, rfl, rfl, rfl, trivial⟩ ⟨rfl, rfl, trivial⟩ rfl
                       ·rw [if_neg hc39] at H
                        cases H
                      ·rw [if_neg hc37] at H
                       cases H
                     ·rw [if_neg hc36] at H
                      cases H
                    ·rw [if_neg hc35] at H
                     cases H
                   ·rw [if_neg hc34] at H
                    cases H
                  ·rw [if_neg hc33] at H
                   refine AG.no rfl (beq_eq_false_iff_ne.2 hc33) ?_
                   refine AG.skip ?_
                   refine AG.region HM ?_
                   refine a_int (u := .int .i64 (wrap64 (x79 + 1))) ?_
                   refine a_move (v := vI _) ?_
                   refine RA.nil nofun ?_
                   exact AGr.canon id (ih3 _ (by omega) _ ⟨by omega, _, _, _, _, _, _, _, H, rfl⟩) ⟨rfl, rfl, rfl, rfl, rfl, rfl, rfl, trivial⟩ ⟨rfl, rfl, trivial⟩ rfl
                 ·rw [if_neg hc32] at H
                  cases H
                ·rw [if_neg hc31] at H
                 cases H
               ·rw [if_neg hc30] at H
                cases H
              ·rw [if_neg hc29] at H
               cases H
             ·rw [if_neg hc28] at H
              refine AG.no rfl (decide_eq_false hc28) ?_
              refine AG.exit ?_
              refine AG.region HM ?_
              refine a_move (v := vI _) ?_
              refine a_int (u := .int .i64 (wrap64 (x11 + 1))) ?_
              refine a_move (v := vI _) ?_
              refine RA.nil nofun ?_
              exact AGr.canon (fun κ => cond (Nat.beq κ 213) 215 (cond (Nat.beq κ 214) 216 (κ))) (ih2 _ (by omega) _ ⟨by omega, _, _, _, _, H, rfl⟩) ⟨rfl, rfl, rfl, rfl, trivial⟩ ⟨rfl, rfl, trivial⟩ rfl
           ·rw [if_neg hc27] at H
            cases H
          ·rw [if_neg hc26] at H
           cases H
         ·rw [if_neg hc25] at H
          cases H
        ·rw [if_neg hc24] at H
         refine AG.no rfl (decide_eq_false hc24) ?_
         refine AG.exit ?_
         refine AG.seq ?_
         refine AG.region HM ?_
         refine a_move (v := .c (.own _ _)) ?_
         refine a_move (v := .c (.own _ _)) ?_
         refine RA.nil nofun ?_
         refine AG.ret ?_
         obtain rfl := Option.some.inj H
         exact RetP.mk (fun κ => cond (Nat.beq κ 100) 213 (κ)) ⟨rfl, trivial⟩ ⟨rfl, trivial⟩ rfl
  ·rw [if_neg hc2] at H
   cases H
 ·rw [if_neg hc1] at H
  cases H
/-! ### impl_edgeDepths: function 28 -/
mutual
def impl_edgeDepths.l0 : Nat → List Int → List Int → List (List Int) → Int → Int → Option ((List Int))
 | 0, _, _, _, _, _ => none
 | k + 1, x3, x4, x20, x21, x22 => if x22 < x21 then (if 0 ≤ x22 then (if x22 < (x20.length : Int) then (if ((rd27 x20 x22).length : Int) > 1 then (impl_edgeDepths.l1 k x3 x4 24 x20 x21 x22 (rd27 x20 x22) ((rd27 x20 x22).length : Int) 0) else (if x4.length < 17592186044416 then (impl_edgeDepths.l0 k x3 (x4 ++ [0]) x20 x21 (wrap64 (x22 + 1))) else (none))) else (none)) else (none)) else (some x4)
def impl_edgeDepths.l1 : Nat → List Int → List Int → Int → List (List Int) → Int → Int → List Int → Int → Int → Option ((List Int))
 | 0, _, _, _, _, _, _, _, _, _ => none
 | k + 1, x3, x4, x9, x20, x21, x22, x29, x30, x31 => if x31 < x30 then (if 0 ≤ x31 then (if x31 < (x29.length : Int) then (if 0 ≤ (rd2 x29 x31) then (if (rd2 x29 x31) < (x3.length : Int) then (impl_edgeDepths.l1 k x3 x4 (mn x9 (rd2 x3 (rd2 x29 x31))) x20 x21 x22 x29 x30 (wrap64 (x31 + 1))) else (none)) else (none)) else (none)) else (none)) else (if x4.length < 17592186044416 then (impl_edgeDepths.l0 k x3 (x4 ++ [wrap64 (x9 + 1)]) x20 x21 (wrap64 (x22 + 1))) else (none))
end
def impl_edgeDepths.f (k : Nat) (a0_0 : Int) (a0_1 : Int) (l0_2 : List S50) (l0_3 : List S72) : Option ((List Int)) := (impl_faceDepths.f k a0_0 a0_1 l0_2 l0_3).bind fun t1 => ((impl_edgeFaces.f k a0_0 a0_1 l0_2 l0_3).bind fun bt4 => (impl_edgeDepths.l0 k t1 (([] : List Int) : List Int) bt4.2 (bt4.2.length : Int) 0))
set_option maxRecDepth 100000 in
theorem impl_edgeDepths.ok {k : Nat} {a0_0 : Int} {a0_1 : Int} {l0_2 : List S50} {l0_3 : List S72} {r : List Int} (H : impl_edgeDepths.f k a0_0 a0_1 l0_2 l0_3 = some r) : OkF Tryz.prog 28 [.agg [.d (.v (.int .i64 a0_0)), .d (.v (.int .i64 a0_1)), .d (.row 51 (l0_2.map c50)), .d (.row 76 (l0_3.map c72))]] [] (.c (.own 100 r.length)) [(100, .row 2 (r.map c2))] := by
 unfold impl_edgeDepths.f at H
 refine OkF.of (N := 50) (rs := [2]) (avs := [.c (.own 100 r.length)]) Tryz.func28 rfl rfl (fun _ _ => results_tmp rfl _ _ _) (by decide) rfl rfl rfl rfl (fun w0 S => ?_)
 refine AG.seq ?_
 refine AG.region HM ?_
 refine a_box 200 ?_
 refine a_nilO (e := 2) 201 ?_ T2
 refine RA.nil nofun ?_
 refine AG.seq ?_
 refine AG.region HM ?_
 refine a_ldB (v := .agg [_, _, _, _]) ?_ T33
 obtain ⟨t1, e2, H⟩ := bindO H
 refine a_call (v := .c (.own 202 t1.length)) (nk := [(202, .row 2 (t1.map c2))]) (L := []) ?_ rfl (impl_faceDepths.ok e2) (fun κ => cond (Nat.beq κ 202) 100 (κ)) (qg qn) trivial ⟨rfl, trivial⟩ ⟨rfl, trivial⟩ rfl
 refine a_lit (cs := []) (D := []) (css := (([] : List Int) : List Int).map c2) 203 ?_ N27 T2 (hcss := by rfl)
 refine a_move (v := .c (.own _ _)) ?_
 refine a_move (v := .c (.own _ _)) ?_
 refine RA.nil nofun ?_
 refine AG.seq ?_
 refine AG.region HM ?_
 refine a_ldB (v := .agg [_, _, _, _]) ?_ T33
 obtain ⟨⟨t4, t5⟩, e6, H⟩ := bindO H
 refine a_call (v := .tup [.c (.own 204 t4.length), .c (.own 205 t5.length)]) (nk := [(204, .row 27 (t4.map c27)), (205, .row 27 (t5.map c27))]) (L := []) ?_ rfl (impl_edgeFaces.ok e6) (fun κ => cond (Nat.beq κ 204) 100 (cond (Nat.beq κ 205) 101 (κ))) (qg qn) trivial ⟨rfl, rfl, trivial⟩ ⟨rfl, rfl, trivial⟩ rfl
 refine a_move (v := .tup [_, _]) ?_
 refine a_ext (v := .c (.own _ _)) ?_
 refine a_ext (v := .c (.own _ _)) ?_
 refine a_move (v := .c (.own _ _)) ?_
 refine a_move (v := .c (.own _ _)) ?_
 refine RA.nil nofun ?_
 refine AG.seq ?_
 refine AG.seq ?_
 refine AG.freeze 204 ?_
 refine AG.freeze 205 ?_
 refine AG.region HM ?_
 refine a_move (v := vR _ _) ?_
 refine a_lenR ?_ Tryz.underlying46
 refine a_move (v := vI _) ?_
 refine RA.nil nofun ?_
 refine AG.block ?_
 refine AG.loop ?_
 obtain ⟨K0, hK0, gK0⟩ : ∃ K, k ≤ K ∧ K ≤ k := ⟨k, Nat.le_refl k, Nat.le_refl k⟩
 refine AGr.canon (fun κ => cond (Nat.beq κ 206) 202 (cond (Nat.beq κ 207) 203 (κ))) (AGr.loopI (n := k) (fun k s => k ≤ K0 ∧ ∃ (x3 : List Int) (x4 : List Int) (x20 : List (List Int)) (x21 : Int) (x22 : Int), impl_edgeDepths.l0 k x3 x4 x20 x21 x22 = some r ∧ s = St.of [(3, .c (.own 206 x3.length)), (4, .c (.own 207 x4.length)), (20, vR 27 (x20.map c27)), (21, vI x21), (22, vI x22)] [(206, .row 2 (x3.map c2)), (207, .row 2 (x4.map c2))]) ⟨hK0, _, _, _, _, _, H, rfl⟩ ?_ ?_) ⟨rfl, (ownE rfl (by simp)), rfl, rfl, rfl, trivial⟩ ⟨rfl, rfl, trivial⟩ rfl
 ·rintro _ ⟨_, _, _, _, _, _, H, _⟩
  cases H
 ·clear H hK0
  rintro k ih0 _ ⟨hK0, x3, x4, x20, x21, x22, H, rfl⟩
  unfold impl_edgeDepths.l0 at H
  refine AG.seq ?_
  refine AG.region HM ?_
  refine a_int (u := .bool (decide (x22 < x21))) ?_
  refine RA.nil nofun ?_
  refine AG.seq ?_
  by_cases hc7 : x22 < x21
  ·rw [if_pos hc7] at H
   refine AG.yes rfl (decide_eq_true hc7) ?_
   refine AG.skip ?_
   refine AG.seq ?_
   refine AG.block ?_
   refine AG.seq ?_
   refine AG.region HM ?_
   by_cases hc8 : 0 ≤ x22
   ·rw [if_pos hc8] at H
    by_cases hc9 : x22 < (x20.length : Int)
    ·rw [if_pos hc9] at H
     refine a_ixR (el := c27 (rd27 x20 x22)) ?_ ⟨hc8, hc9⟩ T27 Tryz.underlying46 (hel := R27 hc8 hc9)
     refine a_ldR (v := vR _ _) ?_ T27
     refine a_move (v := vR _ _) ?_
     refine RA.nil nofun ?_
     refine AG.seq ?_
     refine AG.region HM ?_
     refine a_move (v := vI _) ?_
     refine RA.nil nofun ?_
     refine AG.seq ?_
     refine AG.seq ?_
     refine AG.region HM ?_
     refine a_move (v := vR _ _) ?_
     refine a_lenR ?_ Tryz.underlying27
     refine a_int (u := .bool (decide (((rd27 x20 x22).length : Int) > 1))) ?_
     refine RA.nil nofun ?_
     by_cases hc10 : ((rd27 x20 x22).length : Int) > 1
     ·rw [if_pos hc10] at H
      refine AG.yes rfl (decide_eq_true hc10) ?_
      refine AG.seq ?_
      refine AG.region HM ?_
      refine a_move (v := vI _) ?_
      refine RA.nil nofun ?_
      refine AG.seq ?_
      refine AG.seq ?_
      refine AG.region HM ?_
      refine a_move (v := vR _ _) ?_
      refine a_lenR ?_ Tryz.underlying27
      refine a_move (v := vI _) ?_
      refine RA.nil nofun ?_
      refine AG.block ?_
      refine AG.loop ?_
      obtain ⟨K1, hK1, gK1⟩ : ∃ K, k ≤ K ∧ K ≤ k := ⟨k, Nat.le_refl k, Nat.le_refl k⟩
      refine AGr.canon (fun κ => cond (Nat.beq κ 208) 206 (cond (Nat.beq κ 209) 207 (κ))) (AGr.loopI (n := k) (fun k s => k ≤ K1 ∧ ∃ (x3 : List Int) (x4 : List Int) (x9 : Int) (x20 : List (List Int)) (x21 : Int) (x22 : Int) (x29 : List Int) (x30 : Int) (x31 : Int), impl_edgeDepths.l1 k x3 x4 x9 x20 x21 x22 x29 x30 x31 = some r ∧ s = St.of [(3, .c (.own 208 x3.length)), (4, .c (.own 209 x4.length)), (9, vI x9), (20, vR 27 (x20.map c27)), (21, vI x21), (22, vI x22), (29, vR 2 (x29.map c2)), (30, vI x30), (31, vI x31)] [(208, .row 2 (x3.map c2)), (209, .row 2 (x4.map c2))]) ⟨hK1, _, _, _, _, _, _, _, _, _, H, rfl⟩ ?_ ?_) ⟨rfl, rfl, rfl, rfl, rfl, rfl, rfl, rfl, rfl, trivial⟩ ⟨rfl, rfl, trivial⟩ rfl
      ·rintro _ ⟨_, _, _, _, _, _, _, _, _, _, H, _⟩
       cases H
      ·clear H hK1
       rintro k ih1 _ ⟨hK1, x3, x4, x9, x20, x21, x22, x29, x30, x31, H, rfl⟩
       unfold impl_edgeDepths.l1 at H
       refine AG.seq ?_
       refine AG.region HM ?_
       refine a_int (u := .bool (decide (x31 < x30))) ?_
       refine RA.nil nofun ?_
       refine AG.seq ?_
       by_cases hc11 : x31 < x30
       ·rw [if_pos hc11] at H
        refine AG.yes rfl (decide_eq_true hc11) ?_
        refine AG.skip ?_
        refine AG.seq ?_
        refine AG.block ?_
        refine AG.seq ?_
        refine AG.region HM ?_
        by_cases hc12 : 0 ≤ x31
        ·rw [if_pos hc12] at H
         by_cases hc13 : x31 < (x29.length : Int)
         ·rw [if_pos hc13] at H
          refine a_ixR (el := c2 (rd2 x29 x31)) ?_ ⟨hc12, hc13⟩ T2 Tryz.underlying27 (hel := R2 hc12 hc13)
          refine a_ldR (v := vI _) ?_ T2
          refine a_move (v := vI _) ?_
          refine RA.nil nofun ?_
          refine AG.region HM ?_
          refine a_move (v := vI _) ?_
          refine a_move (v := .c (.own _ _)) ?_
          refine a_move (v := vI _) ?_
          by_cases hc14 : 0 ≤ (rd2 x29 x31)
          ·rw [if_pos hc14] at H
           by_cases hc15 : (rd2 x29 x31) < (x3.length : Int)
           ·rw [if_pos hc15] at H
            refine a_ixO ?_ ⟨hc14, hc15⟩ T2 Tryz.underlying27
            refine a_ldE (v := vI _) ?_ (G2 hc14 hc15) T2
            refine a_minmax (mx := false) (r := mn x9 (rd2 x3 (rd2 x29 x31))) ?_
            refine a_move (v := vI _) ?_
            refine RA.nil nofun ?_
            refine AG.region HM ?_
            refine a_int (u := .int .i64 (wrap64 (x31 + 1))) ?_
            refine a_move (v := vI _) ?_
            refine RA.nil nofun ?_
            exact AGr.canon id (ih1 _ (by omega) _ ⟨by omega, _, _, _, _, _, _, _, _, _, H, rfl⟩) ⟨rfl, rfl, rfl, rfl, rfl, rfl, rfl, rfl, rfl, trivial⟩ ⟨rfl, rfl, trivial⟩ rfl
           ·rw [if_neg hc15] at H
            cases H
          ·rw [if_neg hc14] at H
           cases H
         ·rw [if_neg hc13] at H
          cases H
        ·rw [if_neg hc12] at H
         cases H
       ·rw [if_neg hc11] at H
        refine AG.no rfl (decide_eq_false hc11) ?_
        refine AG.exit ?_
        refine AG.region HM ?_
        refine a_move (v := vI _) ?_
        refine a_int (u := .int .i64 (wrap64 (x9 + 1))) ?_
        refine a_move (v := vI _) ?_
        refine RA.nil nofun ?_
        refine AG.region HM ?_
        refine a_move (v := .c (.own _ _)) ?_
        refine a_move (v := vI _) ?_
        refine a_lit (cs := [_]) (D := []) (css := ([wrap64 (x9 + 1)]).map c2) 210 ?_ N27 T2
        by_cases hc16 : x4.length < 17592186044416
        ·rw [if_pos hc16] at H
         refine a_appO (css' := (x4 ++ [wrap64 (x9 + 1)]).map c2) (n' := (x4 ++ [wrap64 (x9 + 1)]).length) ?_ T2 (by simp [maxLen]; omega) (by simp; omega) Tryz.underlying27 (hc := by exact List.map_append.symm) (hn := by exact List.length_map _)
         refine a_move (v := .c (.own _ _)) ?_
         refine RA.nil nofun ?_
         refine AG.region HM ?_
         refine a_int (u := .int .i64 (wrap64 (x22 + 1))) ?_
         refine a_move (v := vI _) ?_
         refine RA.nil nofun ?_
         exact AGr.canon (fun κ => cond (Nat.beq κ 206) 208 (cond (Nat.beq κ 207) 209 (κ))) (ih0 _ (by omega) _ ⟨by omega, _, _, _, _, _, H, rfl⟩) ⟨rfl, rfl, rfl, rfl, rfl, trivial⟩ ⟨rfl, rfl, trivial⟩ rfl
        ·rw [if_neg hc16] at H
         cases H
     ·rw [if_neg hc10] at H
      refine AG.no rfl (decide_eq_false hc10) ?_
      refine AG.skip ?_
      refine AG.region HM ?_
      refine a_move (v := .c (.own _ _)) ?_
      refine a_move (v := vI _) ?_
      refine a_lit (cs := [_]) (D := []) (css := ([0]).map c2) 210 ?_ N27 T2
      by_cases hc18 : x4.length < 17592186044416
      ·rw [if_pos hc18] at H
       refine a_appO (css' := (x4 ++ [0]).map c2) (n' := (x4 ++ [0]).length) ?_ T2 (by simp [maxLen]; omega) (by simp; omega) Tryz.underlying27 (hc := by exact List.map_append.symm) (hn := by exact List.length_map _)
       refine a_move (v := .c (.own _ _)) ?_
       refine RA.nil nofun ?_
       refine AG.region HM ?_
       refine a_int (u := .int .i64 (wrap64 (x22 + 1))) ?_
       refine a_move (v := vI _) ?_
       refine RA.nil nofun ?_
       exact AGr.canon id (ih0 _ (by omega) _ ⟨by omega, _, _, _, _, _, H, rfl⟩) ⟨rfl, rfl, rfl, rfl, rfl, trivial⟩ ⟨rfl, rfl, trivial⟩ rfl
      ·rw [if_neg hc18] at H
       cases H
    ·rw [if_neg hc9] at H
     cases H
   ·rw [if_neg hc8] at H
    cases H
  ·rw [if_neg hc7] at H
   refine AG.no rfl (decide_eq_false hc7) ?_
   refine AG.exit ?_
   refine AG.seq ?_
   refine AG.region HM ?_
   refine a_move (v := .c (.own _ _)) ?_
   refine a_move (v := .c (.own _ _)) ?_
   refine RA.nil nofun ?_
   refine AG.ret ?_
   obtain rfl := Option.some.inj H
   exact RetP.mk (fun κ => cond (Nat.beq κ 100) 207 (κ)) ⟨rfl, trivial⟩ ⟨rfl, trivial⟩ rfl
/-! ### impl_CutOrder_1: function 38 -/
def impl_CutOrder_1.f (a0 : Int) (a1 : Int) (v_0_0 : List Int) : Option (Int) := if 0 ≤ a1 then (if a1 < (v_0_0.length : Int) then (if 0 ≤ a0 then (if a0 < (v_0_0.length : Int) then (some (wrap64 ((rd2 v_0_0 a1) - (rd2 v_0_0 a0)))) else (none)) else (none)) else (none)) else (none)
set_option maxRecDepth 100000 in
theorem impl_CutOrder_1.ok {a0 : Int} {a1 : Int} {v_0_0 : List Int} {r : Int} (H : impl_CutOrder_1.f a0 a1 v_0_0 = some r) : OkF Tryz.prog 38 [vI a0, vI a1, .c (.d (.ro [.row 2 (v_0_0.map c2)]))] [] (.c (.d (.v (.int .i64 r)))) [] := by
 unfold impl_CutOrder_1.f at H
 refine OkF.of (N := 15) (rs := [5]) (avs := [.c (.d (.v (.int .i64 r)))]) Tryz.func38 rfl rfl (fun _ _ => results_tmp rfl _ _ _) (by decide) rfl rfl rfl rfl (fun w0 S => ?_)
 refine AG.seq ?_
 refine AG.region HM ?_
 refine a_move (v := vI _) ?_
 refine RA.nil nofun ?_
 refine AG.seq ?_
 refine AG.region HM ?_
 refine a_ldR (v := vR _ _) ?_ T27
 refine a_move (v := vI _) ?_
 by_cases hc1 : 0 ≤ a1
 ·rw [if_pos hc1] at H
  by_cases hc2 : a1 < (v_0_0.length : Int)
  ·rw [if_pos hc2] at H
   refine a_ixR (el := c2 (rd2 v_0_0 a1)) ?_ ⟨hc1, hc2⟩ T2 Tryz.underlying27 (hel := R2 hc1 hc2)
   refine a_ldR (v := vI _) ?_ T2
   refine a_ldR (v := vR _ _) ?_ T27
   refine a_move (v := vI _) ?_
   by_cases hc3 : 0 ≤ a0
   ·rw [if_pos hc3] at H
    by_cases hc4 : a0 < (v_0_0.length : Int)
    ·rw [if_pos hc4] at H
     refine a_ixR (el := c2 (rd2 v_0_0 a0)) ?_ ⟨hc3, hc4⟩ T2 Tryz.underlying27 (hel := R2 hc3 hc4)
     refine a_ldR (v := vI _) ?_ T2
     refine a_int (u := .int .i64 (wrap64 ((rd2 v_0_0 a1) - (rd2 v_0_0 a0)))) ?_
     refine a_move (v := vI _) ?_
     refine RA.nil (fun _ => by kernel_rfl) ?_
     refine AG.ret ?_
     obtain rfl := Option.some.inj H
     exact RetP.mk id ⟨rfl, trivial⟩ trivial rfl
    ·rw [if_neg hc4] at H
     cases H
   ·rw [if_neg hc3] at H
    cases H
  ·rw [if_neg hc2] at H
   cases H
 ·rw [if_neg hc1] at H
  cases H
/-! ### slices_insertionSortCmpFunc_int64__impl_CutOrder_1: function 91 -/
mutual
def slices_insertionSortCmpFunc_int64__impl_CutOrder_1.l0 : Nat → List Int → Int → Int → List Int → Int → Option ((List Int))
 | 0, _, _, _, _, _ => none
 | k + 1, x0, x1, x2, x3_0_0, x8 => if x8 < x2 then (slices_insertionSortCmpFunc_int64__impl_CutOrder_1.l1 k x0 x1 x2 x3_0_0 x8 x8) else (some x0)
def slices_insertionSortCmpFunc_int64__impl_CutOrder_1.l1 : Nat → List Int → Int → Int → List Int → Int → Int → Option ((List Int))
 | 0, _, _, _, _, _, _ => none
 | k + 1, x0, x1, x2, x3_0_0, x8, x9 => if x9 > x1 then (if 0 ≤ x9 then (if x9 < (x0.length : Int) then (if 0 ≤ (wrap64 (x9 - 1)) then (if (wrap64 (x9 - 1)) < (x0.length : Int) then ((impl_CutOrder_1.f (rd2 x0 x9) (rd2 x0 (wrap64 (x9 - 1))) x3_0_0).bind fun t7 => (if t7 < 0 then (slices_insertionSortCmpFunc_int64__impl_CutOrder_1.l1 k ((x0.set (x9 : Int).toNat (rd2 x0 (wrap64 (x9 - 1)))).set ((wrap64 (x9 - 1)) : Int).toNat (rd2 x0 x9)) x1 x2 x3_0_0 x8 (wrap64 (x9 - 1))) else (slices_insertionSortCmpFunc_int64__impl_CutOrder_1.l0 k x0 x1 x2 x3_0_0 (wrap64 (x8 + 1))))) else (none)) else (none)) else (none)) else (none)) else (slices_insertionSortCmpFunc_int64__impl_CutOrder_1.l0 k x0 x1 x2 x3_0_0 (wrap64 (x8 + 1)))
end
def slices_insertionSortCmpFunc_int64__impl_CutOrder_1.f (k : Nat) (l0 : List Int) (a1 : Int) (a2 : Int) (v3_0_0 : List Int) : Option ((List Int)) := slices_insertionSortCmpFunc_int64__impl_CutOrder_1.l0 k l0 a1 a2 v3_0_0 (wrap64 (a1 + 1))
set_option maxRecDepth 100000 in
theorem slices_insertionSortCmpFunc_int64__impl_CutOrder_1.ok {k : Nat} {l0 : List Int} {a1 : Int} {a2 : Int} {v3_0_0 : List Int} {r : List Int} (H : slices_insertionSortCmpFunc_int64__impl_CutOrder_1.f k l0 a1 a2 v3_0_0 = some r) : OkF Tryz.prog 91 [.c (.own 0 l0.length), vI a1, vI a2, .c (.d (.fn 38 [.ro [.row 2 (v3_0_0.map c2)]]))] [(0, .row 2 (l0.map c2))] (.tup []) [(0, .row 2 (r.map c2))] := by
 unfold slices_insertionSortCmpFunc_int64__impl_CutOrder_1.f at H
 refine OkF.of (N := 53) (rs := []) (avs := []) Tryz.func91 rfl rfl (fun _ _ => results_none rfl _ _ _) (by decide) rfl rfl rfl rfl (fun w0 S => ?_)
 refine AG.seq ?_
 refine AG.region HM ?_
 refine a_move (v := vI _) ?_
 refine a_int (u := .int .i64 (wrap64 (a1 + 1))) ?_
 refine a_move (v := vI _) ?_
 refine RA.nil nofun ?_
 refine AG.block ?_
 refine AG.loop ?_
 obtain ⟨K0, hK0, gK0⟩ : ∃ K, k ≤ K ∧ K ≤ k := ⟨k, Nat.le_refl k, Nat.le_refl k⟩
 refine AGr.canon id (AGr.loopI (n := k) (fun k s => k ≤ K0 ∧ ∃ (x0 : List Int) (x1 : Int) (x2 : Int) (x3_0_0 : List Int) (x8 : Int), slices_insertionSortCmpFunc_int64__impl_CutOrder_1.l0 k x0 x1 x2 x3_0_0 x8 = some r ∧ s = St.of [(0, .c (.own 0 x0.length)), (1, vI x1), (2, vI x2), (3, .c (.d (.fn 38 [.ro [.row 2 (x3_0_0.map c2)]]))), (8, vI x8)] [(0, .row 2 (x0.map c2))]) ⟨hK0, _, _, _, _, _, H, rfl⟩ ?_ ?_) ⟨rfl, rfl, rfl, rfl, rfl, trivial⟩ ⟨rfl, trivial⟩ rfl
 ·rintro _ ⟨_, _, _, _, _, _, H, _⟩
  cases H
 ·clear H hK0
  rintro k ih0 _ ⟨hK0, x0, x1, x2, x3_0_0, x8, H, rfl⟩
  unfold slices_insertionSortCmpFunc_int64__impl_CutOrder_1.l0 at H
  refine AG.seq ?_
  refine AG.seq ?_
  refine AG.region HM ?_
  refine a_move (v := vI _) ?_
  refine a_move (v := vI _) ?_
  refine a_int (u := .bool (decide (x8 < x2))) ?_
  refine RA.nil nofun ?_
  by_cases hc1 : x8 < x2
  ·rw [if_pos hc1] at H
   refine AG.yes rfl (decide_eq_true hc1) ?_
   refine AG.skip ?_
   refine AG.seq ?_
   refine AG.block ?_
   refine AG.seq ?_
   refine AG.region HM ?_
   refine a_move (v := vI _) ?_
   refine a_move (v := vI _) ?_
   refine RA.nil nofun ?_
   refine AG.block ?_
   refine AG.loop ?_
   obtain ⟨K1, hK1, gK1⟩ : ∃ K, k ≤ K ∧ K ≤ k := ⟨k, Nat.le_refl k, Nat.le_refl k⟩
   refine AGr.canon id (AGr.loopI (n := k) (fun k s => k ≤ K1 ∧ ∃ (x0 : List Int) (x1 : Int) (x2 : Int) (x3_0_0 : List Int) (x8 : Int) (x9 : Int), slices_insertionSortCmpFunc_int64__impl_CutOrder_1.l1 k x0 x1 x2 x3_0_0 x8 x9 = some r ∧ s = St.of [(0, .c (.own 0 x0.length)), (1, vI x1), (2, vI x2), (3, .c (.d (.fn 38 [.ro [.row 2 (x3_0_0.map c2)]]))), (8, vI x8), (9, vI x9)] [(0, .row 2 (x0.map c2))]) ⟨hK1, _, _, _, _, _, _, H, rfl⟩ ?_ ?_) ⟨rfl, rfl, rfl, rfl, rfl, rfl, trivial⟩ ⟨rfl, trivial⟩ rfl
   ·rintro _ ⟨_, _, _, _, _, _, _, H, _⟩
    cases H
   ·clear H hK1
    rintro k ih1 _ ⟨hK1, x0, x1, x2, x3_0_0, x8, x9, H, rfl⟩
    unfold slices_insertionSortCmpFunc_int64__impl_CutOrder_1.l1 at H
    refine AG.seq ?_
    refine AG.seq ?_
    refine AG.region HM ?_
    refine a_move (v := vI _) ?_
    refine a_move (v := vI _) ?_
    refine a_int (u := .bool (decide (x9 > x1))) ?_
    refine a_move (v := vB _) ?_
    by_cases hc2 : x9 > x1
    ·rw [if_pos hc2] at H
     refine a_move (v := .c (.d (.fn _ _))) ?_ (hg := Gs.yes rfl rfl rfl (decide_eq_true hc2))
     refine a_move (v := .c (.own _ _)) ?_ (hg := Gs.yes rfl rfl rfl (decide_eq_true hc2))
     refine a_move (v := vI _) ?_ (hg := Gs.yes rfl rfl rfl (decide_eq_true hc2))
     by_cases hc3 : 0 ≤ x9
     ·rw [if_pos hc3] at H
      by_cases hc4 : x9 < (x0.length : Int)
      ·rw [if_pos hc4] at H
       refine a_ixO ?_ ⟨hc3, hc4⟩ T2 Tryz.underlying27 (hg := Gs.yes rfl rfl rfl (decide_eq_true hc2))
       refine a_ldE (v := vI _) ?_ (G2 hc3 hc4) T2 (hg := Gs.yes rfl rfl rfl (decide_eq_true hc2))
       refine a_move (v := .c (.own _ _)) ?_ (hg := Gs.yes rfl rfl rfl (decide_eq_true hc2))
       refine a_move (v := vI _) ?_ (hg := Gs.yes rfl rfl rfl (decide_eq_true hc2))
       refine a_int (u := .int .i64 (wrap64 (x9 - 1))) ?_ (hg := Gs.yes rfl rfl rfl (decide_eq_true hc2))
       by_cases hc5 : 0 ≤ (wrap64 (x9 - 1))
       ·rw [if_pos hc5] at H
        by_cases hc6 : (wrap64 (x9 - 1)) < (x0.length : Int)
        ·rw [if_pos hc6] at H
         refine a_ixO ?_ ⟨hc5, hc6⟩ T2 Tryz.underlying27 (hg := Gs.yes rfl rfl rfl (decide_eq_true hc2))
         refine a_ldE (v := vI _) ?_ (G2 hc5 hc6) T2 (hg := Gs.yes rfl rfl rfl (decide_eq_true hc2))
         obtain ⟨t7, e8, H⟩ := bindO H
         refine a_callW (v := vI t7) (nk := []) (L := []) ?_ rfl rfl (impl_CutOrder_1.ok e8) id (qd (qd qn)) rfl trivial trivial trivial rfl (hg := Gs.yes rfl rfl rfl (decide_eq_true hc2))
         refine a_int (u := .bool (decide (t7 < 0))) ?_ (hg := Gs.yes rfl rfl rfl (decide_eq_true hc2))
         refine a_pick (b := true) (v := vB _) ?_ (decide_eq_true hc2)
         refine RA.nil (fun _ => by kernel_rfl) ?_
         by_cases hc9 : t7 < 0
         ·rw [if_pos hc9] at H
          refine AG.yes rfl (decide_eq_true hc9) ?_
          refine AG.skip ?_
          refine AG.seq ?_
          refine AG.block ?_
          refine AG.region HM ?_
          refine a_move (v := .c (.own _ _)) ?_
          refine a_move (v := vI _) ?_
          refine a_move (v := .c (.own _ _)) ?_
          refine a_move (v := vI _) ?_
          refine a_int (u := .int .i64 (wrap64 (x9 - 1))) ?_
          refine a_move (v := .c (.own _ _)) ?_
          refine a_move (v := vI _) ?_
          refine a_int (u := .int .i64 (wrap64 (x9 - 1))) ?_
          refine a_ixO ?_ ⟨hc5, hc6⟩ T2 Tryz.underlying27
          refine a_ldE (v := vI _) ?_ (G2 hc5 hc6) T2
          refine a_move (v := .c (.own _ _)) ?_
          refine a_move (v := vI _) ?_
          refine a_ixO ?_ ⟨hc3, hc4⟩ T2 Tryz.underlying27
          refine a_ldE (v := vI _) ?_ (G2 hc3 hc4) T2
          refine a_ixO ?_ ⟨hc3, hc4⟩ T2 Tryz.underlying27
          refine a_stF (css' := (x0.set (x9 : Int).toNat (rd2 x0 (wrap64 (x9 - 1)))).map c2) ?_ (flat_map (fun _ => rfl)) (G2 hc3 hc4) T2 (hcss := by exact set_map rfl)
          refine a_ixO ?_ ⟨hc5, hc6⟩ T2 Tryz.underlying27
          refine a_stF (css' := ((x0.set (x9 : Int).toNat (rd2 x0 (wrap64 (x9 - 1)))).set ((wrap64 (x9 - 1)) : Int).toNat (rd2 x0 x9)).map c2) ?_ (flat_map (fun _ => rfl)) (G2 (l := (x0.set (x9 : Int).toNat (rd2 x0 (wrap64 (x9 - 1))))) hc5 (by simpa using hc6)) T2 (hcss := by exact set_map rfl)
          refine RA.nil (fun _ => by kernel_rfl) ?_
          refine AG.region HM ?_
          refine a_move (v := vI _) ?_
          refine a_int (u := .int .i64 (wrap64 (x9 - 1))) ?_
          refine a_move (v := vI _) ?_
          refine RA.nil nofun ?_
          exact AGr.canon id (ih1 _ (by omega) _ ⟨by omega, _, _, _, _, _, _, H, rfl⟩) ⟨(ownE rfl (by simp)), rfl, rfl, rfl, rfl, rfl, trivial⟩ ⟨rfl, trivial⟩ rfl
         ·rw [if_neg hc9] at H
          refine AG.no rfl (decide_eq_false hc9) ?_
          refine AG.exit ?_
          refine AG.region HM ?_
          refine a_move (v := vI _) ?_
          refine a_int (u := .int .i64 (wrap64 (x8 + 1))) ?_
          refine a_move (v := vI _) ?_
          refine RA.nil nofun ?_
          exact AGr.canon id (ih0 _ (by omega) _ ⟨by omega, _, _, _, _, _, H, rfl⟩) ⟨rfl, rfl, rfl, rfl, rfl, trivial⟩ ⟨rfl, trivial⟩ rfl
        ·rw [if_neg hc6] at H
         cases H
       ·rw [if_neg hc5] at H
        cases H
      ·rw [if_neg hc4] at H
       cases H
     ·rw [if_neg hc3] at H
      cases H
    ·rw [if_neg hc2] at H
     refine RA.skip rfl rfl rfl rfl rfl (decide_eq_false hc2) (by decide) ?_
     refine RA.skip rfl rfl rfl rfl rfl (decide_eq_false hc2) (by decide) ?_
     refine RA.skip rfl rfl rfl rfl rfl (decide_eq_false hc2) (by decide) ?_
     refine RA.skip rfl rfl rfl rfl rfl (decide_eq_false hc2) (by decide) ?_
     refine RA.skip rfl rfl rfl rfl rfl (decide_eq_false hc2) (by decide) ?_
     refine RA.skip rfl rfl rfl rfl rfl (decide_eq_false hc2) (by decide) ?_
     refine RA.skip rfl rfl rfl rfl rfl (decide_eq_false hc2) (by decide) ?_
     refine RA.skip rfl rfl rfl rfl rfl (decide_eq_false hc2) (by decide) ?_
     refine RA.skip rfl rfl rfl rfl rfl (decide_eq_false hc2) (by decide) ?_
     refine RA.skip rfl rfl rfl rfl rfl (decide_eq_false hc2) (by decide) ?_
     refine RA.skip rfl rfl rfl rfl rfl (decide_eq_false hc2) (by decide) ?_
     refine RA.skip rfl rfl rfl rfl rfl (decide_eq_false hc2) (by decide) ?_
     refine a_pick (b := false) (v := vB _) ?_ (decide_eq_false hc2)
     refine RA.nil (fun _ => by kernel_rfl) ?_
     refine AG.no rfl rfl ?_
     refine AG.exit ?_
     refine AG.region HM ?_
     refine a_move (v := vI _) ?_
     refine a_int (u := .int .i64 (wrap64 (x8 + 1))) ?_
     refine a_move (v := vI _) ?_
     refine RA.nil nofun ?_
     exact AGr.canon id (ih0 _ (by omega) _ ⟨by omega, _, _, _, _, _, H, rfl⟩) ⟨rfl, rfl, rfl, rfl, rfl, trivial⟩ ⟨rfl, trivial⟩ rfl
  ·rw [if_neg hc1] at H
   refine AG.no rfl (decide_eq_false hc1) ?_
   refine AG.exit ?_
   obtain rfl := Option.some.inj H
   exact RetP.mk (fun κ => cond (Nat.beq κ 0) 0 (κ)) trivial ⟨rfl, trivial⟩ rfl
/-! ### slices_swapRangeCmpFunc_int64__impl_CutOrder_1: function 122 -/
def slices_swapRangeCmpFunc_int64__impl_CutOrder_1.l0 : Nat → List Int → Int → Int → Int → Int → Option ((List Int))
 | 0, _, _, _, _, _ => none
 | k + 1, x0, x1, x2, x3, x10 => if x10 < x3 then (if 0 ≤ (wrap64 (x2 + x10)) then (if (wrap64 (x2 + x10)) < (x0.length : Int) then (if 0 ≤ (wrap64 (x1 + x10)) then (if (wrap64 (x1 + x10)) < (x0.length : Int) then (slices_swapRangeCmpFunc_int64__impl_CutOrder_1.l0 k ((x0.set ((wrap64 (x1 + x10)) : Int).toNat (rd2 x0 (wrap64 (x2 + x10)))).set ((wrap64 (x2 + x10)) : Int).toNat (rd2 x0 (wrap64 (x1 + x10)))) x1 x2 x3 (wrap64 (x10 + 1))) else (none)) else (none)) else (none)) else (none)) else (some x0)
def slices_swapRangeCmpFunc_int64__impl_CutOrder_1.f (k : Nat) (l0 : List Int) (a1 : Int) (a2 : Int) (a3 : Int) (v4_0_0 : List Int) : Option ((List Int)) := slices_swapRangeCmpFunc_int64__impl_CutOrder_1.l0 k l0 a1 a2 a3 0
set_option maxRecDepth 100000 in
theorem slices_swapRangeCmpFunc_int64__impl_CutOrder_1.ok {k : Nat} {l0 : List Int} {a1 : Int} {a2 : Int} {a3 : Int} {v4_0_0 : List Int} {r : List Int} (H : slices_swapRangeCmpFunc_int64__impl_CutOrder_1.f k l0 a1 a2 a3 v4_0_0 = some r) : OkF Tryz.prog 122 [.c (.own 0 l0.length), vI a1, vI a2, vI a3, .c (.d (.fn 38 [.ro [.row 2 (v4_0_0.map c2)]]))] [(0, .row 2 (l0.map c2))] (.tup []) [(0, .row 2 (r.map c2))] := by
 unfold slices_swapRangeCmpFunc_int64__impl_CutOrder_1.f at H
 refine OkF.of (N := 38) (rs := []) (avs := []) Tryz.func122 rfl rfl (fun _ _ => results_none rfl _ _ _) (by decide) rfl rfl rfl rfl (fun w0 S => ?_)
 refine AG.seq ?_
 refine AG.region HM ?_
 refine a_move (v := vI _) ?_
 refine RA.nil nofun ?_
 refine AG.block ?_
 refine AG.loop ?_
 obtain ⟨K0, hK0, gK0⟩ : ∃ K, k ≤ K ∧ K ≤ k := ⟨k, Nat.le_refl k, Nat.le_refl k⟩
 refine AGr.canon id (AGr.loopI (n := k) (fun k s => k ≤ K0 ∧ ∃ (x0 : List Int) (x1 : Int) (x2 : Int) (x3 : Int) (x10 : Int), slices_swapRangeCmpFunc_int64__impl_CutOrder_1.l0 k x0 x1 x2 x3 x10 = some r ∧ s = St.of [(0, .c (.own 0 x0.length)), (1, vI x1), (2, vI x2), (3, vI x3), (10, vI x10)] [(0, .row 2 (x0.map c2))]) ⟨hK0, _, _, _, _, _, H, rfl⟩ ?_ ?_) ⟨rfl, rfl, rfl, rfl, rfl, trivial⟩ ⟨rfl, trivial⟩ rfl
 ·rintro _ ⟨_, _, _, _, _, _, H, _⟩
  cases H
 ·clear H hK0
  rintro k ih0 _ ⟨hK0, x0, x1, x2, x3, x10, H, rfl⟩
  unfold slices_swapRangeCmpFunc_int64__impl_CutOrder_1.l0 at H
  refine AG.seq ?_
  refine AG.seq ?_
  refine AG.region HM ?_
  refine a_move (v := vI _) ?_
  refine a_move (v := vI _) ?_
  refine a_int (u := .bool (decide (x10 < x3))) ?_
  refine RA.nil nofun ?_
  by_cases hc1 : x10 < x3
  ·rw [if_pos hc1] at H
   refine AG.yes rfl (decide_eq_true hc1) ?_
   refine AG.skip ?_
   refine AG.seq ?_
   refine AG.block ?_
   refine AG.region HM ?_
   refine a_move (v := .c (.own _ _)) ?_
   refine a_move (v := vI _) ?_
   refine a_move (v := vI _) ?_
   refine a_int (u := .int .i64 (wrap64 (x1 + x10))) ?_
   refine a_move (v := .c (.own _ _)) ?_
   refine a_move (v := vI _) ?_
   refine a_move (v := vI _) ?_
   refine a_int (u := .int .i64 (wrap64 (x2 + x10))) ?_
   refine a_move (v := .c (.own _ _)) ?_
   refine a_move (v := vI _) ?_
   refine a_move (v := vI _) ?_
   refine a_int (u := .int .i64 (wrap64 (x2 + x10))) ?_
   by_cases hc2 : 0 ≤ (wrap64 (x2 + x10))
   ·rw [if_pos hc2] at H
    by_cases hc3 : (wrap64 (x2 + x10)) < (x0.length : Int)
    ·rw [if_pos hc3] at H
     refine a_ixO ?_ ⟨hc2, hc3⟩ T2 Tryz.underlying27
     refine a_ldE (v := vI _) ?_ (G2 hc2 hc3) T2
     refine a_move (v := .c (.own _ _)) ?_
     refine a_move (v := vI _) ?_
     refine a_move (v := vI _) ?_
     refine a_int (u := .int .i64 (wrap64 (x1 + x10))) ?_
     by_cases hc4 : 0 ≤ (wrap64 (x1 + x10))
     ·rw [if_pos hc4] at H
      by_cases hc5 : (wrap64 (x1 + x10)) < (x0.length : Int)
      ·rw [if_pos hc5] at H
       refine a_ixO ?_ ⟨hc4, hc5⟩ T2 Tryz.underlying27
       refine a_ldE (v := vI _) ?_ (G2 hc4 hc5) T2
       refine a_ixO ?_ ⟨hc4, hc5⟩ T2 Tryz.underlying27
       refine a_stF (css' := (x0.set ((wrap64 (x1 + x10)) : Int).toNat (rd2 x0 (wrap64 (x2 + x10)))).map c2) ?_ (flat_map (fun _ => rfl)) (G2 hc4 hc5) T2 (hcss := by exact set_map rfl)
       refine a_ixO ?_ ⟨hc2, hc3⟩ T2 Tryz.underlying27
       refine a_stF (css' := ((x0.set ((wrap64 (x1 + x10)) : Int).toNat (rd2 x0 (wrap64 (x2 + x10)))).set ((wrap64 (x2 + x10)) : Int).toNat (rd2 x0 (wrap64 (x1 + x10)))).map c2) ?_ (flat_map (fun _ => rfl)) (G2 (l := (x0.set ((wrap64 (x1 + x10)) : Int).toNat (rd2 x0 (wrap64 (x2 + x10))))) hc2 (by simpa using hc3)) T2 (hcss := by exact set_map rfl)
       refine RA.nil (fun _ => by kernel_rfl) ?_
       refine AG.region HM ?_
       refine a_move (v := vI _) ?_
       refine a_int (u := .int .i64 (wrap64 (x10 + 1))) ?_
       refine a_move (v := vI _) ?_
       refine RA.nil nofun ?_
       exact AGr.canon id (ih0 _ (by omega) _ ⟨by omega, _, _, _, _, _, H, rfl⟩) ⟨(ownE rfl (by simp)), rfl, rfl, rfl, rfl, trivial⟩ ⟨rfl, trivial⟩ rfl
      ·rw [if_neg hc5] at H
       cases H
     ·rw [if_neg hc4] at H
      cases H
    ·rw [if_neg hc3] at H
     cases H
   ·rw [if_neg hc2] at H
    cases H
  ·rw [if_neg hc1] at H
   refine AG.no rfl (decide_eq_false hc1) ?_
   refine AG.exit ?_
   obtain rfl := Option.some.inj H
   exact RetP.mk (fun κ => cond (Nat.beq κ 0) 0 (κ)) trivial ⟨rfl, trivial⟩ rfl
/-! ### slices_rotateCmpFunc_int64__impl_CutOrder_1: function 112 -/
def slices_rotateCmpFunc_int64__impl_CutOrder_1.l0 : Nat → List Int → Int → List Int → Int → Int → Option ((List Int))
 | 0, _, _, _, _, _ => none
 | k + 1, x0, x2, x4_0_0, x10, x11 => if x10 = x11 then ((slices_swapRangeCmpFunc_int64__impl_CutOrder_1.f k x0 (wrap64 (x2 - x10)) x2 x10 x4_0_0).bind fun t2 => (some t2)) else (if x10 > x11 then ((slices_swapRangeCmpFunc_int64__impl_CutOrder_1.f k x0 (wrap64 (x2 - x10)) x2 x11 x4_0_0).bind fun t5 => (slices_rotateCmpFunc_int64__impl_CutOrder_1.l0 k t5 x2 x4_0_0 (wrap64 (x10 - x11)) x11)) else ((slices_swapRangeCmpFunc_int64__impl_CutOrder_1.f k x0 (wrap64 (x2 - x10)) (wrap64 ((wrap64 (x2 + x11)) - x10)) x10 x4_0_0).bind fun t7 => (slices_rotateCmpFunc_int64__impl_CutOrder_1.l0 k t7 x2 x4_0_0 x10 (wrap64 (x11 - x10)))))
def slices_rotateCmpFunc_int64__impl_CutOrder_1.f (k : Nat) (l0 : List Int) (a1 : Int) (a2 : Int) (a3 : Int) (v4_0_0 : List Int) : Option ((List Int)) := slices_rotateCmpFunc_int64__impl_CutOrder_1.l0 k l0 a2 v4_0_0 (wrap64 (a2 - a1)) (wrap64 (a3 - a2))
set_option maxRecDepth 100000 in
theorem slices_rotateCmpFunc_int64__impl_CutOrder_1.ok {k : Nat} {l0 : List Int} {a1 : Int} {a2 : Int} {a3 : Int} {v4_0_0 : List Int} {r : List Int} (H : slices_rotateCmpFunc_int64__impl_CutOrder_1.f k l0 a1 a2 a3 v4_0_0 = some r) : OkF Tryz.prog 112 [.c (.own 0 l0.length), vI a1, vI a2, vI a3, .c (.d (.fn 38 [.ro [.row 2 (v4_0_0.map c2)]]))] [(0, .row 2 (l0.map c2))] (.tup []) [(0, .row 2 (r.map c2))] := by
 unfold slices_rotateCmpFunc_int64__impl_CutOrder_1.f at H
 refine OkF.of (N := 58) (rs := []) (avs := []) Tryz.func112 rfl rfl (fun _ _ => results_none rfl _ _ _) (by decide) rfl rfl rfl rfl (fun w0 S => ?_)
 refine AG.seq ?_
 refine AG.region HM ?_
 refine a_move (v := vI _) ?_
 refine a_move (v := vI _) ?_
 refine a_int (u := .int .i64 (wrap64 (a2 - a1))) ?_
 refine a_move (v := vI _) ?_
 refine RA.nil nofun ?_
 refine AG.seq ?_
 refine AG.region HM ?_
 refine a_move (v := vI _) ?_
 refine a_move (v := vI _) ?_
 refine a_int (u := .int .i64 (wrap64 (a3 - a2))) ?_
 refine a_move (v := vI _) ?_
 refine RA.nil nofun ?_
 refine AG.seq ?_
 refine AG.block ?_
 refine AG.loop ?_
 obtain ⟨K0, hK0, gK0⟩ : ∃ K, k ≤ K ∧ K ≤ k := ⟨k, Nat.le_refl k, Nat.le_refl k⟩
 refine AGr.canon id (AGr.loopI (n := k) (fun k s => k ≤ K0 ∧ ∃ (x0 : List Int) (x2 : Int) (x4_0_0 : List Int) (x10 : Int) (x11 : Int), slices_rotateCmpFunc_int64__impl_CutOrder_1.l0 k x0 x2 x4_0_0 x10 x11 = some r ∧ s = St.of [(0, .c (.own 0 x0.length)), (2, vI x2), (4, .c (.d (.fn 38 [.ro [.row 2 (x4_0_0.map c2)]]))), (10, vI x10), (11, vI x11)] [(0, .row 2 (x0.map c2))]) ⟨hK0, _, _, _, _, _, H, rfl⟩ ?_ ?_) ⟨rfl, rfl, rfl, rfl, rfl, trivial⟩ ⟨rfl, trivial⟩ rfl
 ·rintro _ ⟨_, _, _, _, _, _, H, _⟩
  cases H
 ·clear H hK0
  rintro k ih0 _ ⟨hK0, x0, x2, x4_0_0, x10, x11, H, rfl⟩
  unfold slices_rotateCmpFunc_int64__impl_CutOrder_1.l0 at H
  refine AG.seq ?_
  refine AG.seq ?_
  refine AG.region HM ?_
  refine a_move (v := vI _) ?_
  refine a_move (v := vI _) ?_
  refine a_int (u := .bool ((x10 != x11))) ?_
  refine RA.nil nofun ?_
  by_cases hc1 : x10 = x11
  ·rw [if_pos hc1] at H
   refine AG.no rfl (bne_eq_false_iff_eq.2 hc1) ?_
   refine AG.exit ?_
   refine AG.region HM ?_
   refine a_move (v := .c (.own _ _)) ?_
   refine a_move (v := vI _) ?_
   refine a_move (v := vI _) ?_
   refine a_int (u := .int .i64 (wrap64 (x2 - x10))) ?_
   refine a_move (v := vI _) ?_
   refine a_move (v := vI _) ?_
   refine a_move (v := .c (.d (.fn _ _))) ?_
   obtain ⟨t2, e3, H⟩ := bindO H
   refine a_callM (v := .tup []) (nk := []) (L := []) (Mk := [(0, _)]) (ck := [(0, .row 2 (t2.map c2))]) ?_ rfl (slices_swapRangeCmpFunc_int64__impl_CutOrder_1.ok e3) id id (mcO (mcD (mcD (mcD (mcD m0))))) trivial ⟨rfl, trivial⟩ trivial ⟨rfl, trivial⟩ trivial ⟨rfl, trivial⟩ rfl rfl rfl
   refine RA.nil nofun ?_
   obtain rfl := Option.some.inj H
   exact RetP.mk (fun κ => cond (Nat.beq κ 0) 0 (κ)) trivial ⟨rfl, trivial⟩ rfl
  ·rw [if_neg hc1] at H
   refine AG.yes rfl (bne_iff_ne.2 hc1) ?_
   refine AG.skip ?_
   refine AG.block ?_
   refine AG.seq ?_
   refine AG.region HM ?_
   refine a_move (v := vI _) ?_
   refine a_move (v := vI _) ?_
   refine a_int (u := .bool (decide (x10 > x11))) ?_
   refine RA.nil nofun ?_
   by_cases hc4 : x10 > x11
   ·rw [if_pos hc4] at H
    refine AG.yes rfl (decide_eq_true hc4) ?_
    refine AG.seq ?_
    refine AG.region HM ?_
    refine a_move (v := .c (.own _ _)) ?_
    refine a_move (v := vI _) ?_
    refine a_move (v := vI _) ?_
    refine a_int (u := .int .i64 (wrap64 (x2 - x10))) ?_
    refine a_move (v := vI _) ?_
    refine a_move (v := vI _) ?_
    refine a_move (v := .c (.d (.fn _ _))) ?_
    obtain ⟨t5, e6, H⟩ := bindO H
    refine a_callM (v := .tup []) (nk := []) (L := []) (Mk := [(0, _)]) (ck := [(0, .row 2 (t5.map c2))]) ?_ rfl (slices_swapRangeCmpFunc_int64__impl_CutOrder_1.ok e6) id id (mcO (mcD (mcD (mcD (mcD m0))))) trivial ⟨rfl, trivial⟩ trivial ⟨rfl, trivial⟩ trivial ⟨rfl, trivial⟩ rfl rfl rfl
    refine RA.nil nofun ?_
    refine AG.relen 0 t5.length ?_
    refine AG.region HM ?_
    refine a_move (v := vI _) ?_
    refine a_move (v := vI _) ?_
    refine a_int (u := .int .i64 (wrap64 (x10 - x11))) ?_
    refine a_move (v := vI _) ?_
    refine RA.nil nofun ?_
    exact AGr.canon id (ih0 _ (by omega) _ ⟨by omega, _, _, _, _, _, H, rfl⟩) ⟨rfl, rfl, rfl, rfl, rfl, trivial⟩ ⟨rfl, trivial⟩ rfl
   ·rw [if_neg hc4] at H
    refine AG.no rfl (decide_eq_false hc4) ?_
    refine AG.seq ?_
    refine AG.region HM ?_
    refine a_move (v := .c (.own _ _)) ?_
    refine a_move (v := vI _) ?_
    refine a_move (v := vI _) ?_
    refine a_int (u := .int .i64 (wrap64 (x2 - x10))) ?_
    refine a_move (v := vI _) ?_
    refine a_move (v := vI _) ?_
    refine a_int (u := .int .i64 (wrap64 (x2 + x11))) ?_
    refine a_move (v := vI _) ?_
    refine a_int (u := .int .i64 (wrap64 ((wrap64 (x2 + x11)) - x10))) ?_
    refine a_move (v := vI _) ?_
    refine a_move (v := .c (.d (.fn _ _))) ?_
    obtain ⟨t7, e8, H⟩ := bindO H
    refine a_callM (v := .tup []) (nk := []) (L := []) (Mk := [(0, _)]) (ck := [(0, .row 2 (t7.map c2))]) ?_ rfl (slices_swapRangeCmpFunc_int64__impl_CutOrder_1.ok e8) id id (mcO (mcD (mcD (mcD (mcD m0))))) trivial ⟨rfl, trivial⟩ trivial ⟨rfl, trivial⟩ trivial ⟨rfl, trivial⟩ rfl rfl rfl
    refine RA.nil nofun ?_
    refine AG.relen 0 t7.length ?_
    refine AG.region HM ?_
    refine a_move (v := vI _) ?_
    refine a_move (v := vI _) ?_
    refine a_int (u := .int .i64 (wrap64 (x11 - x10))) ?_
    refine a_move (v := vI _) ?_
    refine RA.nil nofun ?_
    exact AGr.canon id (ih0 _ (by omega) _ ⟨by omega, _, _, _, _, _, H, rfl⟩) ⟨rfl, rfl, rfl, rfl, rfl, trivial⟩ ⟨rfl, trivial⟩ rfl
/-! ### slices_symMergeCmpFunc_int64__impl_CutOrder_1: function 92 -/
mutual
def slices_symMergeCmpFunc_int64__impl_CutOrder_1.l0 (F : (List Int) → Int → Int → Int → (List Int) → Option ((List Int))) : Nat → List Int → Int → List Int → Int → Int → Option ((List Int))
 | 0, _, _, _, _, _ => none
 | k + 1, x0, x1, x4_0_0, x10, x11 => if x10 < x11 then (if 0 ≤ (wrap64 (Int.fdiv ((wrap64 (x10 + x11)) % 18446744073709551616) 2)) then (if (wrap64 (Int.fdiv ((wrap64 (x10 + x11)) % 18446744073709551616) 2)) < (x0.length : Int) then (if 0 ≤ x1 then (if x1 < (x0.length : Int) then ((impl_CutOrder_1.f (rd2 x0 (wrap64 (Int.fdiv ((wrap64 (x10 + x11)) % 18446744073709551616) 2))) (rd2 x0 x1) x4_0_0).bind fun t7 => (if t7 < 0 then (slices_symMergeCmpFunc_int64__impl_CutOrder_1.l0 F k x0 x1 x4_0_0 (wrap64 ((wrap64 (Int.fdiv ((wrap64 (x10 + x11)) % 18446744073709551616) 2)) + 1)) x11) else (slices_symMergeCmpFunc_int64__impl_CutOrder_1.l0 F k x0 x1 x4_0_0 x10 (wrap64 (Int.fdiv ((wrap64 (x10 + x11)) % 18446744073709551616) 2))))) else (none)) else (none)) else (none)) else (none)) else (slices_symMergeCmpFunc_int64__impl_CutOrder_1.l1 F k x0 x10 x1)
def slices_symMergeCmpFunc_int64__impl_CutOrder_1.l1 (F : (List Int) → Int → Int → Int → (List Int) → Option ((List Int))) : Nat → List Int → Int → Int → Option ((List Int))
 | 0, _, _, _ => none
 | k + 1, x0, x10, x13 => if x13 < (wrap64 (x10 - 1)) then (if 0 ≤ (wrap64 (x13 + 1)) then (if (wrap64 (x13 + 1)) < (x0.length : Int) then (if 0 ≤ x13 then (if x13 < (x0.length : Int) then (slices_symMergeCmpFunc_int64__impl_CutOrder_1.l1 F k ((x0.set (x13 : Int).toNat (rd2 x0 (wrap64 (x13 + 1)))).set ((wrap64 (x13 + 1)) : Int).toNat (rd2 x0 x13)) x10 (wrap64 (x13 + 1))) else (none)) else (none)) else (none)) else (none)) else (some x0)
def slices_symMergeCmpFunc_int64__impl_CutOrder_1.l2 (F : (List Int) → Int → Int → Int → (List Int) → Option ((List Int))) : Nat → List Int → Int → List Int → Int → Int → Option ((List Int))
 | 0, _, _, _, _, _ => none
 | k + 1, x0, x2, x4_0_0, x14, x15 => if x14 < x15 then (if 0 ≤ x2 then (if x2 < (x0.length : Int) then (if 0 ≤ (wrap64 (Int.fdiv ((wrap64 (x14 + x15)) % 18446744073709551616) 2)) then (if (wrap64 (Int.fdiv ((wrap64 (x14 + x15)) % 18446744073709551616) 2)) < (x0.length : Int) then ((impl_CutOrder_1.f (rd2 x0 x2) (rd2 x0 (wrap64 (Int.fdiv ((wrap64 (x14 + x15)) % 18446744073709551616) 2))) x4_0_0).bind fun t23 => (if t23 < 0 then (slices_symMergeCmpFunc_int64__impl_CutOrder_1.l2 F k x0 x2 x4_0_0 x14 (wrap64 (Int.fdiv ((wrap64 (x14 + x15)) % 18446744073709551616) 2))) else (slices_symMergeCmpFunc_int64__impl_CutOrder_1.l2 F k x0 x2 x4_0_0 (wrap64 ((wrap64 (Int.fdiv ((wrap64 (x14 + x15)) % 18446744073709551616) 2)) + 1)) x15))) else (none)) else (none)) else (none)) else (none)) else (slices_symMergeCmpFunc_int64__impl_CutOrder_1.l3 F k x0 x14 x2)
def slices_symMergeCmpFunc_int64__impl_CutOrder_1.l3 (F : (List Int) → Int → Int → Int → (List Int) → Option ((List Int))) : Nat → List Int → Int → Int → Option ((List Int))
 | 0, _, _, _ => none
 | k + 1, x0, x14, x17 => if x17 > x14 then (if 0 ≤ (wrap64 (x17 - 1)) then (if (wrap64 (x17 - 1)) < (x0.length : Int) then (if 0 ≤ x17 then (if x17 < (x0.length : Int) then (slices_symMergeCmpFunc_int64__impl_CutOrder_1.l3 F k ((x0.set (x17 : Int).toNat (rd2 x0 (wrap64 (x17 - 1)))).set ((wrap64 (x17 - 1)) : Int).toNat (rd2 x0 x17)) x14 (wrap64 (x17 - 1))) else (none)) else (none)) else (none)) else (none)) else (some x0)
def slices_symMergeCmpFunc_int64__impl_CutOrder_1.j0 (F : (List Int) → Int → Int → Int → (List Int) → Option ((List Int))) : Nat → List Int → Int → Int → Int → List Int → Int → Int → Int → Int → Option ((List Int))
 | 0, _, _, _, _, _, _, _, _, _ => none
 | k + 1, x0, x1, x2, x3, x4_0_0, x18, x19, x20, x21 => slices_symMergeCmpFunc_int64__impl_CutOrder_1.l4 F k x0 x1 x2 x3 x4_0_0 x18 x19 x20 x21 (wrap64 (x19 - 1))
def slices_symMergeCmpFunc_int64__impl_CutOrder_1.l4 (F : (List Int) → Int → Int → Int → (List Int) → Option ((List Int))) : Nat → List Int → Int → Int → Int → List Int → Int → Int → Int → Int → Int → Option ((List Int))
 | 0, _, _, _, _, _, _, _, _, _, _ => none
 | k + 1, x0, x1, x2, x3, x4_0_0, x18, x19, x20, x21, x22 => if x20 < x21 then (if 0 ≤ (wrap64 (x22 - (wrap64 (Int.fdiv ((wrap64 (x20 + x21)) % 18446744073709551616) 2)))) then (if (wrap64 (x22 - (wrap64 (Int.fdiv ((wrap64 (x20 + x21)) % 18446744073709551616) 2)))) < (x0.length : Int) then (if 0 ≤ (wrap64 (Int.fdiv ((wrap64 (x20 + x21)) % 18446744073709551616) 2)) then (if (wrap64 (Int.fdiv ((wrap64 (x20 + x21)) % 18446744073709551616) 2)) < (x0.length : Int) then ((impl_CutOrder_1.f (rd2 x0 (wrap64 (x22 - (wrap64 (Int.fdiv ((wrap64 (x20 + x21)) % 18446744073709551616) 2))))) (rd2 x0 (wrap64 (Int.fdiv ((wrap64 (x20 + x21)) % 18446744073709551616) 2))) x4_0_0).bind fun t39 => (if t39 < 0 then (slices_symMergeCmpFunc_int64__impl_CutOrder_1.l4 F k x0 x1 x2 x3 x4_0_0 x18 x19 x20 (wrap64 (Int.fdiv ((wrap64 (x20 + x21)) % 18446744073709551616) 2)) x22) else (slices_symMergeCmpFunc_int64__impl_CutOrder_1.l4 F k x0 x1 x2 x3 x4_0_0 x18 x19 (wrap64 ((wrap64 (Int.fdiv ((wrap64 (x20 + x21)) % 18446744073709551616) 2)) + 1)) x21 x22))) else (none)) else (none)) else (none)) else (none)) else (if x20 < x2 then (slices_symMergeCmpFunc_int64__impl_CutOrder_1.j1 F k x0 x1 x2 x3 x4_0_0 x18 x20 (wrap64 (x19 - x20)) (decide (x2 < (wrap64 (x19 - x20))))) else (slices_symMergeCmpFunc_int64__impl_CutOrder_1.j1 F k x0 x1 x2 x3 x4_0_0 x18 x20 (wrap64 (x19 - x20)) false))
def slices_symMergeCmpFunc_int64__impl_CutOrder_1.j1 (F : (List Int) → Int → Int → Int → (List Int) → Option ((List Int))) : Nat → List Int → Int → Int → Int → List Int → Int → Int → Int → Bool → Option ((List Int))
 | 0, _, _, _, _, _, _, _, _, _ => none
 | k + 1, x0, x1, x2, x3, x4_0_0, x18, x20, x24, x185 => if x185 = true then ((slices_rotateCmpFunc_int64__impl_CutOrder_1.f k x0 x20 x2 x24 x4_0_0).bind fun t44 => (slices_symMergeCmpFunc_int64__impl_CutOrder_1.j2 F k t44 x1 x3 x4_0_0 x18 x20 x24)) else (slices_symMergeCmpFunc_int64__impl_CutOrder_1.j2 F k x0 x1 x3 x4_0_0 x18 x20 x24)
def slices_symMergeCmpFunc_int64__impl_CutOrder_1.j2 (F : (List Int) → Int → Int → Int → (List Int) → Option ((List Int))) : Nat → List Int → Int → Int → List Int → Int → Int → Int → Option ((List Int))
 | 0, _, _, _, _, _, _, _ => none
 | k + 1, x0, x1, x3, x4_0_0, x18, x20, x24 => if x1 < x20 then (slices_symMergeCmpFunc_int64__impl_CutOrder_1.j3 F k x0 x1 x3 x4_0_0 x18 x20 x24 (decide (x20 < x18))) else (slices_symMergeCmpFunc_int64__impl_CutOrder_1.j3 F k x0 x1 x3 x4_0_0 x18 x20 x24 false)
def slices_symMergeCmpFunc_int64__impl_CutOrder_1.j3 (F : (List Int) → Int → Int → Int → (List Int) → Option ((List Int))) : Nat → List Int → Int → Int → List Int → Int → Int → Int → Bool → Option ((List Int))
 | 0, _, _, _, _, _, _, _, _ => none
 | k + 1, x0, x1, x3, x4_0_0, x18, x20, x24, x199 => if x199 = true then ((F x0 x1 x20 x18 x4_0_0).bind fun t48 => (if x18 < x24 then (if x24 < x3 then ((F t48 x18 x24 x3 x4_0_0).bind fun t52 => (some t52)) else (some t48)) else (some t48))) else (if x18 < x24 then (if x24 < x3 then ((F x0 x18 x24 x3 x4_0_0).bind fun t56 => (some t56)) else (some x0)) else (some x0))
end
def slices_symMergeCmpFunc_int64__impl_CutOrder_1.g (F : (List Int) → Int → Int → Int → (List Int) → Option ((List Int))) (k : Nat) (l0 : List Int) (a1 : Int) (a2 : Int) (a3 : Int) (v4_0_0 : List Int) : Option ((List Int)) := if (wrap64 (a2 - a1)) = 1 then (slices_symMergeCmpFunc_int64__impl_CutOrder_1.l0 F k l0 a1 v4_0_0 a2 a3) else (if (wrap64 (a3 - a2)) = 1 then (slices_symMergeCmpFunc_int64__impl_CutOrder_1.l2 F k l0 a2 v4_0_0 a1 a2) else (if a2 > (wrap64 (Int.fdiv ((wrap64 (a1 + a3)) % 18446744073709551616) 2)) then (slices_symMergeCmpFunc_int64__impl_CutOrder_1.j0 F k l0 a1 a2 a3 v4_0_0 (wrap64 (Int.fdiv ((wrap64 (a1 + a3)) % 18446744073709551616) 2)) (wrap64 ((wrap64 (Int.fdiv ((wrap64 (a1 + a3)) % 18446744073709551616) 2)) + a2)) (wrap64 ((wrap64 ((wrap64 (Int.fdiv ((wrap64 (a1 + a3)) % 18446744073709551616) 2)) + a2)) - a3)) (wrap64 (Int.fdiv ((wrap64 (a1 + a3)) % 18446744073709551616) 2))) else (slices_symMergeCmpFunc_int64__impl_CutOrder_1.j0 F k l0 a1 a2 a3 v4_0_0 (wrap64 (Int.fdiv ((wrap64 (a1 + a3)) % 18446744073709551616) 2)) (wrap64 ((wrap64 (Int.fdiv ((wrap64 (a1 + a3)) % 18446744073709551616) 2)) + a2)) a1 a2)))
def slices_symMergeCmpFunc_int64__impl_CutOrder_1.r : Nat → (List Int) → Int → Int → Int → (List Int) → Option ((List Int))
 | 0, _, _, _, _, _ => none
 | k + 1, l0, a1, a2, a3, v4_0_0 => slices_symMergeCmpFunc_int64__impl_CutOrder_1.g (slices_symMergeCmpFunc_int64__impl_CutOrder_1.r k) k l0 a1 a2 a3 v4_0_0
def slices_symMergeCmpFunc_int64__impl_CutOrder_1.f (k : Nat) (l0 : List Int) (a1 : Int) (a2 : Int) (a3 : Int) (v4_0_0 : List Int) : Option ((List Int)) := slices_symMergeCmpFunc_int64__impl_CutOrder_1.r k l0 a1 a2 a3 v4_0_0
set_option maxRecDepth 100000 in
theorem slices_symMergeCmpFunc_int64__impl_CutOrder_1.gok {F : (List Int) → Int → Int → Int → (List Int) → Option ((List Int))} (hF : ∀ {l0 : List Int} {a1 : Int} {a2 : Int} {a3 : Int} {v4_0_0 : List Int} {r : List Int}, F l0 a1 a2 a3 v4_0_0 = some r → OkF Tryz.prog 92 [.c (.own 0 l0.length), vI a1, vI a2, vI a3, .c (.d (.fn 38 [.ro [.row 2 (v4_0_0.map c2)]]))] [(0, .row 2 (l0.map c2))] (.tup []) [(0, .row 2 (r.map c2))]) {k : Nat} {l0 : List Int} {a1 : Int} {a2 : Int} {a3 : Int} {v4_0_0 : List Int} {r : List Int} (H : slices_symMergeCmpFunc_int64__impl_CutOrder_1.g F k l0 a1 a2 a3 v4_0_0 = some r) : OkF Tryz.prog 92 [.c (.own 0 l0.length), vI a1, vI a2, vI a3, .c (.d (.fn 38 [.ro [.row 2 (v4_0_0.map c2)]]))] [(0, .row 2 (l0.map c2))] (.tup []) [(0, .row 2 (r.map c2))] := by
 unfold slices_symMergeCmpFunc_int64__impl_CutOrder_1.g at H
 refine OkF.of (N := 220) (rs := []) (avs := []) Tryz.func92 rfl rfl (fun _ _ => results_none rfl _ _ _) (by decide) rfl rfl rfl rfl (fun w0 S => ?_)
 refine AG.seq ?_
 refine AG.seq ?_
 refine AG.region HM ?_
 refine a_move (v := vI _) ?_
 refine a_move (v := vI _) ?_
 refine a_int (u := .int .i64 (wrap64 (a2 - a1))) ?_
 refine a_int (u := .bool (((wrap64 (a2 - a1)) == 1))) ?_
 refine RA.nil nofun ?_
 by_cases hc1 : (wrap64 (a2 - a1)) = 1
 ·rw [if_pos hc1] at H
  refine AG.yes rfl (beq_iff_eq.2 hc1) ?_
  refine AG.seq ?_
  refine AG.region HM ?_
  refine a_move (v := vI _) ?_
  refine a_move (v := vI _) ?_
  refine RA.nil nofun ?_
  refine AG.seq ?_
  refine AG.region HM ?_
  refine a_move (v := vI _) ?_
  refine a_move (v := vI _) ?_
  refine RA.nil nofun ?_
  refine AG.seq ?_
  refine AG.block ?_
  refine AG.loop ?_
  obtain ⟨K0, hK0, gK0⟩ : ∃ K, k ≤ K ∧ K ≤ k := ⟨k, Nat.le_refl k, Nat.le_refl k⟩
  refine AGr.canon id (AGr.loopI (n := k) (fun k s => k ≤ K0 ∧ ∃ (x0 : List Int) (x1 : Int) (x4_0_0 : List Int) (x10 : Int) (x11 : Int), slices_symMergeCmpFunc_int64__impl_CutOrder_1.l0 F k x0 x1 x4_0_0 x10 x11 = some r ∧ s = St.of [(0, .c (.own 0 x0.length)), (1, vI x1), (4, .c (.d (.fn 38 [.ro [.row 2 (x4_0_0.map c2)]]))), (10, vI x10), (11, vI x11)] [(0, .row 2 (x0.map c2))]) ⟨hK0, _, _, _, _, _, H, rfl⟩ ?_ ?_) ⟨rfl, rfl, rfl, rfl, rfl, trivial⟩ ⟨rfl, trivial⟩ rfl
  ·rintro _ ⟨_, _, _, _, _, _, H, _⟩
   cases H
  ·clear H hK0
   rintro k ih0 _ ⟨hK0, x0, x1, x4_0_0, x10, x11, H, rfl⟩
   unfold slices_symMergeCmpFunc_int64__impl_CutOrder_1.l0 at H
   refine AG.seq ?_
   refine AG.seq ?_
   refine AG.region HM ?_
   refine a_move (v := vI _) ?_
   refine a_move (v := vI _) ?_
   refine a_int (u := .bool (decide (x10 < x11))) ?_
   refine RA.nil nofun ?_
   by_cases hc2 : x10 < x11
   ·rw [if_pos hc2] at H
    refine AG.yes rfl (decide_eq_true hc2) ?_
    refine AG.skip ?_
    refine AG.block ?_
    refine AG.seq ?_
    refine AG.region HM ?_
    refine a_move (v := vI _) ?_
    refine a_move (v := vI _) ?_
    refine a_int (u := .int .i64 (wrap64 (x10 + x11))) ?_
    refine a_conv (j := (wrap64 (x10 + x11)) % 18446744073709551616) ?_ Tryz.underlying3 Tryz.underlying109
    refine a_bin (u := .int .u64 (Int.fdiv ((wrap64 (x10 + x11)) % 18446744073709551616) 2)) ?_ (hp := by exact rfl)
    refine a_conv (j := wrap64 (Int.fdiv ((wrap64 (x10 + x11)) % 18446744073709551616) 2)) ?_ Tryz.underlying109 Tryz.underlying3
    refine a_move (v := vI _) ?_
    refine RA.nil nofun ?_
    refine AG.seq ?_
    refine AG.region HM ?_
    refine a_move (v := .c (.d (.fn _ _))) ?_
    refine a_move (v := .c (.own _ _)) ?_
    refine a_move (v := vI _) ?_
    by_cases hc3 : 0 ≤ (wrap64 (Int.fdiv ((wrap64 (x10 + x11)) % 18446744073709551616) 2))
    ·rw [if_pos hc3] at H
     by_cases hc4 : (wrap64 (Int.fdiv ((wrap64 (x10 + x11)) % 18446744073709551616) 2)) < (x0.length : Int)
     ·rw [if_pos hc4] at H
      refine a_ixO ?_ ⟨hc3, hc4⟩ T2 Tryz.underlying27
      refine a_ldE (v := vI _) ?_ (G2 hc3 hc4) T2
      refine a_move (v := .c (.own _ _)) ?_
      refine a_move (v := vI _) ?_
      by_cases hc5 : 0 ≤ x1
      ·rw [if_pos hc5] at H
       by_cases hc6 : x1 < (x0.length : Int)
       ·rw [if_pos hc6] at H
        refine a_ixO ?_ ⟨hc5, hc6⟩ T2 Tryz.underlying27
        refine a_ldE (v := vI _) ?_ (G2 hc5 hc6) T2
        obtain ⟨t7, e8, H⟩ := bindO H
        refine a_callW (v := vI t7) (nk := []) (L := []) ?_ rfl rfl (impl_CutOrder_1.ok e8) id (qd (qd qn)) rfl trivial trivial trivial rfl
        refine a_int (u := .bool (decide (t7 < 0))) ?_
        refine RA.nil (fun _ => by kernel_rfl) ?_
        by_cases hc9 : t7 < 0
        ·rw [if_pos hc9] at H
         refine AG.yes rfl (decide_eq_true hc9) ?_
         refine AG.region HM ?_
         refine a_move (v := vI _) ?_
         refine a_int (u := .int .i64 (wrap64 ((wrap64 (Int.fdiv ((wrap64 (x10 + x11)) % 18446744073709551616) 2)) + 1))) ?_
         refine a_move (v := vI _) ?_
         refine RA.nil nofun ?_
         exact AGr.canon id (ih0 _ (by omega) _ ⟨by omega, _, _, _, _, _, H, rfl⟩) ⟨rfl, rfl, rfl, rfl, rfl, trivial⟩ ⟨rfl, trivial⟩ rfl
        ·rw [if_neg hc9] at H
         refine AG.no rfl (decide_eq_false hc9) ?_
         refine AG.region HM ?_
         refine a_move (v := vI _) ?_
         refine a_move (v := vI _) ?_
         refine RA.nil nofun ?_
         exact AGr.canon id (ih0 _ (by omega) _ ⟨by omega, _, _, _, _, _, H, rfl⟩) ⟨rfl, rfl, rfl, rfl, rfl, trivial⟩ ⟨rfl, trivial⟩ rfl
       ·rw [if_neg hc6] at H
        cases H
      ·rw [if_neg hc5] at H
       cases H
     ·rw [if_neg hc4] at H
      cases H
    ·rw [if_neg hc3] at H
     cases H
   ·rw [if_neg hc2] at H
    refine AG.no rfl (decide_eq_false hc2) ?_
    refine AG.exit ?_
    refine AG.seq ?_
    refine AG.seq ?_
    refine AG.region HM ?_
    refine a_move (v := vI _) ?_
    refine a_move (v := vI _) ?_
    refine RA.nil nofun ?_
    refine AG.block ?_
    refine AG.loop ?_
    obtain ⟨K1, hK1, gK1⟩ : ∃ K, k ≤ K ∧ K ≤ k := ⟨k, Nat.le_refl k, Nat.le_refl k⟩
    refine AGr.canon id (AGr.loopI (n := k) (fun k s => k ≤ K1 ∧ ∃ (x0 : List Int) (x10 : Int) (x13 : Int), slices_symMergeCmpFunc_int64__impl_CutOrder_1.l1 F k x0 x10 x13 = some r ∧ s = St.of [(0, .c (.own 0 x0.length)), (10, vI x10), (13, vI x13)] [(0, .row 2 (x0.map c2))]) ⟨hK1, _, _, _, H, rfl⟩ ?_ ?_) ⟨rfl, rfl, rfl, trivial⟩ ⟨rfl, trivial⟩ rfl
    ·rintro _ ⟨_, _, _, _, H, _⟩
     cases H
    ·clear H hK1
     rintro k ih1 _ ⟨hK1, x0, x10, x13, H, rfl⟩
     unfold slices_symMergeCmpFunc_int64__impl_CutOrder_1.l1 at H
     refine AG.seq ?_
     refine AG.seq ?_
     refine AG.region HM ?_
     refine a_move (v := vI _) ?_
     refine a_move (v := vI _) ?_
     refine a_int (u := .int .i64 (wrap64 (x10 - 1))) ?_
     refine a_int (u := .bool (decide (x13 < (wrap64 (x10 - 1))))) ?_
     refine RA.nil nofun ?_
     by_cases hc10 : x13 < (wrap64 (x10 - 1))
     ·rw [if_pos hc10] at H
      refine AG.yes rfl (decide_eq_true hc10) ?_
      refine AG.skip ?_
      refine AG.seq ?_
      refine AG.block ?_
      refine AG.region HM ?_
      refine a_move (v := .c (.own _ _)) ?_
      refine a_move (v := vI _) ?_
      refine a_move (v := .c (.own _ _)) ?_
      refine a_move (v := vI _) ?_
      refine a_int (u := .int .i64 (wrap64 (x13 + 1))) ?_
      refine a_move (v := .c (.own _ _)) ?_
      refine a_move (v := vI _) ?_
      refine a_int (u := .int .i64 (wrap64 (x13 + 1))) ?_
      by_cases hc11 : 0 ≤ (wrap64 (x13 + 1))
      ·rw [if_pos hc11] at H
       by_cases hc12 : (wrap64 (x13 + 1)) < (x0.length : Int)
       ·rw [if_pos hc12] at H
        refine a_ixO ?_ ⟨hc11, hc12⟩ T2 Tryz.underlying27
        refine a_ldE (v := vI _) ?_ (G2 hc11 hc12) T2
        refine a_move (v := .c (.own _ _)) ?_
        refine a_move (v := vI _) ?_
        by_cases hc13 : 0 ≤ x13
        ·rw [if_pos hc13] at H
         by_cases hc14 : x13 < (x0.length : Int)
         ·rw [if_pos hc14] at H
          refine a_ixO ?_ ⟨hc13, hc14⟩ T2 Tryz.underlying27
          refine a_ldE (v := vI _) ?_ (G2 hc13 hc14) T2
          refine a_ixO ?_ ⟨hc13, hc14⟩ T2 Tryz.underlying27
          refine a_stF (css' := (x0.set (x13 : Int).toNat (rd2 x0 (wrap64 (x13 + 1)))).map c2) ?_ (flat_map (fun _ => rfl)) (G2 hc13 hc14) T2 (hcss := by exact set_map rfl)
          refine a_ixO ?_ ⟨hc11, hc12⟩ T2 Tryz.underlying27
          refine a_stF (css' := ((x0.set (x13 : Int).toNat (rd2 x0 (wrap64 (x13 + 1)))).set ((wrap64 (x13 + 1)) : Int).toNat (rd2 x0 x13)).map c2) ?_ (flat_map (fun _ => rfl)) (G2 (l := (x0.set (x13 : Int).toNat (rd2 x0 (wrap64 (x13 + 1))))) hc11 (by simpa using hc12)) T2 (hcss := by exact set_map rfl)
          refine RA.nil (fun _ => by kernel_rfl) ?_
          refine AG.region HM ?_
          refine a_move (v := vI _) ?_
          refine a_int (u := .int .i64 (wrap64 (x13 + 1))) ?_
          refine a_move (v := vI _) ?_
          refine RA.nil nofun ?_
          exact AGr.canon id (ih1 _ (by omega) _ ⟨by omega, _, _, _, H, rfl⟩) ⟨(ownE rfl (by simp)), rfl, rfl, trivial⟩ ⟨rfl, trivial⟩ rfl
         ·rw [if_neg hc14] at H
          cases H
        ·rw [if_neg hc13] at H
         cases H
       ·rw [if_neg hc12] at H
        cases H
      ·rw [if_neg hc11] at H
       cases H
     ·rw [if_neg hc10] at H
      refine AG.no rfl (decide_eq_false hc10) ?_
      refine AG.exit ?_
      refine AG.ret ?_
      obtain rfl := Option.some.inj H
      exact RetP.mk (fun κ => cond (Nat.beq κ 0) 0 (κ)) trivial ⟨rfl, trivial⟩ rfl
 ·rw [if_neg hc1] at H
  refine AG.no rfl (beq_eq_false_iff_ne.2 hc1) ?_
  refine AG.skip ?_
  refine AG.seq ?_
  refine AG.seq ?_
  refine AG.region HM ?_
  refine a_move (v := vI _) ?_
  refine a_move (v := vI _) ?_
  refine a_int (u := .int .i64 (wrap64 (a3 - a2))) ?_
  refine a_int (u := .bool (((wrap64 (a3 - a2)) == 1))) ?_
  refine RA.nil nofun ?_
  by_cases hc17 : (wrap64 (a3 - a2)) = 1
  ·rw [if_pos hc17] at H
   refine AG.yes rfl (beq_iff_eq.2 hc17) ?_
   refine AG.seq ?_
   refine AG.region HM ?_
   refine a_move (v := vI _) ?_
   refine a_move (v := vI _) ?_
   refine RA.nil nofun ?_
   refine AG.seq ?_
   refine AG.region HM ?_
   refine a_move (v := vI _) ?_
   refine a_move (v := vI _) ?_
   refine RA.nil nofun ?_
   refine AG.seq ?_
   refine AG.block ?_
   refine AG.loop ?_
   obtain ⟨K2, hK2, gK2⟩ : ∃ K, k ≤ K ∧ K ≤ k := ⟨k, Nat.le_refl k, Nat.le_refl k⟩
   refine AGr.canon id (AGr.loopI (n := k) (fun k s => k ≤ K2 ∧ ∃ (x0 : List Int) (x2 : Int) (x4_0_0 : List Int) (x14 : Int) (x15 : Int), slices_symMergeCmpFunc_int64__impl_CutOrder_1.l2 F k x0 x2 x4_0_0 x14 x15 = some r ∧ s = St.of [(0, .c (.own 0 x0.length)), (2, vI x2), (4, .c (.d (.fn 38 [.ro [.row 2 (x4_0_0.map c2)]]))), (14, vI x14), (15, vI x15)] [(0, .row 2 (x0.map c2))]) ⟨hK2, _, _, _, _, _, H, rfl⟩ ?_ ?_) ⟨rfl, rfl, rfl, rfl, rfl, trivial⟩ ⟨rfl, trivial⟩ rfl
   ·rintro _ ⟨_, _, _, _, _, _, H, _⟩
    cases H
   ·clear H hK2
    rintro k ih2 _ ⟨hK2, x0, x2, x4_0_0, x14, x15, H, rfl⟩
    unfold slices_symMergeCmpFunc_int64__impl_CutOrder_1.l2 at H
    refine AG.seq ?_
    refine AG.seq ?_
    refine AG.region HM ?_
    refine a_move (v := vI _) ?_
    refine a_move (v := vI _) ?_
    refine a_int (u := .bool (decide (x14 < x15))) ?_
    refine RA.nil nofun ?_
    by_cases hc18 : x14 < x15
    ·rw [if_pos hc18] at H
     refine AG.yes rfl (decide_eq_true hc18) ?_
     refine AG.skip ?_
     refine AG.block ?_
     refine AG.seq ?_
     refine AG.region HM ?_
     refine a_move (v := vI _) ?_
     refine a_move (v := vI _) ?_
     refine a_int (u := .int .i64 (wrap64 (x14 + x15))) ?_
     refine a_conv (j := (wrap64 (x14 + x15)) % 18446744073709551616) ?_ Tryz.underlying3 Tryz.underlying109
     refine a_bin (u := .int .u64 (Int.fdiv ((wrap64 (x14 + x15)) % 18446744073709551616) 2)) ?_ (hp := by exact rfl)
     refine a_conv (j := wrap64 (Int.fdiv ((wrap64 (x14 + x15)) % 18446744073709551616) 2)) ?_ Tryz.underlying109 Tryz.underlying3
     refine a_move (v := vI _) ?_
     refine RA.nil nofun ?_
     refine AG.seq ?_
     refine AG.region HM ?_
     refine a_move (v := .c (.d (.fn _ _))) ?_
     refine a_move (v := .c (.own _ _)) ?_
     refine a_move (v := vI _) ?_
     by_cases hc19 : 0 ≤ x2
     ·rw [if_pos hc19] at H
      by_cases hc20 : x2 < (x0.length : Int)
      ·rw [if_pos hc20] at H
       refine a_ixO ?_ ⟨hc19, hc20⟩ T2 Tryz.underlying27
       refine a_ldE (v := vI _) ?_ (G2 hc19 hc20) T2
       refine a_move (v := .c (.own _ _)) ?_
       refine a_move (v := vI _) ?_
       by_cases hc21 : 0 ≤ (wrap64 (Int.fdiv ((wrap64 (x14 + x15)) % 18446744073709551616) 2))
       ·rw [if_pos hc21] at H
        by_cases hc22 : (wrap64 (Int.fdiv ((wrap64 (x14 + x15)) % 18446744073709551616) 2)) < (x0.length : Int)
        ·rw [if_pos hc22] at H
         refine a_ixO ?_ ⟨hc21, hc22⟩ T2 Tryz.underlying27
         refine a_ldE (v := vI _) ?_ (G2 hc21 hc22) T2
         obtain ⟨t23, e24, H⟩ := bindO H
         refine a_callW (v := vI t23) (nk := []) (L := []) ?_ rfl rfl (impl_CutOrder_1.ok e24) id (qd (qd qn)) rfl trivial trivial trivial rfl
         refine a_int (u := .bool (decide (t23 < 0))) ?_
         refine a_un (u := .bool (!(decide (t23 < 0)))) ?_
         refine RA.nil (fun _ => by kernel_rfl) ?_
         by_cases hc25 : t23 < 0
         ·rw [if_pos hc25] at H
          refine AG.no rfl (congrArg Bool.not (decide_eq_true hc25)) ?_
          refine AG.region HM ?_
          refine a_move (v := vI _) ?_
          refine a_move (v := vI _) ?_
          refine RA.nil nofun ?_
          exact AGr.canon id (ih2 _ (by omega) _ ⟨by omega, _, _, _, _, _, H, rfl⟩) ⟨rfl, rfl, rfl, rfl, rfl, trivial⟩ ⟨rfl, trivial⟩ rfl
         ·rw [if_neg hc25] at H
          refine AG.yes rfl (congrArg Bool.not (decide_eq_false hc25)) ?_
          refine AG.region HM ?_
          refine a_move (v := vI _) ?_
          refine a_int (u := .int .i64 (wrap64 ((wrap64 (Int.fdiv ((wrap64 (x14 + x15)) % 18446744073709551616) 2)) + 1))) ?_
          refine a_move (v := vI _) ?_
          refine RA.nil nofun ?_
          exact AGr.canon id (ih2 _ (by omega) _ ⟨by omega, _, _, _, _, _, H, rfl⟩) ⟨rfl, rfl, rfl, rfl, rfl, trivial⟩ ⟨rfl, trivial⟩ rfl
        ·rw [if_neg hc22] at H
         cases H
       ·rw [if_neg hc21] at H
        cases H
      ·rw [if_neg hc20] at H
       cases H
     ·rw [if_neg hc19] at H
      cases H
    ·rw [if_neg hc18] at H
     refine AG.no rfl (decide_eq_false hc18) ?_
     refine AG.exit ?_
     refine AG.seq ?_
     refine AG.seq ?_
     refine AG.region HM ?_
     refine a_move (v := vI _) ?_
     refine a_move (v := vI _) ?_
     refine RA.nil nofun ?_
     refine AG.block ?_
     refine AG.loop ?_
     obtain ⟨K3, hK3, gK3⟩ : ∃ K, k ≤ K ∧ K ≤ k := ⟨k, Nat.le_refl k, Nat.le_refl k⟩
     refine AGr.canon id (AGr.loopI (n := k) (fun k s => k ≤ K3 ∧ ∃ (x0 : List Int) (x14 : Int) (x17 : Int), slices_symMergeCmpFunc_int64__impl_CutOrder_1.l3 F k x0 x14 x17 = some r ∧ s = St.of [(0, .c (.own 0 x0.length)), (14, vI x14), (17, vI x17)] [(0, .row 2 (x0.map c2))]) ⟨hK3, _, _, _, H, rfl⟩ ?_ ?_) ⟨rfl, rfl, rfl, trivial⟩ ⟨rfl, trivial⟩ rfl
     ·rintro _ ⟨_, _, _, _, H, _⟩
      cases H
     ·clear H hK3
      rintro k ih3 _ ⟨hK3, x0, x14, x17, H, rfl⟩
      unfold slices_symMergeCmpFunc_int64__impl_CutOrder_1.l3 at H
      refine AG.seq ?_
      refine AG.seq ?_
      refine AG.region HM ?_
      refine a_move (v := vI _) ?_
      refine a_move (v := vI _) ?_
      refine a_int (u := .bool (decide (x17 > x14))) ?_
      refine RA.nil nofun ?_
      by_cases hc26 : x17 > x14
      ·rw [if_pos hc26] at H
       refine AG.yes rfl (decide_eq_true hc26) ?_
       refine AG.skip ?_
       refine AG.seq ?_
       refine AG.block ?_
       refine AG.region HM ?_
       refine a_move (v := .c (.own _ _)) ?_
       refine a_move (v := vI _) ?_
       refine a_move (v := .c (.own _ _)) ?_
       refine a_move (v := vI _) ?_
       refine a_int (u := .int .i64 (wrap64 (x17 - 1))) ?_
       refine a_move (v := .c (.own _ _)) ?_
       refine a_move (v := vI _) ?_
       refine a_int (u := .int .i64 (wrap64 (x17 - 1))) ?_
       by_cases hc27 : 0 ≤ (wrap64 (x17 - 1))
       ·rw [if_pos hc27] at H
        by_cases hc28 : (wrap64 (x17 - 1)) < (x0.length : Int)
        ·rw [if_pos hc28] at H
         refine a_ixO ?_ ⟨hc27, hc28⟩ T2 Tryz.underlying27
         refine a_ldE (v := vI _) ?_ (G2 hc27 hc28) T2
         refine a_move (v := .c (.own _ _)) ?_
         refine a_move (v := vI _) ?_
         by_cases hc29 : 0 ≤ x17
         ·rw [if_pos hc29] at H
          by_cases hc30 : x17 < (x0.length : Int)
          ·rw [if_pos hc30] at H
           refine a_ixO ?_ ⟨hc29, hc30⟩ T2 Tryz.underlying27
           refine a_ldE (v := vI _) ?_ (G2 hc29 hc30) T2
           refine a_ixO ?_ ⟨hc29, hc30⟩ T2 Tryz.underlying27
           refine a_stF (css' := (x0.set (x17 : Int).toNat (rd2 x0 (wrap64 (x17 - 1)))).map c2) ?_ (flat_map (fun _ => rfl)) (G2 hc29 hc30) T2 (hcss := by exact set_map rfl)
           refine a_ixO ?_ ⟨hc27, hc28⟩ T2 Tryz.underlying27
           refine a_stF (css' := ((x0.set (x17 : Int).toNat (rd2 x0 (wrap64 (x17 - 1)))).set ((wrap64 (x17 - 1)) : Int).toNat (rd2 x0 x17)).map c2) ?_ (flat_map (fun _ => rfl)) (G2 (l := (x0.set (x17 : Int).toNat (rd2 x0 (wrap64 (x17 - 1))))) hc27 (by simpa using hc28)) T2 (hcss := by exact set_map rfl)
           refine RA.nil (fun _ => by kernel_rfl) ?_
           refine AG.region HM ?_
           refine a_move (v := vI _) ?_
           refine a_int (u := .int .i64 (wrap64 (x17 - 1))) ?_
           refine a_move (v := vI _) ?_
           refine RA.nil nofun ?_
           exact AGr.canon id (ih3 _ (by omega) _ ⟨by omega, _, _, _, H, rfl⟩) ⟨(ownE rfl (by simp)), rfl, rfl, trivial⟩ ⟨rfl, trivial⟩ rfl
          ·rw [if_neg hc30] at H
           cases H
         ·rw [if_neg hc29] at H
          cases H
        ·rw [if_neg hc28] at H
         cases H
       ·rw [if_neg hc27] at H
        cases H
      ·rw [if_neg hc26] at H
       refine AG.no rfl (decide_eq_false hc26) ?_
       refine AG.exit ?_
       refine AG.ret ?_
       obtain rfl := Option.some.inj H
       exact RetP.mk (fun κ => cond (Nat.beq κ 0) 0 (κ)) trivial ⟨rfl, trivial⟩ rfl
  ·rw [if_neg hc17] at H
   refine AG.no rfl (beq_eq_false_iff_ne.2 hc17) ?_
   refine AG.skip ?_
   refine AG.seq ?_
   refine AG.region HM ?_
   refine a_move (v := vI _) ?_
   refine a_move (v := vI _) ?_
   refine a_int (u := .int .i64 (wrap64 (a1 + a3))) ?_
   refine a_conv (j := (wrap64 (a1 + a3)) % 18446744073709551616) ?_ Tryz.underlying3 Tryz.underlying109
   refine a_bin (u := .int .u64 (Int.fdiv ((wrap64 (a1 + a3)) % 18446744073709551616) 2)) ?_ (hp := by exact rfl)
   refine a_conv (j := wrap64 (Int.fdiv ((wrap64 (a1 + a3)) % 18446744073709551616) 2)) ?_ Tryz.underlying109 Tryz.underlying3
   refine a_move (v := vI _) ?_
   refine RA.nil nofun ?_
   refine AG.seq ?_
   refine AG.region HM ?_
   refine a_move (v := vI _) ?_
   refine a_move (v := vI _) ?_
   refine a_int (u := .int .i64 (wrap64 ((wrap64 (Int.fdiv ((wrap64 (a1 + a3)) % 18446744073709551616) 2)) + a2))) ?_
   refine a_move (v := vI _) ?_
   refine RA.nil nofun ?_
   refine AG.seq ?_
   refine AG.region HM ?_
   refine a_move (v := vI _) ?_
   refine a_move (v := vI _) ?_
   refine RA.nil nofun ?_
   refine AG.seq ?_
   refine AG.seq ?_
   refine AG.region HM ?_
   refine a_move (v := vI _) ?_
   refine a_move (v := vI _) ?_
   refine a_int (u := .bool (decide (a2 > (wrap64 (Int.fdiv ((wrap64 (a1 + a3)) % 18446744073709551616) 2))))) ?_
   refine RA.nil nofun ?_
   refine AG.joinR (fun s => ∃ q, q ≤ k ∧ ∃ (x0 : List Int) (x1 : Int) (x2 : Int) (x3 : Int) (x4_0_0 : List Int) (x18 : Int) (x19 : Int) (x20 : Int) (x21 : Int), slices_symMergeCmpFunc_int64__impl_CutOrder_1.j0 F q x0 x1 x2 x3 x4_0_0 x18 x19 x20 x21 = some r ∧ s = St.of [(0, .c (.own 0 x0.length)), (1, vI x1), (2, vI x2), (3, vI x3), (4, .c (.d (.fn 38 [.ro [.row 2 (x4_0_0.map c2)]]))), (18, vI x18), (19, vI x19), (20, vI x20), (21, vI x21)] [(0, .row 2 (x0.map c2))]) ?_ ?_
   ·skip
    by_cases hc33 : a2 > (wrap64 (Int.fdiv ((wrap64 (a1 + a3)) % 18446744073709551616) 2))
    ·rw [if_pos hc33] at H
     refine AG.yes rfl (decide_eq_true hc33) ?_
     refine AG.seq ?_
     refine AG.region HM ?_
     refine a_move (v := vI _) ?_
     refine a_move (v := vI _) ?_
     refine a_int (u := .int .i64 (wrap64 ((wrap64 ((wrap64 (Int.fdiv ((wrap64 (a1 + a3)) % 18446744073709551616) 2)) + a2)) - a3))) ?_
     refine a_move (v := vI _) ?_
     refine RA.nil nofun ?_
     refine AG.region HM ?_
     refine a_move (v := vI _) ?_
     refine a_move (v := vI _) ?_
     refine RA.nil nofun ?_
     exact CanR.mk id ⟨_, (by omega), _, _, _, _, _, _, _, _, _, H, rfl⟩ ⟨rfl, rfl, rfl, rfl, rfl, rfl, rfl, rfl, rfl, trivial⟩ ⟨rfl, trivial⟩ rfl
    ·rw [if_neg hc33] at H
     refine AG.no rfl (decide_eq_false hc33) ?_
     refine AG.seq ?_
     refine AG.region HM ?_
     refine a_move (v := vI _) ?_
     refine a_move (v := vI _) ?_
     refine RA.nil nofun ?_
     refine AG.region HM ?_
     refine a_move (v := vI _) ?_
     refine a_move (v := vI _) ?_
     refine RA.nil nofun ?_
     exact CanR.mk id ⟨_, (by omega), _, _, _, _, _, _, _, _, _, H, rfl⟩ ⟨rfl, rfl, rfl, rfl, rfl, rfl, rfl, rfl, rfl, trivial⟩ ⟨rfl, trivial⟩ rfl
   ·clear H
    rintro _ ⟨k, hj0, x0, x1, x2, x3, x4_0_0, x18, x19, x20, x21, H, rfl⟩
    cases k with
    | zero => cases H
    | succ k =>
     rw [slices_symMergeCmpFunc_int64__impl_CutOrder_1.j0] at H
     refine AG.seq ?_
     refine AG.region HM ?_
     refine a_move (v := vI _) ?_
     refine a_int (u := .int .i64 (wrap64 (x19 - 1))) ?_
     refine a_move (v := vI _) ?_
     refine RA.nil nofun ?_
     refine AG.seq ?_
     refine AG.block ?_
     refine AG.loop ?_
     obtain ⟨K4, hK4, gK4⟩ : ∃ K, k ≤ K ∧ K ≤ k := ⟨k, Nat.le_refl k, Nat.le_refl k⟩
     refine AGr.canon id (AGr.loopI (n := k) (fun k s => k ≤ K4 ∧ ∃ (x0 : List Int) (x1 : Int) (x2 : Int) (x3 : Int) (x4_0_0 : List Int) (x18 : Int) (x19 : Int) (x20 : Int) (x21 : Int) (x22 : Int), slices_symMergeCmpFunc_int64__impl_CutOrder_1.l4 F k x0 x1 x2 x3 x4_0_0 x18 x19 x20 x21 x22 = some r ∧ s = St.of [(0, .c (.own 0 x0.length)), (1, vI x1), (2, vI x2), (3, vI x3), (4, .c (.d (.fn 38 [.ro [.row 2 (x4_0_0.map c2)]]))), (18, vI x18), (19, vI x19), (20, vI x20), (21, vI x21), (22, vI x22)] [(0, .row 2 (x0.map c2))]) ⟨hK4, _, _, _, _, _, _, _, _, _, _, H, rfl⟩ ?_ ?_) ⟨rfl, rfl, rfl, rfl, rfl, rfl, rfl, rfl, rfl, rfl, trivial⟩ ⟨rfl, trivial⟩ rfl
     ·rintro _ ⟨_, _, _, _, _, _, _, _, _, _, _, H, _⟩
      cases H
     ·clear H hK4
      rintro k ih4 _ ⟨hK4, x0, x1, x2, x3, x4_0_0, x18, x19, x20, x21, x22, H, rfl⟩
      unfold slices_symMergeCmpFunc_int64__impl_CutOrder_1.l4 at H
      refine AG.seq ?_
      refine AG.seq ?_
      refine AG.region HM ?_
      refine a_move (v := vI _) ?_
      refine a_move (v := vI _) ?_
      refine a_int (u := .bool (decide (x20 < x21))) ?_
      refine RA.nil nofun ?_
      by_cases hc34 : x20 < x21
      ·rw [if_pos hc34] at H
       refine AG.yes rfl (decide_eq_true hc34) ?_
       refine AG.skip ?_
       refine AG.block ?_
       refine AG.seq ?_
       refine AG.region HM ?_
       refine a_move (v := vI _) ?_
       refine a_move (v := vI _) ?_
       refine a_int (u := .int .i64 (wrap64 (x20 + x21))) ?_
       refine a_conv (j := (wrap64 (x20 + x21)) % 18446744073709551616) ?_ Tryz.underlying3 Tryz.underlying109
       refine a_bin (u := .int .u64 (Int.fdiv ((wrap64 (x20 + x21)) % 18446744073709551616) 2)) ?_ (hp := by exact rfl)
       refine a_conv (j := wrap64 (Int.fdiv ((wrap64 (x20 + x21)) % 18446744073709551616) 2)) ?_ Tryz.underlying109 Tryz.underlying3
       refine a_move (v := vI _) ?_
       refine RA.nil nofun ?_
       refine AG.seq ?_
       refine AG.region HM ?_
       refine a_move (v := .c (.d (.fn _ _))) ?_
       refine a_move (v := .c (.own _ _)) ?_
       refine a_move (v := vI _) ?_
       refine a_move (v := vI _) ?_
       refine a_int (u := .int .i64 (wrap64 (x22 - (wrap64 (Int.fdiv ((wrap64 (x20 + x21)) % 18446744073709551616) 2))))) ?_
       by_cases hc35 : 0 ≤ (wrap64 (x22 - (wrap64 (Int.fdiv ((wrap64 (x20 + x21)) % 18446744073709551616) 2))))
       ·rw [if_pos hc35] at H
        by_cases hc36 : (wrap64 (x22 - (wrap64 (Int.fdiv ((wrap64 (x20 + x21)) % 18446744073709551616) 2)))) < (x0.length : Int)
        ·rw [if_pos hc36] at H
         refine a_ixO ?_ ⟨hc35, hc36⟩ T2 Tryz.underlying27
         refine a_ldE (v := vI _) ?_ (G2 hc35 hc36) T2
         refine a_move (v := .c (.own _ _)) ?_
         refine a_move (v := vI _) ?_
         by_cases hc37 : 0 ≤ (wrap64 (Int.fdiv ((wrap64 (x20 + x21)) % 18446744073709551616) 2))
         ·rw [if_pos hc37] at H
          by_cases hc38 : (wrap64 (Int.fdiv ((wrap64 (x20 + x21)) % 18446744073709551616) 2)) < (x0.length : Int)
          ·rw [if_pos hc38] at H
           refine a_ixO ?_ ⟨hc37, hc38⟩ T2 Tryz.underlying27
           refine a_ldE (v := vI _) ?_ (G2 hc37 hc38) T2
           obtain ⟨t39, e40, H⟩ := bindO H
           refine a_callW (v := vI t39) (nk := []) (L := []) ?_ rfl rfl (impl_CutOrder_1.ok e40) id (qd (qd qn)) rfl trivial trivial trivial rfl
           refine a_int (u := .bool (decide (t39 < 0))) ?_
           refine a_un (u := .bool (!(decide (t39 < 0)))) ?_
           refine RA.nil (fun _ => by kernel_rfl) ?_
           by_cases hc41 : t39 < 0
           ·rw [if_pos hc41] at H
            refine AG.no rfl (congrArg Bool.not (decide_eq_true hc41)) ?_
            refine AG.region HM ?_
            refine a_move (v := vI _) ?_
            refine a_move (v := vI _) ?_
            refine RA.nil nofun ?_
            exact AGr.canon id (ih4 _ (by omega) _ ⟨by omega, _, _, _, _, _, _, _, _, _, _, H, rfl⟩) ⟨rfl, rfl, rfl, rfl, rfl, rfl, rfl, rfl, rfl, rfl, trivial⟩ ⟨rfl, trivial⟩ rfl
           ·rw [if_neg hc41] at H
            refine AG.yes rfl (congrArg Bool.not (decide_eq_false hc41)) ?_
            refine AG.region HM ?_
            refine a_move (v := vI _) ?_
            refine a_int (u := .int .i64 (wrap64 ((wrap64 (Int.fdiv ((wrap64 (x20 + x21)) % 18446744073709551616) 2)) + 1))) ?_
            refine a_move (v := vI _) ?_
            refine RA.nil nofun ?_
            exact AGr.canon id (ih4 _ (by omega) _ ⟨by omega, _, _, _, _, _, _, _, _, _, _, H, rfl⟩) ⟨rfl, rfl, rfl, rfl, rfl, rfl, rfl, rfl, rfl, rfl, trivial⟩ ⟨rfl, trivial⟩ rfl
          ·rw [if_neg hc38] at H
           cases H
         ·rw [if_neg hc37] at H
          cases H
        ·rw [if_neg hc36] at H
         cases H
       ·rw [if_neg hc35] at H
        cases H
      ·rw [if_neg hc34] at H
       refine AG.no rfl (decide_eq_false hc34) ?_
       refine AG.exit ?_
       refine AG.seq ?_
       refine AG.region HM ?_
       refine a_move (v := vI _) ?_
       refine a_move (v := vI _) ?_
       refine a_int (u := .int .i64 (wrap64 (x19 - x20))) ?_
       refine a_move (v := vI _) ?_
       refine RA.nil nofun ?_
       refine AG.seq ?_
       refine AG.seq ?_
       refine AG.joinR (fun s => ∃ q, q ≤ k ∧ ∃ (x0 : List Int) (x1 : Int) (x2 : Int) (x3 : Int) (x4_0_0 : List Int) (x18 : Int) (x20 : Int) (x24 : Int) (x185 : Bool), slices_symMergeCmpFunc_int64__impl_CutOrder_1.j1 F q x0 x1 x2 x3 x4_0_0 x18 x20 x24 x185 = some r ∧ s = St.of [(0, .c (.own 0 x0.length)), (1, vI x1), (2, vI x2), (3, vI x3), (4, .c (.d (.fn 38 [.ro [.row 2 (x4_0_0.map c2)]]))), (18, vI x18), (20, vI x20), (24, vI x24), (185, vB x185)] [(0, .row 2 (x0.map c2))]) ?_ ?_
       ·skip
        refine AG.region HM ?_
        refine a_move (v := vI _) ?_
        refine a_move (v := vI _) ?_
        refine a_int (u := .bool (decide (x20 < x2))) ?_
        refine a_move (v := vB _) ?_
        by_cases hc42 : x20 < x2
        ·rw [if_pos hc42] at H
         refine a_move (v := vI _) ?_ (hg := Gs.yes rfl rfl rfl (decide_eq_true hc42))
         refine a_move (v := vI _) ?_ (hg := Gs.yes rfl rfl rfl (decide_eq_true hc42))
         refine a_int (u := .bool (decide (x2 < (wrap64 (x19 - x20))))) ?_ (hg := Gs.yes rfl rfl rfl (decide_eq_true hc42))
         refine a_pick (b := true) (v := vB _) ?_ (decide_eq_true hc42)
         refine RA.nil nofun ?_
         exact CanR.mk id ⟨_, (by omega), _, _, _, _, _, _, _, _, _, H, rfl⟩ ⟨rfl, rfl, rfl, rfl, rfl, rfl, rfl, rfl, rfl, trivial⟩ ⟨rfl, trivial⟩ rfl
        ·rw [if_neg hc42] at H
         refine RA.skip rfl rfl rfl rfl rfl (decide_eq_false hc42) (by decide) ?_
         refine RA.skip rfl rfl rfl rfl rfl (decide_eq_false hc42) (by decide) ?_
         refine RA.skip rfl rfl rfl rfl rfl (decide_eq_false hc42) (by decide) ?_
         refine a_pick (b := false) (v := vB _) ?_ (decide_eq_false hc42)
         refine RA.nil nofun ?_
         exact CanR.mk id ⟨_, (by omega), _, _, _, _, _, _, _, _, _, H, rfl⟩ ⟨rfl, rfl, rfl, rfl, rfl, rfl, rfl, rfl, rfl, trivial⟩ ⟨rfl, trivial⟩ rfl
       ·clear H
        rintro _ ⟨k, hj1, x0, x1, x2, x3, x4_0_0, x18, x20, x24, x185, H, rfl⟩
        cases k with
        | zero => cases H
        | succ k =>
         rw [slices_symMergeCmpFunc_int64__impl_CutOrder_1.j1] at H
         refine AG.joinR (fun s => ∃ q, q ≤ k ∧ ∃ (x0 : List Int) (x1 : Int) (x3 : Int) (x4_0_0 : List Int) (x18 : Int) (x20 : Int) (x24 : Int), slices_symMergeCmpFunc_int64__impl_CutOrder_1.j2 F q x0 x1 x3 x4_0_0 x18 x20 x24 = some r ∧ s = St.of [(0, .c (.own 0 x0.length)), (1, vI x1), (3, vI x3), (4, .c (.d (.fn 38 [.ro [.row 2 (x4_0_0.map c2)]]))), (18, vI x18), (20, vI x20), (24, vI x24)] [(0, .row 2 (x0.map c2))]) ?_ ?_
         ·skip
          by_cases hc43 : x185 = true
          ·rw [if_pos hc43] at H
           refine AG.yes rfl hc43 ?_
           refine AG.region HM ?_
           refine a_move (v := .c (.own _ _)) ?_
           refine a_move (v := vI _) ?_
           refine a_move (v := vI _) ?_
           refine a_move (v := vI _) ?_
           refine a_move (v := .c (.d (.fn _ _))) ?_
           obtain ⟨t44, e45, H⟩ := bindO H
           refine a_callM (v := .tup []) (nk := []) (L := []) (Mk := [(0, _)]) (ck := [(0, .row 2 (t44.map c2))]) ?_ rfl (slices_rotateCmpFunc_int64__impl_CutOrder_1.ok e45) id id (mcO (mcD (mcD (mcD (mcD m0))))) trivial ⟨rfl, trivial⟩ trivial ⟨rfl, trivial⟩ trivial ⟨rfl, trivial⟩ rfl rfl rfl
           refine RA.nil nofun ?_
           refine CanR.rl 0 t44.length ?_
           exact CanR.mk id ⟨_, (by omega), _, _, _, _, _, _, _, H, rfl⟩ ⟨rfl, rfl, rfl, rfl, rfl, rfl, rfl, trivial⟩ ⟨rfl, trivial⟩ rfl
          ·rw [if_neg hc43] at H
           refine AG.no rfl (Bool.eq_false_iff.2 hc43) ?_
           refine AG.skip ?_
           exact CanR.mk id ⟨_, (by omega), _, _, _, _, _, _, _, H, rfl⟩ ⟨rfl, rfl, rfl, rfl, rfl, rfl, rfl, trivial⟩ ⟨rfl, trivial⟩ rfl
         ·clear H
          rintro _ ⟨k, hj2, x0, x1, x3, x4_0_0, x18, x20, x24, H, rfl⟩
          cases k with
          | zero => cases H
          | succ k =>
           rw [slices_symMergeCmpFunc_int64__impl_CutOrder_1.j2] at H
           refine AG.seq ?_
           refine AG.seq ?_
           refine AG.joinR (fun s => ∃ q, q ≤ k ∧ ∃ (x0 : List Int) (x1 : Int) (x3 : Int) (x4_0_0 : List Int) (x18 : Int) (x20 : Int) (x24 : Int) (x199 : Bool), slices_symMergeCmpFunc_int64__impl_CutOrder_1.j3 F q x0 x1 x3 x4_0_0 x18 x20 x24 x199 = some r ∧ s = St.of [(0, .c (.own 0 x0.length)), (1, vI x1), (3, vI x3), (4, .c (.d (.fn 38 [.ro [.row 2 (x4_0_0.map c2)]]))), (18, vI x18), (20, vI x20), (24, vI x24), (199, vB x199)] [(0, .row 2 (x0.map c2))]) ?_ ?_
           ·skip
            refine AG.region HM ?_
            refine a_move (v := vI _) ?_
            refine a_move (v := vI _) ?_
            refine a_int (u := .bool (decide (x1 < x20))) ?_
            refine a_move (v := vB _) ?_
            by_cases hc46 : x1 < x20
            ·rw [if_pos hc46] at H
             refine a_move (v := vI _) ?_ (hg := Gs.yes rfl rfl rfl (decide_eq_true hc46))
             refine a_move (v := vI _) ?_ (hg := Gs.yes rfl rfl rfl (decide_eq_true hc46))
             refine a_int (u := .bool (decide (x20 < x18))) ?_ (hg := Gs.yes rfl rfl rfl (decide_eq_true hc46))
             refine a_pick (b := true) (v := vB _) ?_ (decide_eq_true hc46)
             refine RA.nil nofun ?_
             exact CanR.mk id ⟨_, (by omega), _, _, _, _, _, _, _, _, H, rfl⟩ ⟨rfl, rfl, rfl, rfl, rfl, rfl, rfl, rfl, trivial⟩ ⟨rfl, trivial⟩ rfl
            ·rw [if_neg hc46] at H
             refine RA.skip rfl rfl rfl rfl rfl (decide_eq_false hc46) (by decide) ?_
             refine RA.skip rfl rfl rfl rfl rfl (decide_eq_false hc46) (by decide) ?_
             refine RA.skip rfl rfl rfl rfl rfl (decide_eq_false hc46) (by decide) ?_
             refine a_pick (b := false) (v := vB _) ?_ (decide_eq_false hc46)
             refine RA.nil nofun ?_
             exact CanR.mk id ⟨_, (by omega), _, _, _, _, _, _, _, _, H, rfl⟩ ⟨rfl, rfl, rfl, rfl, rfl, rfl, rfl, rfl, trivial⟩ ⟨rfl, trivial⟩ rfl
           ·clear H
            rintro _ ⟨k, hj3, x0, x1, x3, x4_0_0, x18, x20, x24, x199, H, rfl⟩
            cases k with
            | zero => cases H
            | succ k =>
             rw [slices_symMergeCmpFunc_int64__impl_CutOrder_1.j3] at H
             by_cases hc47 : x199 = true
             ·rw [if_pos hc47] at H
              refine AG.yes rfl hc47 ?_
              refine AG.region HM ?_
              refine a_move (v := .c (.own _ _)) ?_
              refine a_move (v := vI _) ?_
              refine a_move (v := vI _) ?_
              refine a_move (v := vI _) ?_
              refine a_move (v := .c (.d (.fn _ _))) ?_
              obtain ⟨t48, e49, H⟩ := bindO H
              refine a_callM (v := .tup []) (nk := []) (L := []) (Mk := [(0, _)]) (ck := [(0, .row 2 (t48.map c2))]) ?_ rfl (hF e49) id id (mcO (mcD (mcD (mcD (mcD m0))))) trivial ⟨rfl, trivial⟩ trivial ⟨rfl, trivial⟩ trivial ⟨rfl, trivial⟩ rfl rfl rfl
              refine RA.nil nofun ?_
              refine AG.relen 0 t48.length ?_
              refine AG.seq ?_
              refine AG.region HM ?_
              refine a_move (v := vI _) ?_
              refine a_move (v := vI _) ?_
              refine a_int (u := .bool (decide (x18 < x24))) ?_
              refine a_move (v := vB _) ?_
              by_cases hc50 : x18 < x24
              ·rw [if_pos hc50] at H
               refine a_move (v := vI _) ?_ (hg := Gs.yes rfl rfl rfl (decide_eq_true hc50))
               refine a_move (v := vI _) ?_ (hg := Gs.yes rfl rfl rfl (decide_eq_true hc50))
               refine a_int (u := .bool (decide (x24 < x3))) ?_ (hg := Gs.yes rfl rfl rfl (decide_eq_true hc50))
               refine a_pick (b := true) (v := vB _) ?_ (decide_eq_true hc50)
               refine RA.nil nofun ?_
               by_cases hc51 : x24 < x3
               ·rw [if_pos hc51] at H
                refine AG.yes rfl (decide_eq_true hc51) ?_
                refine AG.region HM ?_
                refine a_move (v := .c (.own _ _)) ?_
                refine a_move (v := vI _) ?_
                refine a_move (v := vI _) ?_
                refine a_move (v := vI _) ?_
                refine a_move (v := .c (.d (.fn _ _))) ?_
                obtain ⟨t52, e53, H⟩ := bindO H
                refine a_callM (v := .tup []) (nk := []) (L := []) (Mk := [(0, _)]) (ck := [(0, .row 2 (t52.map c2))]) ?_ rfl (hF e53) id id (mcO (mcD (mcD (mcD (mcD m0))))) trivial ⟨rfl, trivial⟩ trivial ⟨rfl, trivial⟩ trivial ⟨rfl, trivial⟩ rfl rfl rfl
                refine RA.nil nofun ?_
                obtain rfl := Option.some.inj H
                exact RetP.mk (fun κ => cond (Nat.beq κ 0) 0 (κ)) trivial ⟨rfl, trivial⟩ rfl
               ·rw [if_neg hc51] at H
                refine AG.no rfl (decide_eq_false hc51) ?_
                refine AG.skip ?_
                obtain rfl := Option.some.inj H
                exact RetP.mk (fun κ => cond (Nat.beq κ 0) 0 (κ)) trivial ⟨rfl, trivial⟩ rfl
              ·rw [if_neg hc50] at H
               refine RA.skip rfl rfl rfl rfl rfl (decide_eq_false hc50) (by decide) ?_
               refine RA.skip rfl rfl rfl rfl rfl (decide_eq_false hc50) (by decide) ?_
               refine RA.skip rfl rfl rfl rfl rfl (decide_eq_false hc50) (by decide) ?_
               refine a_pick (b := false) (v := vB _) ?_ (decide_eq_false hc50)
               refine RA.nil nofun ?_
               refine AG.no rfl rfl ?_
               refine AG.skip ?_
               obtain rfl := Option.some.inj H
               exact RetP.mk (fun κ => cond (Nat.beq κ 0) 0 (κ)) trivial ⟨rfl, trivial⟩ rfl
             ·rw [if_neg hc47] at H
              refine AG.no rfl (Bool.eq_false_iff.2 hc47) ?_
              refine AG.skip ?_
              refine AG.seq ?_
              refine AG.region HM ?_
              refine a_move (v := vI _) ?_
              refine a_move (v := vI _) ?_
              refine a_int (u := .bool (decide (x18 < x24))) ?_
              refine a_move (v := vB _) ?_
              by_cases hc54 : x18 < x24
              ·rw [if_pos hc54] at H
               refine a_move (v := vI _) ?_ (hg := Gs.yes rfl rfl rfl (decide_eq_true hc54))
               refine a_move (v := vI _) ?_ (hg := Gs.yes rfl rfl rfl (decide_eq_true hc54))
               refine a_int (u := .bool (decide (x24 < x3))) ?_ (hg := Gs.yes rfl rfl rfl (decide_eq_true hc54))
               refine a_pick (b := true) (v := vB _) ?_ (decide_eq_true hc54)
               refine RA.nil nofun ?_
               by_cases hc55 : x24 < x3
               ·rw [if_pos hc55] at H
                refine AG.yes rfl (decide_eq_true hc55) ?_
                refine AG.region HM ?_
                refine a_move (v := .c (.own _ _)) ?_
                refine a_move (v := vI _) ?_
                refine a_move (v := vI _) ?_
                refine a_move (v := vI _) ?_
                refine a_move (v := .c (.d (.fn _ _))) ?_
                obtain ⟨t56, e57, H⟩ := bindO H
                refine a_callM (v := .tup []) (nk := []) (L := []) (Mk := [(0, _)]) (ck := [(0, .row 2 (t56.map c2))]) ?_ rfl (hF e57) id id (mcO (mcD (mcD (mcD (mcD m0))))) trivial ⟨rfl, trivial⟩ trivial ⟨rfl, trivial⟩ trivial ⟨rfl, trivial⟩ rfl rfl rfl
                refine RA.nil nofun ?_
                obtain rfl := Option.some.inj H
                exact RetP.mk (fun κ => cond (Nat.beq κ 0) 0 (κ)) trivial ⟨rfl, trivial⟩ rfl
               ·rw [if_neg hc55] at H
                refine AG.no rfl (decide_eq_false hc55) ?_
                refine AG.skip ?_
                obtain rfl := Option.some.inj H
                exact RetP.mk (fun κ => cond (Nat.beq κ 0) 0 (κ)) trivial ⟨rfl, trivial⟩ rfl
              ·rw [if_neg hc54] at H
               refine RA.skip rfl rfl rfl rfl rfl (decide_eq_false hc54) (by decide) ?_
               refine RA.skip rfl rfl rfl rfl rfl (decide_eq_false hc54) (by decide) ?_
               refine RA.skip rfl rfl rfl rfl rfl (decide_eq_false hc54) (by decide) ?_
               refine a_pick (b := false) (v := vB _) ?_ (decide_eq_false hc54)
               refine RA.nil nofun ?_
               refine AG.no rfl rfl ?_
               refine AG.skip ?_
               obtain rfl := Option.some.inj H
               exact RetP.mk (fun κ => cond (Nat.beq κ 0) 0 (κ)) trivial ⟨rfl, trivial⟩ rfl
theorem slices_symMergeCmpFunc_int64__impl_CutOrder_1.rok : ∀ (k : Nat) {l0 : List Int} {a1 : Int} {a2 : Int} {a3 : Int} {v4_0_0 : List Int} {r : List Int}, slices_symMergeCmpFunc_int64__impl_CutOrder_1.r k l0 a1 a2 a3 v4_0_0 = some r → OkF Tryz.prog 92 [.c (.own 0 l0.length), vI a1, vI a2, vI a3, .c (.d (.fn 38 [.ro [.row 2 (v4_0_0.map c2)]]))] [(0, .row 2 (l0.map c2))] (.tup []) [(0, .row 2 (r.map c2))]
 | 0, _, _, _, _, _, _, H => by simp [slices_symMergeCmpFunc_int64__impl_CutOrder_1.r] at H
 | k + 1, _, _, _, _, _, _, H => slices_symMergeCmpFunc_int64__impl_CutOrder_1.gok (fun h => slices_symMergeCmpFunc_int64__impl_CutOrder_1.rok k h) (by rw [slices_symMergeCmpFunc_int64__impl_CutOrder_1.r] at H; exact H)
theorem slices_symMergeCmpFunc_int64__impl_CutOrder_1.ok {k : Nat} {l0 : List Int} {a1 : Int} {a2 : Int} {a3 : Int} {v4_0_0 : List Int} {r : List Int} (H : slices_symMergeCmpFunc_int64__impl_CutOrder_1.f k l0 a1 a2 a3 v4_0_0 = some r) : OkF Tryz.prog 92 [.c (.own 0 l0.length), vI a1, vI a2, vI a3, .c (.d (.fn 38 [.ro [.row 2 (v4_0_0.map c2)]]))] [(0, .row 2 (l0.map c2))] (.tup []) [(0, .row 2 (r.map c2))] := slices_symMergeCmpFunc_int64__impl_CutOrder_1.rok k H
/-! ### slices_stableCmpFunc_int64__impl_CutOrder_1: function 70 -/
mutual
def slices_stableCmpFunc_int64__impl_CutOrder_1.l0 : Nat → List Int → Int → List Int → Int → Int → Int → Option ((List Int))
 | 0, _, _, _, _, _, _ => none
 | k + 1, x0, x1, x2_0_0, x6, x7, x8 => if x8 ≤ x1 then ((slices_insertionSortCmpFunc_int64__impl_CutOrder_1.f k x0 x7 x8 x2_0_0).bind fun t2 => (slices_stableCmpFunc_int64__impl_CutOrder_1.l0 k t2 x1 x2_0_0 x6 x8 (wrap64 (x8 + x6)))) else ((slices_insertionSortCmpFunc_int64__impl_CutOrder_1.f k x0 x7 x1 x2_0_0).bind fun t4 => (slices_stableCmpFunc_int64__impl_CutOrder_1.l1 k t4 x1 x2_0_0 x6))
def slices_stableCmpFunc_int64__impl_CutOrder_1.l1 : Nat → List Int → Int → List Int → Int → Option ((List Int))
 | 0, _, _, _, _ => none
 | k + 1, x0, x1, x2_0_0, x6 => if x6 < x1 then (slices_stableCmpFunc_int64__impl_CutOrder_1.l2 k x0 x1 x2_0_0 x6 0 (wrap64 (2 * x6))) else (some x0)
def slices_stableCmpFunc_int64__impl_CutOrder_1.l2 : Nat → List Int → Int → List Int → Int → Int → Int → Option ((List Int))
 | 0, _, _, _, _, _, _ => none
 | k + 1, x0, x1, x2_0_0, x6, x7, x8 => if x8 ≤ x1 then ((slices_symMergeCmpFunc_int64__impl_CutOrder_1.f k x0 x7 (wrap64 (x7 + x6)) x8 x2_0_0).bind fun t8 => (slices_stableCmpFunc_int64__impl_CutOrder_1.l2 k t8 x1 x2_0_0 x6 x8 (wrap64 (x8 + (wrap64 (2 * x6)))))) else (if (wrap64 (x7 + x6)) < x1 then ((slices_symMergeCmpFunc_int64__impl_CutOrder_1.f k x0 x7 (wrap64 (x7 + x6)) x1 x2_0_0).bind fun t11 => (slices_stableCmpFunc_int64__impl_CutOrder_1.l1 k t11 x1 x2_0_0 (wrap64 (x6 * 2)))) else (slices_stableCmpFunc_int64__impl_CutOrder_1.l1 k x0 x1 x2_0_0 (wrap64 (x6 * 2))))
end
def slices_stableCmpFunc_int64__impl_CutOrder_1.f (k : Nat) (l0 : List Int) (a1 : Int) (v2_0_0 : List Int) : Option ((List Int)) := slices_stableCmpFunc_int64__impl_CutOrder_1.l0 k l0 a1 v2_0_0 20 0 20
set_option maxRecDepth 100000 in
theorem slices_stableCmpFunc_int64__impl_CutOrder_1.ok {k : Nat} {l0 : List Int} {a1 : Int} {v2_0_0 : List Int} {r : List Int} (H : slices_stableCmpFunc_int64__impl_CutOrder_1.f k l0 a1 v2_0_0 = some r) : OkF Tryz.prog 70 [.c (.own 0 l0.length), vI a1, .c (.d (.fn 38 [.ro [.row 2 (v2_0_0.map c2)]]))] [(0, .row 2 (l0.map c2))] (.tup []) [(0, .row 2 (r.map c2))] := by
 unfold slices_stableCmpFunc_int64__impl_CutOrder_1.f at H
 refine OkF.of (N := 63) (rs := []) (avs := []) Tryz.func70 rfl rfl (fun _ _ => results_none rfl _ _ _) (by decide) rfl rfl rfl rfl (fun w0 S => ?_)
 refine AG.seq ?_
 refine AG.region HM ?_
 refine a_move (v := vI _) ?_
 refine RA.nil nofun ?_
 refine AG.seq ?_
 refine AG.region HM ?_
 refine a_move (v := vI _) ?_
 refine a_move (v := vI _) ?_
 refine a_move (v := vI _) ?_
 refine RA.nil nofun ?_
 refine AG.seq ?_
 refine AG.block ?_
 refine AG.loop ?_
 obtain ⟨K0, hK0, gK0⟩ : ∃ K, k ≤ K ∧ K ≤ k := ⟨k, Nat.le_refl k, Nat.le_refl k⟩
 refine AGr.canon id (AGr.loopI (n := k) (fun k s => k ≤ K0 ∧ ∃ (x0 : List Int) (x1 : Int) (x2_0_0 : List Int) (x6 : Int) (x7 : Int) (x8 : Int), slices_stableCmpFunc_int64__impl_CutOrder_1.l0 k x0 x1 x2_0_0 x6 x7 x8 = some r ∧ s = St.of [(0, .c (.own 0 x0.length)), (1, vI x1), (2, .c (.d (.fn 38 [.ro [.row 2 (x2_0_0.map c2)]]))), (6, vI x6), (7, vI x7), (8, vI x8)] [(0, .row 2 (x0.map c2))]) ⟨hK0, _, _, _, _, _, _, H, rfl⟩ ?_ ?_) ⟨rfl, rfl, rfl, rfl, rfl, rfl, trivial⟩ ⟨rfl, trivial⟩ rfl
 ·rintro _ ⟨_, _, _, _, _, _, _, H, _⟩
  cases H
 ·clear H hK0
  rintro k ih0 _ ⟨hK0, x0, x1, x2_0_0, x6, x7, x8, H, rfl⟩
  unfold slices_stableCmpFunc_int64__impl_CutOrder_1.l0 at H
  refine AG.seq ?_
  refine AG.seq ?_
  refine AG.region HM ?_
  refine a_move (v := vI _) ?_
  refine a_move (v := vI _) ?_
  refine a_int (u := .bool (decide (x8 ≤ x1))) ?_
  refine RA.nil nofun ?_
  by_cases hc1 : x8 ≤ x1
  ·rw [if_pos hc1] at H
   refine AG.yes rfl (decide_eq_true hc1) ?_
   refine AG.skip ?_
   refine AG.block ?_
   refine AG.seq ?_
   refine AG.region HM ?_
   refine a_move (v := .c (.own _ _)) ?_
   refine a_move (v := vI _) ?_
   refine a_move (v := vI _) ?_
   refine a_move (v := .c (.d (.fn _ _))) ?_
   obtain ⟨t2, e3, H⟩ := bindO H
   refine a_callM (v := .tup []) (nk := []) (L := []) (Mk := [(0, _)]) (ck := [(0, .row 2 (t2.map c2))]) ?_ rfl (slices_insertionSortCmpFunc_int64__impl_CutOrder_1.ok e3) id id (mcO (mcD (mcD (mcD m0)))) trivial ⟨rfl, trivial⟩ trivial ⟨rfl, trivial⟩ trivial ⟨rfl, trivial⟩ rfl rfl rfl
   refine RA.nil nofun ?_
   refine AG.relen 0 t2.length ?_
   refine AG.seq ?_
   refine AG.region HM ?_
   refine a_move (v := vI _) ?_
   refine a_move (v := vI _) ?_
   refine RA.nil nofun ?_
   refine AG.region HM ?_
   refine a_move (v := vI _) ?_
   refine a_move (v := vI _) ?_
   refine a_int (u := .int .i64 (wrap64 (x8 + x6))) ?_
   refine a_move (v := vI _) ?_
   refine RA.nil nofun ?_
   exact AGr.canon id (ih0 _ (by omega) _ ⟨by omega, _, _, _, _, _, _, H, rfl⟩) ⟨rfl, rfl, rfl, rfl, rfl, rfl, trivial⟩ ⟨rfl, trivial⟩ rfl
  ·rw [if_neg hc1] at H
   refine AG.no rfl (decide_eq_false hc1) ?_
   refine AG.exit ?_
   refine AG.seq ?_
   refine AG.region HM ?_
   refine a_move (v := .c (.own _ _)) ?_
   refine a_move (v := vI _) ?_
   refine a_move (v := vI _) ?_
   refine a_move (v := .c (.d (.fn _ _))) ?_
   obtain ⟨t4, e5, H⟩ := bindO H
   refine a_callM (v := .tup []) (nk := []) (L := []) (Mk := [(0, _)]) (ck := [(0, .row 2 (t4.map c2))]) ?_ rfl (slices_insertionSortCmpFunc_int64__impl_CutOrder_1.ok e5) id id (mcO (mcD (mcD (mcD m0)))) trivial ⟨rfl, trivial⟩ trivial ⟨rfl, trivial⟩ trivial ⟨rfl, trivial⟩ rfl rfl rfl
   refine RA.nil nofun ?_
   refine AG.relen 0 t4.length ?_
   refine AG.block ?_
   refine AG.loop ?_
   obtain ⟨K1, hK1, gK1⟩ : ∃ K, k ≤ K ∧ K ≤ k := ⟨k, Nat.le_refl k, Nat.le_refl k⟩
   refine AGr.canon id (AGr.loopI (n := k) (fun k s => k ≤ K1 ∧ ∃ (x0 : List Int) (x1 : Int) (x2_0_0 : List Int) (x6 : Int), slices_stableCmpFunc_int64__impl_CutOrder_1.l1 k x0 x1 x2_0_0 x6 = some r ∧ s = St.of [(0, .c (.own 0 x0.length)), (1, vI x1), (2, .c (.d (.fn 38 [.ro [.row 2 (x2_0_0.map c2)]]))), (6, vI x6)] [(0, .row 2 (x0.map c2))]) ⟨hK1, _, _, _, _, H, rfl⟩ ?_ ?_) ⟨rfl, rfl, rfl, rfl, trivial⟩ ⟨rfl, trivial⟩ rfl
   ·rintro _ ⟨_, _, _, _, _, H, _⟩
    cases H
   ·clear H hK1
    rintro k ih1 _ ⟨hK1, x0, x1, x2_0_0, x6, H, rfl⟩
    unfold slices_stableCmpFunc_int64__impl_CutOrder_1.l1 at H
    refine AG.seq ?_
    refine AG.seq ?_
    refine AG.region HM ?_
    refine a_move (v := vI _) ?_
    refine a_move (v := vI _) ?_
    refine a_int (u := .bool (decide (x6 < x1))) ?_
    refine RA.nil nofun ?_
    by_cases hc6 : x6 < x1
    ·rw [if_pos hc6] at H
     refine AG.yes rfl (decide_eq_true hc6) ?_
     refine AG.skip ?_
     refine AG.block ?_
     refine AG.seq ?_
     refine AG.region HM ?_
     refine a_move (v := vI _) ?_
     refine a_int (u := .int .i64 (wrap64 (2 * x6))) ?_
     refine a_move (v := vI _) ?_
     refine a_move (v := vI _) ?_
     refine RA.nil nofun ?_
     refine AG.seq ?_
     refine AG.block ?_
     refine AG.loop ?_
     obtain ⟨K2, hK2, gK2⟩ : ∃ K, k ≤ K ∧ K ≤ k := ⟨k, Nat.le_refl k, Nat.le_refl k⟩
     refine AGr.canon id (AGr.loopI (n := k) (fun k s => k ≤ K2 ∧ ∃ (x0 : List Int) (x1 : Int) (x2_0_0 : List Int) (x6 : Int) (x7 : Int) (x8 : Int), slices_stableCmpFunc_int64__impl_CutOrder_1.l2 k x0 x1 x2_0_0 x6 x7 x8 = some r ∧ s = St.of [(0, .c (.own 0 x0.length)), (1, vI x1), (2, .c (.d (.fn 38 [.ro [.row 2 (x2_0_0.map c2)]]))), (6, vI x6), (7, vI x7), (8, vI x8)] [(0, .row 2 (x0.map c2))]) ⟨hK2, _, _, _, _, _, _, H, rfl⟩ ?_ ?_) ⟨rfl, rfl, rfl, rfl, rfl, rfl, trivial⟩ ⟨rfl, trivial⟩ rfl
     ·rintro _ ⟨_, _, _, _, _, _, _, H, _⟩
      cases H
     ·clear H hK2
      rintro k ih2 _ ⟨hK2, x0, x1, x2_0_0, x6, x7, x8, H, rfl⟩
      unfold slices_stableCmpFunc_int64__impl_CutOrder_1.l2 at H
      refine AG.seq ?_
      refine AG.seq ?_
      refine AG.region HM ?_
      refine a_move (v := vI _) ?_
      refine a_move (v := vI _) ?_
      refine a_int (u := .bool (decide (x8 ≤ x1))) ?_
      refine RA.nil nofun ?_
      by_cases hc7 : x8 ≤ x1
      ·rw [if_pos hc7] at H
       refine AG.yes rfl (decide_eq_true hc7) ?_
       refine AG.skip ?_
       refine AG.block ?_
       refine AG.seq ?_
       refine AG.region HM ?_
       refine a_move (v := .c (.own _ _)) ?_
       refine a_move (v := vI _) ?_
       refine a_move (v := vI _) ?_
       refine a_move (v := vI _) ?_
       refine a_int (u := .int .i64 (wrap64 (x7 + x6))) ?_
       refine a_move (v := vI _) ?_
       refine a_move (v := .c (.d (.fn _ _))) ?_
       obtain ⟨t8, e9, H⟩ := bindO H
       refine a_callM (v := .tup []) (nk := []) (L := []) (Mk := [(0, _)]) (ck := [(0, .row 2 (t8.map c2))]) ?_ rfl (slices_symMergeCmpFunc_int64__impl_CutOrder_1.ok e9) id id (mcO (mcD (mcD (mcD (mcD m0))))) trivial ⟨rfl, trivial⟩ trivial ⟨rfl, trivial⟩ trivial ⟨rfl, trivial⟩ rfl rfl rfl
       refine RA.nil nofun ?_
       refine AG.relen 0 t8.length ?_
       refine AG.seq ?_
       refine AG.region HM ?_
       refine a_move (v := vI _) ?_
       refine a_move (v := vI _) ?_
       refine RA.nil nofun ?_
       refine AG.region HM ?_
       refine a_move (v := vI _) ?_
       refine a_move (v := vI _) ?_
       refine a_int (u := .int .i64 (wrap64 (2 * x6))) ?_
       refine a_int (u := .int .i64 (wrap64 (x8 + (wrap64 (2 * x6))))) ?_
       refine a_move (v := vI _) ?_
       refine RA.nil nofun ?_
       exact AGr.canon id (ih2 _ (by omega) _ ⟨by omega, _, _, _, _, _, _, H, rfl⟩) ⟨rfl, rfl, rfl, rfl, rfl, rfl, trivial⟩ ⟨rfl, trivial⟩ rfl
      ·rw [if_neg hc7] at H
       refine AG.no rfl (decide_eq_false hc7) ?_
       refine AG.exit ?_
       refine AG.seq ?_
       refine AG.seq ?_
       refine AG.region HM ?_
       refine a_move (v := vI _) ?_
       refine a_move (v := vI _) ?_
       refine a_int (u := .int .i64 (wrap64 (x7 + x6))) ?_
       refine a_move (v := vI _) ?_
       refine RA.nil nofun ?_
       refine AG.seq ?_
       refine AG.region HM ?_
       refine a_move (v := vI _) ?_
       refine a_move (v := vI _) ?_
       refine a_int (u := .bool (decide ((wrap64 (x7 + x6)) < x1))) ?_
       refine RA.nil nofun ?_
       by_cases hc10 : (wrap64 (x7 + x6)) < x1
       ·rw [if_pos hc10] at H
        refine AG.yes rfl (decide_eq_true hc10) ?_
        refine AG.region HM ?_
        refine a_move (v := .c (.own _ _)) ?_
        refine a_move (v := vI _) ?_
        refine a_move (v := vI _) ?_
        refine a_move (v := vI _) ?_
        refine a_move (v := .c (.d (.fn _ _))) ?_
        obtain ⟨t11, e12, H⟩ := bindO H
        refine a_callM (v := .tup []) (nk := []) (L := []) (Mk := [(0, _)]) (ck := [(0, .row 2 (t11.map c2))]) ?_ rfl (slices_symMergeCmpFunc_int64__impl_CutOrder_1.ok e12) id id (mcO (mcD (mcD (mcD (mcD m0))))) trivial ⟨rfl, trivial⟩ trivial ⟨rfl, trivial⟩ trivial ⟨rfl, trivial⟩ rfl rfl rfl
        refine RA.nil nofun ?_
        refine AG.relen 0 t11.length ?_
        refine AG.region HM ?_
        refine a_move (v := vI _) ?_
        refine a_int (u := .int .i64 (wrap64 (x6 * 2))) ?_
        refine a_move (v := vI _) ?_
        refine RA.nil nofun ?_
        exact AGr.canon id (ih1 _ (by omega) _ ⟨by omega, _, _, _, _, H, rfl⟩) ⟨rfl, rfl, rfl, rfl, trivial⟩ ⟨rfl, trivial⟩ rfl
       ·rw [if_neg hc10] at H
        refine AG.no rfl (decide_eq_false hc10) ?_
        refine AG.skip ?_
        refine AG.region HM ?_
        refine a_move (v := vI _) ?_
        refine a_int (u := .int .i64 (wrap64 (x6 * 2))) ?_
        refine a_move (v := vI _) ?_
        refine RA.nil nofun ?_
        exact AGr.canon id (ih1 _ (by omega) _ ⟨by omega, _, _, _, _, H, rfl⟩) ⟨rfl, rfl, rfl, rfl, trivial⟩ ⟨rfl, trivial⟩ rfl
    ·rw [if_neg hc6] at H
     refine AG.no rfl (decide_eq_false hc6) ?_
     refine AG.exit ?_
     obtain rfl := Option.some.inj H
     exact RetP.mk (fun κ => cond (Nat.beq κ 0) 0 (κ)) trivial ⟨rfl, trivial⟩ rfl
/-! ### slices_SortStableFunc_int64_int64__impl_CutOrder_1: function 37 -/
def slices_SortStableFunc_int64_int64__impl_CutOrder_1.f (k : Nat) (l0 : List Int) (v1_0_0 : List Int) : Option ((List Int)) := (slices_stableCmpFunc_int64__impl_CutOrder_1.f k l0 (l0.length : Int) v1_0_0).bind fun t1 => (some t1)
set_option maxRecDepth 100000 in
theorem slices_SortStableFunc_int64_int64__impl_CutOrder_1.ok {k : Nat} {l0 : List Int} {v1_0_0 : List Int} {r : List Int} (H : slices_SortStableFunc_int64_int64__impl_CutOrder_1.f k l0 v1_0_0 = some r) : OkF Tryz.prog 37 [.c (.own 0 l0.length), .c (.d (.fn 38 [.ro [.row 2 (v1_0_0.map c2)]]))] [(0, .row 2 (l0.map c2))] (.tup []) [(0, .row 2 (r.map c2))] := by
 unfold slices_SortStableFunc_int64_int64__impl_CutOrder_1.f at H
 refine OkF.of (N := 9) (rs := []) (avs := []) Tryz.func37 rfl rfl (fun _ _ => results_none rfl _ _ _) (by decide) rfl rfl rfl rfl (fun w0 S => ?_)
 refine AG.region HM ?_
 refine a_move (v := .c (.own _ _)) ?_
 refine a_move (v := .c (.own _ _)) ?_
 refine a_lenO ?_ Tryz.underlying27
 refine a_move (v := .c (.d (.fn _ _))) ?_
 obtain ⟨t1, e2, H⟩ := bindO H
 refine a_callM (v := .tup []) (nk := []) (L := []) (Mk := [(0, _)]) (ck := [(0, .row 2 (t1.map c2))]) ?_ rfl (slices_stableCmpFunc_int64__impl_CutOrder_1.ok e2) id id (mcO (mcD (mcD m0))) trivial ⟨rfl, trivial⟩ trivial ⟨rfl, trivial⟩ trivial ⟨rfl, trivial⟩ rfl rfl rfl
 refine RA.nil nofun ?_
 obtain rfl := Option.some.inj H
 exact RetP.mk (fun κ => cond (Nat.beq κ 0) 0 (κ)) trivial ⟨rfl, trivial⟩ rfl
/-! ### impl_CutOrder: function 15 -/
def impl_CutOrder.l0 : Nat → List Int → List Int → Int → Int → Option ((List Int) × Int)
 | 0, _, _, _, _ => none
 | k + 1, y207_0, x5, x14, x15 => if x15 < x14 then (if x5.length < 17592186044416 then (impl_CutOrder.l0 k y207_0 (x5 ++ [x15]) x14 (wrap64 (x15 + 1))) else (none)) else ((slices_SortStableFunc_int64_int64__impl_CutOrder_1.f k x5 y207_0).bind fun t10 => (some (t10, 0)))
def impl_CutOrder.f (k : Nat) (a0_0 : Int) (a0_1 : Int) (l0_2 : List S50) (l0_3 : List S72) : Option ((List Int) × Int) := (impl_ValidDrawing.f k a0_0 a0_1 l0_2 l0_3).bind fun t1 => (if t1 = true then ((impl_edgeDepths.f k a0_0 a0_1 l0_2 l0_3).bind fun t4 => (impl_CutOrder.l0 k t4 (([] : List Int) : List Int) (t4.length : Int) 0)) else (some (([] : List Int), 1)))
set_option maxRecDepth 100000 in
theorem impl_CutOrder.ok {k : Nat} {a0_0 : Int} {a0_1 : Int} {l0_2 : List S50} {l0_3 : List S72} {r0 : List Int} {r1 : Int} (H : impl_CutOrder.f k a0_0 a0_1 l0_2 l0_3 = some (r0, r1)) : OkF Tryz.prog 15 [.agg [.d (.v (.int .i64 a0_0)), .d (.v (.int .i64 a0_1)), .d (.row 51 (l0_2.map c50)), .d (.row 76 (l0_3.map c72))]] [] (.tup [.c (.own 100 r0.length), .c (.d (.v (.int .i64 r1)))]) [(100, .row 2 (r0.map c2))] := by
 unfold impl_CutOrder.f at H
 refine OkF.of (N := 27) (rs := [2, 3]) (avs := [.c (.own 100 r0.length), .c (.d (.v (.int .i64 r1)))]) Tryz.func15 rfl rfl (fun _ _ => results_tmp2 rfl _ _ _) (by decide) rfl rfl rfl rfl (fun w0 S => ?_)
 refine AG.seq ?_
 refine AG.region HM ?_
 refine a_box 200 ?_
 refine a_nilO (e := 2) 201 ?_ T2
 refine a_move (v := vI _) ?_
 refine RA.nil nofun ?_
 refine AG.seq ?_
 refine AG.seq ?_
 refine AG.region HM ?_
 refine a_ldB (v := .agg [_, _, _, _]) ?_ T33
 obtain ⟨t1, e2, H⟩ := bindO H
 refine a_call (v := vB t1) (nk := []) (L := []) ?_ rfl (impl_ValidDrawing.ok e2) id (qg qn) trivial trivial trivial rfl
 refine a_un (u := .bool (!t1)) ?_
 refine RA.nil nofun ?_
 by_cases hc3 : t1 = true
 ·rw [if_pos hc3] at H
  refine AG.no rfl (congrArg Bool.not hc3) ?_
  refine AG.skip ?_
  refine AG.seq ?_
  refine AG.region HM ?_
  refine a_ldB (v := .agg [_, _, _, _]) ?_ T33
  obtain ⟨t4, e5, H⟩ := bindO H
  refine a_call (v := .c (.own 204 t4.length)) (nk := [(204, .row 2 (t4.map c2))]) (L := []) ?_ rfl (impl_edgeDepths.ok e5) (fun κ => cond (Nat.beq κ 204) 100 (κ)) (qg qn) trivial ⟨rfl, trivial⟩ ⟨rfl, trivial⟩ rfl
  refine a_lit (cs := []) (D := []) (css := (([] : List Int) : List Int).map c2) 205 ?_ N27 T2 (hcss := by rfl)
  refine a_alloc (cs := [_]) 206 ?_ T27
  refine a_stB (cs' := [_]) ?_ T27
  refine a_move (v := .c (.own _ _)) ?_
  refine RA.nil nofun ?_
  refine AG.seq ?_
  refine AG.seq ?_
  refine AG.region HM ?_
  refine a_ldB (v := .c (.own _ _)) ?_ T27
  refine a_lenO ?_ Tryz.underlying27
  refine a_move (v := vI _) ?_
  refine RA.nil nofun ?_
  refine AG.block ?_
  refine AG.loop ?_
  obtain ⟨K0, hK0, gK0⟩ : ∃ K, k ≤ K ∧ K ≤ k := ⟨k, Nat.le_refl k, Nat.le_refl k⟩
  refine AGr.canon (fun κ => cond (Nat.beq κ 207) 206 (cond (Nat.beq κ 208) 204 (cond (Nat.beq κ 209) 205 (κ)))) (AGr.loopI (n := k) (fun k s => k ≤ K0 ∧ ∃ (y207_0 : List Int) (x5 : List Int) (x14 : Int) (x15 : Int), impl_CutOrder.l0 k y207_0 x5 x14 x15 = some (r0, r1) ∧ s = St.of [(4, .c (.ptr 207 0)), (5, .c (.own 209 x5.length)), (14, vI x14), (15, vI x15)] [(207, .box 27 [.own 208 y207_0.length]), (208, .row 2 (y207_0.map c2)), (209, .row 2 (x5.map c2))]) ⟨hK0, _, _, _, _, H, rfl⟩ ?_ ?_) ⟨rfl, (ownE rfl (by simp)), rfl, rfl, trivial⟩ ⟨rfl, rfl, rfl, trivial⟩ rfl
  ·rintro _ ⟨_, _, _, _, _, H, _⟩
   cases H
  ·clear H hK0
   rintro k ih0 _ ⟨hK0, y207_0, x5, x14, x15, H, rfl⟩
   unfold impl_CutOrder.l0 at H
   refine AG.seq ?_
   refine AG.region HM ?_
   refine a_int (u := .bool (decide (x15 < x14))) ?_
   refine RA.nil nofun ?_
   refine AG.seq ?_
   by_cases hc7 : x15 < x14
   ·rw [if_pos hc7] at H
    refine AG.yes rfl (decide_eq_true hc7) ?_
    refine AG.skip ?_
    refine AG.seq ?_
    refine AG.block ?_
    refine AG.seq ?_
    refine AG.region HM ?_
    refine a_move (v := vI _) ?_
    refine a_move (v := vI _) ?_
    refine RA.nil nofun ?_
    refine AG.region HM ?_
    refine a_move (v := .c (.own _ _)) ?_
    refine a_move (v := vI _) ?_
    refine a_lit (cs := [_]) (D := []) (css := ([x15]).map c2) 210 ?_ N27 T2
    by_cases hc8 : x5.length < 17592186044416
    ·rw [if_pos hc8] at H
     refine a_appO (css' := (x5 ++ [x15]).map c2) (n' := (x5 ++ [x15]).length) ?_ T2 (by simp [maxLen]; omega) (by simp; omega) Tryz.underlying27 (hc := by exact List.map_append.symm) (hn := by exact List.length_map _)
     refine a_move (v := .c (.own _ _)) ?_
     refine RA.nil nofun ?_
     refine AG.region HM ?_
     refine a_int (u := .int .i64 (wrap64 (x15 + 1))) ?_
     refine a_move (v := vI _) ?_
     refine RA.nil nofun ?_
     exact AGr.canon id (ih0 _ (by omega) _ ⟨by omega, _, _, _, _, H, rfl⟩) ⟨rfl, rfl, rfl, rfl, trivial⟩ ⟨rfl, rfl, rfl, trivial⟩ rfl
    ·rw [if_neg hc8] at H
     cases H
   ·rw [if_neg hc7] at H
    refine AG.no rfl (decide_eq_false hc7) ?_
    refine AG.exit ?_
    refine AG.seq ?_
    refine AG.region HM ?_
    refine a_move (v := .c (.own _ _)) ?_
    refine a_fnc (ks := [207]) ?_
    obtain ⟨t10, e11, H⟩ := bindO H
    refine a_callM (v := .tup []) (nk := []) (L := [(207, _), (208, _)]) (Mk := [(209, _)]) (ck := [(209, .row 2 (t10.map c2))]) ?_ rfl (slices_SortStableFunc_int64_int64__impl_CutOrder_1.ok e11) (fun κ => cond (Nat.beq κ 0) 209 (κ)) (fun κ => cond (Nat.beq κ 209) 0 (κ)) (mcO (mcC (rF1 (rP (κ := 207) (off := 0) (cs := [.own 208 y207_0.length]) (pC rO p0))) m0)) ⟨rfl, rfl, trivial⟩ ⟨rfl, trivial⟩ trivial ⟨rfl, trivial⟩ trivial ⟨rfl, trivial⟩ rfl rfl rfl
    refine RA.nil nofun ?_
    refine AG.relen 209 t10.length ?_
    refine AG.seq ?_
    refine AG.region HM ?_
    refine a_move (v := .c (.own _ _)) ?_
    refine a_move (v := .c (.own _ _)) ?_
    refine a_move (v := vI _) ?_
    refine RA.nil nofun ?_
    refine AG.ret ?_
    simp only [Option.some.injEq, Prod.mk.injEq] at H
    obtain ⟨rfl, rfl⟩ := H
    exact RetP.mk (fun κ => cond (Nat.beq κ 100) 209 (κ)) ⟨rfl, rfl, trivial⟩ ⟨rfl, trivial⟩ rfl
 ·rw [if_neg hc3] at H
  refine AG.yes rfl (congrArg Bool.not (Bool.eq_false_iff.2 hc3)) ?_
  refine AG.seq ?_
  refine AG.region HM ?_
  refine a_nilO (e := 2) 203 ?_ T2
  refine a_move (v := vI _) ?_
  refine RA.nil nofun ?_
  refine AG.ret ?_
  simp only [Option.some.injEq, Prod.mk.injEq] at H
  obtain ⟨rfl, rfl⟩ := H
  exact RetP.mk (fun κ => cond (Nat.beq κ 100) 203 (κ)) ⟨(ownE rfl (by simp)), rfl, trivial⟩ ⟨rfl, trivial⟩ rfl
/-! ### laws_FnExactCutOrder: function 4 -/
mutual
def laws_FnExactCutOrder.j0 : Nat → Int → Int → List S50 → List S72 → List Int → Int → Int → Int → List S50 → List S72 → List Int → Int → Bool → Option (Bool)
 | 0, _, _, _, _, _, _, _, _, _, _, _, _, _ => none
 | k + 1, y210_0, y210_1, y210_2, y210_3, x4, x5, y212_0, y212_1, y212_2, y212_3, x7, x8, x40 => if x40 = true then (some false) else ((laws_toDrawing.f k y210_0 y210_1 y210_2 y210_3).bind fun bt24 => ((laws_eqDrawing.f k y212_0 y212_1 y212_2 y212_3 bt24.1 bt24.2.1 bt24.2.2.1 bt24.2.2.2).bind fun t29 => (if t29 = true then ((laws_markDrawing.f k y212_0 y212_1 y212_2 y212_3 1).bind fun bt32 => (if bt32.1 < 0 then (laws_FnExactCutOrder.j1 k y210_0 y210_1 y210_2 y210_3 x4 x5 x7 true) else ((laws_eqInt64S.f k x7 x4).bind fun t37 => (if t37 = true then (laws_FnExactCutOrder.j1 k y210_0 y210_1 y210_2 y210_3 x4 x5 x7 (x8 != x5)) else (laws_FnExactCutOrder.j1 k y210_0 y210_1 y210_2 y210_3 x4 x5 x7 true))))) else (some false))))
def laws_FnExactCutOrder.j1 : Nat → Int → Int → List S50 → List S72 → List Int → Int → List Int → Bool → Option (Bool)
 | 0, _, _, _, _, _, _, _, _ => none
 | k + 1, y221_0, y221_1, y221_2, y221_3, x4, x5, x7, x61 => if x61 = true then (some false) else ((laws_markInt64S.f k x7 1).bind fun bt41 => ((laws_heldInt64S.f k bt41.2 1).bind fun t44 => (if t44 < 0 then (some false) else (if t44 = bt41.1 then ((laws_toDrawing.f k y221_0 y221_1 y221_2 y221_3).bind fun bt48 => ((impl_CutOrder.f k bt48.1 bt48.2.1 bt48.2.2.1 bt48.2.2.2).bind fun bt53 => ((laws_eqInt64S.f k bt53.1 x4).bind fun t56 => (if t56 = true then (laws_FnExactCutOrder.j2 k bt41.2 bt41.1 (bt53.2 != x5)) else (laws_FnExactCutOrder.j2 k bt41.2 bt41.1 true))))) else (some false)))))
def laws_FnExactCutOrder.j2 : Nat → List Int → Int → Bool → Option (Bool)
 | 0, _, _, _ => none
 | k + 1, x7, x10, x87 => if x87 = true then (some false) else ((laws_heldInt64S.f k x7 1).bind fun t60 => (if t60 < 0 then (some false) else (if t60 = x10 then (some true) else (some false))))
end
def laws_FnExactCutOrder.f (k : Nat) (a0_0 : Int) (a0_1 : Int) (l0_2 : List S50) (l0_3 : List S72) : Option (Bool) := (laws_szDrawing.f k a0_0 a0_1 l0_2 l0_3 1048576).bind fun t1 => (if t1 < 0 then (some true) else ((laws_toDrawing.f k a0_0 a0_1 l0_2 l0_3).bind fun bt4 => ((spec_CutOrder.f k bt4.1 bt4.2.1 bt4.2.2.1 bt4.2.2.2).bind fun bt9 => ((laws_toDrawing.f k a0_0 a0_1 l0_2 l0_3).bind fun bt12 => ((impl_CutOrder.f k bt12.1 bt12.2.1 bt12.2.2.1 bt12.2.2.2).bind fun bt17 => ((laws_eqInt64S.f k bt17.1 bt9.1).bind fun t20 => (if t20 = true then (laws_FnExactCutOrder.j0 k a0_0 a0_1 l0_2 l0_3 bt9.1 bt9.2 bt12.1 bt12.2.1 bt12.2.2.1 bt12.2.2.2 bt17.1 bt17.2 (bt17.2 != bt9.2)) else (laws_FnExactCutOrder.j0 k a0_0 a0_1 l0_2 l0_3 bt9.1 bt9.2 bt12.1 bt12.2.1 bt12.2.2.1 bt12.2.2.2 bt17.1 bt17.2 true))))))))
set_option maxRecDepth 100000 in
theorem laws_FnExactCutOrder.ok {k : Nat} {a0_0 : Int} {a0_1 : Int} {l0_2 : List S50} {l0_3 : List S72} {r : Bool} (H : laws_FnExactCutOrder.f k a0_0 a0_1 l0_2 l0_3 = some r) : OkF Tryz.prog 4 [.agg [.d (.v (.int .i64 a0_0)), .d (.v (.int .i64 a0_1)), .d (.row 84 (l0_2.map c50)), .d (.row 73 (l0_3.map c72))]] [] (.c (.d (.v (.bool r)))) [] := by
 unfold laws_FnExactCutOrder.f at H
 refine OkF.of (N := 96) (rs := [2]) (avs := [.c (.d (.v (.bool r)))]) Tryz.func4 rfl rfl (fun _ _ => results_tmp rfl _ _ _) (by decide) rfl rfl rfl rfl (fun w0 S => ?_)
 refine AG.seq ?_
 refine AG.region HM ?_
 refine a_box 200 ?_
 refine a_move (v := vB _) ?_
 refine RA.nil nofun ?_
 refine AG.seq ?_
 refine AG.region HM ?_
 refine a_move (v := vI _) ?_
 refine RA.nil nofun ?_
 refine AG.seq ?_
 refine AG.region HM ?_
 refine a_ldB (v := .agg [_, _, _, _]) ?_ T25
 refine a_move (v := vI _) ?_
 obtain ⟨t1, e2, H⟩ := bindO H
 refine a_call (v := vI t1) (nk := []) (L := []) ?_ rfl (laws_szDrawing.ok e2) id (qg (qd qn)) trivial trivial trivial rfl
 refine a_move (v := vI _) ?_
 refine RA.nil nofun ?_
 refine AG.seq ?_
 refine AG.seq ?_
 refine AG.region HM ?_
 refine a_move (v := vI _) ?_
 refine a_int (u := .bool (decide (t1 < 0))) ?_
 refine RA.nil nofun ?_
 by_cases hc3 : t1 < 0
 ·rw [if_pos hc3] at H
  refine AG.yes rfl (decide_eq_true hc3) ?_
  refine AG.seq ?_
  refine AG.region HM ?_
  refine a_move (v := vB _) ?_
  refine RA.nil nofun ?_
  refine AG.ret ?_
  obtain rfl := Option.some.inj H
  exact RetP.mk id ⟨rfl, trivial⟩ trivial rfl
 ·rw [if_neg hc3] at H
  refine AG.no rfl (decide_eq_false hc3) ?_
  refine AG.skip ?_
  refine AG.seq ?_
  refine AG.region HM ?_
  refine a_ldB (v := .agg [_, _, _, _]) ?_ T25
  obtain ⟨⟨t4, t5, t6, t7⟩, e8, H⟩ := bindO H
  refine a_call (v := .agg [.d (.v (.int .i64 t4)), .d (.v (.int .i64 t5)), .own 202 t6.length, .own 203 t7.length]) (nk := [(202, .row 51 (t6.map c50)), (203, .row 76 (t7.map c72))]) (L := []) ?_ rfl (laws_toDrawing.ok e8) (fun κ => cond (Nat.beq κ 202) 100 (cond (Nat.beq κ 203) 101 (κ))) (qg qn) trivial ⟨rfl, rfl, trivial⟩ ⟨rfl, rfl, trivial⟩ rfl
  obtain ⟨⟨t9, t10⟩, e11, H⟩ := bindO H
  refine a_call (v := .tup [.c (.own 204 t9.length), .c (.d (.v (.int .i64 t10)))]) (nk := [(204, .row 2 (t9.map c2))]) (L := [(202, _), (203, _)]) ?_ rfl (spec_CutOrder.ok e11) (fun κ => cond (Nat.beq κ 204) 100 (κ)) (qm (eD (eD (eC rO (eC rO eN)))) qn) ⟨rfl, rfl, trivial⟩ ⟨rfl, trivial⟩ ⟨rfl, trivial⟩ rfl
  refine a_move (v := .tup [_, _]) ?_
  refine a_ext (v := .c (.own _ _)) ?_
  refine a_ext (v := vI _) ?_
  refine a_move (v := .c (.own _ _)) ?_
  refine a_move (v := vI _) ?_
  refine RA.nil nofun ?_
  refine AG.seq ?_
  refine AG.freeze 203 ?_
  refine AG.region HM ?_
  refine a_ldB (v := .agg [_, _, _, _]) ?_ T25
  obtain ⟨⟨t12, t13, t14, t15⟩, e16, H⟩ := bindO H
  refine a_call (v := .agg [.d (.v (.int .i64 t12)), .d (.v (.int .i64 t13)), .own 205 t14.length, .own 206 t15.length]) (nk := [(205, .row 51 (t14.map c50)), (206, .row 76 (t15.map c72))]) (L := []) ?_ rfl (laws_toDrawing.ok e16) (fun κ => cond (Nat.beq κ 205) 100 (cond (Nat.beq κ 206) 101 (κ))) (qg qn) trivial ⟨rfl, rfl, trivial⟩ ⟨rfl, rfl, trivial⟩ rfl
  refine a_alloc (cs := [_, _, _, _]) 207 ?_ T33
  refine a_stB (cs' := [_, _, _, _]) ?_ T33
  refine RA.nil nofun ?_
  refine AG.seq ?_
  refine AG.region HM ?_
  refine a_ldB (v := .agg [_, _, _, _]) ?_ T33
  obtain ⟨⟨t17, t18⟩, e19, H⟩ := bindO H
  refine a_call (v := .tup [.c (.own 208 t17.length), .c (.d (.v (.int .i64 t18)))]) (nk := [(208, .row 2 (t17.map c2))]) (L := [(205, _), (206, _)]) ?_ rfl (impl_CutOrder.ok e19) (fun κ => cond (Nat.beq κ 208) 100 (κ)) (qm (eD (eD (eC rO (eC rO eN)))) qn) ⟨rfl, rfl, trivial⟩ ⟨rfl, trivial⟩ ⟨rfl, trivial⟩ rfl
  refine a_move (v := .tup [_, _]) ?_
  refine a_ext (v := .c (.own _ _)) ?_
  refine a_ext (v := vI _) ?_
  refine a_move (v := .c (.own _ _)) ?_
  refine a_move (v := vI _) ?_
  refine RA.nil nofun ?_
  refine AG.seq ?_
  refine AG.seq ?_
  refine AG.joinR (fun s => ∃ q, q ≤ k ∧ ∃ (y210_0 : Int) (y210_1 : Int) (y210_2 : List S50) (y210_3 : List S72) (x4 : List Int) (x5 : Int) (y212_0 : Int) (y212_1 : Int) (y212_2 : List S50) (y212_3 : List S72) (x7 : List Int) (x8 : Int) (x40 : Bool), laws_FnExactCutOrder.j0 q y210_0 y210_1 y210_2 y210_3 x4 x5 y212_0 y212_1 y212_2 y212_3 x7 x8 x40 = some r ∧ s = St.of [(1, .c (.ptr 210 0)), (4, .c (.own 211 x4.length)), (5, vI x5), (6, .c (.ptr 212 0)), (7, .c (.own 215 x7.length)), (8, vI x8), (40, vB x40)] [(210, .box 25 [.d (.v (.int .i64 y210_0)), .d (.v (.int .i64 y210_1)), .d (.row 84 (y210_2.map c50)), .d (.row 73 (y210_3.map c72))]), (211, .row 2 (x4.map c2)), (212, .box 33 [.d (.v (.int .i64 y212_0)), .d (.v (.int .i64 y212_1)), .own 213 y212_2.length, .own 214 y212_3.length]), (213, .row 51 (y212_2.map c50)), (214, .row 76 (y212_3.map c72)), (215, .row 2 (x7.map c2))]) ?_ ?_
  ·skip
   refine AG.region HM ?_
   refine a_move (v := .c (.own _ _)) ?_
   refine a_move (v := .c (.own _ _)) ?_
   obtain ⟨t20, e21, H⟩ := bindO H
   refine a_call (v := vB t20) (nk := []) (L := [(208, _), (204, _)]) ?_ rfl (laws_eqInt64S.ok e21) id (qc rO (qc rO qn)) ⟨rfl, rfl, trivial⟩ trivial trivial rfl
   refine a_un (u := .bool (!t20)) ?_
   refine a_move (v := vB _) ?_
   by_cases hc22 : t20 = true
   ·rw [if_pos hc22] at H
    refine a_move (v := vI _) ?_ (hg := Gs.yes rfl rfl rfl (congrArg Bool.not hc22))
    refine a_move (v := vI _) ?_ (hg := Gs.yes rfl rfl rfl (congrArg Bool.not hc22))
    refine a_int (u := .bool ((t18 != t10))) ?_ (hg := Gs.yes rfl rfl rfl (congrArg Bool.not hc22))
    refine a_pick (b := false) (v := vB _) ?_ (congrArg Bool.not hc22)
    refine RA.nil nofun ?_
    exact CanR.mk (fun κ => cond (Nat.beq κ 210) 200 (cond (Nat.beq κ 211) 204 (cond (Nat.beq κ 212) 207 (cond (Nat.beq κ 213) 205 (cond (Nat.beq κ 214) 206 (cond (Nat.beq κ 215) 208 (κ))))))) ⟨_, (by omega), _, _, _, _, _, _, _, _, _, _, _, _, _, H, rfl⟩ ⟨rfl, rfl, rfl, rfl, rfl, rfl, rfl, trivial⟩ ⟨rfl, rfl, rfl, rfl, rfl, rfl, trivial⟩ rfl
   ·rw [if_neg hc22] at H
    refine RA.skip rfl rfl rfl rfl rfl (congrArg Bool.not (Bool.eq_false_iff.2 hc22)) (by decide) ?_
    refine RA.skip rfl rfl rfl rfl rfl (congrArg Bool.not (Bool.eq_false_iff.2 hc22)) (by decide) ?_
    refine RA.skip rfl rfl rfl rfl rfl (congrArg Bool.not (Bool.eq_false_iff.2 hc22)) (by decide) ?_
    refine a_pick (b := true) (v := vB _) ?_ (congrArg Bool.not (Bool.eq_false_iff.2 hc22))
    refine RA.nil nofun ?_
    exact CanR.mk (fun κ => cond (Nat.beq κ 210) 200 (cond (Nat.beq κ 211) 204 (cond (Nat.beq κ 212) 207 (cond (Nat.beq κ 213) 205 (cond (Nat.beq κ 214) 206 (cond (Nat.beq κ 215) 208 (κ))))))) ⟨_, (by omega), _, _, _, _, _, _, _, _, _, _, _, _, _, H, rfl⟩ ⟨rfl, rfl, rfl, rfl, rfl, rfl, rfl, trivial⟩ ⟨rfl, rfl, rfl, rfl, rfl, rfl, trivial⟩ rfl
  ·clear H
   rintro _ ⟨k, hj0, y210_0, y210_1, y210_2, y210_3, x4, x5, y212_0, y212_1, y212_2, y212_3, x7, x8, x40, H, rfl⟩
   cases k with
   | zero => cases H
   | succ k =>
    rw [laws_FnExactCutOrder.j0] at H
    by_cases hc23 : x40 = true
    ·rw [if_pos hc23] at H
     refine AG.yes rfl hc23 ?_
     refine AG.seq ?_
     refine AG.region HM ?_
     refine a_move (v := vB _) ?_
     refine RA.nil nofun ?_
     refine AG.ret ?_
     obtain rfl := Option.some.inj H
     exact RetP.mk id ⟨rfl, trivial⟩ trivial rfl
    ·rw [if_neg hc23] at H
     refine AG.no rfl (Bool.eq_false_iff.2 hc23) ?_
     refine AG.skip ?_
     refine AG.seq ?_
     refine AG.seq ?_
     refine AG.region HM ?_
     refine a_ldB (v := .agg [_, _, _, _]) ?_ T33
     refine a_ldB (v := .agg [_, _, _, _]) ?_ T25
     obtain ⟨⟨t24, t25, t26, t27⟩, e28, H⟩ := bindO H
     refine a_call (v := .agg [.d (.v (.int .i64 t24)), .d (.v (.int .i64 t25)), .own 216 t26.length, .own 217 t27.length]) (nk := [(216, .row 51 (t26.map c50)), (217, .row 76 (t27.map c72))]) (L := []) ?_ rfl (laws_toDrawing.ok e28) (fun κ => cond (Nat.beq κ 216) 100 (cond (Nat.beq κ 217) 101 (κ))) (qg qn) trivial ⟨rfl, rfl, trivial⟩ ⟨rfl, rfl, trivial⟩ rfl
     obtain ⟨t29, e30, H⟩ := bindO H
     refine a_call (v := vB t29) (nk := []) (L := [(213, _), (214, _), (216, _), (217, _)]) ?_ rfl (laws_eqDrawing.ok e30) id (qm (eD (eD (eC rO (eC rO eN)))) (qm (eD (eD (eC rO (eC rO eN)))) qn)) ⟨rfl, rfl, rfl, rfl, trivial⟩ trivial trivial rfl
     refine a_un (u := .bool (!t29)) ?_
     refine RA.nil (fun _ => by kernel_rfl) ?_
     by_cases hc31 : t29 = true
     ·rw [if_pos hc31] at H
      refine AG.no rfl (congrArg Bool.not hc31) ?_
      refine AG.skip ?_
      refine AG.seq ?_
      refine AG.freeze 217 ?_
      refine AG.region HM ?_
      refine a_move (v := vI _) ?_
      refine RA.nil nofun ?_
      refine AG.seq ?_
      refine AG.region HM ?_
      refine a_ldB (v := .agg [_, _, _, _]) ?_ T33
      refine a_move (v := vI _) ?_
      obtain ⟨⟨t32, t33, t34⟩, e35, H⟩ := bindO H
      refine a_callM (v := vI t32) (nk := []) (L := []) (Mk := [(213, _), (214, _)]) (ck := [(213, .row 51 (t33.map c50)), (214, .row 76 (t34.map c72))]) ?_ rfl (laws_markDrawing.ok e35) (fun κ => cond (Nat.beq κ 0) 213 (cond (Nat.beq κ 1) 214 (κ))) (fun κ => cond (Nat.beq κ 213) 0 (cond (Nat.beq κ 214) 1 (κ))) (mcA (kD (kD (kO (kO k0)))) (mcD m0)) trivial ⟨rfl, rfl, trivial⟩ trivial ⟨rfl, rfl, trivial⟩ trivial ⟨rfl, rfl, trivial⟩ rfl rfl rfl
      refine a_move (v := vI _) ?_
      refine RA.nil nofun ?_
      refine AG.relen 213 t33.length ?_
      refine AG.relen 214 t34.length ?_
      refine AG.seq ?_
      refine AG.seq ?_
      refine AG.joinR (fun s => ∃ q, q ≤ k ∧ ∃ (y221_0 : Int) (y221_1 : Int) (y221_2 : List S50) (y221_3 : List S72) (x4 : List Int) (x5 : Int) (x7 : List Int) (x61 : Bool), laws_FnExactCutOrder.j1 q y221_0 y221_1 y221_2 y221_3 x4 x5 x7 x61 = some r ∧ s = St.of [(1, .c (.ptr 221 0)), (4, .c (.own 222 x4.length)), (5, vI x5), (7, .c (.own 223 x7.length)), (61, vB x61)] [(221, .box 25 [.d (.v (.int .i64 y221_0)), .d (.v (.int .i64 y221_1)), .d (.row 84 (y221_2.map c50)), .d (.row 73 (y221_3.map c72))]), (222, .row 2 (x4.map c2)), (223, .row 2 (x7.map c2))]) ?_ ?_
      ·skip
       refine AG.region HM ?_
       refine a_move (v := vI _) ?_
       refine a_int (u := .bool (decide (t32 < 0))) ?_
       refine a_move (v := vB _) ?_
       by_cases hc36 : t32 < 0
       ·rw [if_pos hc36] at H
        refine RA.skip rfl rfl rfl rfl rfl (decide_eq_true hc36) (by decide) ?_
        refine RA.skip rfl rfl rfl rfl rfl (decide_eq_true hc36) (by decide) ?_
        refine RA.skip rfl rfl rfl rfl rfl (decide_eq_true hc36) (by decide) ?_
        refine RA.skip rfl rfl rfl rfl rfl (decide_eq_true hc36) (by decide) ?_
        refine a_pick (b := true) (v := vB _) ?_ (decide_eq_true hc36)
        refine a_move (v := vB _) ?_
        refine RA.skip rfl rfl rfl rfl rfl rfl (by decide) ?_
        refine RA.skip rfl rfl rfl rfl rfl rfl (by decide) ?_
        refine RA.skip rfl rfl rfl rfl rfl rfl (by decide) ?_
        refine a_pick (b := true) (v := vB _) ?_ rfl
        refine RA.nil nofun ?_
        exact CanR.mk (fun κ => cond (Nat.beq κ 221) 210 (cond (Nat.beq κ 222) 211 (cond (Nat.beq κ 223) 215 (κ)))) ⟨_, (by omega), _, _, _, _, _, _, _, _, H, rfl⟩ ⟨rfl, rfl, rfl, rfl, rfl, trivial⟩ ⟨rfl, rfl, rfl, trivial⟩ rfl
       ·rw [if_neg hc36] at H
        refine a_move (v := .c (.own _ _)) ?_ (hg := Gs.yes rfl rfl rfl (decide_eq_false hc36))
        refine a_move (v := .c (.own _ _)) ?_ (hg := Gs.yes rfl rfl rfl (decide_eq_false hc36))
        obtain ⟨t37, e38, H⟩ := bindO H
        refine a_call (v := vB t37) (nk := []) (L := [(215, _), (211, _)]) ?_ rfl (laws_eqInt64S.ok e38) id (qc rO (qc rO qn)) ⟨rfl, rfl, trivial⟩ trivial trivial rfl (hg := Gs.yes rfl rfl rfl (decide_eq_false hc36))
        refine a_un (u := .bool (!t37)) ?_ (hg := Gs.yes rfl rfl rfl (decide_eq_false hc36))
        refine a_pick (b := false) (v := vB _) ?_ (decide_eq_false hc36)
        refine a_move (v := vB _) ?_
        by_cases hc39 : t37 = true
        ·rw [if_pos hc39] at H
         refine a_move (v := vI _) ?_ (hg := Gs.yes rfl rfl rfl (congrArg Bool.not hc39))
         refine a_move (v := vI _) ?_ (hg := Gs.yes rfl rfl rfl (congrArg Bool.not hc39))
         refine a_int (u := .bool ((x8 != x5))) ?_ (hg := Gs.yes rfl rfl rfl (congrArg Bool.not hc39))
         refine a_pick (b := false) (v := vB _) ?_ (congrArg Bool.not hc39)
         refine RA.nil nofun ?_
         exact CanR.mk (fun κ => cond (Nat.beq κ 221) 210 (cond (Nat.beq κ 222) 211 (cond (Nat.beq κ 223) 215 (κ)))) ⟨_, (by omega), _, _, _, _, _, _, _, _, H, rfl⟩ ⟨rfl, rfl, rfl, rfl, rfl, trivial⟩ ⟨rfl, rfl, rfl, trivial⟩ rfl
        ·rw [if_neg hc39] at H
         refine RA.skip rfl rfl rfl rfl rfl (congrArg Bool.not (Bool.eq_false_iff.2 hc39)) (by decide) ?_
         refine RA.skip rfl rfl rfl rfl rfl (congrArg Bool.not (Bool.eq_false_iff.2 hc39)) (by decide) ?_
         refine RA.skip rfl rfl rfl rfl rfl (congrArg Bool.not (Bool.eq_false_iff.2 hc39)) (by decide) ?_
         refine a_pick (b := true) (v := vB _) ?_ (congrArg Bool.not (Bool.eq_false_iff.2 hc39))
         refine RA.nil nofun ?_
         exact CanR.mk (fun κ => cond (Nat.beq κ 221) 210 (cond (Nat.beq κ 222) 211 (cond (Nat.beq κ 223) 215 (κ)))) ⟨_, (by omega), _, _, _, _, _, _, _, _, H, rfl⟩ ⟨rfl, rfl, rfl, rfl, rfl, trivial⟩ ⟨rfl, rfl, rfl, trivial⟩ rfl
      ·clear H
       rintro _ ⟨k, hj1, y221_0, y221_1, y221_2, y221_3, x4, x5, x7, x61, H, rfl⟩
       cases k with
       | zero => cases H
       | succ k =>
        rw [laws_FnExactCutOrder.j1] at H
        by_cases hc40 : x61 = true
        ·rw [if_pos hc40] at H
         refine AG.yes rfl hc40 ?_
         refine AG.seq ?_
         refine AG.region HM ?_
         refine a_move (v := vB _) ?_
         refine RA.nil nofun ?_
         refine AG.ret ?_
         obtain rfl := Option.some.inj H
         exact RetP.mk id ⟨rfl, trivial⟩ trivial rfl
        ·rw [if_neg hc40] at H
         refine AG.no rfl (Bool.eq_false_iff.2 hc40) ?_
         refine AG.skip ?_
         refine AG.seq ?_
         refine AG.region HM ?_
         refine a_move (v := vI _) ?_
         refine RA.nil nofun ?_
         refine AG.seq ?_
         refine AG.region HM ?_
         refine a_move (v := .c (.own _ _)) ?_
         refine a_move (v := vI _) ?_
         obtain ⟨⟨t41, t42⟩, e43, H⟩ := bindO H
         refine a_callM (v := vI t41) (nk := []) (L := []) (Mk := [(223, _)]) (ck := [(223, .row 2 (t42.map c2))]) ?_ rfl (laws_markInt64S.ok e43) (fun κ => cond (Nat.beq κ 0) 223 (κ)) (fun κ => cond (Nat.beq κ 223) 0 (κ)) (mcO (mcD m0)) trivial ⟨rfl, trivial⟩ trivial ⟨rfl, trivial⟩ trivial ⟨rfl, trivial⟩ rfl rfl rfl
         refine a_move (v := vI _) ?_
         refine RA.nil nofun ?_
         refine AG.relen 223 t42.length ?_
         refine AG.seq ?_
         refine AG.region HM ?_
         refine a_move (v := vI _) ?_
         refine RA.nil nofun ?_
         refine AG.seq ?_
         refine AG.region HM ?_
         refine a_move (v := .c (.own _ _)) ?_
         refine a_move (v := vI _) ?_
         obtain ⟨t44, e45, H⟩ := bindO H
         refine a_call (v := vI t44) (nk := []) (L := [(223, _)]) ?_ rfl (laws_heldInt64S.ok e45) id (qc rO (qd qn)) ⟨rfl, trivial⟩ trivial trivial rfl
         refine a_move (v := vI _) ?_
         refine RA.nil nofun ?_
         refine AG.seq ?_
         refine AG.seq ?_
         refine AG.region HM ?_
         refine a_move (v := vI _) ?_
         refine a_int (u := .bool (decide (t44 < 0))) ?_
         refine RA.nil nofun ?_
         by_cases hc46 : t44 < 0
         ·rw [if_pos hc46] at H
          refine AG.yes rfl (decide_eq_true hc46) ?_
          refine AG.seq ?_
          refine AG.region HM ?_
          refine a_move (v := vB _) ?_
          refine RA.nil nofun ?_
          refine AG.ret ?_
          obtain rfl := Option.some.inj H
          exact RetP.mk id ⟨rfl, trivial⟩ trivial rfl
         ·rw [if_neg hc46] at H
          refine AG.no rfl (decide_eq_false hc46) ?_
          refine AG.skip ?_
          refine AG.seq ?_
          refine AG.seq ?_
          refine AG.region HM ?_
          refine a_move (v := vI _) ?_
          refine a_move (v := vI _) ?_
          refine a_int (u := .bool ((t44 != t41))) ?_
          refine RA.nil nofun ?_
          by_cases hc47 : t44 = t41
          ·rw [if_pos hc47] at H
           refine AG.no rfl (bne_eq_false_iff_eq.2 hc47) ?_
           refine AG.skip ?_
           refine AG.seq ?_
           refine AG.region HM ?_
           refine a_ldB (v := .agg [_, _, _, _]) ?_ T25
           obtain ⟨⟨t48, t49, t50, t51⟩, e52, H⟩ := bindO H
           refine a_call (v := .agg [.d (.v (.int .i64 t48)), .d (.v (.int .i64 t49)), .own 226 t50.length, .own 227 t51.length]) (nk := [(226, .row 51 (t50.map c50)), (227, .row 76 (t51.map c72))]) (L := []) ?_ rfl (laws_toDrawing.ok e52) (fun κ => cond (Nat.beq κ 226) 100 (cond (Nat.beq κ 227) 101 (κ))) (qg qn) trivial ⟨rfl, rfl, trivial⟩ ⟨rfl, rfl, trivial⟩ rfl
           obtain ⟨⟨t53, t54⟩, e55, H⟩ := bindO H
           refine a_call (v := .tup [.c (.own 228 t53.length), .c (.d (.v (.int .i64 t54)))]) (nk := [(228, .row 2 (t53.map c2))]) (L := [(226, _), (227, _)]) ?_ rfl (impl_CutOrder.ok e55) (fun κ => cond (Nat.beq κ 228) 100 (κ)) (qm (eD (eD (eC rO (eC rO eN)))) qn) ⟨rfl, rfl, trivial⟩ ⟨rfl, trivial⟩ ⟨rfl, trivial⟩ rfl
           refine a_move (v := .tup [_, _]) ?_
           refine a_ext (v := .c (.own _ _)) ?_
           refine a_ext (v := vI _) ?_
           refine a_move (v := .c (.own _ _)) ?_
           refine a_move (v := vI _) ?_
           refine RA.nil nofun ?_
           refine AG.seq ?_
           refine AG.seq ?_
           refine AG.freeze 227 ?_
           refine AG.joinR (fun s => ∃ q, q ≤ k ∧ ∃ (x7 : List Int) (x10 : Int) (x87 : Bool), laws_FnExactCutOrder.j2 q x7 x10 x87 = some r ∧ s = St.of [(7, .c (.own 230 x7.length)), (10, vI x10), (87, vB x87)] [(230, .row 2 (x7.map c2))]) ?_ ?_
           ·skip
            refine AG.region HM ?_
            refine a_move (v := .c (.own _ _)) ?_
            refine a_move (v := .c (.own _ _)) ?_
            obtain ⟨t56, e57, H⟩ := bindO H
            refine a_call (v := vB t56) (nk := []) (L := [(228, _), (222, _)]) ?_ rfl (laws_eqInt64S.ok e57) id (qc rO (qc rO qn)) ⟨rfl, rfl, trivial⟩ trivial trivial rfl
            refine a_un (u := .bool (!t56)) ?_
            refine a_move (v := vB _) ?_
            by_cases hc58 : t56 = true
            ·rw [if_pos hc58] at H
             refine a_move (v := vI _) ?_ (hg := Gs.yes rfl rfl rfl (congrArg Bool.not hc58))
             refine a_move (v := vI _) ?_ (hg := Gs.yes rfl rfl rfl (congrArg Bool.not hc58))
             refine a_int (u := .bool ((t54 != x5))) ?_ (hg := Gs.yes rfl rfl rfl (congrArg Bool.not hc58))
             refine a_pick (b := false) (v := vB _) ?_ (congrArg Bool.not hc58)
             refine RA.nil nofun ?_
             exact CanR.mk (fun κ => cond (Nat.beq κ 230) 223 (κ)) ⟨_, (by omega), _, _, _, H, rfl⟩ ⟨rfl, rfl, rfl, trivial⟩ ⟨rfl, trivial⟩ rfl
            ·rw [if_neg hc58] at H
             refine RA.skip rfl rfl rfl rfl rfl (congrArg Bool.not (Bool.eq_false_iff.2 hc58)) (by decide) ?_
             refine RA.skip rfl rfl rfl rfl rfl (congrArg Bool.not (Bool.eq_false_iff.2 hc58)) (by decide) ?_
             refine RA.skip rfl rfl rfl rfl rfl (congrArg Bool.not (Bool.eq_false_iff.2 hc58)) (by decide) ?_
             refine a_pick (b := true) (v := vB _) ?_ (congrArg Bool.not (Bool.eq_false_iff.2 hc58))
             refine RA.nil nofun ?_
             exact CanR.mk (fun κ => cond (Nat.beq κ 230) 223 (κ)) ⟨_, (by omega), _, _, _, H, rfl⟩ ⟨rfl, rfl, rfl, trivial⟩ ⟨rfl, trivial⟩ rfl
           ·clear H
            rintro _ ⟨k, hj2, x7, x10, x87, H, rfl⟩
            cases k with
            | zero => cases H
            | succ k =>
             rw [laws_FnExactCutOrder.j2] at H
             by_cases hc59 : x87 = true
             ·rw [if_pos hc59] at H
              refine AG.yes rfl hc59 ?_
              refine AG.seq ?_
              refine AG.region HM ?_
              refine a_move (v := vB _) ?_
              refine RA.nil nofun ?_
              refine AG.ret ?_
              obtain rfl := Option.some.inj H
              exact RetP.mk id ⟨rfl, trivial⟩ trivial rfl
             ·rw [if_neg hc59] at H
              refine AG.no rfl (Bool.eq_false_iff.2 hc59) ?_
              refine AG.skip ?_
              refine AG.seq ?_
              refine AG.region HM ?_
              refine a_move (v := vI _) ?_
              refine RA.nil nofun ?_
              refine AG.seq ?_
              refine AG.region HM ?_
              refine a_move (v := .c (.own _ _)) ?_
              refine a_move (v := vI _) ?_
              obtain ⟨t60, e61, H⟩ := bindO H
              refine a_call (v := vI t60) (nk := []) (L := [(230, _)]) ?_ rfl (laws_heldInt64S.ok e61) id (qc rO (qd qn)) ⟨rfl, trivial⟩ trivial trivial rfl
              refine a_move (v := vI _) ?_
              refine RA.nil nofun ?_
              refine AG.seq ?_
              refine AG.seq ?_
              refine AG.region HM ?_
              refine a_move (v := vI _) ?_
              refine a_int (u := .bool (decide (t60 < 0))) ?_
              refine RA.nil nofun ?_
              by_cases hc62 : t60 < 0
              ·rw [if_pos hc62] at H
               refine AG.yes rfl (decide_eq_true hc62) ?_
               refine AG.seq ?_
               refine AG.region HM ?_
               refine a_move (v := vB _) ?_
               refine RA.nil nofun ?_
               refine AG.ret ?_
               obtain rfl := Option.some.inj H
               exact RetP.mk id ⟨rfl, trivial⟩ trivial rfl
              ·rw [if_neg hc62] at H
               refine AG.no rfl (decide_eq_false hc62) ?_
               refine AG.skip ?_
               refine AG.seq ?_
               refine AG.seq ?_
               refine AG.region HM ?_
               refine a_move (v := vI _) ?_
               refine a_move (v := vI _) ?_
               refine a_int (u := .bool ((t60 != x10))) ?_
               refine RA.nil nofun ?_
               by_cases hc63 : t60 = x10
               ·rw [if_pos hc63] at H
                refine AG.no rfl (bne_eq_false_iff_eq.2 hc63) ?_
                refine AG.skip ?_
                refine AG.seq ?_
                refine AG.region HM ?_
                refine a_move (v := vB _) ?_
                refine RA.nil nofun ?_
                refine AG.ret ?_
                obtain rfl := Option.some.inj H
                exact RetP.mk id ⟨rfl, trivial⟩ trivial rfl
               ·rw [if_neg hc63] at H
                refine AG.yes rfl (bne_iff_ne.2 hc63) ?_
                refine AG.seq ?_
                refine AG.region HM ?_
                refine a_move (v := vB _) ?_
                refine RA.nil nofun ?_
                refine AG.ret ?_
                obtain rfl := Option.some.inj H
                exact RetP.mk id ⟨rfl, trivial⟩ trivial rfl
          ·rw [if_neg hc47] at H
           refine AG.yes rfl (bne_iff_ne.2 hc47) ?_
           refine AG.seq ?_
           refine AG.region HM ?_
           refine a_move (v := vB _) ?_
           refine RA.nil nofun ?_
           refine AG.ret ?_
           obtain rfl := Option.some.inj H
           exact RetP.mk id ⟨rfl, trivial⟩ trivial rfl
     ·rw [if_neg hc31] at H
      refine AG.yes rfl (congrArg Bool.not (Bool.eq_false_iff.2 hc31)) ?_
      refine AG.seq ?_
      refine AG.freeze 217 ?_
      refine AG.region HM ?_
      refine a_move (v := vB _) ?_
      refine RA.nil nofun ?_
      refine AG.ret ?_
      obtain rfl := Option.some.inj H
      exact RetP.mk id ⟨rfl, trivial⟩ trivial rfl
def B50 (x : S50) : Prop := (Lit.int .i64 x.f0).wf = true ∧ (Lit.int .i64 x.f1).wf = true
def B72 (x : S72) : Prop := x.f0.size ≤ maxLen ∧ (x.f1.length ≤ maxLen ∧ ∀ x_ ∈ x.f1, (Lit.int .i64 x_).wf = true)
def B24 (x : S24) : Prop := (Lit.int .i64 x.f0).wf = true ∧ (Lit.int .i64 x.f1).wf = true ∧ (x.f2.length ≤ maxLen ∧ ∀ x_ ∈ x.f2, B50 x_) ∧ (x.f3.length ≤ maxLen ∧ ∀ x_ ∈ x.f3, B72 x_)
/-- The one plain statement of laws_FnExactCutOrder. -/
def laws_FnExactCutOrder.Pure : Prop := ∀ (a0_0 : Int) (a0_1 : Int) (l0_2 : List S50) (l0_3 : List S72), B24 (⟨a0_0, a0_1, l0_2, l0_3⟩ : S24) → ∃ k, laws_FnExactCutOrder.f k a0_0 a0_1 l0_2 l0_3 = some true
end Go.Proofs.YtanbgmnhbncapaaGreat.PFnExactCutOrder

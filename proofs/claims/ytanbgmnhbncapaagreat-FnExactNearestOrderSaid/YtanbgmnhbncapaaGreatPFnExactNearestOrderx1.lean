/- What each function that the law FnExactNearestOrder reaches comes to, and the proof that its walk comes to it; laid by a program of this session. No condition. -/
import Derived.Test.YtanbgmnhbncapaaGreatPFnExactNearestOrderx0
import Derived.KernelRfl
import Derived.OwnWalk
import Derived.Test.YtanbgmnhbncapaaGreatProg
set_option linter.unusedVariables false
set_option linter.unusedSimpArgs false
namespace Go.Proofs.YtanbgmnhbncapaaGreat.PFnExactNearestOrder
open Go Go.RowKit Go.Proofs.YtanbgmnhbncapaaGreatM Go.Proofs Go.Proofs.YtanbgmnhbncapaaGreat.SortP
/-! ### spec_l14Air: function 24 -/
def spec_l14Air.l0 : Nat → Int → Int → List S50 → List S72 → List (List Int) → List Int → List Int → Int → Int → Option (Int)
 | 0, _, _, _, _, _, _, _, _, _ => none
 | k + 1, x0_0, x0_1, x0_2, x0_3, x1, x2, x3, x9, x10 => if x10 < (x2.length : Int) then (if 0 ≤ (wrap64 (x10 - 1)) then (if (wrap64 (x10 - 1)) < (x2.length : Int) then (if 0 ≤ (rd2 x2 (wrap64 (x10 - 1))) then (if (rd2 x2 (wrap64 (x10 - 1))) < (x1.length : Int) then (if (wrap64 (x10 - 1)) < (x3.length : Int) then ((spec_l14Ends.f x0_0 x0_1 x0_2 x0_3 (rd27 x1 (rd2 x2 (wrap64 (x10 - 1)))) (rd2 x3 (wrap64 (x10 - 1)))).bind fun bt7 => (if 0 ≤ x10 then (if 0 ≤ (rd2 x2 x10) then (if (rd2 x2 x10) < (x1.length : Int) then (if x10 < (x3.length : Int) then ((spec_l14Ends.f x0_0 x0_1 x0_2 x0_3 (rd27 x1 (rd2 x2 x10)) (rd2 x3 x10)).bind fun bt16 => ((spec_l02Apart.f k bt7.2.2.1 bt7.2.2.2 bt16.1 bt16.2.1).bind fun t21 => (spec_l14Air.l0 k x0_0 x0_1 x0_2 x0_3 x1 x2 x3 (wrap64 (x9 + t21)) (wrap64 (x10 + 1))))) else (none)) else (none)) else (none)) else (none))) else (none)) else (none)) else (none)) else (none)) else (none)) else (some x9)
def spec_l14Air.f (k : Nat) (a0_0 : Int) (a0_1 : Int) (l0_2 : List S50) (l0_3 : List S72) (l1 : List (List Int)) (l2 : List Int) (l3 : List Int) : Option (Int) := spec_l14Air.l0 k a0_0 a0_1 l0_2 l0_3 l1 l2 l3 0 1
set_option maxRecDepth 100000 in
theorem spec_l14Air.ok {k : Nat} {a0_0 : Int} {a0_1 : Int} {l0_2 : List S50} {l0_3 : List S72} {l1 : List (List Int)} {l2 : List Int} {l3 : List Int} {r : Int} (H : spec_l14Air.f k a0_0 a0_1 l0_2 l0_3 l1 l2 l3 = some r) : OkF Tryz.prog 24 [.c (.d (.ro [.v (.int .i64 a0_0), .v (.int .i64 a0_1), .row 51 (l0_2.map c50), .row 76 (l0_3.map c72)])), vR 27 (l1.map c27), vR 2 (l2.map c2), vR 2 (l3.map c2)] [] (.c (.d (.v (.int .i64 r)))) [] := by
 unfold spec_l14Air.f at H
 refine OkF.of (N := 61) (rs := [8]) (avs := [.c (.d (.v (.int .i64 r)))]) Tryz.func24 rfl rfl (fun _ _ => results_tmp rfl _ _ _) (by decide) rfl rfl rfl rfl (fun w0 S => ?_)
 refine AG.seq ?_
 refine AG.region HM ?_
 refine a_move (v := vI _) ?_
 refine RA.nil nofun ?_
 refine AG.seq ?_
 refine AG.region HM ?_
 refine a_move (v := vI _) ?_
 refine RA.nil nofun ?_
 refine AG.seq ?_
 refine AG.seq ?_
 refine AG.region HM ?_
 refine a_move (v := vI _) ?_
 refine RA.nil nofun ?_
 refine AG.block ?_
 refine AG.loop ?_
 obtain ⟨K0, hK0, gK0⟩ : ∃ K, k ≤ K ∧ K ≤ k := ⟨k, Nat.le_refl k, Nat.le_refl k⟩
 refine AGr.canon id (AGr.loopI (n := k) (fun k s => k ≤ K0 ∧ ∃ (x0_0 : Int) (x0_1 : Int) (x0_2 : List S50) (x0_3 : List S72) (x1 : List (List Int)) (x2 : List Int) (x3 : List Int) (x9 : Int) (x10 : Int), spec_l14Air.l0 k x0_0 x0_1 x0_2 x0_3 x1 x2 x3 x9 x10 = some r ∧ s = St.of [(0, .c (.d (.ro [.v (.int .i64 x0_0), .v (.int .i64 x0_1), .row 51 (x0_2.map c50), .row 76 (x0_3.map c72)]))), (1, vR 27 (x1.map c27)), (2, vR 2 (x2.map c2)), (3, vR 2 (x3.map c2)), (9, vI x9), (10, vI x10)] []) ⟨hK0, _, _, _, _, _, _, _, _, _, H, rfl⟩ ?_ ?_) ⟨rfl, rfl, rfl, rfl, rfl, rfl, trivial⟩ trivial rfl
 ·rintro _ ⟨_, _, _, _, _, _, _, _, _, _, H, _⟩
  cases H
 ·clear H hK0
  rintro k ih0 _ ⟨hK0, x0_0, x0_1, x0_2, x0_3, x1, x2, x3, x9, x10, H, rfl⟩
  unfold spec_l14Air.l0 at H
  refine AG.seq ?_
  refine AG.seq ?_
  refine AG.region HM ?_
  refine a_move (v := vI _) ?_
  refine a_move (v := vR _ _) ?_
  refine a_lenR ?_ Tryz.underlying27
  refine a_int (u := .bool (decide (x10 < (x2.length : Int)))) ?_
  refine RA.nil nofun ?_
  by_cases hc1 : x10 < (x2.length : Int)
  ·rw [if_pos hc1] at H
   refine AG.yes rfl (decide_eq_true hc1) ?_
   refine AG.skip ?_
   refine AG.seq ?_
   refine AG.block ?_
   refine AG.seq ?_
   refine AG.region HM ?_
   refine a_move (v := vO [_, _, _, _]) ?_
   refine a_move (v := vR _ _) ?_
   refine a_move (v := vR _ _) ?_
   refine a_move (v := vI _) ?_
   refine a_int (u := .int .i64 (wrap64 (x10 - 1))) ?_
   by_cases hc2 : 0 ≤ (wrap64 (x10 - 1))
   ·rw [if_pos hc2] at H
    by_cases hc3 : (wrap64 (x10 - 1)) < (x2.length : Int)
    ·rw [if_pos hc3] at H
     refine a_ixR (el := c2 (rd2 x2 (wrap64 (x10 - 1)))) ?_ ⟨hc2, hc3⟩ T2 Tryz.underlying27 (hel := R2 hc2 hc3)
     refine a_ldR (v := vI _) ?_ T2
     by_cases hc4 : 0 ≤ (rd2 x2 (wrap64 (x10 - 1)))
     ·rw [if_pos hc4] at H
      by_cases hc5 : (rd2 x2 (wrap64 (x10 - 1))) < (x1.length : Int)
      ·rw [if_pos hc5] at H
       refine a_ixR (el := c27 (rd27 x1 (rd2 x2 (wrap64 (x10 - 1))))) ?_ ⟨hc4, hc5⟩ T27 Tryz.underlying46 (hel := R27 hc4 hc5)
       refine a_ldR (v := vR _ _) ?_ T27
       refine a_move (v := vR _ _) ?_
       refine a_move (v := vI _) ?_
       refine a_int (u := .int .i64 (wrap64 (x10 - 1))) ?_
       by_cases hc6 : (wrap64 (x10 - 1)) < (x3.length : Int)
       ·rw [if_pos hc6] at H
        refine a_ixR (el := c2 (rd2 x3 (wrap64 (x10 - 1)))) ?_ ⟨hc2, hc6⟩ T2 Tryz.underlying27 (hel := R2 hc2 hc6)
        refine a_ldR (v := vI _) ?_ T2
        obtain ⟨⟨t7, t8, t9, t10⟩, e11, H⟩ := bindO H
        refine a_call (v := .tup [.agg [.d (.v (.int .i64 t7)), .d (.v (.int .i64 t8))], .agg [.d (.v (.int .i64 t9)), .d (.v (.int .i64 t10))]]) (nk := []) (L := []) ?_ rfl (spec_l14Ends.ok e11) id (qd (qd (qd qn))) trivial trivial trivial rfl
        refine a_move (v := .tup [_, _]) ?_
        refine a_ext (v := .agg [_, _]) ?_
        refine a_ext (v := .agg [_, _]) ?_
        refine a_alloc (cs := [_, _]) 201 ?_ T51
        refine a_alloc (cs := [_, _]) 202 ?_ T51
        refine a_stB (cs' := [_, _]) ?_ T51
        refine a_stB (cs' := [_, _]) ?_ T51
        refine RA.nil (fun _ => by kernel_rfl) ?_
        refine AG.seq ?_
        refine AG.region HM ?_
        refine a_move (v := vO [_, _, _, _]) ?_
        refine a_move (v := vR _ _) ?_
        refine a_move (v := vR _ _) ?_
        refine a_move (v := vI _) ?_
        by_cases hc12 : 0 ≤ x10
        ·rw [if_pos hc12] at H
         refine a_ixR (el := c2 (rd2 x2 x10)) ?_ ⟨hc12, hc1⟩ T2 Tryz.underlying27 (hel := R2 hc12 hc1)
         refine a_ldR (v := vI _) ?_ T2
         by_cases hc13 : 0 ≤ (rd2 x2 x10)
         ·rw [if_pos hc13] at H
          by_cases hc14 : (rd2 x2 x10) < (x1.length : Int)
          ·rw [if_pos hc14] at H
           refine a_ixR (el := c27 (rd27 x1 (rd2 x2 x10))) ?_ ⟨hc13, hc14⟩ T27 Tryz.underlying46 (hel := R27 hc13 hc14)
           refine a_ldR (v := vR _ _) ?_ T27
           refine a_move (v := vR _ _) ?_
           refine a_move (v := vI _) ?_
           by_cases hc15 : x10 < (x3.length : Int)
           ·rw [if_pos hc15] at H
            refine a_ixR (el := c2 (rd2 x3 x10)) ?_ ⟨hc12, hc15⟩ T2 Tryz.underlying27 (hel := R2 hc12 hc15)
            refine a_ldR (v := vI _) ?_ T2
            obtain ⟨⟨t16, t17, t18, t19⟩, e20, H⟩ := bindO H
            refine a_call (v := .tup [.agg [.d (.v (.int .i64 t16)), .d (.v (.int .i64 t17))], .agg [.d (.v (.int .i64 t18)), .d (.v (.int .i64 t19))]]) (nk := []) (L := []) ?_ rfl (spec_l14Ends.ok e20) id (qd (qd (qd qn))) trivial trivial trivial rfl
            refine a_move (v := .tup [_, _]) ?_
            refine a_ext (v := .agg [_, _]) ?_
            refine a_ext (v := .agg [_, _]) ?_
            refine a_alloc (cs := [_, _]) 204 ?_ T51
            refine a_alloc (cs := [_, _]) 205 ?_ T51
            refine a_stB (cs' := [_, _]) ?_ T51
            refine a_stB (cs' := [_, _]) ?_ T51
            refine RA.nil (fun _ => by kernel_rfl) ?_
            refine AG.region HM ?_
            refine a_move (v := vI _) ?_
            refine a_ldB (v := .agg [_, _]) ?_ T51
            refine a_ldB (v := .agg [_, _]) ?_ T51
            obtain ⟨t21, e22, H⟩ := bindO H
            refine a_call (v := vI t21) (nk := []) (L := []) ?_ rfl (spec_l02Apart.ok e22) id (qg (qg qn)) trivial trivial trivial rfl
            refine a_int (u := .int .i64 (wrap64 (x9 + t21))) ?_
            refine a_move (v := vI _) ?_
            refine RA.nil nofun ?_
            refine AG.region HM ?_
            refine a_move (v := vI _) ?_
            refine a_int (u := .int .i64 (wrap64 (x10 + 1))) ?_
            refine a_move (v := vI _) ?_
            refine RA.nil nofun ?_
            exact AGr.canon id (ih0 _ (by omega) _ ⟨by omega, _, _, _, _, _, _, _, _, _, H, rfl⟩) ⟨rfl, rfl, rfl, rfl, rfl, rfl, trivial⟩ trivial rfl
           ·rw [if_neg hc15] at H
            cases H
          ·rw [if_neg hc14] at H
           cases H
         ·rw [if_neg hc13] at H
          cases H
        ·rw [if_neg hc12] at H
         cases H
       ·rw [if_neg hc6] at H
        cases H
      ·rw [if_neg hc5] at H
       cases H
     ·rw [if_neg hc4] at H
      cases H
    ·rw [if_neg hc3] at H
     cases H
   ·rw [if_neg hc2] at H
    cases H
  ·rw [if_neg hc1] at H
   refine AG.no rfl (decide_eq_false hc1) ?_
   refine AG.exit ?_
   refine AG.seq ?_
   refine AG.region HM ?_
   refine a_move (v := vI _) ?_
   refine a_move (v := vI _) ?_
   refine RA.nil nofun ?_
   refine AG.ret ?_
   obtain rfl := Option.some.inj H
   exact RetP.mk id ⟨rfl, trivial⟩ trivial rfl
/-! ### spec_NearestOrder: function 6 -/
mutual
def spec_NearestOrder.l0 : Nat → Int → Int → List S50 → List S72 → List (List Int) → List Int → List Int → List Int → Option ((List Int) × (List Int) × Int × Int)
 | 0, _, _, _, _, _, _, _, _ => none
 | k + 1, y209_0, y209_1, y209_2, y209_3, x6, x7, x8, x9 => if (x8.length : Int) < (x6.length : Int) then (spec_NearestOrder.l1 k y209_0 y209_1 y209_2 y209_3 x6 x7 x8 x9 (-1) 0 0 0) else ((spec_l14Air.f k y209_0 y209_1 y209_2 y209_3 x6 x8 x9).bind fun t68 => (some (x8, x9, t68, 0)))
def spec_NearestOrder.l1 : Nat → Int → Int → List S50 → List S72 → List (List Int) → List Int → List Int → List Int → Int → Int → Int → Int → Option ((List Int) × (List Int) × Int × Int)
 | 0, _, _, _, _, _, _, _, _, _, _, _, _ => none
 | k + 1, y214_0, y214_1, y214_2, y214_3, x6, x7, x8, x9, x10, x11, x12, x13 => if x13 < (x6.length : Int) then ((spec_l00Has.f k x8 x13).bind fun t11 => (if t11 = true then (spec_NearestOrder.j0 k y214_0 y214_1 y214_2 y214_3 x6 x7 x8 x9 x10 x11 x12 x13 true) else (if x10 ≥ 0 then (if 0 ≤ x13 then (if x13 < (x7.length : Int) then (if 0 ≤ x10 then (if x10 < (x7.length : Int) then (spec_NearestOrder.j0 k y214_0 y214_1 y214_2 y214_3 x6 x7 x8 x9 x10 x11 x12 x13 (decide ((rd2 x7 x13) < (rd2 x7 x10)))) else (none)) else (none)) else (none)) else (none)) else (spec_NearestOrder.j0 k y214_0 y214_1 y214_2 y214_3 x6 x7 x8 x9 x10 x11 x12 x13 false)))) else (if x8.length < 17592186044416 then (if x9.length < 17592186044416 then (spec_NearestOrder.l0 k y214_0 y214_1 y214_2 y214_3 x6 x7 (x8 ++ [x10]) (x9 ++ [x11])) else (none)) else (none))
def spec_NearestOrder.j0 : Nat → Int → Int → List S50 → List S72 → List (List Int) → List Int → List Int → List Int → Int → Int → Int → Int → Bool → Option ((List Int) × (List Int) × Int × Int)
 | 0, _, _, _, _, _, _, _, _, _, _, _, _, _ => none
 | k + 1, y221_0, y221_1, y221_2, y221_3, x6, x7, x8, x9, x10, x11, x12, x13, x56 => if x56 = true then (spec_NearestOrder.l1 k y221_0 y221_1 y221_2 y221_3 x6 x7 x8 x9 x10 x11 x12 (wrap64 (x13 + 1))) else (if (x8.length : Int) > 0 then (if 0 ≤ (wrap64 ((x8.length : Int) - 1)) then (if (wrap64 ((x8.length : Int) - 1)) < (x8.length : Int) then (if 0 ≤ (rd2 x8 (wrap64 ((x8.length : Int) - 1))) then (if (rd2 x8 (wrap64 ((x8.length : Int) - 1))) < (x6.length : Int) then (if (wrap64 ((x8.length : Int) - 1)) < (x9.length : Int) then ((spec_l14Ends.f y221_0 y221_1 y221_2 y221_3 (rd27 x6 (rd2 x8 (wrap64 ((x8.length : Int) - 1)))) (rd2 x9 (wrap64 ((x8.length : Int) - 1)))).bind fun bt26 => (if 0 ≤ x13 then (if x13 < (x6.length : Int) then ((spec_l14Ends.f y221_0 y221_1 y221_2 y221_3 (rd27 x6 x13) 0).bind fun bt33 => ((spec_l02Apart.f k bt26.2.2.1 bt26.2.2.2 bt33.1 bt33.2.1).bind fun t38 => ((spec_l02Apart.f k bt26.2.2.1 bt26.2.2.2 bt33.2.2.1 bt33.2.2.2).bind fun t40 => (if t40 < t38 then ((spec_l02Apart.f k bt26.2.2.1 bt26.2.2.2 bt33.2.2.1 bt33.2.2.2).bind fun t43 => (if x10 < 0 then (spec_NearestOrder.l1 k y221_0 y221_1 y221_2 y221_3 x6 x7 x8 x9 x13 1 t43 (wrap64 (x13 + 1))) else (if x13 < (x7.length : Int) then (if 0 ≤ x10 then (if x10 < (x7.length : Int) then (if (rd2 x7 x13) > (rd2 x7 x10) then (spec_NearestOrder.l1 k y221_0 y221_1 y221_2 y221_3 x6 x7 x8 x9 x13 1 t43 (wrap64 (x13 + 1))) else (if t43 < x12 then (spec_NearestOrder.l1 k y221_0 y221_1 y221_2 y221_3 x6 x7 x8 x9 x13 1 t43 (wrap64 (x13 + 1))) else (spec_NearestOrder.l1 k y221_0 y221_1 y221_2 y221_3 x6 x7 x8 x9 x10 x11 x12 (wrap64 (x13 + 1))))) else (none)) else (none)) else (none)))) else (if x10 < 0 then (spec_NearestOrder.l1 k y221_0 y221_1 y221_2 y221_3 x6 x7 x8 x9 x13 0 t38 (wrap64 (x13 + 1))) else (if x13 < (x7.length : Int) then (if 0 ≤ x10 then (if x10 < (x7.length : Int) then (if (rd2 x7 x13) > (rd2 x7 x10) then (spec_NearestOrder.l1 k y221_0 y221_1 y221_2 y221_3 x6 x7 x8 x9 x13 0 t38 (wrap64 (x13 + 1))) else (if t38 < x12 then (spec_NearestOrder.l1 k y221_0 y221_1 y221_2 y221_3 x6 x7 x8 x9 x13 0 t38 (wrap64 (x13 + 1))) else (spec_NearestOrder.l1 k y221_0 y221_1 y221_2 y221_3 x6 x7 x8 x9 x10 x11 x12 (wrap64 (x13 + 1))))) else (none)) else (none)) else (none))))))) else (none)) else (none))) else (none)) else (none)) else (none)) else (none)) else (none)) else (if x10 < 0 then (spec_NearestOrder.l1 k y221_0 y221_1 y221_2 y221_3 x6 x7 x8 x9 x13 0 0 (wrap64 (x13 + 1))) else (if 0 ≤ x13 then (if x13 < (x7.length : Int) then (if 0 ≤ x10 then (if x10 < (x7.length : Int) then (if (rd2 x7 x13) > (rd2 x7 x10) then (spec_NearestOrder.l1 k y221_0 y221_1 y221_2 y221_3 x6 x7 x8 x9 x13 0 0 (wrap64 (x13 + 1))) else (if 0 < x12 then (spec_NearestOrder.l1 k y221_0 y221_1 y221_2 y221_3 x6 x7 x8 x9 x13 0 0 (wrap64 (x13 + 1))) else (spec_NearestOrder.l1 k y221_0 y221_1 y221_2 y221_3 x6 x7 x8 x9 x10 x11 x12 (wrap64 (x13 + 1))))) else (none)) else (none)) else (none)) else (none))))
end
def spec_NearestOrder.f (k : Nat) (a0_0 : Int) (a0_1 : Int) (l0_2 : List S50) (l0_3 : List S72) : Option ((List Int) × (List Int) × Int × Int) := (spec_l05Ok.f k a0_0 a0_1 l0_2 l0_3).bind fun t1 => (if t1 = true then ((spec_l14Edges.f k a0_0 a0_1 l0_2 l0_3).bind fun t4 => ((spec_l14Depths.f k a0_0 a0_1 l0_2 l0_3 t4).bind fun t5 => (spec_NearestOrder.l0 k a0_0 a0_1 l0_2 l0_3 t4 t5 (([] : List Int) : List Int) (([] : List Int) : List Int)))) else (some (([] : List Int), ([] : List Int), 0, 1)))
set_option maxRecDepth 100000 in
theorem spec_NearestOrder.ok {k : Nat} {a0_0 : Int} {a0_1 : Int} {l0_2 : List S50} {l0_3 : List S72} {r0 : List Int} {r1 : List Int} {r2 : Int} {r3 : Int} (H : spec_NearestOrder.f k a0_0 a0_1 l0_2 l0_3 = some (r0, r1, r2, r3)) : OkF Tryz.prog 6 [.agg [.d (.v (.int .i64 a0_0)), .d (.v (.int .i64 a0_1)), .d (.row 51 (l0_2.map c50)), .d (.row 76 (l0_3.map c72))]] [] (.tup [.c (.own 100 r0.length), .c (.own 101 r1.length), .c (.d (.v (.int .i64 r2))), .c (.d (.v (.int .i64 r3)))]) [(100, .row 2 (r0.map c2)), (101, .row 2 (r1.map c2))] := by
 unfold spec_NearestOrder.f at H
 refine OkF.of (N := 132) (rs := [2, 3, 4, 5]) (avs := [.c (.own 100 r0.length), .c (.own 101 r1.length), .c (.d (.v (.int .i64 r2))), .c (.d (.v (.int .i64 r3)))]) Tryz.func6 rfl rfl (fun _ _ => results_tmp4 rfl _ _ _) (by decide) rfl rfl rfl rfl (fun w0 S => ?_)
 refine AG.seq ?_
 refine AG.region HM ?_
 refine a_box 200 ?_
 refine a_nilO (e := 2) 201 ?_ T2
 refine a_nilO (e := 2) 202 ?_ T2
 refine a_move (v := vI _) ?_
 refine a_move (v := vI _) ?_
 refine RA.nil nofun ?_
 refine AG.seq ?_
 refine AG.seq ?_
 refine AG.region HM ?_
 obtain ⟨t1, e2, H⟩ := bindO H
 refine a_call (v := vB t1) (nk := []) (L := [(200, _)]) ?_ rfl (spec_l05Ok.ok e2) id (qc (rP (pD (pD (pD (pD p0))))) qn) ⟨rfl, trivial⟩ trivial trivial rfl
 refine a_un (u := .bool (!t1)) ?_
 refine RA.nil nofun ?_
 by_cases hc3 : t1 = true
 ·rw [if_pos hc3] at H
  refine AG.no rfl (congrArg Bool.not hc3) ?_
  refine AG.skip ?_
  refine AG.seq ?_
  refine AG.region HM ?_
  obtain ⟨t4, et4, H⟩ := bindO H
  refine a_callF (L := [(200, _)]) ?_ rfl (spec_l14Edges.ok et4) (qc (rP (pD (pD (pD (pD p0))))) qn) ⟨rfl, trivial⟩
  refine a_move (v := vR _ _) ?_
  refine RA.nil nofun ?_
  refine AG.seq ?_
  refine AG.region HM ?_
  refine a_move (v := vR _ _) ?_
  obtain ⟨t5, e6, H⟩ := bindO H
  refine a_call (v := .c (.own 206 t5.length)) (nk := [(206, .row 2 (t5.map c2))]) (L := [(200, _)]) ?_ rfl (spec_l14Depths.ok e6) (fun κ => cond (Nat.beq κ 206) 100 (κ)) (qc (rP (pD (pD (pD (pD p0))))) (qd qn)) ⟨rfl, trivial⟩ ⟨rfl, trivial⟩ ⟨rfl, trivial⟩ rfl
  refine a_move (v := .c (.own _ _)) ?_
  refine RA.nil nofun ?_
  refine AG.seq ?_
  refine AG.region HM ?_
  refine a_lit (cs := []) (D := []) (css := (([] : List Int) : List Int).map c2) 207 ?_ N27 T2 (hcss := by rfl)
  refine a_move (v := .c (.own _ _)) ?_
  refine RA.nil nofun ?_
  refine AG.seq ?_
  refine AG.region HM ?_
  refine a_lit (cs := []) (D := []) (css := (([] : List Int) : List Int).map c2) 208 ?_ N27 T2 (hcss := by rfl)
  refine a_move (v := .c (.own _ _)) ?_
  refine RA.nil nofun ?_
  refine AG.seq ?_
  refine AG.block ?_
  refine AG.loop ?_
  obtain ⟨K0, hK0, gK0⟩ : ∃ K, k ≤ K ∧ K ≤ k := ⟨k, Nat.le_refl k, Nat.le_refl k⟩
  refine AGr.canon (fun κ => cond (Nat.beq κ 209) 200 (cond (Nat.beq κ 210) 206 (cond (Nat.beq κ 211) 207 (cond (Nat.beq κ 212) 208 (κ))))) (AGr.loopI (n := k) (fun k s => k ≤ K0 ∧ ∃ (y209_0 : Int) (y209_1 : Int) (y209_2 : List S50) (y209_3 : List S72) (x6 : List (List Int)) (x7 : List Int) (x8 : List Int) (x9 : List Int), spec_NearestOrder.l0 k y209_0 y209_1 y209_2 y209_3 x6 x7 x8 x9 = some (r0, r1, r2, r3) ∧ s = St.of [(1, .c (.ptr 209 0)), (6, vR 27 (x6.map c27)), (7, .c (.own 210 x7.length)), (8, .c (.own 211 x8.length)), (9, .c (.own 212 x9.length))] [(209, .box 33 [.d (.v (.int .i64 y209_0)), .d (.v (.int .i64 y209_1)), .d (.row 51 (y209_2.map c50)), .d (.row 76 (y209_3.map c72))]), (210, .row 2 (x7.map c2)), (211, .row 2 (x8.map c2)), (212, .row 2 (x9.map c2))]) ⟨hK0, _, _, _, _, _, _, _, _, H, rfl⟩ ?_ ?_) ⟨rfl, rfl, rfl, (ownE rfl (by simp)), (ownE rfl (by simp)), trivial⟩ ⟨rfl, rfl, rfl, rfl, trivial⟩ rfl
  ·rintro _ ⟨_, _, _, _, _, _, _, _, _, H, _⟩
   cases H
  ·clear H hK0
   rintro k ih0 _ ⟨hK0, y209_0, y209_1, y209_2, y209_3, x6, x7, x8, x9, H, rfl⟩
   unfold spec_NearestOrder.l0 at H
   refine AG.seq ?_
   refine AG.seq ?_
   refine AG.region HM ?_
   refine a_move (v := .c (.own _ _)) ?_
   refine a_lenO ?_ Tryz.underlying27
   refine a_move (v := vR _ _) ?_
   refine a_lenR ?_ Tryz.underlying46
   refine a_int (u := .bool (decide ((x8.length : Int) < (x6.length : Int)))) ?_
   refine RA.nil nofun ?_
   by_cases hc9 : (x8.length : Int) < (x6.length : Int)
   ·rw [if_pos hc9] at H
    refine AG.yes rfl (decide_eq_true hc9) ?_
    refine AG.skip ?_
    refine AG.block ?_
    refine AG.seq ?_
    refine AG.region HM ?_
    refine a_move (v := vI _) ?_
    refine RA.nil nofun ?_
    refine AG.seq ?_
    refine AG.region HM ?_
    refine a_move (v := vI _) ?_
    refine RA.nil nofun ?_
    refine AG.seq ?_
    refine AG.region HM ?_
    refine a_move (v := vI _) ?_
    refine RA.nil nofun ?_
    refine AG.seq ?_
    refine AG.seq ?_
    refine AG.region HM ?_
    refine a_move (v := vI _) ?_
    refine RA.nil nofun ?_
    refine AG.block ?_
    refine AG.loop ?_
    obtain ⟨K1, hK1, gK1⟩ : ∃ K, k ≤ K ∧ K ≤ k := ⟨k, Nat.le_refl k, Nat.le_refl k⟩
    refine AGr.canon (fun κ => cond (Nat.beq κ 214) 209 (cond (Nat.beq κ 215) 210 (cond (Nat.beq κ 216) 211 (cond (Nat.beq κ 217) 212 (κ))))) (AGr.loopI (n := k) (fun k s => k ≤ K1 ∧ ∃ (y214_0 : Int) (y214_1 : Int) (y214_2 : List S50) (y214_3 : List S72) (x6 : List (List Int)) (x7 : List Int) (x8 : List Int) (x9 : List Int) (x10 : Int) (x11 : Int) (x12 : Int) (x13 : Int), spec_NearestOrder.l1 k y214_0 y214_1 y214_2 y214_3 x6 x7 x8 x9 x10 x11 x12 x13 = some (r0, r1, r2, r3) ∧ s = St.of [(1, .c (.ptr 214 0)), (6, vR 27 (x6.map c27)), (7, .c (.own 215 x7.length)), (8, .c (.own 216 x8.length)), (9, .c (.own 217 x9.length)), (10, vI x10), (11, vI x11), (12, vI x12), (13, vI x13)] [(214, .box 33 [.d (.v (.int .i64 y214_0)), .d (.v (.int .i64 y214_1)), .d (.row 51 (y214_2.map c50)), .d (.row 76 (y214_3.map c72))]), (215, .row 2 (x7.map c2)), (216, .row 2 (x8.map c2)), (217, .row 2 (x9.map c2))]) ⟨hK1, _, _, _, _, _, _, _, _, _, _, _, _, H, rfl⟩ ?_ ?_) ⟨rfl, rfl, rfl, rfl, rfl, rfl, rfl, rfl, rfl, trivial⟩ ⟨rfl, rfl, rfl, rfl, trivial⟩ rfl
    ·rintro _ ⟨_, _, _, _, _, _, _, _, _, _, _, _, _, H, _⟩
     cases H
    ·clear H hK1
     rintro k ih1 _ ⟨hK1, y214_0, y214_1, y214_2, y214_3, x6, x7, x8, x9, x10, x11, x12, x13, H, rfl⟩
     unfold spec_NearestOrder.l1 at H
     refine AG.seq ?_
     refine AG.seq ?_
     refine AG.region HM ?_
     refine a_move (v := vI _) ?_
     refine a_move (v := vR _ _) ?_
     refine a_lenR ?_ Tryz.underlying46
     refine a_int (u := .bool (decide (x13 < (x6.length : Int)))) ?_
     refine RA.nil nofun ?_
     by_cases hc10 : x13 < (x6.length : Int)
     ·rw [if_pos hc10] at H
      refine AG.yes rfl (decide_eq_true hc10) ?_
      refine AG.skip ?_
      refine AG.seq ?_
      refine AG.block ?_
      refine AG.seq ?_
      refine AG.seq ?_
      refine AG.joinR (fun s => ∃ q, q ≤ k ∧ ∃ (y221_0 : Int) (y221_1 : Int) (y221_2 : List S50) (y221_3 : List S72) (x6 : List (List Int)) (x7 : List Int) (x8 : List Int) (x9 : List Int) (x10 : Int) (x11 : Int) (x12 : Int) (x13 : Int) (x56 : Bool), spec_NearestOrder.j0 q y221_0 y221_1 y221_2 y221_3 x6 x7 x8 x9 x10 x11 x12 x13 x56 = some (r0, r1, r2, r3) ∧ s = St.of [(1, .c (.ptr 221 0)), (6, vR 27 (x6.map c27)), (7, .c (.own 222 x7.length)), (8, .c (.own 223 x8.length)), (9, .c (.own 224 x9.length)), (10, vI x10), (11, vI x11), (12, vI x12), (13, vI x13), (56, vB x56)] [(221, .box 33 [.d (.v (.int .i64 y221_0)), .d (.v (.int .i64 y221_1)), .d (.row 51 (y221_2.map c50)), .d (.row 76 (y221_3.map c72))]), (222, .row 2 (x7.map c2)), (223, .row 2 (x8.map c2)), (224, .row 2 (x9.map c2))]) ?_ ?_
      ·skip
       refine AG.region HM ?_
       refine a_move (v := .c (.own _ _)) ?_
       refine a_move (v := vI _) ?_
       obtain ⟨t11, e12, H⟩ := bindO H
       refine a_call (v := vB t11) (nk := []) (L := [(216, _)]) ?_ rfl (spec_l00Has.ok e12) id (qc rO (qd qn)) ⟨rfl, trivial⟩ trivial trivial rfl
       refine a_move (v := vB _) ?_
       by_cases hc13 : t11 = true
       ·rw [if_pos hc13] at H
        refine RA.skip rfl rfl rfl rfl rfl hc13 (by decide) ?_
        refine RA.skip rfl rfl rfl rfl rfl hc13 (by decide) ?_
        refine RA.skip rfl rfl rfl rfl rfl hc13 (by decide) ?_
        refine RA.skip0 rfl rfl rfl rfl rfl ?_
        refine RA.skip0 rfl rfl rfl rfl rfl ?_
        refine RA.skip0 rfl rfl rfl rfl rfl ?_
        refine RA.skip0 rfl rfl rfl rfl rfl ?_
        refine RA.skip0 rfl rfl rfl rfl rfl ?_
        refine RA.skip0 rfl rfl rfl rfl rfl ?_
        refine RA.skip0 rfl rfl rfl rfl rfl ?_
        refine RA.skip0 rfl rfl rfl rfl rfl ?_
        refine RA.skip0 rfl rfl rfl rfl rfl ?_
        refine RA.skip rfl rfl rfl rfl rfl hc13 (by decide) ?_
        refine a_pick (b := true) (v := vB _) ?_ hc13
        refine RA.nil (fun _ => by kernel_rfl) ?_
        exact CanR.mk (fun κ => cond (Nat.beq κ 221) 214 (cond (Nat.beq κ 222) 215 (cond (Nat.beq κ 223) 216 (cond (Nat.beq κ 224) 217 (κ))))) ⟨_, (by omega), _, _, _, _, _, _, _, _, _, _, _, _, _, H, rfl⟩ ⟨rfl, rfl, rfl, rfl, rfl, rfl, rfl, rfl, rfl, rfl, trivial⟩ ⟨rfl, rfl, rfl, rfl, trivial⟩ rfl
       ·rw [if_neg hc13] at H
        refine a_move (v := vI _) ?_ (hg := Gs.yes rfl rfl rfl (Bool.eq_false_iff.2 hc13))
        refine a_int (u := .bool (decide (x10 ≥ 0))) ?_ (hg := Gs.yes rfl rfl rfl (Bool.eq_false_iff.2 hc13))
        refine a_move (v := vB _) ?_ (hg := Gs.yes rfl rfl rfl (Bool.eq_false_iff.2 hc13))
        by_cases hc14 : x10 ≥ 0
        ·rw [if_pos hc14] at H
         refine a_move (v := .c (.own _ _)) ?_ (hg := Gs.yes rfl rfl rfl (decide_eq_true hc14))
         refine a_move (v := vI _) ?_ (hg := Gs.yes rfl rfl rfl (decide_eq_true hc14))
         by_cases hc15 : 0 ≤ x13
         ·rw [if_pos hc15] at H
          by_cases hc16 : x13 < (x7.length : Int)
          ·rw [if_pos hc16] at H
           refine a_ixO ?_ ⟨hc15, hc16⟩ T2 Tryz.underlying27 (hg := Gs.yes rfl rfl rfl (decide_eq_true hc14))
           refine a_ldE (v := vI _) ?_ (G2 hc15 hc16) T2 (hg := Gs.yes rfl rfl rfl (decide_eq_true hc14))
           refine a_move (v := .c (.own _ _)) ?_ (hg := Gs.yes rfl rfl rfl (decide_eq_true hc14))
           refine a_move (v := vI _) ?_ (hg := Gs.yes rfl rfl rfl (decide_eq_true hc14))
           by_cases hc17 : 0 ≤ x10
           ·rw [if_pos hc17] at H
            by_cases hc18 : x10 < (x7.length : Int)
            ·rw [if_pos hc18] at H
             refine a_ixO ?_ ⟨hc17, hc18⟩ T2 Tryz.underlying27 (hg := Gs.yes rfl rfl rfl (decide_eq_true hc14))
             refine a_ldE (v := vI _) ?_ (G2 hc17 hc18) T2 (hg := Gs.yes rfl rfl rfl (decide_eq_true hc14))
             refine a_int (u := .bool (decide ((rd2 x7 x13) < (rd2 x7 x10)))) ?_ (hg := Gs.yes rfl rfl rfl (decide_eq_true hc14))
             refine a_pick (b := true) (v := vB _) ?_ (decide_eq_true hc14) (hg := Gs.yes rfl rfl rfl (Bool.eq_false_iff.2 hc13))
             refine a_pick (b := false) (v := vB _) ?_ (Bool.eq_false_iff.2 hc13)
             refine RA.nil (fun _ => by kernel_rfl) ?_
             exact CanR.mk (fun κ => cond (Nat.beq κ 221) 214 (cond (Nat.beq κ 222) 215 (cond (Nat.beq κ 223) 216 (cond (Nat.beq κ 224) 217 (κ))))) ⟨_, (by omega), _, _, _, _, _, _, _, _, _, _, _, _, _, H, rfl⟩ ⟨rfl, rfl, rfl, rfl, rfl, rfl, rfl, rfl, rfl, rfl, trivial⟩ ⟨rfl, rfl, rfl, rfl, trivial⟩ rfl
            ·rw [if_neg hc18] at H
             cases H
           ·rw [if_neg hc17] at H
            cases H
          ·rw [if_neg hc16] at H
           cases H
         ·rw [if_neg hc15] at H
          cases H
        ·rw [if_neg hc14] at H
         refine RA.skip rfl rfl rfl rfl rfl (decide_eq_false hc14) (by decide) ?_
         refine RA.skip rfl rfl rfl rfl rfl (decide_eq_false hc14) (by decide) ?_
         refine RA.skip rfl rfl rfl rfl rfl (decide_eq_false hc14) (by decide) ?_
         refine RA.skip rfl rfl rfl rfl rfl (decide_eq_false hc14) (by decide) ?_
         refine RA.skip rfl rfl rfl rfl rfl (decide_eq_false hc14) (by decide) ?_
         refine RA.skip rfl rfl rfl rfl rfl (decide_eq_false hc14) (by decide) ?_
         refine RA.skip rfl rfl rfl rfl rfl (decide_eq_false hc14) (by decide) ?_
         refine RA.skip rfl rfl rfl rfl rfl (decide_eq_false hc14) (by decide) ?_
         refine RA.skip rfl rfl rfl rfl rfl (decide_eq_false hc14) (by decide) ?_
         refine a_pick (b := false) (v := vB _) ?_ (decide_eq_false hc14) (hg := Gs.yes rfl rfl rfl (Bool.eq_false_iff.2 hc13))
         refine a_pick (b := false) (v := vB _) ?_ (Bool.eq_false_iff.2 hc13)
         refine RA.nil (fun _ => by kernel_rfl) ?_
         exact CanR.mk (fun κ => cond (Nat.beq κ 221) 214 (cond (Nat.beq κ 222) 215 (cond (Nat.beq κ 223) 216 (cond (Nat.beq κ 224) 217 (κ))))) ⟨_, (by omega), _, _, _, _, _, _, _, _, _, _, _, _, _, H, rfl⟩ ⟨rfl, rfl, rfl, rfl, rfl, rfl, rfl, rfl, rfl, rfl, trivial⟩ ⟨rfl, rfl, rfl, rfl, trivial⟩ rfl
      ·clear H
       rintro _ ⟨k, hj0, y221_0, y221_1, y221_2, y221_3, x6, x7, x8, x9, x10, x11, x12, x13, x56, H, rfl⟩
       cases k with
       | zero => cases H
       | succ k =>
        rw [spec_NearestOrder.j0] at H
        by_cases hc19 : x56 = true
        ·rw [if_pos hc19] at H
         refine AG.yes rfl hc19 ?_
         refine AG.exit ?_
         refine AG.region HM ?_
         refine a_move (v := vI _) ?_
         refine a_int (u := .int .i64 (wrap64 (x13 + 1))) ?_
         refine a_move (v := vI _) ?_
         refine RA.nil nofun ?_
         exact AGr.canon (fun κ => cond (Nat.beq κ 214) 221 (cond (Nat.beq κ 215) 222 (cond (Nat.beq κ 216) 223 (cond (Nat.beq κ 217) 224 (κ))))) (ih1 _ (by omega) _ ⟨by omega, _, _, _, _, _, _, _, _, _, _, _, _, H, rfl⟩) ⟨rfl, rfl, rfl, rfl, rfl, rfl, rfl, rfl, rfl, trivial⟩ ⟨rfl, rfl, rfl, rfl, trivial⟩ rfl
        ·rw [if_neg hc19] at H
         refine AG.no rfl (Bool.eq_false_iff.2 hc19) ?_
         refine AG.skip ?_
         refine AG.seq ?_
         refine AG.region HM ?_
         refine a_move (v := vI _) ?_
         refine RA.nil nofun ?_
         refine AG.seq ?_
         refine AG.region HM ?_
         refine a_move (v := vI _) ?_
         refine RA.nil nofun ?_
         refine AG.seq ?_
         refine AG.seq ?_
         refine AG.region HM ?_
         refine a_move (v := .c (.own _ _)) ?_
         refine a_lenO ?_ Tryz.underlying27
         refine a_int (u := .bool (decide ((x8.length : Int) > 0))) ?_
         refine RA.nil nofun ?_
         by_cases hc20 : (x8.length : Int) > 0
         ·rw [if_pos hc20] at H
          refine AG.yes rfl (decide_eq_true hc20) ?_
          refine AG.seq ?_
          refine AG.region HM ?_
          refine a_move (v := .c (.own _ _)) ?_
          refine a_lenO ?_ Tryz.underlying27
          refine a_int (u := .int .i64 (wrap64 ((x8.length : Int) - 1))) ?_
          refine a_move (v := vI _) ?_
          refine RA.nil nofun ?_
          refine AG.seq ?_
          refine AG.region HM ?_
          refine a_move (v := vR _ _) ?_
          refine a_move (v := .c (.own _ _)) ?_
          refine a_move (v := vI _) ?_
          by_cases hc21 : 0 ≤ (wrap64 ((x8.length : Int) - 1))
          ·rw [if_pos hc21] at H
           by_cases hc22 : (wrap64 ((x8.length : Int) - 1)) < (x8.length : Int)
           ·rw [if_pos hc22] at H
            refine a_ixO ?_ ⟨hc21, hc22⟩ T2 Tryz.underlying27
            refine a_ldE (v := vI _) ?_ (G2 hc21 hc22) T2
            by_cases hc23 : 0 ≤ (rd2 x8 (wrap64 ((x8.length : Int) - 1)))
            ·rw [if_pos hc23] at H
             by_cases hc24 : (rd2 x8 (wrap64 ((x8.length : Int) - 1))) < (x6.length : Int)
             ·rw [if_pos hc24] at H
              refine a_ixR (el := c27 (rd27 x6 (rd2 x8 (wrap64 ((x8.length : Int) - 1))))) ?_ ⟨hc23, hc24⟩ T27 Tryz.underlying46 (hel := R27 hc23 hc24)
              refine a_ldR (v := vR _ _) ?_ T27
              refine a_move (v := .c (.own _ _)) ?_
              refine a_move (v := vI _) ?_
              by_cases hc25 : (wrap64 ((x8.length : Int) - 1)) < (x9.length : Int)
              ·rw [if_pos hc25] at H
               refine a_ixO ?_ ⟨hc21, hc25⟩ T2 Tryz.underlying27
               refine a_ldE (v := vI _) ?_ (G2 hc21 hc25) T2
               obtain ⟨⟨t26, t27, t28, t29⟩, e30, H⟩ := bindO H
               refine a_call (v := .tup [.agg [.d (.v (.int .i64 t26)), .d (.v (.int .i64 t27))], .agg [.d (.v (.int .i64 t28)), .d (.v (.int .i64 t29))]]) (nk := []) (L := [(221, _)]) ?_ rfl (spec_l14Ends.ok e30) id (qc (rP (pD (pD (pD (pD p0))))) (qd (qd qn))) ⟨rfl, trivial⟩ trivial trivial rfl
               refine a_move (v := .tup [_, _]) ?_
               refine a_ext (v := .agg [_, _]) ?_
               refine a_ext (v := .agg [_, _]) ?_
               refine a_alloc (cs := [_, _]) 226 ?_ T51
               refine a_alloc (cs := [_, _]) 227 ?_ T51
               refine a_stB (cs' := [_, _]) ?_ T51
               refine a_stB (cs' := [_, _]) ?_ T51
               refine RA.nil (fun _ => by kernel_rfl) ?_
               refine AG.seq ?_
               refine AG.region HM ?_
               refine a_move (v := vR _ _) ?_
               refine a_move (v := vI _) ?_
               by_cases hc31 : 0 ≤ x13
               ·rw [if_pos hc31] at H
                by_cases hc32 : x13 < (x6.length : Int)
                ·rw [if_pos hc32] at H
                 refine a_ixR (el := c27 (rd27 x6 x13)) ?_ ⟨hc31, hc32⟩ T27 Tryz.underlying46 (hel := R27 hc31 hc32)
                 refine a_ldR (v := vR _ _) ?_ T27
                 obtain ⟨⟨t33, t34, t35, t36⟩, e37, H⟩ := bindO H
                 refine a_call (v := .tup [.agg [.d (.v (.int .i64 t33)), .d (.v (.int .i64 t34))], .agg [.d (.v (.int .i64 t35)), .d (.v (.int .i64 t36))]]) (nk := []) (L := [(221, _)]) ?_ rfl (spec_l14Ends.ok e37) id (qc (rP (pD (pD (pD (pD p0))))) (qd (qd qn))) ⟨rfl, trivial⟩ trivial trivial rfl
                 refine a_move (v := .tup [_, _]) ?_
                 refine a_ext (v := .agg [_, _]) ?_
                 refine a_ext (v := .agg [_, _]) ?_
                 refine a_alloc (cs := [_, _]) 229 ?_ T51
                 refine a_alloc (cs := [_, _]) 230 ?_ T51
                 refine a_stB (cs' := [_, _]) ?_ T51
                 refine a_stB (cs' := [_, _]) ?_ T51
                 refine RA.nil nofun ?_
                 refine AG.seq ?_
                 refine AG.region HM ?_
                 refine a_ldB (v := .agg [_, _]) ?_ T51
                 refine a_ldB (v := .agg [_, _]) ?_ T51
                 obtain ⟨t38, e39, H⟩ := bindO H
                 refine a_call (v := vI t38) (nk := []) (L := []) ?_ rfl (spec_l02Apart.ok e39) id (qg (qg qn)) trivial trivial trivial rfl
                 refine a_move (v := vI _) ?_
                 refine RA.nil nofun ?_
                 refine AG.seq ?_
                 refine AG.region HM ?_
                 refine a_ldB (v := .agg [_, _]) ?_ T51
                 refine a_ldB (v := .agg [_, _]) ?_ T51
                 obtain ⟨t40, e41, H⟩ := bindO H
                 refine a_call (v := vI t40) (nk := []) (L := []) ?_ rfl (spec_l02Apart.ok e41) id (qg (qg qn)) trivial trivial trivial rfl
                 refine a_move (v := vI _) ?_
                 refine a_int (u := .bool (decide (t40 < t38))) ?_
                 refine RA.nil nofun ?_
                 by_cases hc42 : t40 < t38
                 ·rw [if_pos hc42] at H
                  refine AG.yes rfl (decide_eq_true hc42) ?_
                  refine AG.seq ?_
                  refine AG.region HM ?_
                  refine a_ldB (v := .agg [_, _]) ?_ T51
                  refine a_ldB (v := .agg [_, _]) ?_ T51
                  obtain ⟨t43, e44, H⟩ := bindO H
                  refine a_call (v := vI t43) (nk := []) (L := []) ?_ rfl (spec_l02Apart.ok e44) id (qg (qg qn)) trivial trivial trivial rfl
                  refine a_move (v := vI _) ?_
                  refine RA.nil nofun ?_
                  refine AG.region HM ?_
                  refine a_move (v := vI _) ?_
                  refine RA.nil nofun ?_
                  refine AG.seq ?_
                  refine AG.region HM ?_
                  refine a_move (v := vI _) ?_
                  refine a_int (u := .bool (decide (x10 < 0))) ?_
                  refine a_move (v := vB _) ?_
                  by_cases hc45 : x10 < 0
                  ·rw [if_pos hc45] at H
                   refine RA.skip rfl rfl rfl rfl rfl (decide_eq_true hc45) (by decide) ?_
                   refine RA.skip rfl rfl rfl rfl rfl (decide_eq_true hc45) (by decide) ?_
                   refine RA.skip rfl rfl rfl rfl rfl (decide_eq_true hc45) (by decide) ?_
                   refine RA.skip rfl rfl rfl rfl rfl (decide_eq_true hc45) (by decide) ?_
                   refine RA.skip rfl rfl rfl rfl rfl (decide_eq_true hc45) (by decide) ?_
                   refine RA.skip rfl rfl rfl rfl rfl (decide_eq_true hc45) (by decide) ?_
                   refine RA.skip rfl rfl rfl rfl rfl (decide_eq_true hc45) (by decide) ?_
                   refine RA.skip rfl rfl rfl rfl rfl (decide_eq_true hc45) (by decide) ?_
                   refine RA.skip rfl rfl rfl rfl rfl (decide_eq_true hc45) (by decide) ?_
                   refine a_pick (b := true) (v := vB _) ?_ (decide_eq_true hc45)
                   refine a_move (v := vB _) ?_
                   refine RA.skip rfl rfl rfl rfl rfl rfl (by decide) ?_
                   refine RA.skip rfl rfl rfl rfl rfl rfl (by decide) ?_
                   refine RA.skip rfl rfl rfl rfl rfl rfl (by decide) ?_
                   refine a_pick (b := true) (v := vB _) ?_ rfl
                   refine RA.nil (fun _ => by kernel_rfl) ?_
                   refine AG.yes rfl rfl ?_
                   refine AG.seq ?_
                   refine AG.region HM ?_
                   refine a_move (v := vI _) ?_
                   refine a_move (v := vI _) ?_
                   refine RA.nil nofun ?_
                   refine AG.seq ?_
                   refine AG.region HM ?_
                   refine a_move (v := vI _) ?_
                   refine a_move (v := vI _) ?_
                   refine RA.nil nofun ?_
                   refine AG.region HM ?_
                   refine a_move (v := vI _) ?_
                   refine a_move (v := vI _) ?_
                   refine RA.nil nofun ?_
                   refine AG.region HM ?_
                   refine a_move (v := vI _) ?_
                   refine a_int (u := .int .i64 (wrap64 (x13 + 1))) ?_
                   refine a_move (v := vI _) ?_
                   refine RA.nil nofun ?_
                   exact AGr.canon (fun κ => cond (Nat.beq κ 214) 221 (cond (Nat.beq κ 215) 222 (cond (Nat.beq κ 216) 223 (cond (Nat.beq κ 217) 224 (κ))))) (ih1 _ (by omega) _ ⟨by omega, _, _, _, _, _, _, _, _, _, _, _, _, H, rfl⟩) ⟨rfl, rfl, rfl, rfl, rfl, rfl, rfl, rfl, rfl, trivial⟩ ⟨rfl, rfl, rfl, rfl, trivial⟩ rfl
                  ·rw [if_neg hc45] at H
                   refine a_move (v := .c (.own _ _)) ?_ (hg := Gs.yes rfl rfl rfl (decide_eq_false hc45))
                   refine a_move (v := vI _) ?_ (hg := Gs.yes rfl rfl rfl (decide_eq_false hc45))
                   by_cases hc46 : x13 < (x7.length : Int)
                   ·rw [if_pos hc46] at H
                    refine a_ixO ?_ ⟨hc31, hc46⟩ T2 Tryz.underlying27 (hg := Gs.yes rfl rfl rfl (decide_eq_false hc45))
                    refine a_ldE (v := vI _) ?_ (G2 hc31 hc46) T2 (hg := Gs.yes rfl rfl rfl (decide_eq_false hc45))
                    refine a_move (v := .c (.own _ _)) ?_ (hg := Gs.yes rfl rfl rfl (decide_eq_false hc45))
                    refine a_move (v := vI _) ?_ (hg := Gs.yes rfl rfl rfl (decide_eq_false hc45))
                    by_cases hc47 : 0 ≤ x10
                    ·rw [if_pos hc47] at H
                     by_cases hc48 : x10 < (x7.length : Int)
                     ·rw [if_pos hc48] at H
                      refine a_ixO ?_ ⟨hc47, hc48⟩ T2 Tryz.underlying27 (hg := Gs.yes rfl rfl rfl (decide_eq_false hc45))
                      refine a_ldE (v := vI _) ?_ (G2 hc47 hc48) T2 (hg := Gs.yes rfl rfl rfl (decide_eq_false hc45))
                      refine a_int (u := .bool (decide ((rd2 x7 x13) > (rd2 x7 x10)))) ?_ (hg := Gs.yes rfl rfl rfl (decide_eq_false hc45))
                      refine a_pick (b := false) (v := vB _) ?_ (decide_eq_false hc45)
                      refine a_move (v := vB _) ?_
                      by_cases hc49 : (rd2 x7 x13) > (rd2 x7 x10)
                      ·rw [if_pos hc49] at H
                       refine RA.skip rfl rfl rfl rfl rfl (decide_eq_true hc49) (by decide) ?_
                       refine RA.skip rfl rfl rfl rfl rfl (decide_eq_true hc49) (by decide) ?_
                       refine RA.skip rfl rfl rfl rfl rfl (decide_eq_true hc49) (by decide) ?_
                       refine a_pick (b := true) (v := vB _) ?_ (decide_eq_true hc49)
                       refine RA.nil (fun _ => by kernel_rfl) ?_
                       refine AG.yes rfl rfl ?_
                       refine AG.seq ?_
                       refine AG.region HM ?_
                       refine a_move (v := vI _) ?_
                       refine a_move (v := vI _) ?_
                       refine RA.nil nofun ?_
                       refine AG.seq ?_
                       refine AG.region HM ?_
                       refine a_move (v := vI _) ?_
                       refine a_move (v := vI _) ?_
                       refine RA.nil nofun ?_
                       refine AG.region HM ?_
                       refine a_move (v := vI _) ?_
                       refine a_move (v := vI _) ?_
                       refine RA.nil nofun ?_
                       refine AG.region HM ?_
                       refine a_move (v := vI _) ?_
                       refine a_int (u := .int .i64 (wrap64 (x13 + 1))) ?_
                       refine a_move (v := vI _) ?_
                       refine RA.nil nofun ?_
                       exact AGr.canon (fun κ => cond (Nat.beq κ 214) 221 (cond (Nat.beq κ 215) 222 (cond (Nat.beq κ 216) 223 (cond (Nat.beq κ 217) 224 (κ))))) (ih1 _ (by omega) _ ⟨by omega, _, _, _, _, _, _, _, _, _, _, _, _, H, rfl⟩) ⟨rfl, rfl, rfl, rfl, rfl, rfl, rfl, rfl, rfl, trivial⟩ ⟨rfl, rfl, rfl, rfl, trivial⟩ rfl
                      ·rw [if_neg hc49] at H
                       refine a_move (v := vI _) ?_ (hg := Gs.yes rfl rfl rfl (decide_eq_false hc49))
                       refine a_move (v := vI _) ?_ (hg := Gs.yes rfl rfl rfl (decide_eq_false hc49))
                       refine a_int (u := .bool (decide (t43 < x12))) ?_ (hg := Gs.yes rfl rfl rfl (decide_eq_false hc49))
                       refine a_pick (b := false) (v := vB _) ?_ (decide_eq_false hc49)
                       refine RA.nil (fun _ => by kernel_rfl) ?_
                       by_cases hc50 : t43 < x12
                       ·rw [if_pos hc50] at H
                        refine AG.yes rfl (decide_eq_true hc50) ?_
                        refine AG.seq ?_
                        refine AG.region HM ?_
                        refine a_move (v := vI _) ?_
                        refine a_move (v := vI _) ?_
                        refine RA.nil nofun ?_
                        refine AG.seq ?_
                        refine AG.region HM ?_
                        refine a_move (v := vI _) ?_
                        refine a_move (v := vI _) ?_
                        refine RA.nil nofun ?_
                        refine AG.region HM ?_
                        refine a_move (v := vI _) ?_
                        refine a_move (v := vI _) ?_
                        refine RA.nil nofun ?_
                        refine AG.region HM ?_
                        refine a_move (v := vI _) ?_
                        refine a_int (u := .int .i64 (wrap64 (x13 + 1))) ?_
                        refine a_move (v := vI _) ?_
                        refine RA.nil nofun ?_
                        exact AGr.canon (fun κ => cond (Nat.beq κ 214) 221 (cond (Nat.beq κ 215) 222 (cond (Nat.beq κ 216) 223 (cond (Nat.beq κ 217) 224 (κ))))) (ih1 _ (by omega) _ ⟨by omega, _, _, _, _, _, _, _, _, _, _, _, _, H, rfl⟩) ⟨rfl, rfl, rfl, rfl, rfl, rfl, rfl, rfl, rfl, trivial⟩ ⟨rfl, rfl, rfl, rfl, trivial⟩ rfl
                       ·rw [if_neg hc50] at H
                        refine AG.no rfl (decide_eq_false hc50) ?_
                        refine AG.skip ?_
                        refine AG.region HM ?_
                        refine a_move (v := vI _) ?_
                        refine a_int (u := .int .i64 (wrap64 (x13 + 1))) ?_
                        refine a_move (v := vI _) ?_
                        refine RA.nil nofun ?_
                        exact AGr.canon (fun κ => cond (Nat.beq κ 214) 221 (cond (Nat.beq κ 215) 222 (cond (Nat.beq κ 216) 223 (cond (Nat.beq κ 217) 224 (κ))))) (ih1 _ (by omega) _ ⟨by omega, _, _, _, _, _, _, _, _, _, _, _, _, H, rfl⟩) ⟨rfl, rfl, rfl, rfl, rfl, rfl, rfl, rfl, rfl, trivial⟩ ⟨rfl, rfl, rfl, rfl, trivial⟩ rfl
                     ·rw [if_neg hc48] at H
                      cases H
                    ·rw [if_neg hc47] at H
                     cases H
                   ·rw [if_neg hc46] at H
                    cases H
                 ·rw [if_neg hc42] at H
                  refine AG.no rfl (decide_eq_false hc42) ?_
                  refine AG.skip ?_
                  refine AG.seq ?_
                  refine AG.region HM ?_
                  refine a_move (v := vI _) ?_
                  refine a_int (u := .bool (decide (x10 < 0))) ?_
                  refine a_move (v := vB _) ?_
                  by_cases hc51 : x10 < 0
                  ·rw [if_pos hc51] at H
                   refine RA.skip rfl rfl rfl rfl rfl (decide_eq_true hc51) (by decide) ?_
                   refine RA.skip rfl rfl rfl rfl rfl (decide_eq_true hc51) (by decide) ?_
                   refine RA.skip rfl rfl rfl rfl rfl (decide_eq_true hc51) (by decide) ?_
                   refine RA.skip rfl rfl rfl rfl rfl (decide_eq_true hc51) (by decide) ?_
                   refine RA.skip rfl rfl rfl rfl rfl (decide_eq_true hc51) (by decide) ?_
                   refine RA.skip rfl rfl rfl rfl rfl (decide_eq_true hc51) (by decide) ?_
                   refine RA.skip rfl rfl rfl rfl rfl (decide_eq_true hc51) (by decide) ?_
                   refine RA.skip rfl rfl rfl rfl rfl (decide_eq_true hc51) (by decide) ?_
                   refine RA.skip rfl rfl rfl rfl rfl (decide_eq_true hc51) (by decide) ?_
                   refine a_pick (b := true) (v := vB _) ?_ (decide_eq_true hc51)
                   refine a_move (v := vB _) ?_
                   refine RA.skip rfl rfl rfl rfl rfl rfl (by decide) ?_
                   refine RA.skip rfl rfl rfl rfl rfl rfl (by decide) ?_
                   refine RA.skip rfl rfl rfl rfl rfl rfl (by decide) ?_
                   refine a_pick (b := true) (v := vB _) ?_ rfl
                   refine RA.nil (fun _ => by kernel_rfl) ?_
                   refine AG.yes rfl rfl ?_
                   refine AG.seq ?_
                   refine AG.region HM ?_
                   refine a_move (v := vI _) ?_
                   refine a_move (v := vI _) ?_
                   refine RA.nil nofun ?_
                   refine AG.seq ?_
                   refine AG.region HM ?_
                   refine a_move (v := vI _) ?_
                   refine a_move (v := vI _) ?_
                   refine RA.nil nofun ?_
                   refine AG.region HM ?_
                   refine a_move (v := vI _) ?_
                   refine a_move (v := vI _) ?_
                   refine RA.nil nofun ?_
                   refine AG.region HM ?_
                   refine a_move (v := vI _) ?_
                   refine a_int (u := .int .i64 (wrap64 (x13 + 1))) ?_
                   refine a_move (v := vI _) ?_
                   refine RA.nil nofun ?_
                   exact AGr.canon (fun κ => cond (Nat.beq κ 214) 221 (cond (Nat.beq κ 215) 222 (cond (Nat.beq κ 216) 223 (cond (Nat.beq κ 217) 224 (κ))))) (ih1 _ (by omega) _ ⟨by omega, _, _, _, _, _, _, _, _, _, _, _, _, H, rfl⟩) ⟨rfl, rfl, rfl, rfl, rfl, rfl, rfl, rfl, rfl, trivial⟩ ⟨rfl, rfl, rfl, rfl, trivial⟩ rfl
                  ·rw [if_neg hc51] at H
                   refine a_move (v := .c (.own _ _)) ?_ (hg := Gs.yes rfl rfl rfl (decide_eq_false hc51))
                   refine a_move (v := vI _) ?_ (hg := Gs.yes rfl rfl rfl (decide_eq_false hc51))
                   by_cases hc52 : x13 < (x7.length : Int)
                   ·rw [if_pos hc52] at H
                    refine a_ixO ?_ ⟨hc31, hc52⟩ T2 Tryz.underlying27 (hg := Gs.yes rfl rfl rfl (decide_eq_false hc51))
                    refine a_ldE (v := vI _) ?_ (G2 hc31 hc52) T2 (hg := Gs.yes rfl rfl rfl (decide_eq_false hc51))
                    refine a_move (v := .c (.own _ _)) ?_ (hg := Gs.yes rfl rfl rfl (decide_eq_false hc51))
                    refine a_move (v := vI _) ?_ (hg := Gs.yes rfl rfl rfl (decide_eq_false hc51))
                    by_cases hc53 : 0 ≤ x10
                    ·rw [if_pos hc53] at H
                     by_cases hc54 : x10 < (x7.length : Int)
                     ·rw [if_pos hc54] at H
                      refine a_ixO ?_ ⟨hc53, hc54⟩ T2 Tryz.underlying27 (hg := Gs.yes rfl rfl rfl (decide_eq_false hc51))
                      refine a_ldE (v := vI _) ?_ (G2 hc53 hc54) T2 (hg := Gs.yes rfl rfl rfl (decide_eq_false hc51))
                      refine a_int (u := .bool (decide ((rd2 x7 x13) > (rd2 x7 x10)))) ?_ (hg := Gs.yes rfl rfl rfl (decide_eq_false hc51))
                      refine a_pick (b := false) (v := vB _) ?_ (decide_eq_false hc51)
                      refine a_move (v := vB _) ?_
                      by_cases hc55 : (rd2 x7 x13) > (rd2 x7 x10)
                      ·rw [if_pos hc55] at H
                       refine RA.skip rfl rfl rfl rfl rfl (decide_eq_true hc55) (by decide) ?_
                       refine RA.skip rfl rfl rfl rfl rfl (decide_eq_true hc55) (by decide) ?_
                       refine RA.skip rfl rfl rfl rfl rfl (decide_eq_true hc55) (by decide) ?_
                       refine a_pick (b := true) (v := vB _) ?_ (decide_eq_true hc55)
                       refine RA.nil (fun _ => by kernel_rfl) ?_
                       refine AG.yes rfl rfl ?_
                       refine AG.seq ?_
                       refine AG.region HM ?_
                       refine a_move (v := vI _) ?_
                       refine a_move (v := vI _) ?_
                       refine RA.nil nofun ?_
                       refine AG.seq ?_
                       refine AG.region HM ?_
                       refine a_move (v := vI _) ?_
                       refine a_move (v := vI _) ?_
                       refine RA.nil nofun ?_
                       refine AG.region HM ?_
                       refine a_move (v := vI _) ?_
                       refine a_move (v := vI _) ?_
                       refine RA.nil nofun ?_
                       refine AG.region HM ?_
                       refine a_move (v := vI _) ?_
                       refine a_int (u := .int .i64 (wrap64 (x13 + 1))) ?_
                       refine a_move (v := vI _) ?_
                       refine RA.nil nofun ?_
                       exact AGr.canon (fun κ => cond (Nat.beq κ 214) 221 (cond (Nat.beq κ 215) 222 (cond (Nat.beq κ 216) 223 (cond (Nat.beq κ 217) 224 (κ))))) (ih1 _ (by omega) _ ⟨by omega, _, _, _, _, _, _, _, _, _, _, _, _, H, rfl⟩) ⟨rfl, rfl, rfl, rfl, rfl, rfl, rfl, rfl, rfl, trivial⟩ ⟨rfl, rfl, rfl, rfl, trivial⟩ rfl
                      ·rw [if_neg hc55] at H
                       refine a_move (v := vI _) ?_ (hg := Gs.yes rfl rfl rfl (decide_eq_false hc55))
                       refine a_move (v := vI _) ?_ (hg := Gs.yes rfl rfl rfl (decide_eq_false hc55))
                       refine a_int (u := .bool (decide (t38 < x12))) ?_ (hg := Gs.yes rfl rfl rfl (decide_eq_false hc55))
                       refine a_pick (b := false) (v := vB _) ?_ (decide_eq_false hc55)
                       refine RA.nil (fun _ => by kernel_rfl) ?_
                       by_cases hc56 : t38 < x12
                       ·rw [if_pos hc56] at H
                        refine AG.yes rfl (decide_eq_true hc56) ?_
                        refine AG.seq ?_
                        refine AG.region HM ?_
                        refine a_move (v := vI _) ?_
                        refine a_move (v := vI _) ?_
                        refine RA.nil nofun ?_
                        refine AG.seq ?_
                        refine AG.region HM ?_
                        refine a_move (v := vI _) ?_
                        refine a_move (v := vI _) ?_
                        refine RA.nil nofun ?_
                        refine AG.region HM ?_
                        refine a_move (v := vI _) ?_
                        refine a_move (v := vI _) ?_
                        refine RA.nil nofun ?_
                        refine AG.region HM ?_
                        refine a_move (v := vI _) ?_
                        refine a_int (u := .int .i64 (wrap64 (x13 + 1))) ?_
                        refine a_move (v := vI _) ?_
                        refine RA.nil nofun ?_
                        exact AGr.canon (fun κ => cond (Nat.beq κ 214) 221 (cond (Nat.beq κ 215) 222 (cond (Nat.beq κ 216) 223 (cond (Nat.beq κ 217) 224 (κ))))) (ih1 _ (by omega) _ ⟨by omega, _, _, _, _, _, _, _, _, _, _, _, _, H, rfl⟩) ⟨rfl, rfl, rfl, rfl, rfl, rfl, rfl, rfl, rfl, trivial⟩ ⟨rfl, rfl, rfl, rfl, trivial⟩ rfl
                       ·rw [if_neg hc56] at H
                        refine AG.no rfl (decide_eq_false hc56) ?_
                        refine AG.skip ?_
                        refine AG.region HM ?_
                        refine a_move (v := vI _) ?_
                        refine a_int (u := .int .i64 (wrap64 (x13 + 1))) ?_
                        refine a_move (v := vI _) ?_
                        refine RA.nil nofun ?_
                        exact AGr.canon (fun κ => cond (Nat.beq κ 214) 221 (cond (Nat.beq κ 215) 222 (cond (Nat.beq κ 216) 223 (cond (Nat.beq κ 217) 224 (κ))))) (ih1 _ (by omega) _ ⟨by omega, _, _, _, _, _, _, _, _, _, _, _, _, H, rfl⟩) ⟨rfl, rfl, rfl, rfl, rfl, rfl, rfl, rfl, rfl, trivial⟩ ⟨rfl, rfl, rfl, rfl, trivial⟩ rfl
                     ·rw [if_neg hc54] at H
                      cases H
                    ·rw [if_neg hc53] at H
                     cases H
                   ·rw [if_neg hc52] at H
                    cases H
                ·rw [if_neg hc32] at H
                 cases H
               ·rw [if_neg hc31] at H
                cases H
              ·rw [if_neg hc25] at H
               cases H
             ·rw [if_neg hc24] at H
              cases H
            ·rw [if_neg hc23] at H
             cases H
           ·rw [if_neg hc22] at H
            cases H
          ·rw [if_neg hc21] at H
           cases H
         ·rw [if_neg hc20] at H
          refine AG.no rfl (decide_eq_false hc20) ?_
          refine AG.skip ?_
          refine AG.seq ?_
          refine AG.region HM ?_
          refine a_move (v := vI _) ?_
          refine a_int (u := .bool (decide (x10 < 0))) ?_
          refine a_move (v := vB _) ?_
          by_cases hc57 : x10 < 0
          ·rw [if_pos hc57] at H
           refine RA.skip rfl rfl rfl rfl rfl (decide_eq_true hc57) (by decide) ?_
           refine RA.skip rfl rfl rfl rfl rfl (decide_eq_true hc57) (by decide) ?_
           refine RA.skip rfl rfl rfl rfl rfl (decide_eq_true hc57) (by decide) ?_
           refine RA.skip rfl rfl rfl rfl rfl (decide_eq_true hc57) (by decide) ?_
           refine RA.skip rfl rfl rfl rfl rfl (decide_eq_true hc57) (by decide) ?_
           refine RA.skip rfl rfl rfl rfl rfl (decide_eq_true hc57) (by decide) ?_
           refine RA.skip rfl rfl rfl rfl rfl (decide_eq_true hc57) (by decide) ?_
           refine RA.skip rfl rfl rfl rfl rfl (decide_eq_true hc57) (by decide) ?_
           refine RA.skip rfl rfl rfl rfl rfl (decide_eq_true hc57) (by decide) ?_
           refine a_pick (b := true) (v := vB _) ?_ (decide_eq_true hc57)
           refine a_move (v := vB _) ?_
           refine RA.skip rfl rfl rfl rfl rfl rfl (by decide) ?_
           refine RA.skip rfl rfl rfl rfl rfl rfl (by decide) ?_
           refine RA.skip rfl rfl rfl rfl rfl rfl (by decide) ?_
           refine a_pick (b := true) (v := vB _) ?_ rfl
           refine RA.nil (fun _ => by kernel_rfl) ?_
           refine AG.yes rfl rfl ?_
           refine AG.seq ?_
           refine AG.region HM ?_
           refine a_move (v := vI _) ?_
           refine a_move (v := vI _) ?_
           refine RA.nil nofun ?_
           refine AG.seq ?_
           refine AG.region HM ?_
           refine a_move (v := vI _) ?_
           refine a_move (v := vI _) ?_
           refine RA.nil nofun ?_
           refine AG.region HM ?_
           refine a_move (v := vI _) ?_
           refine a_move (v := vI _) ?_
           refine RA.nil nofun ?_
           refine AG.region HM ?_
           refine a_move (v := vI _) ?_
           refine a_int (u := .int .i64 (wrap64 (x13 + 1))) ?_
           refine a_move (v := vI _) ?_
           refine RA.nil nofun ?_
           exact AGr.canon (fun κ => cond (Nat.beq κ 214) 221 (cond (Nat.beq κ 215) 222 (cond (Nat.beq κ 216) 223 (cond (Nat.beq κ 217) 224 (κ))))) (ih1 _ (by omega) _ ⟨by omega, _, _, _, _, _, _, _, _, _, _, _, _, H, rfl⟩) ⟨rfl, rfl, rfl, rfl, rfl, rfl, rfl, rfl, rfl, trivial⟩ ⟨rfl, rfl, rfl, rfl, trivial⟩ rfl
          ·rw [if_neg hc57] at H
           refine a_move (v := .c (.own _ _)) ?_ (hg := Gs.yes rfl rfl rfl (decide_eq_false hc57))
           refine a_move (v := vI _) ?_ (hg := Gs.yes rfl rfl rfl (decide_eq_false hc57))
           by_cases hc58 : 0 ≤ x13
           ·rw [if_pos hc58] at H
            by_cases hc59 : x13 < (x7.length : Int)
            ·rw [if_pos hc59] at H
             refine a_ixO ?_ ⟨hc58, hc59⟩ T2 Tryz.underlying27 (hg := Gs.yes rfl rfl rfl (decide_eq_false hc57))
             refine a_ldE (v := vI _) ?_ (G2 hc58 hc59) T2 (hg := Gs.yes rfl rfl rfl (decide_eq_false hc57))
             refine a_move (v := .c (.own _ _)) ?_ (hg := Gs.yes rfl rfl rfl (decide_eq_false hc57))
             refine a_move (v := vI _) ?_ (hg := Gs.yes rfl rfl rfl (decide_eq_false hc57))
             by_cases hc60 : 0 ≤ x10
             ·rw [if_pos hc60] at H
              by_cases hc61 : x10 < (x7.length : Int)
              ·rw [if_pos hc61] at H
               refine a_ixO ?_ ⟨hc60, hc61⟩ T2 Tryz.underlying27 (hg := Gs.yes rfl rfl rfl (decide_eq_false hc57))
               refine a_ldE (v := vI _) ?_ (G2 hc60 hc61) T2 (hg := Gs.yes rfl rfl rfl (decide_eq_false hc57))
               refine a_int (u := .bool (decide ((rd2 x7 x13) > (rd2 x7 x10)))) ?_ (hg := Gs.yes rfl rfl rfl (decide_eq_false hc57))
               refine a_pick (b := false) (v := vB _) ?_ (decide_eq_false hc57)
               refine a_move (v := vB _) ?_
               by_cases hc62 : (rd2 x7 x13) > (rd2 x7 x10)
               ·rw [if_pos hc62] at H
                refine RA.skip rfl rfl rfl rfl rfl (decide_eq_true hc62) (by decide) ?_
                refine RA.skip rfl rfl rfl rfl rfl (decide_eq_true hc62) (by decide) ?_
                refine RA.skip rfl rfl rfl rfl rfl (decide_eq_true hc62) (by decide) ?_
                refine a_pick (b := true) (v := vB _) ?_ (decide_eq_true hc62)
                refine RA.nil (fun _ => by kernel_rfl) ?_
                refine AG.yes rfl rfl ?_
                refine AG.seq ?_
                refine AG.region HM ?_
                refine a_move (v := vI _) ?_
                refine a_move (v := vI _) ?_
                refine RA.nil nofun ?_
                refine AG.seq ?_
                refine AG.region HM ?_
                refine a_move (v := vI _) ?_
                refine a_move (v := vI _) ?_
                refine RA.nil nofun ?_
                refine AG.region HM ?_
                refine a_move (v := vI _) ?_
                refine a_move (v := vI _) ?_
                refine RA.nil nofun ?_
                refine AG.region HM ?_
                refine a_move (v := vI _) ?_
                refine a_int (u := .int .i64 (wrap64 (x13 + 1))) ?_
                refine a_move (v := vI _) ?_
                refine RA.nil nofun ?_
                exact AGr.canon (fun κ => cond (Nat.beq κ 214) 221 (cond (Nat.beq κ 215) 222 (cond (Nat.beq κ 216) 223 (cond (Nat.beq κ 217) 224 (κ))))) (ih1 _ (by omega) _ ⟨by omega, _, _, _, _, _, _, _, _, _, _, _, _, H, rfl⟩) ⟨rfl, rfl, rfl, rfl, rfl, rfl, rfl, rfl, rfl, trivial⟩ ⟨rfl, rfl, rfl, rfl, trivial⟩ rfl
               ·rw [if_neg hc62] at H
                refine a_move (v := vI _) ?_ (hg := Gs.yes rfl rfl rfl (decide_eq_false hc62))
                refine a_move (v := vI _) ?_ (hg := Gs.yes rfl rfl rfl (decide_eq_false hc62))
                refine a_int (u := .bool (decide (0 < x12))) ?_ (hg := Gs.yes rfl rfl rfl (decide_eq_false hc62))
                refine a_pick (b := false) (v := vB _) ?_ (decide_eq_false hc62)
                refine RA.nil (fun _ => by kernel_rfl) ?_
                by_cases hc63 : 0 < x12
                ·rw [if_pos hc63] at H
                 refine AG.yes rfl (decide_eq_true hc63) ?_
                 refine AG.seq ?_
                 refine AG.region HM ?_
                 refine a_move (v := vI _) ?_
                 refine a_move (v := vI _) ?_
                 refine RA.nil nofun ?_
                 refine AG.seq ?_
                 refine AG.region HM ?_
                 refine a_move (v := vI _) ?_
                 refine a_move (v := vI _) ?_
                 refine RA.nil nofun ?_
                 refine AG.region HM ?_
                 refine a_move (v := vI _) ?_
                 refine a_move (v := vI _) ?_
                 refine RA.nil nofun ?_
                 refine AG.region HM ?_
                 refine a_move (v := vI _) ?_
                 refine a_int (u := .int .i64 (wrap64 (x13 + 1))) ?_
                 refine a_move (v := vI _) ?_
                 refine RA.nil nofun ?_
                 exact AGr.canon (fun κ => cond (Nat.beq κ 214) 221 (cond (Nat.beq κ 215) 222 (cond (Nat.beq κ 216) 223 (cond (Nat.beq κ 217) 224 (κ))))) (ih1 _ (by omega) _ ⟨by omega, _, _, _, _, _, _, _, _, _, _, _, _, H, rfl⟩) ⟨rfl, rfl, rfl, rfl, rfl, rfl, rfl, rfl, rfl, trivial⟩ ⟨rfl, rfl, rfl, rfl, trivial⟩ rfl
                ·rw [if_neg hc63] at H
                 refine AG.no rfl (decide_eq_false hc63) ?_
                 refine AG.skip ?_
                 refine AG.region HM ?_
                 refine a_move (v := vI _) ?_
                 refine a_int (u := .int .i64 (wrap64 (x13 + 1))) ?_
                 refine a_move (v := vI _) ?_
                 refine RA.nil nofun ?_
                 exact AGr.canon (fun κ => cond (Nat.beq κ 214) 221 (cond (Nat.beq κ 215) 222 (cond (Nat.beq κ 216) 223 (cond (Nat.beq κ 217) 224 (κ))))) (ih1 _ (by omega) _ ⟨by omega, _, _, _, _, _, _, _, _, _, _, _, _, H, rfl⟩) ⟨rfl, rfl, rfl, rfl, rfl, rfl, rfl, rfl, rfl, trivial⟩ ⟨rfl, rfl, rfl, rfl, trivial⟩ rfl
              ·rw [if_neg hc61] at H
               cases H
             ·rw [if_neg hc60] at H
              cases H
            ·rw [if_neg hc59] at H
             cases H
           ·rw [if_neg hc58] at H
            cases H
     ·rw [if_neg hc10] at H
      refine AG.no rfl (decide_eq_false hc10) ?_
      refine AG.exit ?_
      refine AG.seq ?_
      refine AG.region HM ?_
      refine a_move (v := .c (.own _ _)) ?_
      refine a_move (v := vI _) ?_
      refine a_lit (cs := [_]) (D := []) (css := ([x10]).map c2) 218 ?_ N27 T2
      by_cases hc64 : x8.length < 17592186044416
      ·rw [if_pos hc64] at H
       refine a_appO (css' := (x8 ++ [x10]).map c2) (n' := (x8 ++ [x10]).length) ?_ T2 (by simp [maxLen]; omega) (by simp; omega) Tryz.underlying27 (hc := by exact List.map_append.symm) (hn := by exact List.length_map _)
       refine a_move (v := .c (.own _ _)) ?_
       refine RA.nil nofun ?_
       refine AG.region HM ?_
       refine a_move (v := .c (.own _ _)) ?_
       refine a_move (v := vI _) ?_
       refine a_lit (cs := [_]) (D := []) (css := ([x11]).map c2) 219 ?_ N27 T2
       by_cases hc66 : x9.length < 17592186044416
       ·rw [if_pos hc66] at H
        refine a_appO (css' := (x9 ++ [x11]).map c2) (n' := (x9 ++ [x11]).length) ?_ T2 (by simp [maxLen]; omega) (by simp; omega) Tryz.underlying27 (hc := by exact List.map_append.symm) (hn := by exact List.length_map _)
        refine a_move (v := .c (.own _ _)) ?_
        refine RA.nil nofun ?_
        exact AGr.canon (fun κ => cond (Nat.beq κ 209) 214 (cond (Nat.beq κ 210) 215 (cond (Nat.beq κ 211) 216 (cond (Nat.beq κ 212) 217 (κ))))) (ih0 _ (by omega) _ ⟨by omega, _, _, _, _, _, _, _, _, H, rfl⟩) ⟨rfl, rfl, rfl, rfl, rfl, trivial⟩ ⟨rfl, rfl, rfl, rfl, trivial⟩ rfl
       ·rw [if_neg hc66] at H
        cases H
      ·rw [if_neg hc64] at H
       cases H
   ·rw [if_neg hc9] at H
    refine AG.no rfl (decide_eq_false hc9) ?_
    refine AG.exit ?_
    refine AG.seq ?_
    refine AG.region HM ?_
    refine a_move (v := .c (.own _ _)) ?_
    refine a_move (v := .c (.own _ _)) ?_
    refine a_move (v := vR _ _) ?_
    refine a_move (v := .c (.own _ _)) ?_
    refine a_move (v := .c (.own _ _)) ?_
    obtain ⟨t68, e69, H⟩ := bindO H
    refine a_call (v := vI t68) (nk := []) (L := [(209, _), (211, _), (212, _)]) ?_ rfl (spec_l14Air.ok e69) id (qc (rP (pD (pD (pD (pD p0))))) (qd (qc rO (qc rO qn)))) ⟨rfl, rfl, rfl, trivial⟩ trivial trivial rfl
    refine a_move (v := .c (.own _ _)) ?_
    refine a_move (v := .c (.own _ _)) ?_
    refine a_move (v := vI _) ?_
    refine a_move (v := vI _) ?_
    refine RA.nil nofun ?_
    refine AG.ret ?_
    simp only [Option.some.injEq, Prod.mk.injEq] at H
    obtain ⟨rfl, rfl, rfl, rfl⟩ := H
    exact RetP.mk (fun κ => cond (Nat.beq κ 100) 211 (cond (Nat.beq κ 101) 212 (κ))) ⟨rfl, rfl, rfl, rfl, trivial⟩ ⟨rfl, rfl, trivial⟩ rfl
 ·rw [if_neg hc3] at H
  refine AG.yes rfl (congrArg Bool.not (Bool.eq_false_iff.2 hc3)) ?_
  refine AG.seq ?_
  refine AG.region HM ?_
  refine a_nilO (e := 2) 204 ?_ T2
  refine a_nilO (e := 2) 205 ?_ T2
  refine a_move (v := vI _) ?_
  refine a_move (v := vI _) ?_
  refine RA.nil nofun ?_
  refine AG.ret ?_
  simp only [Option.some.injEq, Prod.mk.injEq] at H
  obtain ⟨rfl, rfl, rfl, rfl⟩ := H
  exact RetP.mk (fun κ => cond (Nat.beq κ 100) 204 (cond (Nat.beq κ 101) 205 (κ))) ⟨(ownE rfl (by simp)), (ownE rfl (by simp)), rfl, rfl, trivial⟩ ⟨rfl, rfl, trivial⟩ rfl
/-! ### laws_toPoint: function 51 -/
def laws_toPoint.f (a0_0 : Int) (a0_1 : Int) : Option (Int × Int) := some (a0_0, a0_1)
set_option maxRecDepth 100000 in
theorem laws_toPoint.ok {a0_0 : Int} {a0_1 : Int} {r0 : Int} {r1 : Int} (H : laws_toPoint.f a0_0 a0_1 = some (r0, r1)) : OkF Tryz.prog 51 [.agg [.d (.v (.int .i64 a0_0)), .d (.v (.int .i64 a0_1))]] [] (.agg [.d (.v (.int .i64 r0)), .d (.v (.int .i64 r1))]) [] := by
 unfold laws_toPoint.f at H
 refine OkF.ofB (N := 11) (t := 2) (ty := 51) (av := .agg [.d (.v (.int .i64 r0)), .d (.v (.int .i64 r1))]) Tryz.func51 rfl rfl rfl rfl (by decide) rfl rfl (fun w0 S => ?_)
 refine AG.seq ?_
 refine AG.region HM ?_
 refine a_box 200 ?_
 refine a_alloc (cs := [_, _]) 201 ?_ T51
 refine RA.nil nofun ?_
 refine AG.seq ?_
 refine AG.region HM ?_
 refine a_alloc (cs := [_, _]) 202 ?_ T51
 refine RA.nil nofun ?_
 refine AG.seq ?_
 refine AG.region HM ?_
 refine a_faB (q := 0) ?_ D84_0
 refine a_ldB (v := vI _) ?_ T2
 refine a_faB (q := 0) ?_ D51_0
 refine a_stB (cs' := [_, _]) ?_ T2
 refine RA.nil nofun ?_
 refine AG.seq ?_
 refine AG.region HM ?_
 refine a_faB (q := 1) ?_ D84_1
 refine a_ldB (v := vI _) ?_ T2
 refine a_faB (q := 1) ?_ D51_1
 refine a_stB (cs' := [_, _]) ?_ T2
 refine RA.nil nofun ?_
 refine AG.seq ?_
 refine AG.region HM ?_
 refine a_ldB (v := .agg [_, _]) ?_ T51
 refine a_stB (cs' := [_, _]) ?_ T51
 refine RA.nil nofun ?_
 refine AG.ret ?_
 simp only [Option.some.injEq, Prod.mk.injEq] at H
 obtain ⟨rfl, rfl⟩ := H
 exact RetB.mk T51 rfl rfl rfl (RetP.mk id ⟨rfl, trivial⟩ trivial rfl)
/-! ### laws_toPointS: function 25 -/
def laws_toPointS.l0 : Nat → List S50 → List S50 → Int → Option ((List S50))
 | 0, _, _, _ => none
 | k + 1, x0, x3, x4 => if x4 < (x0.length : Int) then (if 0 ≤ x4 then ((laws_toPoint.f ((rd50 x0 x4).f0) ((rd50 x0 x4).f1)).bind fun bt6 => (if x4 < (x3.length : Int) then (laws_toPointS.l0 k x0 (x3.set (x4 : Int).toNat (⟨bt6.1, bt6.2⟩ : S50)) (wrap64 (x4 + 1))) else (none))) else (none)) else (some x3)
def laws_toPointS.f (k : Nat) (l0 : List S50) : Option ((List S50)) := if 0 ≤ (l0.length : Int) then (if ((l0.length : Int) : Int).toNat ≤ 17592186044416 then (laws_toPointS.l0 k l0 (List.replicate (((l0.length : Int) : Int).toNat) z50) 0) else (none)) else (none)
set_option maxRecDepth 100000 in
theorem laws_toPointS.ok {k : Nat} {l0 : List S50} {r : List S50} (H : laws_toPointS.f k l0 = some r) : OkF Tryz.prog 25 [vR 84 (l0.map c50)] [] (.c (.own 100 r.length)) [(100, .row 51 (r.map c50))] := by
 unfold laws_toPointS.f at H
 refine OkF.of (N := 23) (rs := [2]) (avs := [.c (.own 100 r.length)]) Tryz.func25 rfl rfl (fun _ _ => results_tmp rfl _ _ _) (by decide) rfl rfl rfl rfl (fun w0 S => ?_)
 refine AG.seq ?_
 refine AG.region HM ?_
 refine a_nilO (e := 51) 200 ?_ T51
 refine RA.nil nofun ?_
 refine AG.seq ?_
 refine AG.region HM ?_
 refine a_move (v := vR _ _) ?_
 refine a_lenR ?_ Tryz.underlying22
 by_cases hc1 : 0 ≤ (l0.length : Int)
 ·rw [if_pos hc1] at H
  by_cases hc2 : ((l0.length : Int) : Int).toNat ≤ 17592186044416
  ·rw [if_pos hc2] at H
   refine a_make (n := (l0.length : Int)) (css := (List.replicate (((l0.length : Int) : Int).toNat) z50).map c50) 201 ?_ N30 T51 (zV (zV zN)) hc1 (by omega) (by omega) (hcss := by exact rep_map rfl)
   refine a_move (v := .c (.own _ _)) ?_
   refine RA.nil nofun ?_
   refine AG.seq ?_
   refine AG.seq ?_
   refine AG.region HM ?_
   refine a_move (v := vI _) ?_
   refine RA.nil nofun ?_
   refine AG.block ?_
   refine AG.loop ?_
   obtain ⟨K0, hK0, gK0⟩ : ∃ K, k ≤ K ∧ K ≤ k := ⟨k, Nat.le_refl k, Nat.le_refl k⟩
   refine AGr.canon (fun κ => cond (Nat.beq κ 202) 201 (κ)) (AGr.loopI (n := k) (fun k s => k ≤ K0 ∧ ∃ (x0 : List S50) (x3 : List S50) (x4 : Int), laws_toPointS.l0 k x0 x3 x4 = some r ∧ s = St.of [(0, vR 84 (x0.map c50)), (3, .c (.own 202 x3.length)), (4, vI x4)] [(202, .row 51 (x3.map c50))]) ⟨hK0, _, _, _, H, rfl⟩ ?_ ?_) ⟨rfl, (ownE rfl (by simp)), rfl, trivial⟩ ⟨rfl, trivial⟩ rfl
   ·rintro _ ⟨_, _, _, _, H, _⟩
    cases H
   ·clear H hK0
    rintro k ih0 _ ⟨hK0, x0, x3, x4, H, rfl⟩
    unfold laws_toPointS.l0 at H
    refine AG.seq ?_
    refine AG.seq ?_
    refine AG.region HM ?_
    refine a_move (v := vI _) ?_
    refine a_move (v := vR _ _) ?_
    refine a_lenR ?_ Tryz.underlying22
    refine a_int (u := .bool (decide (x4 < (x0.length : Int)))) ?_
    refine RA.nil nofun ?_
    by_cases hc4 : x4 < (x0.length : Int)
    ·rw [if_pos hc4] at H
     refine AG.yes rfl (decide_eq_true hc4) ?_
     refine AG.skip ?_
     refine AG.seq ?_
     refine AG.block ?_
     refine AG.region HM ?_
     refine a_move (v := .c (.own _ _)) ?_
     refine a_move (v := vI _) ?_
     refine a_move (v := vR _ _) ?_
     refine a_move (v := vI _) ?_
     by_cases hc5 : 0 ≤ x4
     ·rw [if_pos hc5] at H
      refine a_ixR (el := c50 (rd50 x0 x4)) ?_ ⟨hc5, hc4⟩ T84 Tryz.underlying22 (hel := R50 hc5 hc4)
      refine a_ldR (v := .agg [_, _]) ?_ T84
      obtain ⟨⟨t6, t7⟩, e8, H⟩ := bindO H
      refine a_call (v := .agg [.d (.v (.int .i64 t6)), .d (.v (.int .i64 t7))]) (nk := []) (L := []) ?_ rfl (laws_toPoint.ok e8) id (qg qn) trivial trivial trivial rfl
      by_cases hc9 : x4 < (x3.length : Int)
      ·rw [if_pos hc9] at H
       refine a_ixO ?_ ⟨hc5, hc9⟩ T51 Tryz.underlying30
       refine a_stF (css' := (x3.set (x4 : Int).toNat (⟨t6, t7⟩ : S50)).map c50) ?_ (flat_map (fun _ => rfl)) (G50 hc5 hc9) T51 (hcss := by exact set_map rfl)
       refine RA.nil nofun ?_
       refine AG.region HM ?_
       refine a_move (v := vI _) ?_
       refine a_int (u := .int .i64 (wrap64 (x4 + 1))) ?_
       refine a_move (v := vI _) ?_
       refine RA.nil nofun ?_
       exact AGr.canon id (ih0 _ (by omega) _ ⟨by omega, _, _, _, H, rfl⟩) ⟨rfl, (ownE rfl (by simp)), rfl, trivial⟩ ⟨rfl, trivial⟩ rfl
      ·rw [if_neg hc9] at H
       cases H
     ·rw [if_neg hc5] at H
      cases H
    ·rw [if_neg hc4] at H
     refine AG.no rfl (decide_eq_false hc4) ?_
     refine AG.exit ?_
     refine AG.seq ?_
     refine AG.region HM ?_
     refine a_move (v := .c (.own _ _)) ?_
     refine a_move (v := .c (.own _ _)) ?_
     refine RA.nil nofun ?_
     refine AG.ret ?_
     obtain rfl := Option.some.inj H
     exact RetP.mk (fun κ => cond (Nat.beq κ 100) 202 (κ)) ⟨rfl, trivial⟩ ⟨rfl, trivial⟩ rfl
  ·rw [if_neg hc2] at H
   cases H
 ·rw [if_neg hc1] at H
  cases H
/-! ### laws_toInt64S: function 80 -/
def laws_toInt64S.l0 : Nat → List Int → List Int → Int → Option ((List Int))
 | 0, _, _, _ => none
 | k + 1, x0, x3, x4 => if x4 < (x0.length : Int) then (if 0 ≤ x4 then (if x4 < (x3.length : Int) then (laws_toInt64S.l0 k x0 (x3.set (x4 : Int).toNat (rd2 x0 x4)) (wrap64 (x4 + 1))) else (none)) else (none)) else (some x3)
def laws_toInt64S.f (k : Nat) (l0 : List Int) : Option ((List Int)) := if 0 ≤ (l0.length : Int) then (if ((l0.length : Int) : Int).toNat ≤ 35184372088832 then (laws_toInt64S.l0 k l0 (List.replicate (((l0.length : Int) : Int).toNat) 0) 0) else (none)) else (none)
set_option maxRecDepth 100000 in
theorem laws_toInt64S.ok {k : Nat} {l0 : List Int} {r : List Int} (H : laws_toInt64S.f k l0 = some r) : OkF Tryz.prog 80 [vR 2 (l0.map c2)] [] (.c (.own 100 r.length)) [(100, .row 2 (r.map c2))] := by
 unfold laws_toInt64S.f at H
 refine OkF.of (N := 22) (rs := [2]) (avs := [.c (.own 100 r.length)]) Tryz.func80 rfl rfl (fun _ _ => results_tmp rfl _ _ _) (by decide) rfl rfl rfl rfl (fun w0 S => ?_)
 refine AG.seq ?_
 refine AG.region HM ?_
 refine a_nilO (e := 2) 200 ?_ T2
 refine RA.nil nofun ?_
 refine AG.seq ?_
 refine AG.region HM ?_
 refine a_move (v := vR _ _) ?_
 refine a_lenR ?_ Tryz.underlying27
 by_cases hc1 : 0 ≤ (l0.length : Int)
 ·rw [if_pos hc1] at H
  by_cases hc2 : ((l0.length : Int) : Int).toNat ≤ 35184372088832
  ·rw [if_pos hc2] at H
   refine a_make (n := (l0.length : Int)) (css := (List.replicate (((l0.length : Int) : Int).toNat) 0).map c2) 201 ?_ N27 T2 (zV zN) hc1 (by omega) (by omega) (hcss := by exact rep_map rfl)
   refine a_move (v := .c (.own _ _)) ?_
   refine RA.nil nofun ?_
   refine AG.seq ?_
   refine AG.seq ?_
   refine AG.region HM ?_
   refine a_move (v := vI _) ?_
   refine RA.nil nofun ?_
   refine AG.block ?_
   refine AG.loop ?_
   obtain ⟨K0, hK0, gK0⟩ : ∃ K, k ≤ K ∧ K ≤ k := ⟨k, Nat.le_refl k, Nat.le_refl k⟩
   refine AGr.canon (fun κ => cond (Nat.beq κ 202) 201 (κ)) (AGr.loopI (n := k) (fun k s => k ≤ K0 ∧ ∃ (x0 : List Int) (x3 : List Int) (x4 : Int), laws_toInt64S.l0 k x0 x3 x4 = some r ∧ s = St.of [(0, vR 2 (x0.map c2)), (3, .c (.own 202 x3.length)), (4, vI x4)] [(202, .row 2 (x3.map c2))]) ⟨hK0, _, _, _, H, rfl⟩ ?_ ?_) ⟨rfl, (ownE rfl (by simp)), rfl, trivial⟩ ⟨rfl, trivial⟩ rfl
   ·rintro _ ⟨_, _, _, _, H, _⟩
    cases H
   ·clear H hK0
    rintro k ih0 _ ⟨hK0, x0, x3, x4, H, rfl⟩
    unfold laws_toInt64S.l0 at H
    refine AG.seq ?_
    refine AG.seq ?_
    refine AG.region HM ?_
    refine a_move (v := vI _) ?_
    refine a_move (v := vR _ _) ?_
    refine a_lenR ?_ Tryz.underlying27
    refine a_int (u := .bool (decide (x4 < (x0.length : Int)))) ?_
    refine RA.nil nofun ?_
    by_cases hc4 : x4 < (x0.length : Int)
    ·rw [if_pos hc4] at H
     refine AG.yes rfl (decide_eq_true hc4) ?_
     refine AG.skip ?_
     refine AG.seq ?_
     refine AG.block ?_
     refine AG.region HM ?_
     refine a_move (v := .c (.own _ _)) ?_
     refine a_move (v := vI _) ?_
     refine a_move (v := vR _ _) ?_
     refine a_move (v := vI _) ?_
     by_cases hc5 : 0 ≤ x4
     ·rw [if_pos hc5] at H
      refine a_ixR (el := c2 (rd2 x0 x4)) ?_ ⟨hc5, hc4⟩ T2 Tryz.underlying27 (hel := R2 hc5 hc4)
      refine a_ldR (v := vI _) ?_ T2
      by_cases hc6 : x4 < (x3.length : Int)
      ·rw [if_pos hc6] at H
       refine a_ixO ?_ ⟨hc5, hc6⟩ T2 Tryz.underlying27
       refine a_stF (css' := (x3.set (x4 : Int).toNat (rd2 x0 x4)).map c2) ?_ (flat_map (fun _ => rfl)) (G2 hc5 hc6) T2 (hcss := by exact set_map rfl)
       refine RA.nil nofun ?_
       refine AG.region HM ?_
       refine a_move (v := vI _) ?_
       refine a_int (u := .int .i64 (wrap64 (x4 + 1))) ?_
       refine a_move (v := vI _) ?_
       refine RA.nil nofun ?_
       exact AGr.canon id (ih0 _ (by omega) _ ⟨by omega, _, _, _, H, rfl⟩) ⟨rfl, (ownE rfl (by simp)), rfl, trivial⟩ ⟨rfl, trivial⟩ rfl
      ·rw [if_neg hc6] at H
       cases H
     ·rw [if_neg hc5] at H
      cases H
    ·rw [if_neg hc4] at H
     refine AG.no rfl (decide_eq_false hc4) ?_
     refine AG.exit ?_
     refine AG.seq ?_
     refine AG.region HM ?_
     refine a_move (v := .c (.own _ _)) ?_
     refine a_move (v := .c (.own _ _)) ?_
     refine RA.nil nofun ?_
     refine AG.ret ?_
     obtain rfl := Option.some.inj H
     exact RetP.mk (fun κ => cond (Nat.beq κ 100) 202 (κ)) ⟨rfl, trivial⟩ ⟨rfl, trivial⟩ rfl
  ·rw [if_neg hc2] at H
   cases H
 ·rw [if_neg hc1] at H
  cases H
/-! ### laws_toFace: function 52 -/
def laws_toFace.f (k : Nat) (a0_0 : ByteArray) (l0_1 : List Int) : Option (ByteArray × (List Int)) := (laws_toInt64S.f k l0_1).bind fun t1 => (some (a0_0, t1))
set_option maxRecDepth 100000 in
theorem laws_toFace.ok {k : Nat} {a0_0 : ByteArray} {l0_1 : List Int} {r0 : ByteArray} {r1 : List Int} (H : laws_toFace.f k a0_0 l0_1 = some (r0, r1)) : OkF Tryz.prog 52 [.agg [.d (.v (.string a0_0)), .d (.row 2 (l0_1.map c2))]] [] (.agg [.d (.v (.string r0)), .own 100 r1.length]) [(100, .row 2 (r1.map c2))] := by
 unfold laws_toFace.f at H
 refine OkF.ofB (N := 12) (t := 2) (ty := 76) (av := .agg [.d (.v (.string r0)), .own 100 r1.length]) Tryz.func52 rfl rfl rfl rfl (by decide) rfl rfl (fun w0 S => ?_)
 refine AG.seq ?_
 refine AG.region HM ?_
 refine a_box 200 ?_
 refine a_alloc (cs := [_, _]) 201 ?_ T76
 refine RA.nil nofun ?_
 refine AG.seq ?_
 refine AG.region HM ?_
 refine a_alloc (cs := [_, _]) 202 ?_ T76
 refine RA.nil nofun ?_
 refine AG.seq ?_
 refine AG.region HM ?_
 refine a_faB (q := 0) ?_ D73_0
 refine a_ldB (v := vS _) ?_ T9
 refine a_faB (q := 0) ?_ D76_0
 refine a_stB (cs' := [_, _]) ?_ T9
 refine RA.nil nofun ?_
 refine AG.seq ?_
 refine AG.region HM ?_
 refine a_faB (q := 1) ?_ D73_1
 refine a_ldB (v := vR _ _) ?_ T27
 obtain ⟨t1, e2, H⟩ := bindO H
 refine a_call (v := .c (.own 203 t1.length)) (nk := [(203, .row 2 (t1.map c2))]) (L := []) ?_ rfl (laws_toInt64S.ok e2) (fun κ => cond (Nat.beq κ 203) 100 (κ)) (qd qn) trivial ⟨rfl, trivial⟩ ⟨rfl, trivial⟩ rfl
 refine a_faB (q := 1) ?_ D76_1
 refine a_stB (cs' := [_, _]) ?_ T27
 refine RA.nil nofun ?_
 refine AG.seq ?_
 refine AG.region HM ?_
 refine a_ldB (v := .agg [_, _]) ?_ T76
 refine a_stB (cs' := [_, _]) ?_ T76
 refine RA.nil nofun ?_
 refine AG.ret ?_
 simp only [Option.some.injEq, Prod.mk.injEq] at H
 obtain ⟨rfl, rfl⟩ := H
 exact RetB.mk T76 rfl rfl rfl (RetP.mk (fun κ => cond (Nat.beq κ 100) 203 (κ)) ⟨rfl, trivial⟩ ⟨rfl, trivial⟩ rfl)
/-! ### laws_toFaceS: function 26 -/
def laws_toFaceS.l0 : Nat → List S72 → List S72 → Int → Option ((List S72))
 | 0, _, _, _ => none
 | k + 1, x0, x3, x4 => if x4 < (x0.length : Int) then (if 0 ≤ x4 then ((laws_toFace.f k ((rd72 x0 x4).f0) ((rd72 x0 x4).f1)).bind fun bt6 => (if x4 < (x3.length : Int) then (laws_toFaceS.l0 k x0 (x3.set (x4 : Int).toNat (⟨bt6.1, bt6.2⟩ : S72)) (wrap64 (x4 + 1))) else (none))) else (none)) else (some x3)
def laws_toFaceS.f (k : Nat) (l0 : List S72) : Option ((List S72)) := if 0 ≤ (l0.length : Int) then (if ((l0.length : Int) : Int).toNat ≤ 7036874417766 then (laws_toFaceS.l0 k l0 (List.replicate (((l0.length : Int) : Int).toNat) z72) 0) else (none)) else (none)
set_option maxRecDepth 100000 in
theorem laws_toFaceS.ok {k : Nat} {l0 : List S72} {r : List S72} (H : laws_toFaceS.f k l0 = some r) : OkF Tryz.prog 26 [vR 73 (l0.map c72)] [] (.c (.own 100 r.length)) [(100, .row 76 (r.map c72))] := by
 unfold laws_toFaceS.f at H
 refine OkF.of (N := 23) (rs := [2]) (avs := [.c (.own 100 r.length)]) Tryz.func26 rfl rfl (fun _ _ => results_tmp rfl _ _ _) (by decide) rfl rfl rfl rfl (fun w0 S => ?_)
 refine AG.seq ?_
 refine AG.region HM ?_
 refine a_nilO (e := 76) 200 ?_ T76
 refine RA.nil nofun ?_
 refine AG.seq ?_
 refine AG.region HM ?_
 refine a_move (v := vR _ _) ?_
 refine a_lenR ?_ Tryz.underlying23
 by_cases hc1 : 0 ≤ (l0.length : Int)
 ·rw [if_pos hc1] at H
  by_cases hc2 : ((l0.length : Int) : Int).toNat ≤ 7036874417766
  ·rw [if_pos hc2] at H
   refine a_make (n := (l0.length : Int)) (css := (List.replicate (((l0.length : Int) : Int).toNat) z72).map c72) 201 ?_ N31 T76 (zV (zR T2 zN)) hc1 (by omega) (by omega) (hcss := by exact rep_map rfl)
   refine a_move (v := .c (.own _ _)) ?_
   refine RA.nil nofun ?_
   refine AG.seq ?_
   refine AG.seq ?_
   refine AG.region HM ?_
   refine a_move (v := vI _) ?_
   refine RA.nil nofun ?_
   refine AG.block ?_
   refine AG.loop ?_
   obtain ⟨K0, hK0, gK0⟩ : ∃ K, k ≤ K ∧ K ≤ k := ⟨k, Nat.le_refl k, Nat.le_refl k⟩
   refine AGr.canon (fun κ => cond (Nat.beq κ 202) 201 (κ)) (AGr.loopI (n := k) (fun k s => k ≤ K0 ∧ ∃ (x0 : List S72) (x3 : List S72) (x4 : Int), laws_toFaceS.l0 k x0 x3 x4 = some r ∧ s = St.of [(0, vR 73 (x0.map c72)), (3, .c (.own 202 x3.length)), (4, vI x4)] [(202, .row 76 (x3.map c72))]) ⟨hK0, _, _, _, H, rfl⟩ ?_ ?_) ⟨rfl, (ownE rfl (by simp)), rfl, trivial⟩ ⟨rfl, trivial⟩ rfl
   ·rintro _ ⟨_, _, _, _, H, _⟩
    cases H
   ·clear H hK0
    rintro k ih0 _ ⟨hK0, x0, x3, x4, H, rfl⟩
    unfold laws_toFaceS.l0 at H
    refine AG.seq ?_
    refine AG.seq ?_
    refine AG.region HM ?_
    refine a_move (v := vI _) ?_
    refine a_move (v := vR _ _) ?_
    refine a_lenR ?_ Tryz.underlying23
    refine a_int (u := .bool (decide (x4 < (x0.length : Int)))) ?_
    refine RA.nil nofun ?_
    by_cases hc4 : x4 < (x0.length : Int)
    ·rw [if_pos hc4] at H
     refine AG.yes rfl (decide_eq_true hc4) ?_
     refine AG.skip ?_
     refine AG.seq ?_
     refine AG.block ?_
     refine AG.region HM ?_
     refine a_move (v := .c (.own _ _)) ?_
     refine a_move (v := vI _) ?_
     refine a_move (v := vR _ _) ?_
     refine a_move (v := vI _) ?_
     by_cases hc5 : 0 ≤ x4
     ·rw [if_pos hc5] at H
      refine a_ixR (el := c72 (rd72 x0 x4)) ?_ ⟨hc5, hc4⟩ T73 Tryz.underlying23 (hel := R72 hc5 hc4)
      refine a_ldR (v := .agg [_, _]) ?_ T73
      obtain ⟨⟨t6, t7⟩, e8, H⟩ := bindO H
      refine a_call (v := .agg [.d (.v (.string t6)), .own 203 t7.length]) (nk := [(203, .row 2 (t7.map c2))]) (L := []) ?_ rfl (laws_toFace.ok e8) (fun κ => cond (Nat.beq κ 203) 100 (κ)) (qg qn) trivial ⟨rfl, trivial⟩ ⟨rfl, trivial⟩ rfl
      by_cases hc9 : x4 < (x3.length : Int)
      ·rw [if_pos hc9] at H
       refine a_ixO ?_ ⟨hc5, hc9⟩ T76 Tryz.underlying31
       refine a_stE (D := [203]) (css' := (x3.set (x4 : Int).toNat (⟨t6, t7⟩ : S72)).map c72) ?_ (G72 hc5 hc9) T76 (hcss := by exact set_map rfl)
       refine RA.nil nofun ?_
       refine AG.region HM ?_
       refine a_move (v := vI _) ?_
       refine a_int (u := .int .i64 (wrap64 (x4 + 1))) ?_
       refine a_move (v := vI _) ?_
       refine RA.nil nofun ?_
       exact AGr.canon id (ih0 _ (by omega) _ ⟨by omega, _, _, _, H, rfl⟩) ⟨rfl, (ownE rfl (by simp)), rfl, trivial⟩ ⟨rfl, trivial⟩ rfl
      ·rw [if_neg hc9] at H
       cases H
     ·rw [if_neg hc5] at H
      cases H
    ·rw [if_neg hc4] at H
     refine AG.no rfl (decide_eq_false hc4) ?_
     refine AG.exit ?_
     refine AG.seq ?_
     refine AG.region HM ?_
     refine a_move (v := .c (.own _ _)) ?_
     refine a_move (v := .c (.own _ _)) ?_
     refine RA.nil nofun ?_
     refine AG.ret ?_
     obtain rfl := Option.some.inj H
     exact RetP.mk (fun κ => cond (Nat.beq κ 100) 202 (κ)) ⟨rfl, trivial⟩ ⟨rfl, trivial⟩ rfl
  ·rw [if_neg hc2] at H
   cases H
 ·rw [if_neg hc1] at H
  cases H
/-! ### laws_toDrawing: function 7 -/
def laws_toDrawing.f (k : Nat) (a0_0 : Int) (a0_1 : Int) (l0_2 : List S50) (l0_3 : List S72) : Option (Int × Int × (List S50) × (List S72)) := (laws_toPointS.f k l0_2).bind fun t1 => ((laws_toFaceS.f k l0_3).bind fun t3 => (some (a0_0, a0_1, t1, t3)))
set_option maxRecDepth 100000 in
theorem laws_toDrawing.ok {k : Nat} {a0_0 : Int} {a0_1 : Int} {l0_2 : List S50} {l0_3 : List S72} {r0 : Int} {r1 : Int} {r2 : List S50} {r3 : List S72} (H : laws_toDrawing.f k a0_0 a0_1 l0_2 l0_3 = some (r0, r1, r2, r3)) : OkF Tryz.prog 7 [.agg [.d (.v (.int .i64 a0_0)), .d (.v (.int .i64 a0_1)), .d (.row 84 (l0_2.map c50)), .d (.row 73 (l0_3.map c72))]] [] (.agg [.d (.v (.int .i64 r0)), .d (.v (.int .i64 r1)), .own 100 r2.length, .own 101 r3.length]) [(100, .row 51 (r2.map c50)), (101, .row 76 (r3.map c72))] := by
 unfold laws_toDrawing.f at H
 refine OkF.ofB (N := 19) (t := 2) (ty := 33) (av := .agg [.d (.v (.int .i64 r0)), .d (.v (.int .i64 r1)), .own 100 r2.length, .own 101 r3.length]) Tryz.func7 rfl rfl rfl rfl (by decide) rfl rfl (fun w0 S => ?_)
 refine AG.seq ?_
 refine AG.region HM ?_
 refine a_box 200 ?_
 refine a_alloc (cs := [_, _, _, _]) 201 ?_ T33
 refine RA.nil nofun ?_
 refine AG.seq ?_
 refine AG.region HM ?_
 refine a_alloc (cs := [_, _, _, _]) 202 ?_ T33
 refine RA.nil nofun ?_
 refine AG.seq ?_
 refine AG.region HM ?_
 refine a_faB (q := 0) ?_ D25_0
 refine a_ldB (v := vI _) ?_ T2
 refine a_faB (q := 0) ?_ D33_0
 refine a_stB (cs' := [_, _, _, _]) ?_ T2
 refine RA.nil nofun ?_
 refine AG.seq ?_
 refine AG.region HM ?_
 refine a_faB (q := 1) ?_ D25_1
 refine a_ldB (v := vI _) ?_ T2
 refine a_faB (q := 1) ?_ D33_1
 refine a_stB (cs' := [_, _, _, _]) ?_ T2
 refine RA.nil nofun ?_
 refine AG.seq ?_
 refine AG.region HM ?_
 refine a_faB (q := 2) ?_ D25_2
 refine a_ldB (v := vR _ _) ?_ T22
 obtain ⟨t1, e2, H⟩ := bindO H
 refine a_call (v := .c (.own 203 t1.length)) (nk := [(203, .row 51 (t1.map c50))]) (L := []) ?_ rfl (laws_toPointS.ok e2) (fun κ => cond (Nat.beq κ 203) 100 (κ)) (qd qn) trivial ⟨rfl, trivial⟩ ⟨rfl, trivial⟩ rfl
 refine a_faB (q := 2) ?_ D33_2
 refine a_stB (cs' := [_, _, _, _]) ?_ T30
 refine RA.nil nofun ?_
 refine AG.seq ?_
 refine AG.region HM ?_
 refine a_faB (q := 3) ?_ D25_3
 refine a_ldB (v := vR _ _) ?_ T23
 obtain ⟨t3, e4, H⟩ := bindO H
 refine a_call (v := .c (.own 204 t3.length)) (nk := [(204, .row 76 (t3.map c72))]) (L := []) ?_ rfl (laws_toFaceS.ok e4) (fun κ => cond (Nat.beq κ 204) 100 (κ)) (qd qn) trivial ⟨rfl, trivial⟩ ⟨rfl, trivial⟩ rfl
 refine a_faB (q := 3) ?_ D33_3
 refine a_stB (cs' := [_, _, _, _]) ?_ T31
 refine RA.nil nofun ?_
 refine AG.seq ?_
 refine AG.region HM ?_
 refine a_ldB (v := .agg [_, _, _, _]) ?_ T33
 refine a_stB (cs' := [_, _, _, _]) ?_ T33
 refine RA.nil nofun ?_
 refine AG.ret ?_
 simp only [Option.some.injEq, Prod.mk.injEq] at H
 obtain ⟨rfl, rfl, rfl, rfl⟩ := H
 exact RetB.mk T33 rfl rfl rfl (RetP.mk (fun κ => cond (Nat.beq κ 100) 203 (cond (Nat.beq κ 101) 204 (κ))) ⟨rfl, trivial⟩ ⟨rfl, rfl, trivial⟩ rfl)
/-! ### impl_within: function 65 -/
def impl_within.f (a0 : Int) (a1 : Int) (a2 : Int) : Option (Bool) := if a0 ≥ a1 then (some (decide (a0 ≤ a2))) else (some false)
set_option maxRecDepth 100000 in
theorem impl_within.ok {a0 : Int} {a1 : Int} {a2 : Int} {r : Bool} (H : impl_within.f a0 a1 a2 = some r) : OkF Tryz.prog 65 [vI a0, vI a1, vI a2] [] (.c (.d (.v (.bool r)))) [] := by
 unfold impl_within.f at H
 refine OkF.of (N := 15) (rs := [6]) (avs := [.c (.d (.v (.bool r)))]) Tryz.func65 rfl rfl (fun _ _ => results_tmp rfl _ _ _) (by decide) rfl rfl rfl rfl (fun w0 S => ?_)
 refine AG.seq ?_
 refine AG.region HM ?_
 refine a_move (v := vB _) ?_
 refine RA.nil nofun ?_
 refine AG.seq ?_
 refine AG.region HM ?_
 refine a_move (v := vI _) ?_
 refine a_move (v := vI _) ?_
 refine a_int (u := .bool (decide (a0 ≥ a1))) ?_
 refine a_move (v := vB _) ?_
 by_cases hc1 : a0 ≥ a1
 ·rw [if_pos hc1] at H
  refine a_move (v := vI _) ?_ (hg := Gs.yes rfl rfl rfl (decide_eq_true hc1))
  refine a_move (v := vI _) ?_ (hg := Gs.yes rfl rfl rfl (decide_eq_true hc1))
  refine a_int (u := .bool (decide (a0 ≤ a2))) ?_ (hg := Gs.yes rfl rfl rfl (decide_eq_true hc1))
  refine a_pick (b := true) (v := vB _) ?_ (decide_eq_true hc1)
  refine a_move (v := vB _) ?_
  refine RA.nil nofun ?_
  refine AG.ret ?_
  obtain rfl := Option.some.inj H
  exact RetP.mk id ⟨rfl, trivial⟩ trivial rfl
 ·rw [if_neg hc1] at H
  refine RA.skip rfl rfl rfl rfl rfl (decide_eq_false hc1) (by decide) ?_
  refine RA.skip rfl rfl rfl rfl rfl (decide_eq_false hc1) (by decide) ?_
  refine RA.skip rfl rfl rfl rfl rfl (decide_eq_false hc1) (by decide) ?_
  refine a_pick (b := false) (v := vB _) ?_ (decide_eq_false hc1)
  refine a_move (v := vB _) ?_
  refine RA.nil nofun ?_
  refine AG.ret ?_
  obtain rfl := Option.some.inj H
  exact RetP.mk id ⟨rfl, trivial⟩ trivial rfl
/-! ### slices_Index_impl_Point: function 87 -/
def slices_Index_impl_Point.l0 : Nat → List S50 → Int → Int → Int → Int → Option (Int)
 | 0, _, _, _, _, _ => none
 | k + 1, x0, y201_0, y201_1, x7, x8 => if x8 < x7 then (if 0 ≤ x8 then (if x8 < (x0.length : Int) then (if (y201_0 == ((rd50 x0 x8).f0) && (y201_1 == ((rd50 x0 x8).f1))) = true then (some x8) else (slices_Index_impl_Point.l0 k x0 y201_0 y201_1 x7 (wrap64 (x8 + 1)))) else (none)) else (none)) else (some (-1))
def slices_Index_impl_Point.f (k : Nat) (l0 : List S50) (a1_0 : Int) (a1_1 : Int) : Option (Int) := slices_Index_impl_Point.l0 k l0 a1_0 a1_1 (l0.length : Int) 0
set_option maxRecDepth 100000 in
theorem slices_Index_impl_Point.ok {k : Nat} {l0 : List S50} {a1_0 : Int} {a1_1 : Int} {r : Int} (H : slices_Index_impl_Point.f k l0 a1_0 a1_1 = some r) : OkF Tryz.prog 87 [vR 51 (l0.map c50), .agg [.d (.v (.int .i64 a1_0)), .d (.v (.int .i64 a1_1))]] [] (.c (.d (.v (.int .i64 r)))) [] := by
 unfold slices_Index_impl_Point.f at H
 refine OkF.of (N := 19) (rs := [4]) (avs := [.c (.d (.v (.int .i64 r)))]) Tryz.func87 rfl rfl (fun _ _ => results_tmp rfl _ _ _) (by decide) rfl rfl rfl rfl (fun w0 S => ?_)
 refine AG.seq ?_
 refine AG.region HM ?_
 refine a_box 200 ?_
 refine a_move (v := vI _) ?_
 refine RA.nil nofun ?_
 refine AG.seq ?_
 refine AG.seq ?_
 refine AG.region HM ?_
 refine a_move (v := vR _ _) ?_
 refine a_lenR ?_ Tryz.underlying30
 refine a_move (v := vI _) ?_
 refine RA.nil nofun ?_
 refine AG.block ?_
 refine AG.loop ?_
 obtain ⟨K0, hK0, gK0⟩ : ∃ K, k ≤ K ∧ K ≤ k := ⟨k, Nat.le_refl k, Nat.le_refl k⟩
 refine AGr.canon (fun κ => cond (Nat.beq κ 201) 200 (κ)) (AGr.loopI (n := k) (fun k s => k ≤ K0 ∧ ∃ (x0 : List S50) (y201_0 : Int) (y201_1 : Int) (x7 : Int) (x8 : Int), slices_Index_impl_Point.l0 k x0 y201_0 y201_1 x7 x8 = some r ∧ s = St.of [(0, vR 51 (x0.map c50)), (3, .c (.ptr 201 0)), (7, vI x7), (8, vI x8)] [(201, .box 51 [.d (.v (.int .i64 y201_0)), .d (.v (.int .i64 y201_1))])]) ⟨hK0, _, _, _, _, _, H, rfl⟩ ?_ ?_) ⟨rfl, rfl, rfl, rfl, trivial⟩ ⟨rfl, trivial⟩ rfl
 ·rintro _ ⟨_, _, _, _, _, _, H, _⟩
  cases H
 ·clear H hK0
  rintro k ih0 _ ⟨hK0, x0, y201_0, y201_1, x7, x8, H, rfl⟩
  unfold slices_Index_impl_Point.l0 at H
  refine AG.seq ?_
  refine AG.region HM ?_
  refine a_int (u := .bool (decide (x8 < x7))) ?_
  refine RA.nil nofun ?_
  refine AG.seq ?_
  by_cases hc1 : x8 < x7
  ·rw [if_pos hc1] at H
   refine AG.yes rfl (decide_eq_true hc1) ?_
   refine AG.skip ?_
   refine AG.seq ?_
   refine AG.block ?_
   refine AG.seq ?_
   refine AG.region HM ?_
   refine a_move (v := vI _) ?_
   refine a_move (v := vI _) ?_
   refine RA.nil nofun ?_
   refine AG.seq ?_
   refine AG.region HM ?_
   refine a_ldB (v := .agg [_, _]) ?_ T51
   refine a_move (v := vR _ _) ?_
   refine a_move (v := vI _) ?_
   by_cases hc2 : 0 ≤ x8
   ·rw [if_pos hc2] at H
    by_cases hc3 : x8 < (x0.length : Int)
    ·rw [if_pos hc3] at H
     refine a_ixR (el := c50 (rd50 x0 x8)) ?_ ⟨hc2, hc3⟩ T51 Tryz.underlying30 (hel := R50 hc2 hc3)
     refine a_ldR (v := .agg [_, _]) ?_ T51
     refine a_eqS (b := (y201_0 == ((rd50 x0 x8).f0) && (y201_1 == ((rd50 x0 x8).f1)))) ?_ (.inl ⟨rfl, rfl⟩) (Q51 y201_0 ((rd50 x0 x8).f0) y201_1 ((rd50 x0 x8).f1)).1
     refine RA.nil (fun _ => by kernel_rfl) ?_
     by_cases hc4 : (y201_0 == ((rd50 x0 x8).f0) && (y201_1 == ((rd50 x0 x8).f1))) = true
     ·rw [if_pos hc4] at H
      refine AG.yes rfl hc4 ?_
      refine AG.seq ?_
      refine AG.region HM ?_
      refine a_move (v := vI _) ?_
      refine a_move (v := vI _) ?_
      refine RA.nil nofun ?_
      refine AG.ret ?_
      obtain rfl := Option.some.inj H
      exact RetP.mk id ⟨rfl, trivial⟩ trivial rfl
     ·rw [if_neg hc4] at H
      refine AG.no rfl (Bool.eq_false_iff.2 hc4) ?_
      refine AG.skip ?_
      refine AG.region HM ?_
      refine a_int (u := .int .i64 (wrap64 (x8 + 1))) ?_
      refine a_move (v := vI _) ?_
      refine RA.nil nofun ?_
      exact AGr.canon id (ih0 _ (by omega) _ ⟨by omega, _, _, _, _, _, H, rfl⟩) ⟨rfl, rfl, rfl, rfl, trivial⟩ ⟨rfl, trivial⟩ rfl
    ·rw [if_neg hc3] at H
     cases H
   ·rw [if_neg hc2] at H
    cases H
  ·rw [if_neg hc1] at H
   refine AG.no rfl (decide_eq_false hc1) ?_
   refine AG.exit ?_
   refine AG.seq ?_
   refine AG.region HM ?_
   refine a_move (v := vI _) ?_
   refine RA.nil nofun ?_
   refine AG.ret ?_
   obtain rfl := Option.some.inj H
   exact RetP.mk id ⟨rfl, trivial⟩ trivial rfl
/-! ### slices_Contains_impl_Point: function 66 -/
def slices_Contains_impl_Point.f (k : Nat) (l0 : List S50) (a1_0 : Int) (a1_1 : Int) : Option (Bool) := (slices_Index_impl_Point.f k l0 a1_0 a1_1).bind fun t1 => (some (decide (t1 ≥ 0)))
set_option maxRecDepth 100000 in
theorem slices_Contains_impl_Point.ok {k : Nat} {l0 : List S50} {a1_0 : Int} {a1_1 : Int} {r : Bool} (H : slices_Contains_impl_Point.f k l0 a1_0 a1_1 = some r) : OkF Tryz.prog 66 [vR 51 (l0.map c50), .agg [.d (.v (.int .i64 a1_0)), .d (.v (.int .i64 a1_1))]] [] (.c (.d (.v (.bool r)))) [] := by
 unfold slices_Contains_impl_Point.f at H
 refine OkF.of (N := 9) (rs := [4]) (avs := [.c (.d (.v (.bool r)))]) Tryz.func66 rfl rfl (fun _ _ => results_tmp rfl _ _ _) (by decide) rfl rfl rfl rfl (fun w0 S => ?_)
 refine AG.seq ?_
 refine AG.region HM ?_
 refine a_box 200 ?_
 refine a_move (v := vB _) ?_
 refine RA.nil nofun ?_
 refine AG.seq ?_
 refine AG.region HM ?_
 refine a_move (v := vR _ _) ?_
 refine a_ldB (v := .agg [_, _]) ?_ T51
 obtain ⟨t1, e2, H⟩ := bindO H
 refine a_call (v := vI t1) (nk := []) (L := []) ?_ rfl (slices_Index_impl_Point.ok e2) id (qd (qg qn)) trivial trivial trivial rfl
 refine a_int (u := .bool (decide (t1 ≥ 0))) ?_
 refine a_move (v := vB _) ?_
 refine RA.nil nofun ?_
 refine AG.ret ?_
 obtain rfl := Option.some.inj H
 exact RetP.mk id ⟨rfl, trivial⟩ trivial rfl
/-! ### impl_IsName: function 67 -/
mutual
def impl_IsName.j0 : Nat → ByteArray → Bool → Option (Bool)
 | 0, _, _ => none
 | k + 1, x0, x21 => if x21 = true then (some false) else (impl_IsName.l0 k x0 0)
def impl_IsName.l0 : Nat → ByteArray → Int → Option (Bool)
 | 0, _, _ => none
 | k + 1, x0, x3 => if x3 < (x0.size : Int) then (if 0 ≤ x3 then (if (bt x0 x3) < 97 then (if (bt x0 x3) < 48 then (some false) else (if (bt x0 x3) > 57 then (some false) else (impl_IsName.l0 k x0 (wrap64 (x3 + 1))))) else (if (bt x0 x3) > 122 then (if (bt x0 x3) < 48 then (some false) else (if (bt x0 x3) > 57 then (some false) else (impl_IsName.l0 k x0 (wrap64 (x3 + 1))))) else (impl_IsName.l0 k x0 (wrap64 (x3 + 1))))) else (none)) else (some true)
end
def impl_IsName.f (k : Nat) (a0 : ByteArray) : Option (Bool) := if (a0.size : Int) < 1 then (impl_IsName.j0 k a0 true) else (if (a0.size : Int) > 10 then (impl_IsName.j0 k a0 true) else (if 0 < (a0.size : Int) then (if (bt a0 0) < 97 then (impl_IsName.j0 k a0 true) else (impl_IsName.j0 k a0 (decide ((bt a0 0) > 122)))) else (none)))
set_option maxRecDepth 100000 in
theorem impl_IsName.ok {k : Nat} {a0 : ByteArray} {r : Bool} (H : impl_IsName.f k a0 = some r) : OkF Tryz.prog 67 [vS a0] [] (.c (.d (.v (.bool r)))) [] := by
 unfold impl_IsName.f at H
 refine OkF.of (N := 50) (rs := [2]) (avs := [.c (.d (.v (.bool r)))]) Tryz.func67 rfl rfl (fun _ _ => results_tmp rfl _ _ _) (by decide) rfl rfl rfl rfl (fun w0 S => ?_)
 refine AG.seq ?_
 refine AG.region HM ?_
 refine a_move (v := vB _) ?_
 refine RA.nil nofun ?_
 refine AG.seq ?_
 refine AG.seq ?_
 refine AG.joinR (fun s => ∃ q, q ≤ k ∧ ∃ (x0 : ByteArray) (x21 : Bool), impl_IsName.j0 q x0 x21 = some r ∧ s = St.of [(0, vS x0), (21, vB x21)] []) ?_ ?_
 ·skip
  refine AG.region HM ?_
  refine a_move (v := vS _) ?_
  refine a_lenS ?_ Tryz.underlying9
  refine a_int (u := .bool (decide ((a0.size : Int) < 1))) ?_
  refine a_move (v := vB _) ?_
  by_cases hc1 : (a0.size : Int) < 1
  ·rw [if_pos hc1] at H
   refine RA.skip rfl rfl rfl rfl rfl (decide_eq_true hc1) (by decide) ?_
   refine RA.skip rfl rfl rfl rfl rfl (decide_eq_true hc1) (by decide) ?_
   refine RA.skip rfl rfl rfl rfl rfl (decide_eq_true hc1) (by decide) ?_
   refine a_pick (b := true) (v := vB _) ?_ (decide_eq_true hc1)
   refine a_move (v := vB _) ?_
   refine RA.skip rfl rfl rfl rfl rfl rfl (by decide) ?_
   refine RA.skip rfl rfl rfl rfl rfl rfl (by decide) ?_
   refine RA.skip rfl rfl rfl rfl rfl rfl (by decide) ?_
   refine a_pick (b := true) (v := vB _) ?_ rfl
   refine a_move (v := vB _) ?_
   refine RA.skip rfl rfl rfl rfl rfl rfl (by decide) ?_
   refine RA.skip rfl rfl rfl rfl rfl rfl (by decide) ?_
   refine RA.skip rfl rfl rfl rfl rfl rfl (by decide) ?_
   refine a_pick (b := true) (v := vB _) ?_ rfl
   refine RA.nil nofun ?_
   exact CanR.mk id ⟨_, (by omega), _, _, H, rfl⟩ ⟨rfl, rfl, trivial⟩ trivial rfl
  ·rw [if_neg hc1] at H
   refine a_move (v := vS _) ?_ (hg := Gs.yes rfl rfl rfl (decide_eq_false hc1))
   refine a_lenS ?_ Tryz.underlying9 (hg := Gs.yes rfl rfl rfl (decide_eq_false hc1))
   refine a_int (u := .bool (decide ((a0.size : Int) > 10))) ?_ (hg := Gs.yes rfl rfl rfl (decide_eq_false hc1))
   refine a_pick (b := false) (v := vB _) ?_ (decide_eq_false hc1)
   refine a_move (v := vB _) ?_
   by_cases hc2 : (a0.size : Int) > 10
   ·rw [if_pos hc2] at H
    refine RA.skip rfl rfl rfl rfl rfl (decide_eq_true hc2) (by decide) ?_
    refine RA.skip rfl rfl rfl rfl rfl (decide_eq_true hc2) (by decide) ?_
    refine RA.skip rfl rfl rfl rfl rfl (decide_eq_true hc2) (by decide) ?_
    refine a_pick (b := true) (v := vB _) ?_ (decide_eq_true hc2)
    refine a_move (v := vB _) ?_
    refine RA.skip rfl rfl rfl rfl rfl rfl (by decide) ?_
    refine RA.skip rfl rfl rfl rfl rfl rfl (by decide) ?_
    refine RA.skip rfl rfl rfl rfl rfl rfl (by decide) ?_
    refine a_pick (b := true) (v := vB _) ?_ rfl
    refine RA.nil nofun ?_
    exact CanR.mk id ⟨_, (by omega), _, _, H, rfl⟩ ⟨rfl, rfl, trivial⟩ trivial rfl
   ·rw [if_neg hc2] at H
    refine a_move (v := vS _) ?_ (hg := Gs.yes rfl rfl rfl (decide_eq_false hc2))
    by_cases hc3 : 0 < (a0.size : Int)
    ·rw [if_pos hc3] at H
     refine a_str ?_ ⟨(by decide), hc3⟩ Tryz.underlying9 (hg := Gs.yes rfl rfl rfl (decide_eq_false hc2))
     refine a_int (u := .bool (decide ((bt a0 0) < 97))) ?_ (hg := Gs.yes rfl rfl rfl (decide_eq_false hc2))
     refine a_pick (b := false) (v := vB _) ?_ (decide_eq_false hc2)
     refine a_move (v := vB _) ?_
     by_cases hc4 : (bt a0 0) < 97
     ·rw [if_pos hc4] at H
      refine RA.skip rfl rfl rfl rfl rfl (decide_eq_true hc4) (by decide) ?_
      refine RA.skip rfl rfl rfl rfl rfl (decide_eq_true hc4) (by decide) ?_
      refine RA.skip rfl rfl rfl rfl rfl (decide_eq_true hc4) (by decide) ?_
      refine a_pick (b := true) (v := vB _) ?_ (decide_eq_true hc4)
      refine RA.nil nofun ?_
      exact CanR.mk id ⟨_, (by omega), _, _, H, rfl⟩ ⟨rfl, rfl, trivial⟩ trivial rfl
     ·rw [if_neg hc4] at H
      refine a_move (v := vS _) ?_ (hg := Gs.yes rfl rfl rfl (decide_eq_false hc4))
      refine a_str ?_ ⟨(by decide), hc3⟩ Tryz.underlying9 (hg := Gs.yes rfl rfl rfl (decide_eq_false hc4))
      refine a_int (u := .bool (decide ((bt a0 0) > 122))) ?_ (hg := Gs.yes rfl rfl rfl (decide_eq_false hc4))
      refine a_pick (b := false) (v := vB _) ?_ (decide_eq_false hc4)
      refine RA.nil nofun ?_
      exact CanR.mk id ⟨_, (by omega), _, _, H, rfl⟩ ⟨rfl, rfl, trivial⟩ trivial rfl
    ·rw [if_neg hc3] at H
     cases H
 ·clear H
  rintro _ ⟨k, hj0, x0, x21, H, rfl⟩
  cases k with
  | zero => cases H
  | succ k =>
   rw [impl_IsName.j0] at H
   by_cases hc5 : x21 = true
   ·rw [if_pos hc5] at H
    refine AG.yes rfl hc5 ?_
    refine AG.seq ?_
    refine AG.region HM ?_
    refine a_move (v := vB _) ?_
    refine RA.nil nofun ?_
    refine AG.ret ?_
    obtain rfl := Option.some.inj H
    exact RetP.mk id ⟨rfl, trivial⟩ trivial rfl
   ·rw [if_neg hc5] at H
    refine AG.no rfl (Bool.eq_false_iff.2 hc5) ?_
    refine AG.skip ?_
    refine AG.seq ?_
    refine AG.seq ?_
    refine AG.region HM ?_
    refine a_move (v := vI _) ?_
    refine RA.nil nofun ?_
    refine AG.block ?_
    refine AG.loop ?_
    obtain ⟨K0, hK0, gK0⟩ : ∃ K, k ≤ K ∧ K ≤ k := ⟨k, Nat.le_refl k, Nat.le_refl k⟩
    refine AGr.canon id (AGr.loopI (n := k) (fun k s => k ≤ K0 ∧ ∃ (x0 : ByteArray) (x3 : Int), impl_IsName.l0 k x0 x3 = some r ∧ s = St.of [(0, vS x0), (3, vI x3)] []) ⟨hK0, _, _, H, rfl⟩ ?_ ?_) ⟨rfl, rfl, trivial⟩ trivial rfl
    ·rintro _ ⟨_, _, _, H, _⟩
     cases H
    ·clear H hK0
     rintro k ih0 _ ⟨hK0, x0, x3, H, rfl⟩
     unfold impl_IsName.l0 at H
     refine AG.seq ?_
     refine AG.seq ?_
     refine AG.region HM ?_
     refine a_move (v := vI _) ?_
     refine a_move (v := vS _) ?_
     refine a_lenS ?_ Tryz.underlying9
     refine a_int (u := .bool (decide (x3 < (x0.size : Int)))) ?_
     refine RA.nil nofun ?_
     by_cases hc6 : x3 < (x0.size : Int)
     ·rw [if_pos hc6] at H
      refine AG.yes rfl (decide_eq_true hc6) ?_
      refine AG.skip ?_
      refine AG.seq ?_
      refine AG.block ?_
      refine AG.seq ?_
      refine AG.region HM ?_
      refine a_move (v := vS _) ?_
      refine a_move (v := vI _) ?_
      by_cases hc7 : 0 ≤ x3
      ·rw [if_pos hc7] at H
       refine a_str ?_ ⟨hc7, hc6⟩ Tryz.underlying9
       refine a_int (u := .bool (decide ((bt x0 x3) < 97))) ?_
       refine a_move (v := vB _) ?_
       by_cases hc8 : (bt x0 x3) < 97
       ·rw [if_pos hc8] at H
        refine RA.skip rfl rfl rfl rfl rfl (decide_eq_true hc8) (by decide) ?_
        refine RA.skip rfl rfl rfl rfl rfl (decide_eq_true hc8) (by decide) ?_
        refine RA.skip rfl rfl rfl rfl rfl (decide_eq_true hc8) (by decide) ?_
        refine RA.skip rfl rfl rfl rfl rfl (decide_eq_true hc8) (by decide) ?_
        refine a_pick (b := true) (v := vB _) ?_ (decide_eq_true hc8)
        refine a_move (v := vB _) ?_
        refine a_move (v := vS _) ?_ (hg := Gs.yes rfl rfl rfl rfl)
        refine a_move (v := vI _) ?_ (hg := Gs.yes rfl rfl rfl rfl)
        refine a_str ?_ ⟨hc7, hc6⟩ Tryz.underlying9 (hg := Gs.yes rfl rfl rfl rfl)
        refine a_int (u := .bool (decide ((bt x0 x3) < 48))) ?_ (hg := Gs.yes rfl rfl rfl rfl)
        refine a_move (v := vB _) ?_ (hg := Gs.yes rfl rfl rfl rfl)
        by_cases hc9 : (bt x0 x3) < 48
        ·rw [if_pos hc9] at H
         refine RA.skip rfl rfl rfl rfl rfl (decide_eq_true hc9) (by decide) ?_
         refine RA.skip rfl rfl rfl rfl rfl (decide_eq_true hc9) (by decide) ?_
         refine RA.skip rfl rfl rfl rfl rfl (decide_eq_true hc9) (by decide) ?_
         refine RA.skip rfl rfl rfl rfl rfl (decide_eq_true hc9) (by decide) ?_
         refine a_pick (b := true) (v := vB _) ?_ (decide_eq_true hc9) (hg := Gs.yes rfl rfl rfl rfl)
         refine a_pick (b := true) (v := vB _) ?_ rfl
         refine RA.nil nofun ?_
         refine AG.yes rfl rfl ?_
         refine AG.seq ?_
         refine AG.region HM ?_
         refine a_move (v := vB _) ?_
         refine RA.nil nofun ?_
         refine AG.ret ?_
         obtain rfl := Option.some.inj H
         exact RetP.mk id ⟨rfl, trivial⟩ trivial rfl
        ·rw [if_neg hc9] at H
         refine a_move (v := vS _) ?_ (hg := Gs.yes rfl rfl rfl (decide_eq_false hc9))
         refine a_move (v := vI _) ?_ (hg := Gs.yes rfl rfl rfl (decide_eq_false hc9))
         refine a_str ?_ ⟨hc7, hc6⟩ Tryz.underlying9 (hg := Gs.yes rfl rfl rfl (decide_eq_false hc9))
         refine a_int (u := .bool (decide ((bt x0 x3) > 57))) ?_ (hg := Gs.yes rfl rfl rfl (decide_eq_false hc9))
         refine a_pick (b := false) (v := vB _) ?_ (decide_eq_false hc9) (hg := Gs.yes rfl rfl rfl rfl)
         refine a_pick (b := true) (v := vB _) ?_ rfl
         refine RA.nil nofun ?_
         by_cases hc10 : (bt x0 x3) > 57
         ·rw [if_pos hc10] at H
          refine AG.yes rfl (decide_eq_true hc10) ?_
          refine AG.seq ?_
          refine AG.region HM ?_
          refine a_move (v := vB _) ?_
          refine RA.nil nofun ?_
          refine AG.ret ?_
          obtain rfl := Option.some.inj H
          exact RetP.mk id ⟨rfl, trivial⟩ trivial rfl
         ·rw [if_neg hc10] at H
          refine AG.no rfl (decide_eq_false hc10) ?_
          refine AG.skip ?_
          refine AG.region HM ?_
          refine a_move (v := vI _) ?_
          refine a_int (u := .int .i64 (wrap64 (x3 + 1))) ?_
          refine a_move (v := vI _) ?_
          refine RA.nil nofun ?_
          exact AGr.canon id (ih0 _ (by omega) _ ⟨by omega, _, _, H, rfl⟩) ⟨rfl, rfl, trivial⟩ trivial rfl
       ·rw [if_neg hc8] at H
        refine a_move (v := vS _) ?_ (hg := Gs.yes rfl rfl rfl (decide_eq_false hc8))
        refine a_move (v := vI _) ?_ (hg := Gs.yes rfl rfl rfl (decide_eq_false hc8))
        refine a_str ?_ ⟨hc7, hc6⟩ Tryz.underlying9 (hg := Gs.yes rfl rfl rfl (decide_eq_false hc8))
        refine a_int (u := .bool (decide ((bt x0 x3) > 122))) ?_ (hg := Gs.yes rfl rfl rfl (decide_eq_false hc8))
        refine a_pick (b := false) (v := vB _) ?_ (decide_eq_false hc8)
        refine a_move (v := vB _) ?_
        by_cases hc11 : (bt x0 x3) > 122
        ·rw [if_pos hc11] at H
         refine a_move (v := vS _) ?_ (hg := Gs.yes rfl rfl rfl (decide_eq_true hc11))
         refine a_move (v := vI _) ?_ (hg := Gs.yes rfl rfl rfl (decide_eq_true hc11))
         refine a_str ?_ ⟨hc7, hc6⟩ Tryz.underlying9 (hg := Gs.yes rfl rfl rfl (decide_eq_true hc11))
         refine a_int (u := .bool (decide ((bt x0 x3) < 48))) ?_ (hg := Gs.yes rfl rfl rfl (decide_eq_true hc11))
         refine a_move (v := vB _) ?_ (hg := Gs.yes rfl rfl rfl (decide_eq_true hc11))
         by_cases hc12 : (bt x0 x3) < 48
         ·rw [if_pos hc12] at H
          refine RA.skip rfl rfl rfl rfl rfl (decide_eq_true hc12) (by decide) ?_
          refine RA.skip rfl rfl rfl rfl rfl (decide_eq_true hc12) (by decide) ?_
          refine RA.skip rfl rfl rfl rfl rfl (decide_eq_true hc12) (by decide) ?_
          refine RA.skip rfl rfl rfl rfl rfl (decide_eq_true hc12) (by decide) ?_
          refine a_pick (b := true) (v := vB _) ?_ (decide_eq_true hc12) (hg := Gs.yes rfl rfl rfl (decide_eq_true hc11))
          refine a_pick (b := true) (v := vB _) ?_ (decide_eq_true hc11)
          refine RA.nil nofun ?_
          refine AG.yes rfl rfl ?_
          refine AG.seq ?_
          refine AG.region HM ?_
          refine a_move (v := vB _) ?_
          refine RA.nil nofun ?_
          refine AG.ret ?_
          obtain rfl := Option.some.inj H
          exact RetP.mk id ⟨rfl, trivial⟩ trivial rfl
         ·rw [if_neg hc12] at H
          refine a_move (v := vS _) ?_ (hg := Gs.yes rfl rfl rfl (decide_eq_false hc12))
          refine a_move (v := vI _) ?_ (hg := Gs.yes rfl rfl rfl (decide_eq_false hc12))
          refine a_str ?_ ⟨hc7, hc6⟩ Tryz.underlying9 (hg := Gs.yes rfl rfl rfl (decide_eq_false hc12))
          refine a_int (u := .bool (decide ((bt x0 x3) > 57))) ?_ (hg := Gs.yes rfl rfl rfl (decide_eq_false hc12))
          refine a_pick (b := false) (v := vB _) ?_ (decide_eq_false hc12) (hg := Gs.yes rfl rfl rfl (decide_eq_true hc11))
          refine a_pick (b := true) (v := vB _) ?_ (decide_eq_true hc11)
          refine RA.nil nofun ?_
          by_cases hc13 : (bt x0 x3) > 57
          ·rw [if_pos hc13] at H
           refine AG.yes rfl (decide_eq_true hc13) ?_
           refine AG.seq ?_
           refine AG.region HM ?_
           refine a_move (v := vB _) ?_
           refine RA.nil nofun ?_
           refine AG.ret ?_
           obtain rfl := Option.some.inj H
           exact RetP.mk id ⟨rfl, trivial⟩ trivial rfl
          ·rw [if_neg hc13] at H
           refine AG.no rfl (decide_eq_false hc13) ?_
           refine AG.skip ?_
           refine AG.region HM ?_
           refine a_move (v := vI _) ?_
           refine a_int (u := .int .i64 (wrap64 (x3 + 1))) ?_
           refine a_move (v := vI _) ?_
           refine RA.nil nofun ?_
           exact AGr.canon id (ih0 _ (by omega) _ ⟨by omega, _, _, H, rfl⟩) ⟨rfl, rfl, trivial⟩ trivial rfl
        ·rw [if_neg hc11] at H
         refine RA.skip rfl rfl rfl rfl rfl (decide_eq_false hc11) (by decide) ?_
         refine RA.skip rfl rfl rfl rfl rfl (decide_eq_false hc11) (by decide) ?_
         refine RA.skip rfl rfl rfl rfl rfl (decide_eq_false hc11) (by decide) ?_
         refine RA.skip rfl rfl rfl rfl rfl (decide_eq_false hc11) (by decide) ?_
         refine RA.skip rfl rfl rfl rfl rfl (decide_eq_false hc11) (by decide) ?_
         refine RA.skip0 rfl rfl rfl rfl rfl ?_
         refine RA.skip0 rfl rfl rfl rfl rfl ?_
         refine RA.skip0 rfl rfl rfl rfl rfl ?_
         refine RA.skip0 rfl rfl rfl rfl rfl ?_
         refine RA.skip rfl rfl rfl rfl rfl (decide_eq_false hc11) (by decide) ?_
         refine a_pick (b := false) (v := vB _) ?_ (decide_eq_false hc11)
         refine RA.nil nofun ?_
         refine AG.no rfl rfl ?_
         refine AG.skip ?_
         refine AG.region HM ?_
         refine a_move (v := vI _) ?_
         refine a_int (u := .int .i64 (wrap64 (x3 + 1))) ?_
         refine a_move (v := vI _) ?_
         refine RA.nil nofun ?_
         exact AGr.canon id (ih0 _ (by omega) _ ⟨by omega, _, _, H, rfl⟩) ⟨rfl, rfl, trivial⟩ trivial rfl
      ·rw [if_neg hc7] at H
       cases H
     ·rw [if_neg hc6] at H
      refine AG.no rfl (decide_eq_false hc6) ?_
      refine AG.exit ?_
      refine AG.seq ?_
      refine AG.region HM ?_
      refine a_move (v := vB _) ?_
      refine RA.nil nofun ?_
      refine AG.ret ?_
      obtain rfl := Option.some.inj H
      exact RetP.mk id ⟨rfl, trivial⟩ trivial rfl
/-! ### impl_ringPolygon: function 68 -/
def impl_ringPolygon.l0 : Nat → List S50 → List S50 → List Int → Int → Int → Option ((List S50) × Bool)
 | 0, _, _, _, _, _ => none
 | k + 1, x0, x6, x10, x11, x12 => if x12 < x11 then (if 0 ≤ x12 then (if x12 < (x10.length : Int) then ((impl_within.f (rd2 x10 x12) 0 (wrap64 ((x0.length : Int) - 1))).bind fun t5 => (if t5 = true then (if 0 ≤ (rd2 x10 x12) then (if (rd2 x10 x12) < (x0.length : Int) then (if x6.length < 8796093022208 then (impl_ringPolygon.l0 k x0 (x6 ++ [(⟨(rd50 x0 (rd2 x10 x12)).f0, (rd50 x0 (rd2 x10 x12)).f1⟩ : S50)]) x10 x11 (wrap64 (x12 + 1))) else (none)) else (none)) else (none)) else (some (([] : List S50), false)))) else (none)) else (none)) else (some (x6, true))
def impl_ringPolygon.f (k : Nat) (l0 : List S50) (l1 : List Int) : Option ((List S50) × Bool) := impl_ringPolygon.l0 k l0 (([] : List S50) : List S50) l1 (l1.length : Int) 0
set_option maxRecDepth 100000 in
theorem impl_ringPolygon.ok {k : Nat} {l0 : List S50} {l1 : List Int} {r0 : List S50} {r1 : Bool} (H : impl_ringPolygon.f k l0 l1 = some (r0, r1)) : OkF Tryz.prog 68 [vR 51 (l0.map c50), vR 2 (l1.map c2)] [] (.tup [.c (.own 100 r0.length), .c (.d (.v (.bool r1)))]) [(100, .row 51 (r0.map c50))] := by
 unfold impl_ringPolygon.f at H
 refine OkF.of (N := 31) (rs := [4, 5]) (avs := [.c (.own 100 r0.length), .c (.d (.v (.bool r1)))]) Tryz.func68 rfl rfl (fun _ _ => results_tmp2 rfl _ _ _) (by decide) rfl rfl rfl rfl (fun w0 S => ?_)
 refine AG.seq ?_
 refine AG.region HM ?_
 refine a_nilO (e := 51) 200 ?_ T51
 refine a_move (v := vB _) ?_
 refine RA.nil nofun ?_
 refine AG.seq ?_
 refine AG.region HM ?_
 refine a_lit (cs := []) (D := []) (css := (([] : List S50) : List S50).map c50) 201 ?_ N30 T51 (hcss := by rfl)
 refine a_move (v := .c (.own _ _)) ?_
 refine RA.nil nofun ?_
 refine AG.seq ?_
 refine AG.seq ?_
 refine AG.region HM ?_
 refine a_move (v := vR _ _) ?_
 refine a_lenR ?_ Tryz.underlying27
 refine a_move (v := vI _) ?_
 refine RA.nil nofun ?_
 refine AG.block ?_
 refine AG.loop ?_
 obtain ⟨K0, hK0, gK0⟩ : ∃ K, k ≤ K ∧ K ≤ k := ⟨k, Nat.le_refl k, Nat.le_refl k⟩
 refine AGr.canon (fun κ => cond (Nat.beq κ 202) 201 (κ)) (AGr.loopI (n := k) (fun k s => k ≤ K0 ∧ ∃ (x0 : List S50) (x6 : List S50) (x10 : List Int) (x11 : Int) (x12 : Int), impl_ringPolygon.l0 k x0 x6 x10 x11 x12 = some (r0, r1) ∧ s = St.of [(0, vR 51 (x0.map c50)), (6, .c (.own 202 x6.length)), (10, vR 2 (x10.map c2)), (11, vI x11), (12, vI x12)] [(202, .row 51 (x6.map c50))]) ⟨hK0, _, _, _, _, _, H, rfl⟩ ?_ ?_) ⟨rfl, (ownE rfl (by simp)), rfl, rfl, rfl, trivial⟩ ⟨rfl, trivial⟩ rfl
 ·rintro _ ⟨_, _, _, _, _, _, H, _⟩
  cases H
 ·clear H hK0
  rintro k ih0 _ ⟨hK0, x0, x6, x10, x11, x12, H, rfl⟩
  unfold impl_ringPolygon.l0 at H
  refine AG.seq ?_
  refine AG.region HM ?_
  refine a_int (u := .bool (decide (x12 < x11))) ?_
  refine RA.nil nofun ?_
  refine AG.seq ?_
  by_cases hc2 : x12 < x11
  ·rw [if_pos hc2] at H
   refine AG.yes rfl (decide_eq_true hc2) ?_
   refine AG.skip ?_
   refine AG.seq ?_
   refine AG.block ?_
   refine AG.seq ?_
   refine AG.region HM ?_
   by_cases hc3 : 0 ≤ x12
   ·rw [if_pos hc3] at H
    by_cases hc4 : x12 < (x10.length : Int)
    ·rw [if_pos hc4] at H
     refine a_ixR (el := c2 (rd2 x10 x12)) ?_ ⟨hc3, hc4⟩ T2 Tryz.underlying27 (hel := R2 hc3 hc4)
     refine a_ldR (v := vI _) ?_ T2
     refine a_move (v := vI _) ?_
     refine RA.nil nofun ?_
     refine AG.seq ?_
     refine AG.seq ?_
     refine AG.region HM ?_
     refine a_move (v := vI _) ?_
     refine a_move (v := vR _ _) ?_
     refine a_lenR ?_ Tryz.underlying30
     refine a_int (u := .int .i64 (wrap64 ((x0.length : Int) - 1))) ?_
     obtain ⟨t5, e6, H⟩ := bindO H
     refine a_call (v := vB t5) (nk := []) (L := []) ?_ rfl (impl_within.ok e6) id (qd (qd (qd qn))) trivial trivial trivial rfl
     refine a_un (u := .bool (!t5)) ?_
     refine RA.nil nofun ?_
     by_cases hc7 : t5 = true
     ·rw [if_pos hc7] at H
      refine AG.no rfl (congrArg Bool.not hc7) ?_
      refine AG.skip ?_
      refine AG.region HM ?_
      refine a_move (v := .c (.own _ _)) ?_
      refine a_move (v := vR _ _) ?_
      refine a_move (v := vI _) ?_
      by_cases hc8 : 0 ≤ (rd2 x10 x12)
      ·rw [if_pos hc8] at H
       by_cases hc9 : (rd2 x10 x12) < (x0.length : Int)
       ·rw [if_pos hc9] at H
        refine a_ixR (el := c50 (rd50 x0 (rd2 x10 x12))) ?_ ⟨hc8, hc9⟩ T51 Tryz.underlying30 (hel := R50 hc8 hc9)
        refine a_ldR (v := .agg [_, _]) ?_ T51
        refine a_lit (cs := [_, _]) (D := []) (css := ([(⟨(rd50 x0 (rd2 x10 x12)).f0, (rd50 x0 (rd2 x10 x12)).f1⟩ : S50)]).map c50) 204 ?_ N30 T51
        by_cases hc10 : x6.length < 8796093022208
        ·rw [if_pos hc10] at H
         refine a_appO (css' := (x6 ++ [(⟨(rd50 x0 (rd2 x10 x12)).f0, (rd50 x0 (rd2 x10 x12)).f1⟩ : S50)]).map c50) (n' := (x6 ++ [(⟨(rd50 x0 (rd2 x10 x12)).f0, (rd50 x0 (rd2 x10 x12)).f1⟩ : S50)]).length) ?_ T51 (by simp [maxLen]; omega) (by simp; omega) Tryz.underlying30 (hc := by exact List.map_append.symm) (hn := by exact List.length_map _)
         refine a_move (v := .c (.own _ _)) ?_
         refine RA.nil nofun ?_
         refine AG.region HM ?_
         refine a_int (u := .int .i64 (wrap64 (x12 + 1))) ?_
         refine a_move (v := vI _) ?_
         refine RA.nil nofun ?_
         exact AGr.canon id (ih0 _ (by omega) _ ⟨by omega, _, _, _, _, _, H, rfl⟩) ⟨rfl, rfl, rfl, rfl, rfl, trivial⟩ ⟨rfl, trivial⟩ rfl
        ·rw [if_neg hc10] at H
         cases H
       ·rw [if_neg hc9] at H
        cases H
      ·rw [if_neg hc8] at H
       cases H
     ·rw [if_neg hc7] at H
      refine AG.yes rfl (congrArg Bool.not (Bool.eq_false_iff.2 hc7)) ?_
      refine AG.seq ?_
      refine AG.region HM ?_
      refine a_nilO (e := 51) 205 ?_ T51
      refine a_move (v := vB _) ?_
      refine RA.nil nofun ?_
      refine AG.ret ?_
      simp only [Option.some.injEq, Prod.mk.injEq] at H
      obtain ⟨rfl, rfl⟩ := H
      exact RetP.mk (fun κ => cond (Nat.beq κ 100) 205 (κ)) ⟨(ownE rfl (by simp)), rfl, trivial⟩ ⟨rfl, trivial⟩ rfl
    ·rw [if_neg hc4] at H
     cases H
   ·rw [if_neg hc3] at H
    cases H
  ·rw [if_neg hc2] at H
   refine AG.no rfl (decide_eq_false hc2) ?_
   refine AG.exit ?_
   refine AG.seq ?_
   refine AG.region HM ?_
   refine a_move (v := .c (.own _ _)) ?_
   refine a_move (v := .c (.own _ _)) ?_
   refine a_move (v := vB _) ?_
   refine RA.nil nofun ?_
   refine AG.ret ?_
   simp only [Option.some.injEq, Prod.mk.injEq] at H
   obtain ⟨rfl, rfl⟩ := H
   exact RetP.mk (fun κ => cond (Nat.beq κ 100) 202 (κ)) ⟨rfl, rfl, trivial⟩ ⟨rfl, trivial⟩ rfl
/-! ### impl_ValidPoint: function 86 -/
def impl_ValidPoint.f (a0_0 : Int) (a0_1 : Int) : Option (Bool) := (impl_within.f a0_0 0 20000).bind fun t1 => (if t1 = true then ((impl_within.f a0_1 0 20000).bind fun t4 => (some t4)) else (some false))
set_option maxRecDepth 100000 in
theorem impl_ValidPoint.ok {a0_0 : Int} {a0_1 : Int} {r : Bool} (H : impl_ValidPoint.f a0_0 a0_1 = some r) : OkF Tryz.prog 86 [.agg [.d (.v (.int .i64 a0_0)), .d (.v (.int .i64 a0_1))]] [] (.c (.d (.v (.bool r)))) [] := by
 unfold impl_ValidPoint.f at H
 refine OkF.of (N := 11) (rs := [2]) (avs := [.c (.d (.v (.bool r)))]) Tryz.func86 rfl rfl (fun _ _ => results_tmp rfl _ _ _) (by decide) rfl rfl rfl rfl (fun w0 S => ?_)
 refine AG.seq ?_
 refine AG.region HM ?_
 refine a_box 200 ?_
 refine a_move (v := vB _) ?_
 refine RA.nil nofun ?_
 refine AG.seq ?_
 refine AG.region HM ?_
 refine a_faB (q := 0) ?_ D51_0
 refine a_ldB (v := vI _) ?_ T2
 obtain ⟨t1, e2, H⟩ := bindO H
 refine a_call (v := vB t1) (nk := []) (L := []) ?_ rfl (impl_within.ok e2) id (qd (qd (qd qn))) trivial trivial trivial rfl
 refine a_move (v := vB _) ?_
 by_cases hc3 : t1 = true
 ·rw [if_pos hc3] at H
  refine a_faB (q := 1) ?_ D51_1 (hg := Gs.yes rfl rfl rfl hc3)
  refine a_ldB (v := vI _) ?_ T2 (hg := Gs.yes rfl rfl rfl hc3)
  obtain ⟨t4, e5, H⟩ := bindO H
  refine a_call (v := vB t4) (nk := []) (L := []) ?_ rfl (impl_within.ok e5) id (qd (qd (qd qn))) trivial trivial trivial rfl (hg := Gs.yes rfl rfl rfl hc3)
  refine a_pick (b := true) (v := vB _) ?_ hc3
  refine a_move (v := vB _) ?_
  refine RA.nil nofun ?_
  refine AG.ret ?_
  obtain rfl := Option.some.inj H
  exact RetP.mk id ⟨rfl, trivial⟩ trivial rfl
 ·rw [if_neg hc3] at H
  refine RA.skip rfl rfl rfl rfl rfl (Bool.eq_false_iff.2 hc3) (by decide) ?_
  refine RA.skip rfl rfl rfl rfl rfl (Bool.eq_false_iff.2 hc3) (by decide) ?_
  refine RA.skip rfl rfl rfl rfl rfl (Bool.eq_false_iff.2 hc3) (by decide) ?_
  refine a_pick (b := false) (v := vB _) ?_ (Bool.eq_false_iff.2 hc3)
  refine a_move (v := vB _) ?_
  refine RA.nil nofun ?_
  refine AG.ret ?_
  obtain rfl := Option.some.inj H
  exact RetP.mk id ⟨rfl, trivial⟩ trivial rfl
/-! ### impl_validPoints: function 58 -/
def impl_validPoints.l0 : Nat → List S50 → Int → Int → Option (Bool)
 | 0, _, _, _ => none
 | k + 1, x5, x6, x7 => if x7 < x6 then (if 0 ≤ x7 then (if x7 < (x5.length : Int) then ((impl_ValidPoint.f ((rd50 x5 x7).f0) ((rd50 x5 x7).f1)).bind fun t4 => (if t4 = true then (impl_validPoints.l0 k x5 x6 (wrap64 (x7 + 1))) else (some false))) else (none)) else (none)) else (some true)
def impl_validPoints.f (k : Nat) (l0 : List S50) : Option (Bool) := impl_validPoints.l0 k l0 (l0.length : Int) 0
set_option maxRecDepth 100000 in
theorem impl_validPoints.ok {k : Nat} {l0 : List S50} {r : Bool} (H : impl_validPoints.f k l0 = some r) : OkF Tryz.prog 58 [vR 51 (l0.map c50)] [] (.c (.d (.v (.bool r)))) [] := by
 unfold impl_validPoints.f at H
 refine OkF.of (N := 15) (rs := [2]) (avs := [.c (.d (.v (.bool r)))]) Tryz.func58 rfl rfl (fun _ _ => results_tmp rfl _ _ _) (by decide) rfl rfl rfl rfl (fun w0 S => ?_)
 refine AG.seq ?_
 refine AG.region HM ?_
 refine a_move (v := vB _) ?_
 refine RA.nil nofun ?_
 refine AG.seq ?_
 refine AG.seq ?_
 refine AG.region HM ?_
 refine a_move (v := vR _ _) ?_
 refine a_lenR ?_ Tryz.underlying30
 refine a_move (v := vI _) ?_
 refine RA.nil nofun ?_
 refine AG.block ?_
 refine AG.loop ?_
 obtain ⟨K0, hK0, gK0⟩ : ∃ K, k ≤ K ∧ K ≤ k := ⟨k, Nat.le_refl k, Nat.le_refl k⟩
 refine AGr.canon id (AGr.loopI (n := k) (fun k s => k ≤ K0 ∧ ∃ (x5 : List S50) (x6 : Int) (x7 : Int), impl_validPoints.l0 k x5 x6 x7 = some r ∧ s = St.of [(5, vR 51 (x5.map c50)), (6, vI x6), (7, vI x7)] []) ⟨hK0, _, _, _, H, rfl⟩ ?_ ?_) ⟨rfl, rfl, rfl, trivial⟩ trivial rfl
 ·rintro _ ⟨_, _, _, _, H, _⟩
  cases H
 ·clear H hK0
  rintro k ih0 _ ⟨hK0, x5, x6, x7, H, rfl⟩
  unfold impl_validPoints.l0 at H
  refine AG.seq ?_
  refine AG.region HM ?_
  refine a_int (u := .bool (decide (x7 < x6))) ?_
  refine RA.nil nofun ?_
  refine AG.seq ?_
  by_cases hc1 : x7 < x6
  ·rw [if_pos hc1] at H
   refine AG.yes rfl (decide_eq_true hc1) ?_
   refine AG.skip ?_
   refine AG.seq ?_
   refine AG.block ?_
   refine AG.seq ?_
   refine AG.region HM ?_
   by_cases hc2 : 0 ≤ x7
   ·rw [if_pos hc2] at H
    by_cases hc3 : x7 < (x5.length : Int)
    ·rw [if_pos hc3] at H
     refine a_ixR (el := c50 (rd50 x5 x7)) ?_ ⟨hc2, hc3⟩ T51 Tryz.underlying30 (hel := R50 hc2 hc3)
     refine a_ldR (v := .agg [_, _]) ?_ T51
     refine a_alloc (cs := [_, _]) 200 ?_ T51
     refine a_stB (cs' := [_, _]) ?_ T51
     refine RA.nil nofun ?_
     refine AG.seq ?_
     refine AG.region HM ?_
     refine a_ldB (v := .agg [_, _]) ?_ T51
     obtain ⟨t4, e5, H⟩ := bindO H
     refine a_call (v := vB t4) (nk := []) (L := []) ?_ rfl (impl_ValidPoint.ok e5) id (qg qn) trivial trivial trivial rfl
     refine a_un (u := .bool (!t4)) ?_
     refine RA.nil nofun ?_
     by_cases hc6 : t4 = true
     ·rw [if_pos hc6] at H
      refine AG.no rfl (congrArg Bool.not hc6) ?_
      refine AG.skip ?_
      refine AG.region HM ?_
      refine a_int (u := .int .i64 (wrap64 (x7 + 1))) ?_
      refine a_move (v := vI _) ?_
      refine RA.nil nofun ?_
      exact AGr.canon id (ih0 _ (by omega) _ ⟨by omega, _, _, _, H, rfl⟩) ⟨rfl, rfl, rfl, trivial⟩ trivial rfl
     ·rw [if_neg hc6] at H
      refine AG.yes rfl (congrArg Bool.not (Bool.eq_false_iff.2 hc6)) ?_
      refine AG.seq ?_
      refine AG.region HM ?_
      refine a_move (v := vB _) ?_
      refine RA.nil nofun ?_
      refine AG.ret ?_
      obtain rfl := Option.some.inj H
      exact RetP.mk id ⟨rfl, trivial⟩ trivial rfl
    ·rw [if_neg hc3] at H
     cases H
   ·rw [if_neg hc2] at H
    cases H
  ·rw [if_neg hc1] at H
   refine AG.no rfl (decide_eq_false hc1) ?_
   refine AG.exit ?_
   refine AG.seq ?_
   refine AG.region HM ?_
   refine a_move (v := vB _) ?_
   refine RA.nil nofun ?_
   refine AG.ret ?_
   obtain rfl := Option.some.inj H
   exact RetP.mk id ⟨rfl, trivial⟩ trivial rfl
/-! ### impl_side: function 110 -/
def impl_side.f (a0_0 : Int) (a0_1 : Int) (a1_0 : Int) (a1_1 : Int) (a2_0 : Int) (a2_1 : Int) : Option (Int) := if (wrap64 ((wrap64 ((wrap64 (a1_0 - a0_0)) * (wrap64 (a2_1 - a0_1)))) - (wrap64 ((wrap64 (a1_1 - a0_1)) * (wrap64 (a2_0 - a0_0)))))) > 0 then (some 1) else (if (wrap64 ((wrap64 ((wrap64 (a1_0 - a0_0)) * (wrap64 (a2_1 - a0_1)))) - (wrap64 ((wrap64 (a1_1 - a0_1)) * (wrap64 (a2_0 - a0_0)))))) < 0 then (some (-1)) else (some 0))
set_option maxRecDepth 100000 in
theorem impl_side.ok {a0_0 : Int} {a0_1 : Int} {a1_0 : Int} {a1_1 : Int} {a2_0 : Int} {a2_1 : Int} {r : Int} (H : impl_side.f a0_0 a0_1 a1_0 a1_1 a2_0 a2_1 = some r) : OkF Tryz.prog 110 [.agg [.d (.v (.int .i64 a0_0)), .d (.v (.int .i64 a0_1))], .agg [.d (.v (.int .i64 a1_0)), .d (.v (.int .i64 a1_1))], .agg [.d (.v (.int .i64 a2_0)), .d (.v (.int .i64 a2_1))]] [] (.c (.d (.v (.int .i64 r)))) [] := by
 unfold impl_side.f at H
 refine OkF.of (N := 37) (rs := [6]) (avs := [.c (.d (.v (.int .i64 r)))]) Tryz.func110 rfl rfl (fun _ _ => results_tmp rfl _ _ _) (by decide) rfl rfl rfl rfl (fun w0 S => ?_)
 refine AG.seq ?_
 refine AG.region HM ?_
 refine a_box 200 ?_
 refine a_box 201 ?_
 refine a_box 202 ?_
 refine a_move (v := vI _) ?_
 refine RA.nil nofun ?_
 refine AG.seq ?_
 refine AG.region HM ?_
 refine a_faB (q := 0) ?_ D51_0
 refine a_ldB (v := vI _) ?_ T2
 refine a_faB (q := 0) ?_ D51_0
 refine a_ldB (v := vI _) ?_ T2
 refine a_int (u := .int .i64 (wrap64 (a1_0 - a0_0))) ?_
 refine a_faB (q := 1) ?_ D51_1
 refine a_ldB (v := vI _) ?_ T2
 refine a_faB (q := 1) ?_ D51_1
 refine a_ldB (v := vI _) ?_ T2
 refine a_int (u := .int .i64 (wrap64 (a2_1 - a0_1))) ?_
 refine a_int (u := .int .i64 (wrap64 ((wrap64 (a1_0 - a0_0)) * (wrap64 (a2_1 - a0_1))))) ?_
 refine a_faB (q := 1) ?_ D51_1
 refine a_ldB (v := vI _) ?_ T2
 refine a_faB (q := 1) ?_ D51_1
 refine a_ldB (v := vI _) ?_ T2
 refine a_int (u := .int .i64 (wrap64 (a1_1 - a0_1))) ?_
 refine a_faB (q := 0) ?_ D51_0
 refine a_ldB (v := vI _) ?_ T2
 refine a_faB (q := 0) ?_ D51_0
 refine a_ldB (v := vI _) ?_ T2
 refine a_int (u := .int .i64 (wrap64 (a2_0 - a0_0))) ?_
 refine a_int (u := .int .i64 (wrap64 ((wrap64 (a1_1 - a0_1)) * (wrap64 (a2_0 - a0_0))))) ?_
 refine a_int (u := .int .i64 (wrap64 ((wrap64 ((wrap64 (a1_0 - a0_0)) * (wrap64 (a2_1 - a0_1)))) - (wrap64 ((wrap64 (a1_1 - a0_1)) * (wrap64 (a2_0 - a0_0))))))) ?_
 refine a_move (v := vI _) ?_
 refine RA.nil nofun ?_
 refine AG.seq ?_
 refine AG.block ?_
 refine AG.seq ?_
 refine AG.region HM ?_
 refine a_move (v := vI _) ?_
 refine a_int (u := .bool (decide ((wrap64 ((wrap64 ((wrap64 (a1_0 - a0_0)) * (wrap64 (a2_1 - a0_1)))) - (wrap64 ((wrap64 (a1_1 - a0_1)) * (wrap64 (a2_0 - a0_0)))))) > 0))) ?_
 refine a_move (v := vB _) ?_
 refine RA.nil nofun ?_
 by_cases hc1 : (wrap64 ((wrap64 ((wrap64 (a1_0 - a0_0)) * (wrap64 (a2_1 - a0_1)))) - (wrap64 ((wrap64 (a1_1 - a0_1)) * (wrap64 (a2_0 - a0_0)))))) > 0
 ·rw [if_pos hc1] at H
  refine AG.yes rfl (decide_eq_true hc1) ?_
  refine AG.seq ?_
  refine AG.region HM ?_
  refine a_move (v := vI _) ?_
  refine RA.nil nofun ?_
  refine AG.ret ?_
  obtain rfl := Option.some.inj H
  exact RetP.mk id ⟨rfl, trivial⟩ trivial rfl
 ·rw [if_neg hc1] at H
  refine AG.no rfl (decide_eq_false hc1) ?_
  refine AG.seq ?_
  refine AG.region HM ?_
  refine a_move (v := vI _) ?_
  refine a_int (u := .bool (decide ((wrap64 ((wrap64 ((wrap64 (a1_0 - a0_0)) * (wrap64 (a2_1 - a0_1)))) - (wrap64 ((wrap64 (a1_1 - a0_1)) * (wrap64 (a2_0 - a0_0)))))) < 0))) ?_
  refine a_move (v := vB _) ?_
  refine RA.nil nofun ?_
  by_cases hc2 : (wrap64 ((wrap64 ((wrap64 (a1_0 - a0_0)) * (wrap64 (a2_1 - a0_1)))) - (wrap64 ((wrap64 (a1_1 - a0_1)) * (wrap64 (a2_0 - a0_0)))))) < 0
  ·rw [if_pos hc2] at H
   refine AG.yes rfl (decide_eq_true hc2) ?_
   refine AG.seq ?_
   refine AG.region HM ?_
   refine a_move (v := vI _) ?_
   refine RA.nil nofun ?_
   refine AG.ret ?_
   obtain rfl := Option.some.inj H
   exact RetP.mk id ⟨rfl, trivial⟩ trivial rfl
  ·rw [if_neg hc2] at H
   refine AG.no rfl (decide_eq_false hc2) ?_
   refine AG.skip ?_
   refine AG.seq ?_
   refine AG.region HM ?_
   refine a_move (v := vI _) ?_
   refine RA.nil nofun ?_
   refine AG.ret ?_
   obtain rfl := Option.some.inj H
   exact RetP.mk id ⟨rfl, trivial⟩ trivial rfl
/-! ### impl_on: function 88 -/
def impl_on.f (a0_0 : Int) (a0_1 : Int) (a1_0 : Int) (a1_1 : Int) (a2_0 : Int) (a2_1 : Int) : Option (Bool) := (impl_side.f a0_0 a0_1 a1_0 a1_1 a2_0 a2_1).bind fun t1 => (if t1 = 0 then ((impl_within.f a2_0 (mn a0_0 a1_0) (mx a0_0 a1_0)).bind fun t4 => (if t4 = true then ((impl_within.f a2_1 (mn a0_1 a1_1) (mx a0_1 a1_1)).bind fun t7 => (some t7)) else (some false))) else (some false))
set_option maxRecDepth 100000 in
theorem impl_on.ok {a0_0 : Int} {a0_1 : Int} {a1_0 : Int} {a1_1 : Int} {a2_0 : Int} {a2_1 : Int} {r : Bool} (H : impl_on.f a0_0 a0_1 a1_0 a1_1 a2_0 a2_1 = some r) : OkF Tryz.prog 88 [.agg [.d (.v (.int .i64 a0_0)), .d (.v (.int .i64 a0_1))], .agg [.d (.v (.int .i64 a1_0)), .d (.v (.int .i64 a1_1))], .agg [.d (.v (.int .i64 a2_0)), .d (.v (.int .i64 a2_1))]] [] (.c (.d (.v (.bool r)))) [] := by
 unfold impl_on.f at H
 refine OkF.of (N := 42) (rs := [6]) (avs := [.c (.d (.v (.bool r)))]) Tryz.func88 rfl rfl (fun _ _ => results_tmp rfl _ _ _) (by decide) rfl rfl rfl rfl (fun w0 S => ?_)
 refine AG.seq ?_
 refine AG.region HM ?_
 refine a_box 200 ?_
 refine a_box 201 ?_
 refine a_box 202 ?_
 refine a_move (v := vB _) ?_
 refine RA.nil nofun ?_
 refine AG.seq ?_
 refine AG.region HM ?_
 refine a_ldB (v := .agg [_, _]) ?_ T51
 refine a_ldB (v := .agg [_, _]) ?_ T51
 refine a_ldB (v := .agg [_, _]) ?_ T51
 obtain ⟨t1, e2, H⟩ := bindO H
 refine a_call (v := vI t1) (nk := []) (L := []) ?_ rfl (impl_side.ok e2) id (qg (qg (qg qn))) trivial trivial trivial rfl
 refine a_int (u := .bool ((t1 == 0))) ?_
 refine a_move (v := vB _) ?_
 by_cases hc3 : t1 = 0
 ·rw [if_pos hc3] at H
  refine a_faB (q := 0) ?_ D51_0 (hg := Gs.yes rfl rfl rfl (beq_iff_eq.2 hc3))
  refine a_ldB (v := vI _) ?_ T2 (hg := Gs.yes rfl rfl rfl (beq_iff_eq.2 hc3))
  refine a_faB (q := 0) ?_ D51_0 (hg := Gs.yes rfl rfl rfl (beq_iff_eq.2 hc3))
  refine a_ldB (v := vI _) ?_ T2 (hg := Gs.yes rfl rfl rfl (beq_iff_eq.2 hc3))
  refine a_faB (q := 0) ?_ D51_0 (hg := Gs.yes rfl rfl rfl (beq_iff_eq.2 hc3))
  refine a_ldB (v := vI _) ?_ T2 (hg := Gs.yes rfl rfl rfl (beq_iff_eq.2 hc3))
  refine a_minmax (mx := false) (r := mn a0_0 a1_0) ?_ (hg := Gs.yes rfl rfl rfl (beq_iff_eq.2 hc3))
  refine a_faB (q := 0) ?_ D51_0 (hg := Gs.yes rfl rfl rfl (beq_iff_eq.2 hc3))
  refine a_ldB (v := vI _) ?_ T2 (hg := Gs.yes rfl rfl rfl (beq_iff_eq.2 hc3))
  refine a_faB (q := 0) ?_ D51_0 (hg := Gs.yes rfl rfl rfl (beq_iff_eq.2 hc3))
  refine a_ldB (v := vI _) ?_ T2 (hg := Gs.yes rfl rfl rfl (beq_iff_eq.2 hc3))
  refine a_minmax (mx := true) (r := mx a0_0 a1_0) ?_ (hg := Gs.yes rfl rfl rfl (beq_iff_eq.2 hc3))
  obtain ⟨t4, e5, H⟩ := bindO H
  refine a_call (v := vB t4) (nk := []) (L := []) ?_ rfl (impl_within.ok e5) id (qd (qd (qd qn))) trivial trivial trivial rfl (hg := Gs.yes rfl rfl rfl (beq_iff_eq.2 hc3))
  refine a_pick (b := true) (v := vB _) ?_ (beq_iff_eq.2 hc3)
  refine a_move (v := vB _) ?_
  by_cases hc6 : t4 = true
  ·rw [if_pos hc6] at H
   refine a_faB (q := 1) ?_ D51_1 (hg := Gs.yes rfl rfl rfl hc6)
   refine a_ldB (v := vI _) ?_ T2 (hg := Gs.yes rfl rfl rfl hc6)
   refine a_faB (q := 1) ?_ D51_1 (hg := Gs.yes rfl rfl rfl hc6)
   refine a_ldB (v := vI _) ?_ T2 (hg := Gs.yes rfl rfl rfl hc6)
   refine a_faB (q := 1) ?_ D51_1 (hg := Gs.yes rfl rfl rfl hc6)
   refine a_ldB (v := vI _) ?_ T2 (hg := Gs.yes rfl rfl rfl hc6)
   refine a_minmax (mx := false) (r := mn a0_1 a1_1) ?_ (hg := Gs.yes rfl rfl rfl hc6)
   refine a_faB (q := 1) ?_ D51_1 (hg := Gs.yes rfl rfl rfl hc6)
   refine a_ldB (v := vI _) ?_ T2 (hg := Gs.yes rfl rfl rfl hc6)
   refine a_faB (q := 1) ?_ D51_1 (hg := Gs.yes rfl rfl rfl hc6)
   refine a_ldB (v := vI _) ?_ T2 (hg := Gs.yes rfl rfl rfl hc6)
   refine a_minmax (mx := true) (r := mx a0_1 a1_1) ?_ (hg := Gs.yes rfl rfl rfl hc6)
   obtain ⟨t7, e8, H⟩ := bindO H
   refine a_call (v := vB t7) (nk := []) (L := []) ?_ rfl (impl_within.ok e8) id (qd (qd (qd qn))) trivial trivial trivial rfl (hg := Gs.yes rfl rfl rfl hc6)
   refine a_pick (b := true) (v := vB _) ?_ hc6
   refine a_move (v := vB _) ?_
   refine RA.nil nofun ?_
   refine AG.ret ?_
   obtain rfl := Option.some.inj H
   exact RetP.mk id ⟨rfl, trivial⟩ trivial rfl
  ·rw [if_neg hc6] at H
   refine RA.skip rfl rfl rfl rfl rfl (Bool.eq_false_iff.2 hc6) (by decide) ?_
   refine RA.skip rfl rfl rfl rfl rfl (Bool.eq_false_iff.2 hc6) (by decide) ?_
   refine RA.skip rfl rfl rfl rfl rfl (Bool.eq_false_iff.2 hc6) (by decide) ?_
   refine RA.skip rfl rfl rfl rfl rfl (Bool.eq_false_iff.2 hc6) (by decide) ?_
   refine RA.skip rfl rfl rfl rfl rfl (Bool.eq_false_iff.2 hc6) (by decide) ?_
   refine RA.skip rfl rfl rfl rfl rfl (Bool.eq_false_iff.2 hc6) (by decide) ?_
   refine RA.skip rfl rfl rfl rfl rfl (Bool.eq_false_iff.2 hc6) (by decide) ?_
   refine RA.skip rfl rfl rfl rfl rfl (Bool.eq_false_iff.2 hc6) (by decide) ?_
   refine RA.skip rfl rfl rfl rfl rfl (Bool.eq_false_iff.2 hc6) (by decide) ?_
   refine RA.skip rfl rfl rfl rfl rfl (Bool.eq_false_iff.2 hc6) (by decide) ?_
   refine RA.skip rfl rfl rfl rfl rfl (Bool.eq_false_iff.2 hc6) (by decide) ?_
   refine RA.skip rfl rfl rfl rfl rfl (Bool.eq_false_iff.2 hc6) (by decide) ?_
   refine RA.skip rfl rfl rfl rfl rfl (Bool.eq_false_iff.2 hc6) (by decide) ?_
   refine a_pick (b := false) (v := vB _) ?_ (Bool.eq_false_iff.2 hc6)
   refine a_move (v := vB _) ?_
   refine RA.nil nofun ?_
   refine AG.ret ?_
   obtain rfl := Option.some.inj H
   exact RetP.mk id ⟨rfl, trivial⟩ trivial rfl
 ·rw [if_neg hc3] at H
  refine RA.skip rfl rfl rfl rfl rfl (beq_eq_false_iff_ne.2 hc3) (by decide) ?_
  refine RA.skip rfl rfl rfl rfl rfl (beq_eq_false_iff_ne.2 hc3) (by decide) ?_
  refine RA.skip rfl rfl rfl rfl rfl (beq_eq_false_iff_ne.2 hc3) (by decide) ?_
  refine RA.skip rfl rfl rfl rfl rfl (beq_eq_false_iff_ne.2 hc3) (by decide) ?_
  refine RA.skip rfl rfl rfl rfl rfl (beq_eq_false_iff_ne.2 hc3) (by decide) ?_
  refine RA.skip rfl rfl rfl rfl rfl (beq_eq_false_iff_ne.2 hc3) (by decide) ?_
  refine RA.skip rfl rfl rfl rfl rfl (beq_eq_false_iff_ne.2 hc3) (by decide) ?_
  refine RA.skip rfl rfl rfl rfl rfl (beq_eq_false_iff_ne.2 hc3) (by decide) ?_
  refine RA.skip rfl rfl rfl rfl rfl (beq_eq_false_iff_ne.2 hc3) (by decide) ?_
  refine RA.skip rfl rfl rfl rfl rfl (beq_eq_false_iff_ne.2 hc3) (by decide) ?_
  refine RA.skip rfl rfl rfl rfl rfl (beq_eq_false_iff_ne.2 hc3) (by decide) ?_
  refine RA.skip rfl rfl rfl rfl rfl (beq_eq_false_iff_ne.2 hc3) (by decide) ?_
  refine RA.skip rfl rfl rfl rfl rfl (beq_eq_false_iff_ne.2 hc3) (by decide) ?_
  refine a_pick (b := false) (v := vB _) ?_ (beq_eq_false_iff_ne.2 hc3)
  refine a_move (v := vB _) ?_
  refine RA.skip rfl rfl rfl rfl rfl rfl (by decide) ?_
  refine RA.skip rfl rfl rfl rfl rfl rfl (by decide) ?_
  refine RA.skip rfl rfl rfl rfl rfl rfl (by decide) ?_
  refine RA.skip rfl rfl rfl rfl rfl rfl (by decide) ?_
  refine RA.skip rfl rfl rfl rfl rfl rfl (by decide) ?_
  refine RA.skip rfl rfl rfl rfl rfl rfl (by decide) ?_
  refine RA.skip rfl rfl rfl rfl rfl rfl (by decide) ?_
  refine RA.skip rfl rfl rfl rfl rfl rfl (by decide) ?_
  refine RA.skip rfl rfl rfl rfl rfl rfl (by decide) ?_
  refine RA.skip rfl rfl rfl rfl rfl rfl (by decide) ?_
  refine RA.skip rfl rfl rfl rfl rfl rfl (by decide) ?_
  refine RA.skip rfl rfl rfl rfl rfl rfl (by decide) ?_
  refine RA.skip rfl rfl rfl rfl rfl rfl (by decide) ?_
  refine a_pick (b := false) (v := vB _) ?_ rfl
  refine a_move (v := vB _) ?_
  refine RA.nil nofun ?_
  refine AG.ret ?_
  obtain rfl := Option.some.inj H
  exact RetP.mk id ⟨rfl, trivial⟩ trivial rfl
/-! ### impl_crossing: function 111 -/
def impl_crossing.f (a0_0 : Int) (a0_1 : Int) (a1_0 : Int) (a1_1 : Int) (a2_0 : Int) (a2_1 : Int) (a3_0 : Int) (a3_1 : Int) : Option (Bool) := (impl_side.f a0_0 a0_1 a1_0 a1_1 a2_0 a2_1).bind fun t1 => ((impl_side.f a0_0 a0_1 a1_0 a1_1 a3_0 a3_1).bind fun t3 => (if (wrap64 (t1 * t3)) < 0 then ((impl_side.f a2_0 a2_1 a3_0 a3_1 a0_0 a0_1).bind fun t6 => ((impl_side.f a2_0 a2_1 a3_0 a3_1 a1_0 a1_1).bind fun t8 => (some (decide ((wrap64 (t6 * t8)) < 0))))) else (some false)))
set_option maxRecDepth 100000 in
theorem impl_crossing.ok {a0_0 : Int} {a0_1 : Int} {a1_0 : Int} {a1_1 : Int} {a2_0 : Int} {a2_1 : Int} {a3_0 : Int} {a3_1 : Int} {r : Bool} (H : impl_crossing.f a0_0 a0_1 a1_0 a1_1 a2_0 a2_1 a3_0 a3_1 = some r) : OkF Tryz.prog 111 [.agg [.d (.v (.int .i64 a0_0)), .d (.v (.int .i64 a0_1))], .agg [.d (.v (.int .i64 a1_0)), .d (.v (.int .i64 a1_1))], .agg [.d (.v (.int .i64 a2_0)), .d (.v (.int .i64 a2_1))], .agg [.d (.v (.int .i64 a3_0)), .d (.v (.int .i64 a3_1))]] [] (.c (.d (.v (.bool r)))) [] := by
 unfold impl_crossing.f at H
 refine OkF.of (N := 31) (rs := [8]) (avs := [.c (.d (.v (.bool r)))]) Tryz.func111 rfl rfl (fun _ _ => results_tmp rfl _ _ _) (by decide) rfl rfl rfl rfl (fun w0 S => ?_)
 refine AG.seq ?_
 refine AG.region HM ?_
 refine a_box 200 ?_
 refine a_box 201 ?_
 refine a_box 202 ?_
 refine a_box 203 ?_
 refine a_move (v := vB _) ?_
 refine RA.nil nofun ?_
 refine AG.seq ?_
 refine AG.region HM ?_
 refine a_ldB (v := .agg [_, _]) ?_ T51
 refine a_ldB (v := .agg [_, _]) ?_ T51
 refine a_ldB (v := .agg [_, _]) ?_ T51
 obtain ⟨t1, e2, H⟩ := bindO H
 refine a_call (v := vI t1) (nk := []) (L := []) ?_ rfl (impl_side.ok e2) id (qg (qg (qg qn))) trivial trivial trivial rfl
 refine a_ldB (v := .agg [_, _]) ?_ T51
 refine a_ldB (v := .agg [_, _]) ?_ T51
 refine a_ldB (v := .agg [_, _]) ?_ T51
 obtain ⟨t3, e4, H⟩ := bindO H
 refine a_call (v := vI t3) (nk := []) (L := []) ?_ rfl (impl_side.ok e4) id (qg (qg (qg qn))) trivial trivial trivial rfl
 refine a_int (u := .int .i64 (wrap64 (t1 * t3))) ?_
 refine a_int (u := .bool (decide ((wrap64 (t1 * t3)) < 0))) ?_
 refine a_move (v := vB _) ?_
 by_cases hc5 : (wrap64 (t1 * t3)) < 0
 ·rw [if_pos hc5] at H
  refine a_ldB (v := .agg [_, _]) ?_ T51 (hg := Gs.yes rfl rfl rfl (decide_eq_true hc5))
  refine a_ldB (v := .agg [_, _]) ?_ T51 (hg := Gs.yes rfl rfl rfl (decide_eq_true hc5))
  refine a_ldB (v := .agg [_, _]) ?_ T51 (hg := Gs.yes rfl rfl rfl (decide_eq_true hc5))
  obtain ⟨t6, e7, H⟩ := bindO H
  refine a_call (v := vI t6) (nk := []) (L := []) ?_ rfl (impl_side.ok e7) id (qg (qg (qg qn))) trivial trivial trivial rfl (hg := Gs.yes rfl rfl rfl (decide_eq_true hc5))
  refine a_ldB (v := .agg [_, _]) ?_ T51 (hg := Gs.yes rfl rfl rfl (decide_eq_true hc5))
  refine a_ldB (v := .agg [_, _]) ?_ T51 (hg := Gs.yes rfl rfl rfl (decide_eq_true hc5))
  refine a_ldB (v := .agg [_, _]) ?_ T51 (hg := Gs.yes rfl rfl rfl (decide_eq_true hc5))
  obtain ⟨t8, e9, H⟩ := bindO H
  refine a_call (v := vI t8) (nk := []) (L := []) ?_ rfl (impl_side.ok e9) id (qg (qg (qg qn))) trivial trivial trivial rfl (hg := Gs.yes rfl rfl rfl (decide_eq_true hc5))
  refine a_int (u := .int .i64 (wrap64 (t6 * t8))) ?_ (hg := Gs.yes rfl rfl rfl (decide_eq_true hc5))
  refine a_int (u := .bool (decide ((wrap64 (t6 * t8)) < 0))) ?_ (hg := Gs.yes rfl rfl rfl (decide_eq_true hc5))
  refine a_pick (b := true) (v := vB _) ?_ (decide_eq_true hc5)
  refine a_move (v := vB _) ?_
  refine RA.nil (fun _ => by kernel_rfl) ?_
  refine AG.ret ?_
  obtain rfl := Option.some.inj H
  exact RetP.mk id ⟨rfl, trivial⟩ trivial rfl
 ·rw [if_neg hc5] at H
  refine RA.skip rfl rfl rfl rfl rfl (decide_eq_false hc5) (by decide) ?_
  refine RA.skip rfl rfl rfl rfl rfl (decide_eq_false hc5) (by decide) ?_
  refine RA.skip rfl rfl rfl rfl rfl (decide_eq_false hc5) (by decide) ?_
  refine RA.skip rfl rfl rfl rfl rfl (decide_eq_false hc5) (by decide) ?_
  refine RA.skip rfl rfl rfl rfl rfl (decide_eq_false hc5) (by decide) ?_
  refine RA.skip rfl rfl rfl rfl rfl (decide_eq_false hc5) (by decide) ?_
  refine RA.skip rfl rfl rfl rfl rfl (decide_eq_false hc5) (by decide) ?_
  refine RA.skip rfl rfl rfl rfl rfl (decide_eq_false hc5) (by decide) ?_
  refine RA.skip rfl rfl rfl rfl rfl (decide_eq_false hc5) (by decide) ?_
  refine RA.skip rfl rfl rfl rfl rfl (decide_eq_false hc5) (by decide) ?_
  refine a_pick (b := false) (v := vB _) ?_ (decide_eq_false hc5)
  refine a_move (v := vB _) ?_
  refine RA.nil (fun _ => by kernel_rfl) ?_
  refine AG.ret ?_
  obtain rfl := Option.some.inj H
  exact RetP.mk id ⟨rfl, trivial⟩ trivial rfl
/-! ### impl_touching: function 89 -/
def impl_touching.f (a0_0 : Int) (a0_1 : Int) (a1_0 : Int) (a1_1 : Int) (a2_0 : Int) (a2_1 : Int) (a3_0 : Int) (a3_1 : Int) : Option (Bool) := (impl_crossing.f a0_0 a0_1 a1_0 a1_1 a2_0 a2_1 a3_0 a3_1).bind fun t1 => (if t1 = true then (some true) else ((impl_on.f a0_0 a0_1 a1_0 a1_1 a2_0 a2_1).bind fun t4 => (if t4 = true then (some true) else ((impl_on.f a0_0 a0_1 a1_0 a1_1 a3_0 a3_1).bind fun t7 => (if t7 = true then (some true) else ((impl_on.f a2_0 a2_1 a3_0 a3_1 a0_0 a0_1).bind fun t10 => (if t10 = true then (some true) else ((impl_on.f a2_0 a2_1 a3_0 a3_1 a1_0 a1_1).bind fun t13 => (some t13)))))))))
set_option maxRecDepth 100000 in
theorem impl_touching.ok {a0_0 : Int} {a0_1 : Int} {a1_0 : Int} {a1_1 : Int} {a2_0 : Int} {a2_1 : Int} {a3_0 : Int} {a3_1 : Int} {r : Bool} (H : impl_touching.f a0_0 a0_1 a1_0 a1_1 a2_0 a2_1 a3_0 a3_1 = some r) : OkF Tryz.prog 89 [.agg [.d (.v (.int .i64 a0_0)), .d (.v (.int .i64 a0_1))], .agg [.d (.v (.int .i64 a1_0)), .d (.v (.int .i64 a1_1))], .agg [.d (.v (.int .i64 a2_0)), .d (.v (.int .i64 a2_1))], .agg [.d (.v (.int .i64 a3_0)), .d (.v (.int .i64 a3_1))]] [] (.c (.d (.v (.bool r)))) [] := by
 unfold impl_touching.f at H
 refine OkF.of (N := 38) (rs := [8]) (avs := [.c (.d (.v (.bool r)))]) Tryz.func89 rfl rfl (fun _ _ => results_tmp rfl _ _ _) (by decide) rfl rfl rfl rfl (fun w0 S => ?_)
 refine AG.seq ?_
 refine AG.region HM ?_
 refine a_box 200 ?_
 refine a_box 201 ?_
 refine a_box 202 ?_
 refine a_box 203 ?_
 refine a_move (v := vB _) ?_
 refine RA.nil nofun ?_
 refine AG.seq ?_
 refine AG.region HM ?_
 refine a_ldB (v := .agg [_, _]) ?_ T51
 refine a_ldB (v := .agg [_, _]) ?_ T51
 refine a_ldB (v := .agg [_, _]) ?_ T51
 refine a_ldB (v := .agg [_, _]) ?_ T51
 obtain ⟨t1, e2, H⟩ := bindO H
 refine a_call (v := vB t1) (nk := []) (L := []) ?_ rfl (impl_crossing.ok e2) id (qg (qg (qg (qg qn)))) trivial trivial trivial rfl
 refine a_move (v := vB _) ?_
 by_cases hc3 : t1 = true
 ·rw [if_pos hc3] at H
  refine RA.skip rfl rfl rfl rfl rfl hc3 (by decide) ?_
  refine RA.skip rfl rfl rfl rfl rfl hc3 (by decide) ?_
  refine RA.skip rfl rfl rfl rfl rfl hc3 (by decide) ?_
  refine RA.skip rfl rfl rfl rfl rfl hc3 (by decide) ?_
  refine a_pick (b := true) (v := vB _) ?_ hc3
  refine a_move (v := vB _) ?_
  refine RA.skip rfl rfl rfl rfl rfl rfl (by decide) ?_
  refine RA.skip rfl rfl rfl rfl rfl rfl (by decide) ?_
  refine RA.skip rfl rfl rfl rfl rfl rfl (by decide) ?_
  refine RA.skip rfl rfl rfl rfl rfl rfl (by decide) ?_
  refine a_pick (b := true) (v := vB _) ?_ rfl
  refine a_move (v := vB _) ?_
  refine RA.skip rfl rfl rfl rfl rfl rfl (by decide) ?_
  refine RA.skip rfl rfl rfl rfl rfl rfl (by decide) ?_
  refine RA.skip rfl rfl rfl rfl rfl rfl (by decide) ?_
  refine RA.skip rfl rfl rfl rfl rfl rfl (by decide) ?_
  refine a_pick (b := true) (v := vB _) ?_ rfl
  refine a_move (v := vB _) ?_
  refine RA.skip rfl rfl rfl rfl rfl rfl (by decide) ?_
  refine RA.skip rfl rfl rfl rfl rfl rfl (by decide) ?_
  refine RA.skip rfl rfl rfl rfl rfl rfl (by decide) ?_
  refine RA.skip rfl rfl rfl rfl rfl rfl (by decide) ?_
  refine a_pick (b := true) (v := vB _) ?_ rfl
  refine a_move (v := vB _) ?_
  refine RA.nil nofun ?_
  refine AG.ret ?_
  obtain rfl := Option.some.inj H
  exact RetP.mk id ⟨rfl, trivial⟩ trivial rfl
 ·rw [if_neg hc3] at H
  refine a_ldB (v := .agg [_, _]) ?_ T51 (hg := Gs.yes rfl rfl rfl (Bool.eq_false_iff.2 hc3))
  refine a_ldB (v := .agg [_, _]) ?_ T51 (hg := Gs.yes rfl rfl rfl (Bool.eq_false_iff.2 hc3))
  refine a_ldB (v := .agg [_, _]) ?_ T51 (hg := Gs.yes rfl rfl rfl (Bool.eq_false_iff.2 hc3))
  obtain ⟨t4, e5, H⟩ := bindO H
  refine a_call (v := vB t4) (nk := []) (L := []) ?_ rfl (impl_on.ok e5) id (qg (qg (qg qn))) trivial trivial trivial rfl (hg := Gs.yes rfl rfl rfl (Bool.eq_false_iff.2 hc3))
  refine a_pick (b := false) (v := vB _) ?_ (Bool.eq_false_iff.2 hc3)
  refine a_move (v := vB _) ?_
  by_cases hc6 : t4 = true
  ·rw [if_pos hc6] at H
   refine RA.skip rfl rfl rfl rfl rfl hc6 (by decide) ?_
   refine RA.skip rfl rfl rfl rfl rfl hc6 (by decide) ?_
   refine RA.skip rfl rfl rfl rfl rfl hc6 (by decide) ?_
   refine RA.skip rfl rfl rfl rfl rfl hc6 (by decide) ?_
   refine a_pick (b := true) (v := vB _) ?_ hc6
   refine a_move (v := vB _) ?_
   refine RA.skip rfl rfl rfl rfl rfl rfl (by decide) ?_
   refine RA.skip rfl rfl rfl rfl rfl rfl (by decide) ?_
   refine RA.skip rfl rfl rfl rfl rfl rfl (by decide) ?_
   refine RA.skip rfl rfl rfl rfl rfl rfl (by decide) ?_
   refine a_pick (b := true) (v := vB _) ?_ rfl
   refine a_move (v := vB _) ?_
   refine RA.skip rfl rfl rfl rfl rfl rfl (by decide) ?_
   refine RA.skip rfl rfl rfl rfl rfl rfl (by decide) ?_
   refine RA.skip rfl rfl rfl rfl rfl rfl (by decide) ?_
   refine RA.skip rfl rfl rfl rfl rfl rfl (by decide) ?_
   refine a_pick (b := true) (v := vB _) ?_ rfl
   refine a_move (v := vB _) ?_
   refine RA.nil nofun ?_
   refine AG.ret ?_
   obtain rfl := Option.some.inj H
   exact RetP.mk id ⟨rfl, trivial⟩ trivial rfl
  ·rw [if_neg hc6] at H
   refine a_ldB (v := .agg [_, _]) ?_ T51 (hg := Gs.yes rfl rfl rfl (Bool.eq_false_iff.2 hc6))
   refine a_ldB (v := .agg [_, _]) ?_ T51 (hg := Gs.yes rfl rfl rfl (Bool.eq_false_iff.2 hc6))
   refine a_ldB (v := .agg [_, _]) ?_ T51 (hg := Gs.yes rfl rfl rfl (Bool.eq_false_iff.2 hc6))
   obtain ⟨t7, e8, H⟩ := bindO H
   refine a_call (v := vB t7) (nk := []) (L := []) ?_ rfl (impl_on.ok e8) id (qg (qg (qg qn))) trivial trivial trivial rfl (hg := Gs.yes rfl rfl rfl (Bool.eq_false_iff.2 hc6))
   refine a_pick (b := false) (v := vB _) ?_ (Bool.eq_false_iff.2 hc6)
   refine a_move (v := vB _) ?_
   by_cases hc9 : t7 = true
   ·rw [if_pos hc9] at H
    refine RA.skip rfl rfl rfl rfl rfl hc9 (by decide) ?_
    refine RA.skip rfl rfl rfl rfl rfl hc9 (by decide) ?_
    refine RA.skip rfl rfl rfl rfl rfl hc9 (by decide) ?_
    refine RA.skip rfl rfl rfl rfl rfl hc9 (by decide) ?_
    refine a_pick (b := true) (v := vB _) ?_ hc9
    refine a_move (v := vB _) ?_
    refine RA.skip rfl rfl rfl rfl rfl rfl (by decide) ?_
    refine RA.skip rfl rfl rfl rfl rfl rfl (by decide) ?_
    refine RA.skip rfl rfl rfl rfl rfl rfl (by decide) ?_
    refine RA.skip rfl rfl rfl rfl rfl rfl (by decide) ?_
    refine a_pick (b := true) (v := vB _) ?_ rfl
    refine a_move (v := vB _) ?_
    refine RA.nil nofun ?_
    refine AG.ret ?_
    obtain rfl := Option.some.inj H
    exact RetP.mk id ⟨rfl, trivial⟩ trivial rfl
   ·rw [if_neg hc9] at H
    refine a_ldB (v := .agg [_, _]) ?_ T51 (hg := Gs.yes rfl rfl rfl (Bool.eq_false_iff.2 hc9))
    refine a_ldB (v := .agg [_, _]) ?_ T51 (hg := Gs.yes rfl rfl rfl (Bool.eq_false_iff.2 hc9))
    refine a_ldB (v := .agg [_, _]) ?_ T51 (hg := Gs.yes rfl rfl rfl (Bool.eq_false_iff.2 hc9))
    obtain ⟨t10, e11, H⟩ := bindO H
    refine a_call (v := vB t10) (nk := []) (L := []) ?_ rfl (impl_on.ok e11) id (qg (qg (qg qn))) trivial trivial trivial rfl (hg := Gs.yes rfl rfl rfl (Bool.eq_false_iff.2 hc9))
    refine a_pick (b := false) (v := vB _) ?_ (Bool.eq_false_iff.2 hc9)
    refine a_move (v := vB _) ?_
    by_cases hc12 : t10 = true
    ·rw [if_pos hc12] at H
     refine RA.skip rfl rfl rfl rfl rfl hc12 (by decide) ?_
     refine RA.skip rfl rfl rfl rfl rfl hc12 (by decide) ?_
     refine RA.skip rfl rfl rfl rfl rfl hc12 (by decide) ?_
     refine RA.skip rfl rfl rfl rfl rfl hc12 (by decide) ?_
     refine a_pick (b := true) (v := vB _) ?_ hc12
     refine a_move (v := vB _) ?_
     refine RA.nil nofun ?_
     refine AG.ret ?_
     obtain rfl := Option.some.inj H
     exact RetP.mk id ⟨rfl, trivial⟩ trivial rfl
    ·rw [if_neg hc12] at H
     refine a_ldB (v := .agg [_, _]) ?_ T51 (hg := Gs.yes rfl rfl rfl (Bool.eq_false_iff.2 hc12))
     refine a_ldB (v := .agg [_, _]) ?_ T51 (hg := Gs.yes rfl rfl rfl (Bool.eq_false_iff.2 hc12))
     refine a_ldB (v := .agg [_, _]) ?_ T51 (hg := Gs.yes rfl rfl rfl (Bool.eq_false_iff.2 hc12))
     obtain ⟨t13, e14, H⟩ := bindO H
     refine a_call (v := vB t13) (nk := []) (L := []) ?_ rfl (impl_on.ok e14) id (qg (qg (qg qn))) trivial trivial trivial rfl (hg := Gs.yes rfl rfl rfl (Bool.eq_false_iff.2 hc12))
     refine a_pick (b := false) (v := vB _) ?_ (Bool.eq_false_iff.2 hc12)
     refine a_move (v := vB _) ?_
     refine RA.nil nofun ?_
     refine AG.ret ?_
     obtain rfl := Option.some.inj H
     exact RetP.mk id ⟨rfl, trivial⟩ trivial rfl
/-! ### impl_doubled: function 90 -/
def impl_doubled.l0 : Nat → List S50 → Int → List S50 → Int → Int → Option (Int)
 | 0, _, _, _, _, _ => none
 | k + 1, x0, x3, x7, x8, x9 => if x9 < x8 then (if 0 ≤ x9 then (if x9 < (x7.length : Int) then (if (x0.length : Int) = 0 then (none) else (if 0 ≤ (Int.tmod (wrap64 (x9 + 1)) (x0.length : Int)) then (if (Int.tmod (wrap64 (x9 + 1)) (x0.length : Int)) < (x0.length : Int) then (impl_doubled.l0 k x0 (wrap64 (x3 + (wrap64 ((wrap64 (((rd50 x7 x9).f0) * ((rd50 x0 (Int.tmod (wrap64 (x9 + 1)) (x0.length : Int))).f1))) - (wrap64 (((rd50 x7 x9).f1) * ((rd50 x0 (Int.tmod (wrap64 (x9 + 1)) (x0.length : Int))).f0))))))) x7 x8 (wrap64 (x9 + 1))) else (none)) else (none))) else (none)) else (none)) else (some x3)
def impl_doubled.f (k : Nat) (l0 : List S50) : Option (Int) := impl_doubled.l0 k l0 0 l0 (l0.length : Int) 0
set_option maxRecDepth 100000 in
theorem impl_doubled.ok {k : Nat} {l0 : List S50} {r : Int} (H : impl_doubled.f k l0 = some r) : OkF Tryz.prog 90 [vR 51 (l0.map c50)] [] (.c (.d (.v (.int .i64 r)))) [] := by
 unfold impl_doubled.f at H
 refine OkF.of (N := 37) (rs := [2]) (avs := [.c (.d (.v (.int .i64 r)))]) Tryz.func90 rfl rfl (fun _ _ => results_tmp rfl _ _ _) (by decide) rfl rfl rfl rfl (fun w0 S => ?_)
 refine AG.seq ?_
 refine AG.region HM ?_
 refine a_move (v := vI _) ?_
 refine RA.nil nofun ?_
 refine AG.seq ?_
 refine AG.region HM ?_
 refine a_move (v := vI _) ?_
 refine RA.nil nofun ?_
 refine AG.seq ?_
 refine AG.seq ?_
 refine AG.region HM ?_
 refine a_move (v := vR _ _) ?_
 refine a_lenR ?_ Tryz.underlying30
 refine a_move (v := vI _) ?_
 refine RA.nil nofun ?_
 refine AG.block ?_
 refine AG.loop ?_
 obtain ⟨K0, hK0, gK0⟩ : ∃ K, k ≤ K ∧ K ≤ k := ⟨k, Nat.le_refl k, Nat.le_refl k⟩
 refine AGr.canon id (AGr.loopI (n := k) (fun k s => k ≤ K0 ∧ ∃ (x0 : List S50) (x3 : Int) (x7 : List S50) (x8 : Int) (x9 : Int), impl_doubled.l0 k x0 x3 x7 x8 x9 = some r ∧ s = St.of [(0, vR 51 (x0.map c50)), (3, vI x3), (7, vR 51 (x7.map c50)), (8, vI x8), (9, vI x9)] []) ⟨hK0, _, _, _, _, _, H, rfl⟩ ?_ ?_) ⟨rfl, rfl, rfl, rfl, rfl, trivial⟩ trivial rfl
 ·rintro _ ⟨_, _, _, _, _, _, H, _⟩
  cases H
 ·clear H hK0
  rintro k ih0 _ ⟨hK0, x0, x3, x7, x8, x9, H, rfl⟩
  unfold impl_doubled.l0 at H
  refine AG.seq ?_
  refine AG.region HM ?_
  refine a_int (u := .bool (decide (x9 < x8))) ?_
  refine RA.nil nofun ?_
  refine AG.seq ?_
  by_cases hc1 : x9 < x8
  ·rw [if_pos hc1] at H
   refine AG.yes rfl (decide_eq_true hc1) ?_
   refine AG.skip ?_
   refine AG.seq ?_
   refine AG.block ?_
   refine AG.seq ?_
   refine AG.region HM ?_
   refine a_move (v := vI _) ?_
   by_cases hc2 : 0 ≤ x9
   ·rw [if_pos hc2] at H
    by_cases hc3 : x9 < (x7.length : Int)
    ·rw [if_pos hc3] at H
     refine a_ixR (el := c50 (rd50 x7 x9)) ?_ ⟨hc2, hc3⟩ T51 Tryz.underlying30 (hel := R50 hc2 hc3)
     refine a_ldR (v := .agg [_, _]) ?_ T51
     refine a_alloc (cs := [_, _]) 200 ?_ T51
     refine a_move (v := vI _) ?_
     refine a_stB (cs' := [_, _]) ?_ T51
     refine RA.nil nofun ?_
     refine AG.seq ?_
     refine AG.region HM ?_
     refine a_move (v := vR _ _) ?_
     refine a_move (v := vI _) ?_
     refine a_int (u := .int .i64 (wrap64 (x9 + 1))) ?_
     refine a_move (v := vR _ _) ?_
     refine a_lenR ?_ Tryz.underlying30
     by_cases hc4 : (x0.length : Int) = 0
     ·rw [if_pos hc4] at H
      cases H
     ·rw [if_neg hc4] at H
      refine a_rem (r := Int.tmod (wrap64 (x9 + 1)) (x0.length : Int)) ?_ hc4
      by_cases hc5 : 0 ≤ (Int.tmod (wrap64 (x9 + 1)) (x0.length : Int))
      ·rw [if_pos hc5] at H
       by_cases hc6 : (Int.tmod (wrap64 (x9 + 1)) (x0.length : Int)) < (x0.length : Int)
       ·rw [if_pos hc6] at H
        refine a_ixR (el := c50 (rd50 x0 (Int.tmod (wrap64 (x9 + 1)) (x0.length : Int)))) ?_ ⟨hc5, hc6⟩ T51 Tryz.underlying30 (hel := R50 hc5 hc6)
        refine a_ldR (v := .agg [_, _]) ?_ T51
        refine a_alloc (cs := [_, _]) 201 ?_ T51
        refine a_stB (cs' := [_, _]) ?_ T51
        refine RA.nil nofun ?_
        refine AG.region HM ?_
        refine a_move (v := vI _) ?_
        refine a_faB (q := 0) ?_ D51_0
        refine a_ldB (v := vI _) ?_ T2
        refine a_faB (q := 1) ?_ D51_1
        refine a_ldB (v := vI _) ?_ T2
        refine a_int (u := .int .i64 (wrap64 (((rd50 x7 x9).f0) * ((rd50 x0 (Int.tmod (wrap64 (x9 + 1)) (x0.length : Int))).f1)))) ?_
        refine a_faB (q := 1) ?_ D51_1
        refine a_ldB (v := vI _) ?_ T2
        refine a_faB (q := 0) ?_ D51_0
        refine a_ldB (v := vI _) ?_ T2
        refine a_int (u := .int .i64 (wrap64 (((rd50 x7 x9).f1) * ((rd50 x0 (Int.tmod (wrap64 (x9 + 1)) (x0.length : Int))).f0)))) ?_
        refine a_int (u := .int .i64 (wrap64 ((wrap64 (((rd50 x7 x9).f0) * ((rd50 x0 (Int.tmod (wrap64 (x9 + 1)) (x0.length : Int))).f1))) - (wrap64 (((rd50 x7 x9).f1) * ((rd50 x0 (Int.tmod (wrap64 (x9 + 1)) (x0.length : Int))).f0)))))) ?_
        refine a_int (u := .int .i64 (wrap64 (x3 + (wrap64 ((wrap64 (((rd50 x7 x9).f0) * ((rd50 x0 (Int.tmod (wrap64 (x9 + 1)) (x0.length : Int))).f1))) - (wrap64 (((rd50 x7 x9).f1) * ((rd50 x0 (Int.tmod (wrap64 (x9 + 1)) (x0.length : Int))).f0)))))))) ?_
        refine a_move (v := vI _) ?_
        refine RA.nil nofun ?_
        refine AG.region HM ?_
        refine a_int (u := .int .i64 (wrap64 (x9 + 1))) ?_
        refine a_move (v := vI _) ?_
        refine RA.nil nofun ?_
        exact AGr.canon id (ih0 _ (by omega) _ ⟨by omega, _, _, _, _, _, H, rfl⟩) ⟨rfl, rfl, rfl, rfl, rfl, trivial⟩ trivial rfl
       ·rw [if_neg hc6] at H
        cases H
      ·rw [if_neg hc5] at H
       cases H
    ·rw [if_neg hc3] at H
     cases H
   ·rw [if_neg hc2] at H
    cases H
  ·rw [if_neg hc1] at H
   refine AG.no rfl (decide_eq_false hc1) ?_
   refine AG.exit ?_
   refine AG.seq ?_
   refine AG.region HM ?_
   refine a_move (v := vI _) ?_
   refine a_move (v := vI _) ?_
   refine RA.nil nofun ?_
   refine AG.ret ?_
   obtain rfl := Option.some.inj H
   exact RetP.mk id ⟨rfl, trivial⟩ trivial rfl
/-! ### impl_ValidPolygon: function 69 -/
mutual
def impl_ValidPolygon.j0 : Nat → List S50 → Int → Bool → Option (Bool)
 | 0, _, _, _ => none
 | k + 1, x0, x3, x21 => if x21 = true then (some false) else (impl_ValidPolygon.l0 k x0 x3 (x0.length : Int) 0)
def impl_ValidPolygon.l0 : Nat → List S50 → Int → Int → Int → Option (Bool)
 | 0, _, _, _, _ => none
 | k + 1, x0, x3, x23, x24 => if x24 < x23 then (if 0 ≤ x24 then (if x24 < (x0.length : Int) then (if x3 = 0 then (none) else (if 0 ≤ (Int.tmod (wrap64 (x24 + 1)) x3) then (if (Int.tmod (wrap64 (x24 + 1)) x3) < (x0.length : Int) then (if 0 ≤ (Int.tmod (wrap64 (x24 + 2)) x3) then (if (Int.tmod (wrap64 (x24 + 2)) x3) < (x0.length : Int) then (if (((rd50 x0 x24).f0) == ((rd50 x0 (Int.tmod (wrap64 (x24 + 1)) x3)).f0) && (((rd50 x0 x24).f1) == ((rd50 x0 (Int.tmod (wrap64 (x24 + 1)) x3)).f1))) = true then (impl_ValidPolygon.j1 k x0 x3 x24 ((rd50 x0 x24).f0) ((rd50 x0 x24).f1) ((rd50 x0 (Int.tmod (wrap64 (x24 + 1)) x3)).f0) ((rd50 x0 (Int.tmod (wrap64 (x24 + 1)) x3)).f1) x23 x24 true) else ((impl_on.f ((rd50 x0 x24).f0) ((rd50 x0 x24).f1) ((rd50 x0 (Int.tmod (wrap64 (x24 + 1)) x3)).f0) ((rd50 x0 (Int.tmod (wrap64 (x24 + 1)) x3)).f1) ((rd50 x0 (Int.tmod (wrap64 (x24 + 2)) x3)).f0) ((rd50 x0 (Int.tmod (wrap64 (x24 + 2)) x3)).f1)).bind fun t15 => (if t15 = true then (impl_ValidPolygon.j1 k x0 x3 x24 ((rd50 x0 x24).f0) ((rd50 x0 x24).f1) ((rd50 x0 (Int.tmod (wrap64 (x24 + 1)) x3)).f0) ((rd50 x0 (Int.tmod (wrap64 (x24 + 1)) x3)).f1) x23 x24 true) else ((impl_on.f ((rd50 x0 (Int.tmod (wrap64 (x24 + 1)) x3)).f0) ((rd50 x0 (Int.tmod (wrap64 (x24 + 1)) x3)).f1) ((rd50 x0 (Int.tmod (wrap64 (x24 + 2)) x3)).f0) ((rd50 x0 (Int.tmod (wrap64 (x24 + 2)) x3)).f1) ((rd50 x0 x24).f0) ((rd50 x0 x24).f1)).bind fun t18 => (impl_ValidPolygon.j1 k x0 x3 x24 ((rd50 x0 x24).f0) ((rd50 x0 x24).f1) ((rd50 x0 (Int.tmod (wrap64 (x24 + 1)) x3)).f0) ((rd50 x0 (Int.tmod (wrap64 (x24 + 1)) x3)).f1) x23 x24 t18))))) else (none)) else (none)) else (none)) else (none))) else (none)) else (none)) else ((impl_doubled.f k x0).bind fun t31 => (some (decide (t31 > 0))))
def impl_ValidPolygon.j1 : Nat → List S50 → Int → Int → Int → Int → Int → Int → Int → Int → Bool → Option (Bool)
 | 0, _, _, _, _, _, _, _, _, _, _ => none
 | k + 1, x0, x3, x4, y207_0, y207_1, y208_0, y208_1, x23, x24, x59 => if x59 = true then (some false) else (impl_ValidPolygon.l1 k x0 x3 x4 y207_0 y207_1 y208_0 y208_1 (wrap64 (x4 + 2)) x23 x24)
def impl_ValidPolygon.l1 : Nat → List S50 → Int → Int → Int → Int → Int → Int → Int → Int → Int → Option (Bool)
 | 0, _, _, _, _, _, _, _, _, _, _ => none
 | k + 1, x0, x3, x4, y209_0, y209_1, y210_0, y210_1, x8, x23, x24 => if x8 < x3 then (if x3 = 0 then (none) else (if (Int.tmod (wrap64 (x8 + 1)) x3) = x4 then (impl_ValidPolygon.l1 k x0 x3 x4 y209_0 y209_1 y210_0 y210_1 (wrap64 (x8 + 1)) x23 x24) else (if 0 ≤ x8 then (if x8 < (x0.length : Int) then (if 0 ≤ (Int.tmod (wrap64 (x8 + 1)) x3) then (if (Int.tmod (wrap64 (x8 + 1)) x3) < (x0.length : Int) then ((impl_touching.f y209_0 y209_1 y210_0 y210_1 ((rd50 x0 x8).f0) ((rd50 x0 x8).f1) ((rd50 x0 (Int.tmod (wrap64 (x8 + 1)) x3)).f0) ((rd50 x0 (Int.tmod (wrap64 (x8 + 1)) x3)).f1)).bind fun t28 => (if t28 = true then (some false) else (impl_ValidPolygon.l1 k x0 x3 x4 y209_0 y209_1 y210_0 y210_1 (wrap64 (x8 + 1)) x23 x24))) else (none)) else (none)) else (none)) else (none)))) else (impl_ValidPolygon.l0 k x0 x3 x23 (wrap64 (x24 + 1)))
end
def impl_ValidPolygon.f (k : Nat) (l0 : List S50) : Option (Bool) := if (l0.length : Int) < 3 then (impl_ValidPolygon.j0 k l0 (l0.length : Int) true) else (if (l0.length : Int) > 24 then (impl_ValidPolygon.j0 k l0 (l0.length : Int) true) else ((impl_validPoints.f k l0).bind fun t3 => (impl_ValidPolygon.j0 k l0 (l0.length : Int) (!t3))))
set_option maxRecDepth 100000 in
theorem impl_ValidPolygon.ok {k : Nat} {l0 : List S50} {r : Bool} (H : impl_ValidPolygon.f k l0 = some r) : OkF Tryz.prog 69 [vR 51 (l0.map c50)] [] (.c (.d (.v (.bool r)))) [] := by
 unfold impl_ValidPolygon.f at H
 refine OkF.of (N := 93) (rs := [2]) (avs := [.c (.d (.v (.bool r)))]) Tryz.func69 rfl rfl (fun _ _ => results_tmp rfl _ _ _) (by decide) rfl rfl rfl rfl (fun w0 S => ?_)
 refine AG.seq ?_
 refine AG.region HM ?_
 refine a_move (v := vB _) ?_
 refine RA.nil nofun ?_
 refine AG.seq ?_
 refine AG.region HM ?_
 refine a_move (v := vR _ _) ?_
 refine a_lenR ?_ Tryz.underlying30
 refine a_move (v := vI _) ?_
 refine RA.nil nofun ?_
 refine AG.seq ?_
 refine AG.seq ?_
 refine AG.joinR (fun s => ∃ q, q ≤ k ∧ ∃ (x0 : List S50) (x3 : Int) (x21 : Bool), impl_ValidPolygon.j0 q x0 x3 x21 = some r ∧ s = St.of [(0, vR 51 (x0.map c50)), (3, vI x3), (21, vB x21)] []) ?_ ?_
 ·skip
  refine AG.region HM ?_
  refine a_move (v := vI _) ?_
  refine a_int (u := .bool (decide ((l0.length : Int) < 3))) ?_
  refine a_move (v := vB _) ?_
  by_cases hc1 : (l0.length : Int) < 3
  ·rw [if_pos hc1] at H
   refine RA.skip rfl rfl rfl rfl rfl (decide_eq_true hc1) (by decide) ?_
   refine RA.skip rfl rfl rfl rfl rfl (decide_eq_true hc1) (by decide) ?_
   refine a_pick (b := true) (v := vB _) ?_ (decide_eq_true hc1)
   refine a_move (v := vB _) ?_
   refine RA.skip rfl rfl rfl rfl rfl rfl (by decide) ?_
   refine RA.skip rfl rfl rfl rfl rfl rfl (by decide) ?_
   refine RA.skip rfl rfl rfl rfl rfl rfl (by decide) ?_
   refine a_pick (b := true) (v := vB _) ?_ rfl
   refine RA.nil nofun ?_
   exact CanR.mk id ⟨_, (by omega), _, _, _, H, rfl⟩ ⟨rfl, rfl, rfl, trivial⟩ trivial rfl
  ·rw [if_neg hc1] at H
   refine a_move (v := vI _) ?_ (hg := Gs.yes rfl rfl rfl (decide_eq_false hc1))
   refine a_int (u := .bool (decide ((l0.length : Int) > 24))) ?_ (hg := Gs.yes rfl rfl rfl (decide_eq_false hc1))
   refine a_pick (b := false) (v := vB _) ?_ (decide_eq_false hc1)
   refine a_move (v := vB _) ?_
   by_cases hc2 : (l0.length : Int) > 24
   ·rw [if_pos hc2] at H
    refine RA.skip rfl rfl rfl rfl rfl (decide_eq_true hc2) (by decide) ?_
    refine RA.skip rfl rfl rfl rfl rfl (decide_eq_true hc2) (by decide) ?_
    refine RA.skip rfl rfl rfl rfl rfl (decide_eq_true hc2) (by decide) ?_
    refine a_pick (b := true) (v := vB _) ?_ (decide_eq_true hc2)
    refine RA.nil nofun ?_
    exact CanR.mk id ⟨_, (by omega), _, _, _, H, rfl⟩ ⟨rfl, rfl, rfl, trivial⟩ trivial rfl
   ·rw [if_neg hc2] at H
    refine a_move (v := vR _ _) ?_ (hg := Gs.yes rfl rfl rfl (decide_eq_false hc2))
    obtain ⟨t3, e4, H⟩ := bindO H
    refine a_call (v := vB t3) (nk := []) (L := []) ?_ rfl (impl_validPoints.ok e4) id (qd qn) trivial trivial trivial rfl (hg := Gs.yes rfl rfl rfl (decide_eq_false hc2))
    refine a_un (u := .bool (!t3)) ?_ (hg := Gs.yes rfl rfl rfl (decide_eq_false hc2))
    refine a_pick (b := false) (v := vB _) ?_ (decide_eq_false hc2)
    refine RA.nil nofun ?_
    exact CanR.mk id ⟨_, (by omega), _, _, _, H, rfl⟩ ⟨rfl, rfl, rfl, trivial⟩ trivial rfl
 ·clear H
  rintro _ ⟨k, hj0, x0, x3, x21, H, rfl⟩
  cases k with
  | zero => cases H
  | succ k =>
   rw [impl_ValidPolygon.j0] at H
   by_cases hc5 : x21 = true
   ·rw [if_pos hc5] at H
    refine AG.yes rfl hc5 ?_
    refine AG.seq ?_
    refine AG.region HM ?_
    refine a_move (v := vB _) ?_
    refine RA.nil nofun ?_
    refine AG.ret ?_
    obtain rfl := Option.some.inj H
    exact RetP.mk id ⟨rfl, trivial⟩ trivial rfl
   ·rw [if_neg hc5] at H
    refine AG.no rfl (Bool.eq_false_iff.2 hc5) ?_
    refine AG.skip ?_
    refine AG.seq ?_
    refine AG.seq ?_
    refine AG.region HM ?_
    refine a_move (v := vR _ _) ?_
    refine a_lenR ?_ Tryz.underlying30
    refine a_move (v := vI _) ?_
    refine RA.nil nofun ?_
    refine AG.block ?_
    refine AG.loop ?_
    obtain ⟨K0, hK0, gK0⟩ : ∃ K, k ≤ K ∧ K ≤ k := ⟨k, Nat.le_refl k, Nat.le_refl k⟩
    refine AGr.canon id (AGr.loopI (n := k) (fun k s => k ≤ K0 ∧ ∃ (x0 : List S50) (x3 : Int) (x23 : Int) (x24 : Int), impl_ValidPolygon.l0 k x0 x3 x23 x24 = some r ∧ s = St.of [(0, vR 51 (x0.map c50)), (3, vI x3), (23, vI x23), (24, vI x24)] []) ⟨hK0, _, _, _, _, H, rfl⟩ ?_ ?_) ⟨rfl, rfl, rfl, rfl, trivial⟩ trivial rfl
    ·rintro _ ⟨_, _, _, _, _, H, _⟩
     cases H
    ·clear H hK0
     rintro k ih0 _ ⟨hK0, x0, x3, x23, x24, H, rfl⟩
     unfold impl_ValidPolygon.l0 at H
     refine AG.seq ?_
     refine AG.region HM ?_
     refine a_int (u := .bool (decide (x24 < x23))) ?_
     refine RA.nil nofun ?_
     refine AG.seq ?_
     by_cases hc6 : x24 < x23
     ·rw [if_pos hc6] at H
      refine AG.yes rfl (decide_eq_true hc6) ?_
      refine AG.skip ?_
      refine AG.seq ?_
      refine AG.block ?_
      refine AG.seq ?_
      refine AG.region HM ?_
      refine a_move (v := vI _) ?_
      refine a_move (v := vI _) ?_
      refine RA.nil nofun ?_
      refine AG.seq ?_
      refine AG.region HM ?_
      refine a_move (v := vR _ _) ?_
      refine a_move (v := vI _) ?_
      by_cases hc7 : 0 ≤ x24
      ·rw [if_pos hc7] at H
       by_cases hc8 : x24 < (x0.length : Int)
       ·rw [if_pos hc8] at H
        refine a_ixR (el := c50 (rd50 x0 x24)) ?_ ⟨hc7, hc8⟩ T51 Tryz.underlying30 (hel := R50 hc7 hc8)
        refine a_ldR (v := .agg [_, _]) ?_ T51
        refine a_move (v := vR _ _) ?_
        refine a_move (v := vI _) ?_
        refine a_int (u := .int .i64 (wrap64 (x24 + 1))) ?_
        refine a_move (v := vI _) ?_
        by_cases hc9 : x3 = 0
        ·rw [if_pos hc9] at H
         cases H
        ·rw [if_neg hc9] at H
         refine a_rem (r := Int.tmod (wrap64 (x24 + 1)) x3) ?_ hc9
         by_cases hc10 : 0 ≤ (Int.tmod (wrap64 (x24 + 1)) x3)
         ·rw [if_pos hc10] at H
          by_cases hc11 : (Int.tmod (wrap64 (x24 + 1)) x3) < (x0.length : Int)
          ·rw [if_pos hc11] at H
           refine a_ixR (el := c50 (rd50 x0 (Int.tmod (wrap64 (x24 + 1)) x3))) ?_ ⟨hc10, hc11⟩ T51 Tryz.underlying30 (hel := R50 hc10 hc11)
           refine a_ldR (v := .agg [_, _]) ?_ T51
           refine a_move (v := vR _ _) ?_
           refine a_move (v := vI _) ?_
           refine a_int (u := .int .i64 (wrap64 (x24 + 2))) ?_
           refine a_move (v := vI _) ?_
           refine a_rem (r := Int.tmod (wrap64 (x24 + 2)) x3) ?_ hc9
           by_cases hc12 : 0 ≤ (Int.tmod (wrap64 (x24 + 2)) x3)
           ·rw [if_pos hc12] at H
            by_cases hc13 : (Int.tmod (wrap64 (x24 + 2)) x3) < (x0.length : Int)
            ·rw [if_pos hc13] at H
             refine a_ixR (el := c50 (rd50 x0 (Int.tmod (wrap64 (x24 + 2)) x3))) ?_ ⟨hc12, hc13⟩ T51 Tryz.underlying30 (hel := R50 hc12 hc13)
             refine a_ldR (v := .agg [_, _]) ?_ T51
             refine a_alloc (cs := [_, _]) 202 ?_ T51
             refine a_alloc (cs := [_, _]) 203 ?_ T51
             refine a_alloc (cs := [_, _]) 204 ?_ T51
             refine a_stB (cs' := [_, _]) ?_ T51
             refine a_stB (cs' := [_, _]) ?_ T51
             refine a_stB (cs' := [_, _]) ?_ T51
             refine RA.nil (fun _ => by kernel_rfl) ?_
             refine AG.seq ?_
             refine AG.seq ?_
             refine AG.joinR (fun s => ∃ q, q ≤ k ∧ ∃ (x0 : List S50) (x3 : Int) (x4 : Int) (y207_0 : Int) (y207_1 : Int) (y208_0 : Int) (y208_1 : Int) (x23 : Int) (x24 : Int) (x59 : Bool), impl_ValidPolygon.j1 q x0 x3 x4 y207_0 y207_1 y208_0 y208_1 x23 x24 x59 = some r ∧ s = St.of [(0, vR 51 (x0.map c50)), (3, vI x3), (4, vI x4), (5, .c (.ptr 207 0)), (6, .c (.ptr 208 0)), (23, vI x23), (24, vI x24), (59, vB x59)] [(207, .box 51 [.d (.v (.int .i64 y207_0)), .d (.v (.int .i64 y207_1))]), (208, .box 51 [.d (.v (.int .i64 y208_0)), .d (.v (.int .i64 y208_1))])]) ?_ ?_
             ·skip
              refine AG.region HM ?_
              refine a_ldB (v := .agg [_, _]) ?_ T51
              refine a_ldB (v := .agg [_, _]) ?_ T51
              refine a_eqS (b := (((rd50 x0 x24).f0) == ((rd50 x0 (Int.tmod (wrap64 (x24 + 1)) x3)).f0) && (((rd50 x0 x24).f1) == ((rd50 x0 (Int.tmod (wrap64 (x24 + 1)) x3)).f1)))) ?_ (.inl ⟨rfl, rfl⟩) (Q51 ((rd50 x0 x24).f0) ((rd50 x0 (Int.tmod (wrap64 (x24 + 1)) x3)).f0) ((rd50 x0 x24).f1) ((rd50 x0 (Int.tmod (wrap64 (x24 + 1)) x3)).f1)).1
              refine a_move (v := vB _) ?_
              by_cases hc14 : (((rd50 x0 x24).f0) == ((rd50 x0 (Int.tmod (wrap64 (x24 + 1)) x3)).f0) && (((rd50 x0 x24).f1) == ((rd50 x0 (Int.tmod (wrap64 (x24 + 1)) x3)).f1))) = true
              ·rw [if_pos hc14] at H
               refine RA.skip rfl rfl rfl rfl rfl hc14 (by decide) ?_
               refine RA.skip rfl rfl rfl rfl rfl hc14 (by decide) ?_
               refine RA.skip rfl rfl rfl rfl rfl hc14 (by decide) ?_
               refine RA.skip rfl rfl rfl rfl rfl hc14 (by decide) ?_
               refine a_pick (b := true) (v := vB _) ?_ hc14
               refine a_move (v := vB _) ?_
               refine RA.skip rfl rfl rfl rfl rfl rfl (by decide) ?_
               refine RA.skip rfl rfl rfl rfl rfl rfl (by decide) ?_
               refine RA.skip rfl rfl rfl rfl rfl rfl (by decide) ?_
               refine RA.skip rfl rfl rfl rfl rfl rfl (by decide) ?_
               refine a_pick (b := true) (v := vB _) ?_ rfl
               refine RA.nil nofun ?_
               exact CanR.mk (fun κ => cond (Nat.beq κ 207) 202 (cond (Nat.beq κ 208) 203 (κ))) ⟨_, (by omega), _, _, _, _, _, _, _, _, _, _, H, rfl⟩ ⟨rfl, rfl, rfl, rfl, rfl, rfl, rfl, rfl, trivial⟩ ⟨rfl, rfl, trivial⟩ rfl
              ·rw [if_neg hc14] at H
               refine a_ldB (v := .agg [_, _]) ?_ T51 (hg := Gs.yes rfl rfl rfl (Bool.eq_false_iff.2 hc14))
               refine a_ldB (v := .agg [_, _]) ?_ T51 (hg := Gs.yes rfl rfl rfl (Bool.eq_false_iff.2 hc14))
               refine a_ldB (v := .agg [_, _]) ?_ T51 (hg := Gs.yes rfl rfl rfl (Bool.eq_false_iff.2 hc14))
               obtain ⟨t15, e16, H⟩ := bindO H
               refine a_call (v := vB t15) (nk := []) (L := []) ?_ rfl (impl_on.ok e16) id (qg (qg (qg qn))) trivial trivial trivial rfl (hg := Gs.yes rfl rfl rfl (Bool.eq_false_iff.2 hc14))
               refine a_pick (b := false) (v := vB _) ?_ (Bool.eq_false_iff.2 hc14)
               refine a_move (v := vB _) ?_
               by_cases hc17 : t15 = true
               ·rw [if_pos hc17] at H
                refine RA.skip rfl rfl rfl rfl rfl hc17 (by decide) ?_
                refine RA.skip rfl rfl rfl rfl rfl hc17 (by decide) ?_
                refine RA.skip rfl rfl rfl rfl rfl hc17 (by decide) ?_
                refine RA.skip rfl rfl rfl rfl rfl hc17 (by decide) ?_
                refine a_pick (b := true) (v := vB _) ?_ hc17
                refine RA.nil nofun ?_
                exact CanR.mk (fun κ => cond (Nat.beq κ 207) 202 (cond (Nat.beq κ 208) 203 (κ))) ⟨_, (by omega), _, _, _, _, _, _, _, _, _, _, H, rfl⟩ ⟨rfl, rfl, rfl, rfl, rfl, rfl, rfl, rfl, trivial⟩ ⟨rfl, rfl, trivial⟩ rfl
               ·rw [if_neg hc17] at H
                refine a_ldB (v := .agg [_, _]) ?_ T51 (hg := Gs.yes rfl rfl rfl (Bool.eq_false_iff.2 hc17))
                refine a_ldB (v := .agg [_, _]) ?_ T51 (hg := Gs.yes rfl rfl rfl (Bool.eq_false_iff.2 hc17))
                refine a_ldB (v := .agg [_, _]) ?_ T51 (hg := Gs.yes rfl rfl rfl (Bool.eq_false_iff.2 hc17))
                obtain ⟨t18, e19, H⟩ := bindO H
                refine a_call (v := vB t18) (nk := []) (L := []) ?_ rfl (impl_on.ok e19) id (qg (qg (qg qn))) trivial trivial trivial rfl (hg := Gs.yes rfl rfl rfl (Bool.eq_false_iff.2 hc17))
                refine a_pick (b := false) (v := vB _) ?_ (Bool.eq_false_iff.2 hc17)
                refine RA.nil nofun ?_
                exact CanR.mk (fun κ => cond (Nat.beq κ 207) 202 (cond (Nat.beq κ 208) 203 (κ))) ⟨_, (by omega), _, _, _, _, _, _, _, _, _, _, H, rfl⟩ ⟨rfl, rfl, rfl, rfl, rfl, rfl, rfl, rfl, trivial⟩ ⟨rfl, rfl, trivial⟩ rfl
             ·clear H
              rintro _ ⟨k, hj1, x0, x3, x4, y207_0, y207_1, y208_0, y208_1, x23, x24, x59, H, rfl⟩
              cases k with
              | zero => cases H
              | succ k =>
               rw [impl_ValidPolygon.j1] at H
               by_cases hc20 : x59 = true
               ·rw [if_pos hc20] at H
                refine AG.yes rfl hc20 ?_
                refine AG.seq ?_
                refine AG.region HM ?_
                refine a_move (v := vB _) ?_
                refine RA.nil nofun ?_
                refine AG.ret ?_
                obtain rfl := Option.some.inj H
                exact RetP.mk id ⟨rfl, trivial⟩ trivial rfl
               ·rw [if_neg hc20] at H
                refine AG.no rfl (Bool.eq_false_iff.2 hc20) ?_
                refine AG.skip ?_
                refine AG.seq ?_
                refine AG.region HM ?_
                refine a_move (v := vI _) ?_
                refine a_int (u := .int .i64 (wrap64 (x4 + 2))) ?_
                refine a_move (v := vI _) ?_
                refine RA.nil nofun ?_
                refine AG.block ?_
                refine AG.loop ?_
                obtain ⟨K1, hK1, gK1⟩ : ∃ K, k ≤ K ∧ K ≤ k := ⟨k, Nat.le_refl k, Nat.le_refl k⟩
                refine AGr.canon (fun κ => cond (Nat.beq κ 209) 207 (cond (Nat.beq κ 210) 208 (κ))) (AGr.loopI (n := k) (fun k s => k ≤ K1 ∧ ∃ (x0 : List S50) (x3 : Int) (x4 : Int) (y209_0 : Int) (y209_1 : Int) (y210_0 : Int) (y210_1 : Int) (x8 : Int) (x23 : Int) (x24 : Int), impl_ValidPolygon.l1 k x0 x3 x4 y209_0 y209_1 y210_0 y210_1 x8 x23 x24 = some r ∧ s = St.of [(0, vR 51 (x0.map c50)), (3, vI x3), (4, vI x4), (5, .c (.ptr 209 0)), (6, .c (.ptr 210 0)), (8, vI x8), (23, vI x23), (24, vI x24)] [(209, .box 51 [.d (.v (.int .i64 y209_0)), .d (.v (.int .i64 y209_1))]), (210, .box 51 [.d (.v (.int .i64 y210_0)), .d (.v (.int .i64 y210_1))])]) ⟨hK1, _, _, _, _, _, _, _, _, _, _, H, rfl⟩ ?_ ?_) ⟨rfl, rfl, rfl, rfl, rfl, rfl, rfl, rfl, trivial⟩ ⟨rfl, rfl, trivial⟩ rfl
                ·rintro _ ⟨_, _, _, _, _, _, _, _, _, _, _, H, _⟩
                 cases H
                ·clear H hK1
                 rintro k ih1 _ ⟨hK1, x0, x3, x4, y209_0, y209_1, y210_0, y210_1, x8, x23, x24, H, rfl⟩
                 unfold impl_ValidPolygon.l1 at H
                 refine AG.seq ?_
                 refine AG.seq ?_
                 refine AG.region HM ?_
                 refine a_move (v := vI _) ?_
                 refine a_move (v := vI _) ?_
                 refine a_int (u := .bool (decide (x8 < x3))) ?_
                 refine RA.nil nofun ?_
                 by_cases hc21 : x8 < x3
                 ·rw [if_pos hc21] at H
                  refine AG.yes rfl (decide_eq_true hc21) ?_
                  refine AG.skip ?_
                  refine AG.seq ?_
                  refine AG.block ?_
                  refine AG.seq ?_
                  refine AG.region HM ?_
                  refine a_move (v := vI _) ?_
                  refine a_int (u := .int .i64 (wrap64 (x8 + 1))) ?_
                  refine a_move (v := vI _) ?_
                  by_cases hc22 : x3 = 0
                  ·rw [if_pos hc22] at H
                   cases H
                  ·rw [if_neg hc22] at H
                   refine a_rem (r := Int.tmod (wrap64 (x8 + 1)) x3) ?_ hc22
                   refine a_move (v := vI _) ?_
                   refine a_int (u := .bool (((Int.tmod (wrap64 (x8 + 1)) x3) != x4))) ?_
                   refine a_move (v := vB _) ?_
                   by_cases hc23 : (Int.tmod (wrap64 (x8 + 1)) x3) = x4
                   ·rw [if_pos hc23] at H
                    refine RA.skip rfl rfl rfl rfl rfl (bne_eq_false_iff_eq.2 hc23) (by decide) ?_
                    refine RA.skip rfl rfl rfl rfl rfl (bne_eq_false_iff_eq.2 hc23) (by decide) ?_
                    refine RA.skip rfl rfl rfl rfl rfl (bne_eq_false_iff_eq.2 hc23) (by decide) ?_
                    refine RA.skip rfl rfl rfl rfl rfl (bne_eq_false_iff_eq.2 hc23) (by decide) ?_
                    refine RA.skip rfl rfl rfl rfl rfl (bne_eq_false_iff_eq.2 hc23) (by decide) ?_
                    refine RA.skip rfl rfl rfl rfl rfl (bne_eq_false_iff_eq.2 hc23) (by decide) ?_
                    refine RA.skip rfl rfl rfl rfl rfl (bne_eq_false_iff_eq.2 hc23) (by decide) ?_
                    refine RA.skip rfl rfl rfl rfl rfl (bne_eq_false_iff_eq.2 hc23) (by decide) ?_
                    refine RA.skip rfl rfl rfl rfl rfl (bne_eq_false_iff_eq.2 hc23) (by decide) ?_
                    refine RA.skip rfl rfl rfl rfl rfl (bne_eq_false_iff_eq.2 hc23) (by decide) ?_
                    refine RA.skip rfl rfl rfl rfl rfl (bne_eq_false_iff_eq.2 hc23) (by decide) ?_
                    refine RA.skip rfl rfl rfl rfl rfl (bne_eq_false_iff_eq.2 hc23) (by decide) ?_
                    refine RA.skip rfl rfl rfl rfl rfl (bne_eq_false_iff_eq.2 hc23) (by decide) ?_
                    refine RA.skip rfl rfl rfl rfl rfl (bne_eq_false_iff_eq.2 hc23) (by decide) ?_
                    refine a_pick (b := false) (v := vB _) ?_ (bne_eq_false_iff_eq.2 hc23)
                    refine RA.nil (fun _ => by kernel_rfl) ?_
                    refine AG.no rfl rfl ?_
                    refine AG.skip ?_
                    refine AG.region HM ?_
                    refine a_move (v := vI _) ?_
                    refine a_int (u := .int .i64 (wrap64 (x8 + 1))) ?_
                    refine a_move (v := vI _) ?_
                    refine RA.nil nofun ?_
                    exact AGr.canon id (ih1 _ (by omega) _ ⟨by omega, _, _, _, _, _, _, _, _, _, _, H, rfl⟩) ⟨rfl, rfl, rfl, rfl, rfl, rfl, rfl, rfl, trivial⟩ ⟨rfl, rfl, trivial⟩ rfl
                   ·rw [if_neg hc23] at H
                    refine a_ldB (v := .agg [_, _]) ?_ T51 (hg := Gs.yes rfl rfl rfl (bne_iff_ne.2 hc23))
                    refine a_ldB (v := .agg [_, _]) ?_ T51 (hg := Gs.yes rfl rfl rfl (bne_iff_ne.2 hc23))
                    refine a_move (v := vR _ _) ?_ (hg := Gs.yes rfl rfl rfl (bne_iff_ne.2 hc23))
                    refine a_move (v := vI _) ?_ (hg := Gs.yes rfl rfl rfl (bne_iff_ne.2 hc23))
                    by_cases hc24 : 0 ≤ x8
                    ·rw [if_pos hc24] at H
                     by_cases hc25 : x8 < (x0.length : Int)
                     ·rw [if_pos hc25] at H
                      refine a_ixR (el := c50 (rd50 x0 x8)) ?_ ⟨hc24, hc25⟩ T51 Tryz.underlying30 (hel := R50 hc24 hc25) (hg := Gs.yes rfl rfl rfl (bne_iff_ne.2 hc23))
                      refine a_ldR (v := .agg [_, _]) ?_ T51 (hg := Gs.yes rfl rfl rfl (bne_iff_ne.2 hc23))
                      refine a_move (v := vR _ _) ?_ (hg := Gs.yes rfl rfl rfl (bne_iff_ne.2 hc23))
                      refine a_move (v := vI _) ?_ (hg := Gs.yes rfl rfl rfl (bne_iff_ne.2 hc23))
                      refine a_int (u := .int .i64 (wrap64 (x8 + 1))) ?_ (hg := Gs.yes rfl rfl rfl (bne_iff_ne.2 hc23))
                      refine a_move (v := vI _) ?_ (hg := Gs.yes rfl rfl rfl (bne_iff_ne.2 hc23))
                      refine a_rem (r := Int.tmod (wrap64 (x8 + 1)) x3) ?_ hc22 (hg := Gs.yes rfl rfl rfl (bne_iff_ne.2 hc23))
                      by_cases hc26 : 0 ≤ (Int.tmod (wrap64 (x8 + 1)) x3)
                      ·rw [if_pos hc26] at H
                       by_cases hc27 : (Int.tmod (wrap64 (x8 + 1)) x3) < (x0.length : Int)
                       ·rw [if_pos hc27] at H
                        refine a_ixR (el := c50 (rd50 x0 (Int.tmod (wrap64 (x8 + 1)) x3))) ?_ ⟨hc26, hc27⟩ T51 Tryz.underlying30 (hel := R50 hc26 hc27) (hg := Gs.yes rfl rfl rfl (bne_iff_ne.2 hc23))
                        refine a_ldR (v := .agg [_, _]) ?_ T51 (hg := Gs.yes rfl rfl rfl (bne_iff_ne.2 hc23))
                        obtain ⟨t28, e29, H⟩ := bindO H
                        refine a_call (v := vB t28) (nk := []) (L := []) ?_ rfl (impl_touching.ok e29) id (qg (qg (qg (qg qn)))) trivial trivial trivial rfl (hg := Gs.yes rfl rfl rfl (bne_iff_ne.2 hc23))
                        refine a_pick (b := true) (v := vB _) ?_ (bne_iff_ne.2 hc23)
                        refine RA.nil (fun _ => by kernel_rfl) ?_
                        by_cases hc30 : t28 = true
                        ·rw [if_pos hc30] at H
                         refine AG.yes rfl hc30 ?_
                         refine AG.seq ?_
                         refine AG.region HM ?_
                         refine a_move (v := vB _) ?_
                         refine RA.nil nofun ?_
                         refine AG.ret ?_
                         obtain rfl := Option.some.inj H
                         exact RetP.mk id ⟨rfl, trivial⟩ trivial rfl
                        ·rw [if_neg hc30] at H
                         refine AG.no rfl (Bool.eq_false_iff.2 hc30) ?_
                         refine AG.skip ?_
                         refine AG.region HM ?_
                         refine a_move (v := vI _) ?_
                         refine a_int (u := .int .i64 (wrap64 (x8 + 1))) ?_
                         refine a_move (v := vI _) ?_
                         refine RA.nil nofun ?_
                         exact AGr.canon id (ih1 _ (by omega) _ ⟨by omega, _, _, _, _, _, _, _, _, _, _, H, rfl⟩) ⟨rfl, rfl, rfl, rfl, rfl, rfl, rfl, rfl, trivial⟩ ⟨rfl, rfl, trivial⟩ rfl
                       ·rw [if_neg hc27] at H
                        cases H
                      ·rw [if_neg hc26] at H
                       cases H
                     ·rw [if_neg hc25] at H
                      cases H
                    ·rw [if_neg hc24] at H
                     cases H
                 ·rw [if_neg hc21] at H
                  refine AG.no rfl (decide_eq_false hc21) ?_
                  refine AG.exit ?_
                  refine AG.region HM ?_
                  refine a_int (u := .int .i64 (wrap64 (x24 + 1))) ?_
                  refine a_move (v := vI _) ?_
                  refine RA.nil nofun ?_
                  exact AGr.canon id (ih0 _ (by omega) _ ⟨by omega, _, _, _, _, H, rfl⟩) ⟨rfl, rfl, rfl, rfl, trivial⟩ trivial rfl
            ·rw [if_neg hc13] at H
             cases H
           ·rw [if_neg hc12] at H
            cases H
          ·rw [if_neg hc11] at H
           cases H
         ·rw [if_neg hc10] at H
          cases H
       ·rw [if_neg hc8] at H
        cases H
      ·rw [if_neg hc7] at H
       cases H
     ·rw [if_neg hc6] at H
      refine AG.no rfl (decide_eq_false hc6) ?_
      refine AG.exit ?_
      refine AG.seq ?_
      refine AG.region HM ?_
      refine a_move (v := vR _ _) ?_
      obtain ⟨t31, e32, H⟩ := bindO H
      refine a_call (v := vI t31) (nk := []) (L := []) ?_ rfl (impl_doubled.ok e32) id (qd qn) trivial trivial trivial rfl
      refine a_int (u := .bool (decide (t31 > 0))) ?_
      refine a_move (v := vB _) ?_
      refine RA.nil nofun ?_
      refine AG.ret ?_
      obtain rfl := Option.some.inj H
      exact RetP.mk id ⟨rfl, trivial⟩ trivial rfl
/-! ### impl_ValidDrawing: function 36 -/
mutual
def impl_ValidDrawing.j0 : Nat → Int → Int → List S50 → List S72 → Bool → Option (Bool)
 | 0, _, _, _, _, _ => none
 | k + 1, y203_0, y203_1, y203_2, y203_3, x30 => if x30 = true then (some false) else (impl_ValidDrawing.l0 k y203_0 y203_1 y203_2 y203_3 y203_2 (y203_2.length : Int) 0)
def impl_ValidDrawing.j1 : Nat → List S50 → List S72 → Option (Bool)
 | 0, _, _ => none
 | k + 1, y209_2, y209_3 => impl_ValidDrawing.l1 k y209_2 y209_3 y209_3 (y209_3.length : Int) 0
def impl_ValidDrawing.l0 : Nat → Int → Int → List S50 → List S72 → List S50 → Int → Int → Option (Bool)
 | 0, _, _, _, _, _, _, _ => none
 | k + 1, y204_0, y204_1, y204_2, y204_3, x32, x33, x34 => if x34 < x33 then (if 0 ≤ x34 then (if x34 < (x32.length : Int) then ((impl_within.f ((rd50 x32 x34).f0) 0 y204_0).bind fun t12 => (if t12 = true then ((impl_within.f ((rd50 x32 x34).f1) 0 y204_1).bind fun t15 => (if t15 = true then (if x34 ≤ (y204_2.length : Int) then ((slices_Contains_impl_Point.f k (y204_2.take ((x34 : Int).toNat)) ((rd50 x32 x34).f0) ((rd50 x32 x34).f1)).bind fun t19 => (if t19 = true then (some false) else (impl_ValidDrawing.l0 k y204_0 y204_1 y204_2 y204_3 x32 x33 (wrap64 (x34 + 1))))) else (none)) else (some false))) else (some false))) else (none)) else (none)) else (impl_ValidDrawing.j1 k y204_2 y204_3)
def impl_ValidDrawing.l1 : Nat → List S50 → List S72 → List S72 → Int → Int → Option (Bool)
 | 0, _, _, _, _, _ => none
 | k + 1, y210_2, y210_3, x63, x64, x65 => if x65 < x64 then (if 0 ≤ x65 then (if x65 < (x63.length : Int) then ((impl_IsName.f k ((rd72 x63 x65).f0)).bind fun t25 => (if t25 = true then (if x65 > 0 then (if 0 ≤ (wrap64 (x65 - 1)) then (if (wrap64 (x65 - 1)) < (y210_3.length : Int) then (impl_ValidDrawing.j2 k y210_2 y210_3 ((rd72 x63 x65).f1) x63 x64 x65 (!(Op.bytesLess (((rd72 y210_3 (wrap64 (x65 - 1))).f0).toList) (((rd72 x63 x65).f0).toList)))) else (none)) else (none)) else (impl_ValidDrawing.j2 k y210_2 y210_3 ((rd72 x63 x65).f1) x63 x64 x65 false)) else (impl_ValidDrawing.j2 k y210_2 y210_3 ((rd72 x63 x65).f1) x63 x64 x65 true))) else (none)) else (none)) else (some true)
def impl_ValidDrawing.j2 : Nat → List S50 → List S72 → List Int → List S72 → Int → Int → Bool → Option (Bool)
 | 0, _, _, _, _, _, _, _ => none
 | k + 1, y213_2, y213_3, y214_1, x63, x64, x65, x89 => if x89 = true then (some false) else ((impl_ringPolygon.f k y213_2 y214_1).bind fun bt32 => (if bt32.2 = true then ((impl_ValidPolygon.f k bt32.1).bind fun t36 => (if t36 = true then (impl_ValidDrawing.l1 k y213_2 y213_3 x63 x64 (wrap64 (x65 + 1))) else (some false))) else (some false)))
end
def impl_ValidDrawing.f (k : Nat) (a0_0 : Int) (a0_1 : Int) (l0_2 : List S50) (l0_3 : List S72) : Option (Bool) := (impl_within.f a0_0 10 20000).bind fun t1 => (if t1 = true then ((impl_within.f a0_1 10 20000).bind fun t4 => (if t4 = true then (if (l0_2.length : Int) > 48 then (impl_ValidDrawing.j0 k a0_0 a0_1 l0_2 l0_3 true) else (impl_ValidDrawing.j0 k a0_0 a0_1 l0_2 l0_3 (decide ((l0_3.length : Int) > 24)))) else (impl_ValidDrawing.j0 k a0_0 a0_1 l0_2 l0_3 true))) else (impl_ValidDrawing.j0 k a0_0 a0_1 l0_2 l0_3 true))
set_option maxRecDepth 100000 in
theorem impl_ValidDrawing.ok {k : Nat} {a0_0 : Int} {a0_1 : Int} {l0_2 : List S50} {l0_3 : List S72} {r : Bool} (H : impl_ValidDrawing.f k a0_0 a0_1 l0_2 l0_3 = some r) : OkF Tryz.prog 36 [.agg [.d (.v (.int .i64 a0_0)), .d (.v (.int .i64 a0_1)), .d (.row 51 (l0_2.map c50)), .d (.row 76 (l0_3.map c72))]] [] (.c (.d (.v (.bool r)))) [] := by
 unfold impl_ValidDrawing.f at H
 refine OkF.of (N := 106) (rs := [2]) (avs := [.c (.d (.v (.bool r)))]) Tryz.func36 rfl rfl (fun _ _ => results_tmp rfl _ _ _) (by decide) rfl rfl rfl rfl (fun w0 S => ?_)
 refine AG.seq ?_
 refine AG.region HM ?_
 refine a_box 200 ?_
 refine a_move (v := vB _) ?_
 refine RA.nil nofun ?_
 refine AG.seq ?_
 refine AG.seq ?_
 refine AG.joinR (fun s => ∃ q, q ≤ k ∧ ∃ (y203_0 : Int) (y203_1 : Int) (y203_2 : List S50) (y203_3 : List S72) (x30 : Bool), impl_ValidDrawing.j0 q y203_0 y203_1 y203_2 y203_3 x30 = some r ∧ s = St.of [(1, .c (.ptr 203 0)), (30, vB x30)] [(203, .box 33 [.d (.v (.int .i64 y203_0)), .d (.v (.int .i64 y203_1)), .d (.row 51 (y203_2.map c50)), .d (.row 76 (y203_3.map c72))])]) ?_ ?_
 ·skip
  refine AG.region HM ?_
  refine a_faB (q := 0) ?_ D33_0
  refine a_ldB (v := vI _) ?_ T2
  obtain ⟨t1, e2, H⟩ := bindO H
  refine a_call (v := vB t1) (nk := []) (L := []) ?_ rfl (impl_within.ok e2) id (qd (qd (qd qn))) trivial trivial trivial rfl
  refine a_un (u := .bool (!t1)) ?_
  refine a_move (v := vB _) ?_
  by_cases hc3 : t1 = true
  ·rw [if_pos hc3] at H
   refine a_faB (q := 1) ?_ D33_1 (hg := Gs.yes rfl rfl rfl (congrArg Bool.not hc3))
   refine a_ldB (v := vI _) ?_ T2 (hg := Gs.yes rfl rfl rfl (congrArg Bool.not hc3))
   obtain ⟨t4, e5, H⟩ := bindO H
   refine a_call (v := vB t4) (nk := []) (L := []) ?_ rfl (impl_within.ok e5) id (qd (qd (qd qn))) trivial trivial trivial rfl (hg := Gs.yes rfl rfl rfl (congrArg Bool.not hc3))
   refine a_un (u := .bool (!t4)) ?_ (hg := Gs.yes rfl rfl rfl (congrArg Bool.not hc3))
   refine a_pick (b := false) (v := vB _) ?_ (congrArg Bool.not hc3)
   refine a_move (v := vB _) ?_
   by_cases hc6 : t4 = true
   ·rw [if_pos hc6] at H
    refine a_faB (q := 2) ?_ D33_2 (hg := Gs.yes rfl rfl rfl (congrArg Bool.not hc6))
    refine a_ldB (v := vR _ _) ?_ T30 (hg := Gs.yes rfl rfl rfl (congrArg Bool.not hc6))
    refine a_lenR ?_ Tryz.underlying30 (hg := Gs.yes rfl rfl rfl (congrArg Bool.not hc6))
    refine a_int (u := .bool (decide ((l0_2.length : Int) > 48))) ?_ (hg := Gs.yes rfl rfl rfl (congrArg Bool.not hc6))
    refine a_pick (b := false) (v := vB _) ?_ (congrArg Bool.not hc6)
    refine a_move (v := vB _) ?_
    by_cases hc7 : (l0_2.length : Int) > 48
    ·rw [if_pos hc7] at H
     refine RA.skip rfl rfl rfl rfl rfl (decide_eq_true hc7) (by decide) ?_
     refine RA.skip rfl rfl rfl rfl rfl (decide_eq_true hc7) (by decide) ?_
     refine RA.skip rfl rfl rfl rfl rfl (decide_eq_true hc7) (by decide) ?_
     refine RA.skip rfl rfl rfl rfl rfl (decide_eq_true hc7) (by decide) ?_
     refine a_pick (b := true) (v := vB _) ?_ (decide_eq_true hc7)
     refine RA.nil nofun ?_
     exact CanR.mk (fun κ => cond (Nat.beq κ 203) 200 (κ)) ⟨_, (by omega), _, _, _, _, _, H, rfl⟩ ⟨rfl, rfl, trivial⟩ ⟨rfl, trivial⟩ rfl
    ·rw [if_neg hc7] at H
     refine a_faB (q := 3) ?_ D33_3 (hg := Gs.yes rfl rfl rfl (decide_eq_false hc7))
     refine a_ldB (v := vR _ _) ?_ T31 (hg := Gs.yes rfl rfl rfl (decide_eq_false hc7))
     refine a_lenR ?_ Tryz.underlying31 (hg := Gs.yes rfl rfl rfl (decide_eq_false hc7))
     refine a_int (u := .bool (decide ((l0_3.length : Int) > 24))) ?_ (hg := Gs.yes rfl rfl rfl (decide_eq_false hc7))
     refine a_pick (b := false) (v := vB _) ?_ (decide_eq_false hc7)
     refine RA.nil nofun ?_
     exact CanR.mk (fun κ => cond (Nat.beq κ 203) 200 (κ)) ⟨_, (by omega), _, _, _, _, _, H, rfl⟩ ⟨rfl, rfl, trivial⟩ ⟨rfl, trivial⟩ rfl
   ·rw [if_neg hc6] at H
    refine RA.skip rfl rfl rfl rfl rfl (congrArg Bool.not (Bool.eq_false_iff.2 hc6)) (by decide) ?_
    refine RA.skip rfl rfl rfl rfl rfl (congrArg Bool.not (Bool.eq_false_iff.2 hc6)) (by decide) ?_
    refine RA.skip rfl rfl rfl rfl rfl (congrArg Bool.not (Bool.eq_false_iff.2 hc6)) (by decide) ?_
    refine RA.skip rfl rfl rfl rfl rfl (congrArg Bool.not (Bool.eq_false_iff.2 hc6)) (by decide) ?_
    refine a_pick (b := true) (v := vB _) ?_ (congrArg Bool.not (Bool.eq_false_iff.2 hc6))
    refine a_move (v := vB _) ?_
    refine RA.skip rfl rfl rfl rfl rfl rfl (by decide) ?_
    refine RA.skip rfl rfl rfl rfl rfl rfl (by decide) ?_
    refine RA.skip rfl rfl rfl rfl rfl rfl (by decide) ?_
    refine RA.skip rfl rfl rfl rfl rfl rfl (by decide) ?_
    refine a_pick (b := true) (v := vB _) ?_ rfl
    refine RA.nil nofun ?_
    exact CanR.mk (fun κ => cond (Nat.beq κ 203) 200 (κ)) ⟨_, (by omega), _, _, _, _, _, H, rfl⟩ ⟨rfl, rfl, trivial⟩ ⟨rfl, trivial⟩ rfl
  ·rw [if_neg hc3] at H
   refine RA.skip rfl rfl rfl rfl rfl (congrArg Bool.not (Bool.eq_false_iff.2 hc3)) (by decide) ?_
   refine RA.skip rfl rfl rfl rfl rfl (congrArg Bool.not (Bool.eq_false_iff.2 hc3)) (by decide) ?_
   refine RA.skip rfl rfl rfl rfl rfl (congrArg Bool.not (Bool.eq_false_iff.2 hc3)) (by decide) ?_
   refine RA.skip rfl rfl rfl rfl rfl (congrArg Bool.not (Bool.eq_false_iff.2 hc3)) (by decide) ?_
   refine a_pick (b := true) (v := vB _) ?_ (congrArg Bool.not (Bool.eq_false_iff.2 hc3))
   refine a_move (v := vB _) ?_
   refine RA.skip rfl rfl rfl rfl rfl rfl (by decide) ?_
   refine RA.skip rfl rfl rfl rfl rfl rfl (by decide) ?_
   refine RA.skip rfl rfl rfl rfl rfl rfl (by decide) ?_
   refine RA.skip rfl rfl rfl rfl rfl rfl (by decide) ?_
   refine a_pick (b := true) (v := vB _) ?_ rfl
   refine a_move (v := vB _) ?_
   refine RA.skip rfl rfl rfl rfl rfl rfl (by decide) ?_
   refine RA.skip rfl rfl rfl rfl rfl rfl (by decide) ?_
   refine RA.skip rfl rfl rfl rfl rfl rfl (by decide) ?_
   refine RA.skip rfl rfl rfl rfl rfl rfl (by decide) ?_
   refine a_pick (b := true) (v := vB _) ?_ rfl
   refine RA.nil nofun ?_
   exact CanR.mk (fun κ => cond (Nat.beq κ 203) 200 (κ)) ⟨_, (by omega), _, _, _, _, _, H, rfl⟩ ⟨rfl, rfl, trivial⟩ ⟨rfl, trivial⟩ rfl
 ·clear H
  rintro _ ⟨k, hj0, y203_0, y203_1, y203_2, y203_3, x30, H, rfl⟩
  cases k with
  | zero => cases H
  | succ k =>
   rw [impl_ValidDrawing.j0] at H
   by_cases hc8 : x30 = true
   ·rw [if_pos hc8] at H
    refine AG.yes rfl hc8 ?_
    refine AG.seq ?_
    refine AG.region HM ?_
    refine a_move (v := vB _) ?_
    refine RA.nil nofun ?_
    refine AG.ret ?_
    obtain rfl := Option.some.inj H
    exact RetP.mk id ⟨rfl, trivial⟩ trivial rfl
   ·rw [if_neg hc8] at H
    refine AG.no rfl (Bool.eq_false_iff.2 hc8) ?_
    refine AG.skip ?_
    refine AG.seq ?_
    refine AG.seq ?_
    refine AG.region HM ?_
    refine a_faB (q := 2) ?_ D33_2
    refine a_ldB (v := vR _ _) ?_ T30
    refine a_lenR ?_ Tryz.underlying30
    refine a_move (v := vI _) ?_
    refine RA.nil nofun ?_
    refine AG.joinR (fun s => ∃ q, q ≤ k ∧ ∃ (y209_0 : Int) (y209_1 : Int) (y209_2 : List S50) (y209_3 : List S72), impl_ValidDrawing.j1 q y209_2 y209_3 = some r ∧ s = St.of [(1, .c (.ptr 209 0))] [(209, .box 33 [.d (.v (.int .i64 y209_0)), .d (.v (.int .i64 y209_1)), .d (.row 51 (y209_2.map c50)), .d (.row 76 (y209_3.map c72))])]) ?_ ?_
    ·skip
     refine AG.block ?_
     refine AG.loop ?_
     obtain ⟨K0, hK0, gK0⟩ : ∃ K, k ≤ K ∧ K ≤ k := ⟨k, Nat.le_refl k, Nat.le_refl k⟩
     refine AGr.canon (fun κ => cond (Nat.beq κ 204) 203 (κ)) (AGr.loopI (n := k) (fun k s => k ≤ K0 ∧ ∃ (y204_0 : Int) (y204_1 : Int) (y204_2 : List S50) (y204_3 : List S72) (x32 : List S50) (x33 : Int) (x34 : Int), impl_ValidDrawing.l0 k y204_0 y204_1 y204_2 y204_3 x32 x33 x34 = some r ∧ s = St.of [(1, .c (.ptr 204 0)), (32, vR 51 (x32.map c50)), (33, vI x33), (34, vI x34)] [(204, .box 33 [.d (.v (.int .i64 y204_0)), .d (.v (.int .i64 y204_1)), .d (.row 51 (y204_2.map c50)), .d (.row 76 (y204_3.map c72))])]) ⟨hK0, _, _, _, _, _, _, _, H, rfl⟩ ?_ ?_) ⟨rfl, rfl, rfl, rfl, trivial⟩ ⟨rfl, trivial⟩ rfl
     ·rintro _ ⟨_, _, _, _, _, _, _, _, H, _⟩
      cases H
     ·clear H hK0
      rintro k ih0 _ ⟨hK0, y204_0, y204_1, y204_2, y204_3, x32, x33, x34, H, rfl⟩
      unfold impl_ValidDrawing.l0 at H
      refine AG.seq ?_
      refine AG.region HM ?_
      refine a_int (u := .bool (decide (x34 < x33))) ?_
      refine RA.nil nofun ?_
      refine AG.seq ?_
      by_cases hc9 : x34 < x33
      ·rw [if_pos hc9] at H
       refine AG.yes rfl (decide_eq_true hc9) ?_
       refine AG.skip ?_
       refine AG.seq ?_
       refine AG.block ?_
       refine AG.seq ?_
       refine AG.region HM ?_
       refine a_move (v := vI _) ?_
       by_cases hc10 : 0 ≤ x34
       ·rw [if_pos hc10] at H
        by_cases hc11 : x34 < (x32.length : Int)
        ·rw [if_pos hc11] at H
         refine a_ixR (el := c50 (rd50 x32 x34)) ?_ ⟨hc10, hc11⟩ T51 Tryz.underlying30 (hel := R50 hc10 hc11)
         refine a_ldR (v := .agg [_, _]) ?_ T51
         refine a_alloc (cs := [_, _]) 205 ?_ T51
         refine a_move (v := vI _) ?_
         refine a_stB (cs' := [_, _]) ?_ T51
         refine RA.nil nofun ?_
         refine AG.seq ?_
         refine AG.region HM ?_
         refine a_faB (q := 0) ?_ D51_0
         refine a_ldB (v := vI _) ?_ T2
         refine a_faB (q := 0) ?_ D33_0
         refine a_ldB (v := vI _) ?_ T2
         obtain ⟨t12, e13, H⟩ := bindO H
         refine a_call (v := vB t12) (nk := []) (L := []) ?_ rfl (impl_within.ok e13) id (qd (qd (qd qn))) trivial trivial trivial rfl
         refine a_un (u := .bool (!t12)) ?_
         refine a_move (v := vB _) ?_
         by_cases hc14 : t12 = true
         ·rw [if_pos hc14] at H
          refine a_faB (q := 1) ?_ D51_1 (hg := Gs.yes rfl rfl rfl (congrArg Bool.not hc14))
          refine a_ldB (v := vI _) ?_ T2 (hg := Gs.yes rfl rfl rfl (congrArg Bool.not hc14))
          refine a_faB (q := 1) ?_ D33_1 (hg := Gs.yes rfl rfl rfl (congrArg Bool.not hc14))
          refine a_ldB (v := vI _) ?_ T2 (hg := Gs.yes rfl rfl rfl (congrArg Bool.not hc14))
          obtain ⟨t15, e16, H⟩ := bindO H
          refine a_call (v := vB t15) (nk := []) (L := []) ?_ rfl (impl_within.ok e16) id (qd (qd (qd qn))) trivial trivial trivial rfl (hg := Gs.yes rfl rfl rfl (congrArg Bool.not hc14))
          refine a_un (u := .bool (!t15)) ?_ (hg := Gs.yes rfl rfl rfl (congrArg Bool.not hc14))
          refine a_pick (b := false) (v := vB _) ?_ (congrArg Bool.not hc14)
          refine a_move (v := vB _) ?_
          by_cases hc17 : t15 = true
          ·rw [if_pos hc17] at H
           refine a_faB (q := 2) ?_ D33_2 (hg := Gs.yes rfl rfl rfl (congrArg Bool.not hc17))
           refine a_ldB (v := vR _ _) ?_ T30 (hg := Gs.yes rfl rfl rfl (congrArg Bool.not hc17))
           refine a_move (v := vI _) ?_ (hg := Gs.yes rfl rfl rfl (congrArg Bool.not hc17))
           by_cases hc18 : x34 ≤ (y204_2.length : Int)
           ·rw [if_pos hc18] at H
            refine a_slR (l := none) (h := some x34) (css' := (y204_2.take ((x34 : Int).toNat)).map c50) ?_ Tryz.underlying30 T51 ⟨(Int.le_refl 0), hc10, (lenM (p := fun n => x34 ≤ n) hc18)⟩ (map_take_drop _ _ _ _) (hg := Gs.yes rfl rfl rfl (congrArg Bool.not hc17))
            refine a_ldB (v := .agg [_, _]) ?_ T51 (hg := Gs.yes rfl rfl rfl (congrArg Bool.not hc17))
            obtain ⟨t19, e20, H⟩ := bindO H
            refine a_call (v := vB t19) (nk := []) (L := []) ?_ rfl (slices_Contains_impl_Point.ok e20) id (qd (qg qn)) trivial trivial trivial rfl (hg := Gs.yes rfl rfl rfl (congrArg Bool.not hc17))
            refine a_pick (b := false) (v := vB _) ?_ (congrArg Bool.not hc17)
            refine RA.nil (fun _ => by kernel_rfl) ?_
            by_cases hc21 : t19 = true
            ·rw [if_pos hc21] at H
             refine AG.yes rfl hc21 ?_
             refine AG.seq ?_
             refine AG.region HM ?_
             refine a_move (v := vB _) ?_
             refine RA.nil nofun ?_
             refine AG.ret ?_
             obtain rfl := Option.some.inj H
             exact RetP.mk id ⟨rfl, trivial⟩ trivial rfl
            ·rw [if_neg hc21] at H
             refine AG.no rfl (Bool.eq_false_iff.2 hc21) ?_
             refine AG.skip ?_
             refine AG.region HM ?_
             refine a_int (u := .int .i64 (wrap64 (x34 + 1))) ?_
             refine a_move (v := vI _) ?_
             refine RA.nil nofun ?_
             exact AGr.canon id (ih0 _ (by omega) _ ⟨by omega, _, _, _, _, _, _, _, H, rfl⟩) ⟨rfl, rfl, rfl, rfl, trivial⟩ ⟨rfl, trivial⟩ rfl
           ·rw [if_neg hc18] at H
            cases H
          ·rw [if_neg hc17] at H
           refine RA.skip rfl rfl rfl rfl rfl (congrArg Bool.not (Bool.eq_false_iff.2 hc17)) (by decide) ?_
           refine RA.skip rfl rfl rfl rfl rfl (congrArg Bool.not (Bool.eq_false_iff.2 hc17)) (by decide) ?_
           refine RA.skip rfl rfl rfl rfl rfl (congrArg Bool.not (Bool.eq_false_iff.2 hc17)) (by decide) ?_
           refine RA.skip rfl rfl rfl rfl rfl (congrArg Bool.not (Bool.eq_false_iff.2 hc17)) (by decide) ?_
           refine RA.skip rfl rfl rfl rfl rfl (congrArg Bool.not (Bool.eq_false_iff.2 hc17)) (by decide) ?_
           refine RA.skip rfl rfl rfl rfl rfl (congrArg Bool.not (Bool.eq_false_iff.2 hc17)) (by decide) ?_
           refine a_pick (b := true) (v := vB _) ?_ (congrArg Bool.not (Bool.eq_false_iff.2 hc17))
           refine RA.nil (fun _ => by kernel_rfl) ?_
           refine AG.yes rfl rfl ?_
           refine AG.seq ?_
           refine AG.region HM ?_
           refine a_move (v := vB _) ?_
           refine RA.nil nofun ?_
           refine AG.ret ?_
           obtain rfl := Option.some.inj H
           exact RetP.mk id ⟨rfl, trivial⟩ trivial rfl
         ·rw [if_neg hc14] at H
          refine RA.skip rfl rfl rfl rfl rfl (congrArg Bool.not (Bool.eq_false_iff.2 hc14)) (by decide) ?_
          refine RA.skip rfl rfl rfl rfl rfl (congrArg Bool.not (Bool.eq_false_iff.2 hc14)) (by decide) ?_
          refine RA.skip rfl rfl rfl rfl rfl (congrArg Bool.not (Bool.eq_false_iff.2 hc14)) (by decide) ?_
          refine RA.skip rfl rfl rfl rfl rfl (congrArg Bool.not (Bool.eq_false_iff.2 hc14)) (by decide) ?_
          refine RA.skip rfl rfl rfl rfl rfl (congrArg Bool.not (Bool.eq_false_iff.2 hc14)) (by decide) ?_
          refine RA.skip rfl rfl rfl rfl rfl (congrArg Bool.not (Bool.eq_false_iff.2 hc14)) (by decide) ?_
          refine a_pick (b := true) (v := vB _) ?_ (congrArg Bool.not (Bool.eq_false_iff.2 hc14))
          refine a_move (v := vB _) ?_
          refine RA.skip rfl rfl rfl rfl rfl rfl (by decide) ?_
          refine RA.skip rfl rfl rfl rfl rfl rfl (by decide) ?_
          refine RA.skip rfl rfl rfl rfl rfl rfl (by decide) ?_
          refine RA.skip rfl rfl rfl rfl rfl rfl (by decide) ?_
          refine RA.skip rfl rfl rfl rfl rfl rfl (by decide) ?_
          refine RA.skip rfl rfl rfl rfl rfl rfl (by decide) ?_
          refine a_pick (b := true) (v := vB _) ?_ rfl
          refine RA.nil (fun _ => by kernel_rfl) ?_
          refine AG.yes rfl rfl ?_
          refine AG.seq ?_
          refine AG.region HM ?_
          refine a_move (v := vB _) ?_
          refine RA.nil nofun ?_
          refine AG.ret ?_
          obtain rfl := Option.some.inj H
          exact RetP.mk id ⟨rfl, trivial⟩ trivial rfl
        ·rw [if_neg hc11] at H
         cases H
       ·rw [if_neg hc10] at H
        cases H
      ·rw [if_neg hc9] at H
       refine AG.no rfl (decide_eq_false hc9) ?_
       refine AG.exit ?_
       exact CanR.mk (fun κ => cond (Nat.beq κ 209) 204 (κ)) ⟨_, (by omega), _, _, _, _, H, rfl⟩ ⟨rfl, trivial⟩ ⟨rfl, trivial⟩ rfl
    ·clear H
     rintro _ ⟨k, hj1, y209_0, y209_1, y209_2, y209_3, H, rfl⟩
     cases k with
     | zero => cases H
     | succ k =>
      rw [impl_ValidDrawing.j1] at H
      refine AG.seq ?_
      refine AG.seq ?_
      refine AG.region HM ?_
      refine a_faB (q := 3) ?_ D33_3
      refine a_ldB (v := vR _ _) ?_ T31
      refine a_lenR ?_ Tryz.underlying31
      refine a_move (v := vI _) ?_
      refine RA.nil nofun ?_
      refine AG.block ?_
      refine AG.loop ?_
      obtain ⟨K1, hK1, gK1⟩ : ∃ K, k ≤ K ∧ K ≤ k := ⟨k, Nat.le_refl k, Nat.le_refl k⟩
      refine AGr.canon (fun κ => cond (Nat.beq κ 210) 209 (κ)) (AGr.loopI (n := k) (fun k s => k ≤ K1 ∧ ∃ (y210_0 : Int) (y210_1 : Int) (y210_2 : List S50) (y210_3 : List S72) (x63 : List S72) (x64 : Int) (x65 : Int), impl_ValidDrawing.l1 k y210_2 y210_3 x63 x64 x65 = some r ∧ s = St.of [(1, .c (.ptr 210 0)), (63, vR 76 (x63.map c72)), (64, vI x64), (65, vI x65)] [(210, .box 33 [.d (.v (.int .i64 y210_0)), .d (.v (.int .i64 y210_1)), .d (.row 51 (y210_2.map c50)), .d (.row 76 (y210_3.map c72))])]) ⟨hK1, _, _, _, _, _, _, _, H, rfl⟩ ?_ ?_) ⟨rfl, rfl, rfl, rfl, trivial⟩ ⟨rfl, trivial⟩ rfl
      ·rintro _ ⟨_, _, _, _, _, _, _, _, H, _⟩
       cases H
      ·clear H hK1
       rintro k ih1 _ ⟨hK1, y210_0, y210_1, y210_2, y210_3, x63, x64, x65, H, rfl⟩
       unfold impl_ValidDrawing.l1 at H
       refine AG.seq ?_
       refine AG.region HM ?_
       refine a_int (u := .bool (decide (x65 < x64))) ?_
       refine RA.nil nofun ?_
       refine AG.seq ?_
       by_cases hc22 : x65 < x64
       ·rw [if_pos hc22] at H
        refine AG.yes rfl (decide_eq_true hc22) ?_
        refine AG.skip ?_
        refine AG.seq ?_
        refine AG.block ?_
        refine AG.seq ?_
        refine AG.region HM ?_
        refine a_move (v := vI _) ?_
        by_cases hc23 : 0 ≤ x65
        ·rw [if_pos hc23] at H
         by_cases hc24 : x65 < (x63.length : Int)
         ·rw [if_pos hc24] at H
          refine a_ixR (el := c72 (rd72 x63 x65)) ?_ ⟨hc23, hc24⟩ T76 Tryz.underlying31 (hel := R72 hc23 hc24)
          refine a_ldR (v := .agg [_, _]) ?_ T76
          refine a_alloc (cs := [_, _]) 211 ?_ T76
          refine a_move (v := vI _) ?_
          refine a_stB (cs' := [_, _]) ?_ T76
          refine RA.nil nofun ?_
          refine AG.seq ?_
          refine AG.seq ?_
          refine AG.joinR (fun s => ∃ q, q ≤ k ∧ ∃ (y213_0 : Int) (y213_1 : Int) (y213_2 : List S50) (y213_3 : List S72) (y214_0 : ByteArray) (y214_1 : List Int) (x63 : List S72) (x64 : Int) (x65 : Int) (x89 : Bool), impl_ValidDrawing.j2 q y213_2 y213_3 y214_1 x63 x64 x65 x89 = some r ∧ s = St.of [(1, .c (.ptr 213 0)), (6, .c (.ptr 214 0)), (63, vR 76 (x63.map c72)), (64, vI x64), (65, vI x65), (89, vB x89)] [(213, .box 33 [.d (.v (.int .i64 y213_0)), .d (.v (.int .i64 y213_1)), .d (.row 51 (y213_2.map c50)), .d (.row 76 (y213_3.map c72))]), (214, .box 76 [.d (.v (.string y214_0)), .d (.row 2 (y214_1.map c2))])]) ?_ ?_
          ·skip
           refine AG.region HM ?_
           refine a_faB (q := 0) ?_ D76_0
           refine a_ldB (v := vS _) ?_ T9
           obtain ⟨t25, e26, H⟩ := bindO H
           refine a_call (v := vB t25) (nk := []) (L := []) ?_ rfl (impl_IsName.ok e26) id (qd qn) trivial trivial trivial rfl
           refine a_un (u := .bool (!t25)) ?_
           refine a_move (v := vB _) ?_
           by_cases hc27 : t25 = true
           ·rw [if_pos hc27] at H
            refine a_move (v := vI _) ?_ (hg := Gs.yes rfl rfl rfl (congrArg Bool.not hc27))
            refine a_int (u := .bool (decide (x65 > 0))) ?_ (hg := Gs.yes rfl rfl rfl (congrArg Bool.not hc27))
            refine a_move (v := vB _) ?_ (hg := Gs.yes rfl rfl rfl (congrArg Bool.not hc27))
            by_cases hc28 : x65 > 0
            ·rw [if_pos hc28] at H
             refine a_faB (q := 3) ?_ D33_3 (hg := Gs.yes rfl rfl rfl (decide_eq_true hc28))
             refine a_ldB (v := vR _ _) ?_ T31 (hg := Gs.yes rfl rfl rfl (decide_eq_true hc28))
             refine a_move (v := vI _) ?_ (hg := Gs.yes rfl rfl rfl (decide_eq_true hc28))
             refine a_int (u := .int .i64 (wrap64 (x65 - 1))) ?_ (hg := Gs.yes rfl rfl rfl (decide_eq_true hc28))
             by_cases hc29 : 0 ≤ (wrap64 (x65 - 1))
             ·rw [if_pos hc29] at H
              by_cases hc30 : (wrap64 (x65 - 1)) < (y210_3.length : Int)
              ·rw [if_pos hc30] at H
               refine a_ixR (el := c72 (rd72 y210_3 (wrap64 (x65 - 1)))) ?_ ⟨hc29, hc30⟩ T76 Tryz.underlying31 (hel := R72 hc29 hc30) (hg := Gs.yes rfl rfl rfl (decide_eq_true hc28))
               refine a_faR (cells' := [_, _]) ?_ D76_0 (hg := Gs.yes rfl rfl rfl (decide_eq_true hc28))
               refine a_ldR (v := vS _) ?_ T9 (hg := Gs.yes rfl rfl rfl (decide_eq_true hc28))
               refine a_faB (q := 0) ?_ D76_0 (hg := Gs.yes rfl rfl rfl (decide_eq_true hc28))
               refine a_ldB (v := vS _) ?_ T9 (hg := Gs.yes rfl rfl rfl (decide_eq_true hc28))
               refine a_bin (u := .bool (!(Op.bytesLess (((rd72 y210_3 (wrap64 (x65 - 1))).f0).toList) (((rd72 x63 x65).f0).toList)))) ?_ (hg := Gs.yes rfl rfl rfl (decide_eq_true hc28))
               refine a_pick (b := true) (v := vB _) ?_ (decide_eq_true hc28) (hg := Gs.yes rfl rfl rfl (congrArg Bool.not hc27))
               refine a_pick (b := false) (v := vB _) ?_ (congrArg Bool.not hc27)
               refine RA.nil (fun _ => by kernel_rfl) ?_
               exact CanR.mk (fun κ => cond (Nat.beq κ 213) 210 (cond (Nat.beq κ 214) 211 (κ))) ⟨_, (by omega), _, _, _, _, _, _, _, _, _, _, H, rfl⟩ ⟨rfl, rfl, rfl, rfl, rfl, rfl, trivial⟩ ⟨rfl, rfl, trivial⟩ rfl
              ·rw [if_neg hc30] at H
               cases H
             ·rw [if_neg hc29] at H
              cases H
            ·rw [if_neg hc28] at H
             refine RA.skip rfl rfl rfl rfl rfl (decide_eq_false hc28) (by decide) ?_
             refine RA.skip rfl rfl rfl rfl rfl (decide_eq_false hc28) (by decide) ?_
             refine RA.skip rfl rfl rfl rfl rfl (decide_eq_false hc28) (by decide) ?_
             refine RA.skip rfl rfl rfl rfl rfl (decide_eq_false hc28) (by decide) ?_
             refine RA.skip rfl rfl rfl rfl rfl (decide_eq_false hc28) (by decide) ?_
             refine RA.skip rfl rfl rfl rfl rfl (decide_eq_false hc28) (by decide) ?_
             refine RA.skip rfl rfl rfl rfl rfl (decide_eq_false hc28) (by decide) ?_
             refine RA.skip rfl rfl rfl rfl rfl (decide_eq_false hc28) (by decide) ?_
             refine RA.skip rfl rfl rfl rfl rfl (decide_eq_false hc28) (by decide) ?_
             refine RA.skip rfl rfl rfl rfl rfl (decide_eq_false hc28) (by decide) ?_
             refine a_pick (b := false) (v := vB _) ?_ (decide_eq_false hc28) (hg := Gs.yes rfl rfl rfl (congrArg Bool.not hc27))
             refine a_pick (b := false) (v := vB _) ?_ (congrArg Bool.not hc27)
             refine RA.nil (fun _ => by kernel_rfl) ?_
             exact CanR.mk (fun κ => cond (Nat.beq κ 213) 210 (cond (Nat.beq κ 214) 211 (κ))) ⟨_, (by omega), _, _, _, _, _, _, _, _, _, _, H, rfl⟩ ⟨rfl, rfl, rfl, rfl, rfl, rfl, trivial⟩ ⟨rfl, rfl, trivial⟩ rfl
           ·rw [if_neg hc27] at H
            refine RA.skip rfl rfl rfl rfl rfl (congrArg Bool.not (Bool.eq_false_iff.2 hc27)) (by decide) ?_
            refine RA.skip rfl rfl rfl rfl rfl (congrArg Bool.not (Bool.eq_false_iff.2 hc27)) (by decide) ?_
            refine RA.skip rfl rfl rfl rfl rfl (congrArg Bool.not (Bool.eq_false_iff.2 hc27)) (by decide) ?_
            refine RA.skip0 rfl rfl rfl rfl rfl ?_
            refine RA.skip0 rfl rfl rfl rfl rfl ?_
            refine RA.skip0 rfl rfl rfl rfl rfl ?_
            refine RA.skip0 rfl rfl rfl rfl rfl ?_
            refine RA.skip0 rfl rfl rfl rfl rfl ?_
            refine RA.skip0 rfl rfl rfl rfl rfl ?_
            refine RA.skip0 rfl rfl rfl rfl rfl ?_
            refine RA.skip0 rfl rfl rfl rfl rfl ?_
            refine RA.skip0 rfl rfl rfl rfl rfl ?_
            refine RA.skip0 rfl rfl rfl rfl rfl ?_
            refine RA.skip rfl rfl rfl rfl rfl (congrArg Bool.not (Bool.eq_false_iff.2 hc27)) (by decide) ?_
            refine a_pick (b := true) (v := vB _) ?_ (congrArg Bool.not (Bool.eq_false_iff.2 hc27))
            refine RA.nil (fun _ => by kernel_rfl) ?_
            exact CanR.mk (fun κ => cond (Nat.beq κ 213) 210 (cond (Nat.beq κ 214) 211 (κ))) ⟨_, (by omega), _, _, _, _, _, _, _, _, _, _, H, rfl⟩ ⟨rfl, rfl, rfl, rfl, rfl, rfl, trivial⟩ ⟨rfl, rfl, trivial⟩ rfl
          ·clear H
           rintro _ ⟨k, hj2, y213_0, y213_1, y213_2, y213_3, y214_0, y214_1, x63, x64, x65, x89, H, rfl⟩
           cases k with
           | zero => cases H
           | succ k =>
            rw [impl_ValidDrawing.j2] at H
            by_cases hc31 : x89 = true
            ·rw [if_pos hc31] at H
             refine AG.yes rfl hc31 ?_
             refine AG.seq ?_
             refine AG.region HM ?_
             refine a_move (v := vB _) ?_
             refine RA.nil nofun ?_
             refine AG.ret ?_
             obtain rfl := Option.some.inj H
             exact RetP.mk id ⟨rfl, trivial⟩ trivial rfl
            ·rw [if_neg hc31] at H
             refine AG.no rfl (Bool.eq_false_iff.2 hc31) ?_
             refine AG.skip ?_
             refine AG.seq ?_
             refine AG.region HM ?_
             refine a_faB (q := 2) ?_ D33_2
             refine a_ldB (v := vR _ _) ?_ T30
             refine a_faB (q := 1) ?_ D76_1
             refine a_ldB (v := vR _ _) ?_ T27
             obtain ⟨⟨t32, t33⟩, e34, H⟩ := bindO H
             refine a_call (v := .tup [.c (.own 215 t32.length), .c (.d (.v (.bool t33)))]) (nk := [(215, .row 51 (t32.map c50))]) (L := []) ?_ rfl (impl_ringPolygon.ok e34) (fun κ => cond (Nat.beq κ 215) 100 (κ)) (qd (qd qn)) trivial ⟨rfl, trivial⟩ ⟨rfl, trivial⟩ rfl
             refine a_move (v := .tup [_, _]) ?_
             refine a_ext (v := .c (.own _ _)) ?_
             refine a_ext (v := vB _) ?_
             refine a_move (v := .c (.own _ _)) ?_
             refine a_move (v := vB _) ?_
             refine RA.nil nofun ?_
             refine AG.seq ?_
             refine AG.region HM ?_
             refine a_move (v := vB _) ?_
             refine a_un (u := .bool (!t33)) ?_
             refine a_move (v := vB _) ?_
             by_cases hc35 : t33 = true
             ·rw [if_pos hc35] at H
              refine a_move (v := .c (.own _ _)) ?_ (hg := Gs.yes rfl rfl rfl (congrArg Bool.not hc35))
              obtain ⟨t36, e37, H⟩ := bindO H
              refine a_call (v := vB t36) (nk := []) (L := [(215, _)]) ?_ rfl (impl_ValidPolygon.ok e37) id (qc rO qn) ⟨rfl, trivial⟩ trivial trivial rfl (hg := Gs.yes rfl rfl rfl (congrArg Bool.not hc35))
              refine a_un (u := .bool (!t36)) ?_ (hg := Gs.yes rfl rfl rfl (congrArg Bool.not hc35))
              refine a_pick (b := false) (v := vB _) ?_ (congrArg Bool.not hc35)
              refine RA.nil nofun ?_
              by_cases hc38 : t36 = true
              ·rw [if_pos hc38] at H
               refine AG.no rfl (congrArg Bool.not hc38) ?_
               refine AG.skip ?_
               refine AG.region HM ?_
               refine a_int (u := .int .i64 (wrap64 (x65 + 1))) ?_
               refine a_move (v := vI _) ?_
               refine RA.nil nofun ?_
               exact AGr.canon (fun κ => cond (Nat.beq κ 210) 213 (κ)) (ih1 _ (by omega) _ ⟨by omega, _, _, _, _, _, _, _, H, rfl⟩) ⟨rfl, rfl, rfl, rfl, trivial⟩ ⟨rfl, trivial⟩ rfl
              ·rw [if_neg hc38] at H
               refine AG.yes rfl (congrArg Bool.not (Bool.eq_false_iff.2 hc38)) ?_
               refine AG.seq ?_
               refine AG.region HM ?_
               refine a_move (v := vB _) ?_
               refine RA.nil nofun ?_
               refine AG.ret ?_
               obtain rfl := Option.some.inj H
               exact RetP.mk id ⟨rfl, trivial⟩ trivial rfl
             ·rw [if_neg hc35] at H
              refine RA.skip rfl rfl rfl rfl rfl (congrArg Bool.not (Bool.eq_false_iff.2 hc35)) (by decide) ?_
              refine RA.skip rfl rfl rfl rfl rfl (congrArg Bool.not (Bool.eq_false_iff.2 hc35)) (by decide) ?_
              refine RA.skip rfl rfl rfl rfl rfl (congrArg Bool.not (Bool.eq_false_iff.2 hc35)) (by decide) ?_
              refine a_pick (b := true) (v := vB _) ?_ (congrArg Bool.not (Bool.eq_false_iff.2 hc35))
              refine RA.nil nofun ?_
              refine AG.yes rfl rfl ?_
              refine AG.seq ?_
              refine AG.region HM ?_
              refine a_move (v := vB _) ?_
              refine RA.nil nofun ?_
              refine AG.ret ?_
              obtain rfl := Option.some.inj H
              exact RetP.mk id ⟨rfl, trivial⟩ trivial rfl
         ·rw [if_neg hc24] at H
          cases H
        ·rw [if_neg hc23] at H
         cases H
       ·rw [if_neg hc22] at H
        refine AG.no rfl (decide_eq_false hc22) ?_
        refine AG.exit ?_
        refine AG.seq ?_
        refine AG.region HM ?_
        refine a_move (v := vB _) ?_
        refine RA.nil nofun ?_
        refine AG.ret ?_
        obtain rfl := Option.some.inj H
        exact RetP.mk id ⟨rfl, trivial⟩ trivial rfl
/-! ### impl_ringEdges: function 53 -/
def impl_ringEdges.l0 : Nat → List Int → List S89 → List Int → Int → Int → Option ((List S89))
 | 0, _, _, _, _, _ => none
 | k + 1, x0, x3, x8, x9, x10 => if x10 < x9 then (if 0 ≤ x10 then (if x10 < (x8.length : Int) then (if (x0.length : Int) = 0 then (none) else (if 0 ≤ (Int.tmod (wrap64 (x10 + 1)) (x0.length : Int)) then (if (Int.tmod (wrap64 (x10 + 1)) (x0.length : Int)) < (x0.length : Int) then (if x3.length < 8796093022208 then (impl_ringEdges.l0 k x0 (x3 ++ [(⟨mn (rd2 x8 x10) (rd2 x0 (Int.tmod (wrap64 (x10 + 1)) (x0.length : Int))), mx (rd2 x8 x10) (rd2 x0 (Int.tmod (wrap64 (x10 + 1)) (x0.length : Int)))⟩ : S89)]) x8 x9 (wrap64 (x10 + 1))) else (none)) else (none)) else (none))) else (none)) else (none)) else (some x3)
def impl_ringEdges.f (k : Nat) (l0 : List Int) : Option ((List S89)) := impl_ringEdges.l0 k l0 (([] : List S89) : List S89) l0 (l0.length : Int) 0
set_option maxRecDepth 100000 in
theorem impl_ringEdges.ok {k : Nat} {l0 : List Int} {r : List S89} (H : impl_ringEdges.f k l0 = some r) : OkF Tryz.prog 53 [vR 2 (l0.map c2)] [] (.c (.own 100 r.length)) [(100, .row 89 (r.map c89))] := by
 unfold impl_ringEdges.f at H
 refine OkF.of (N := 35) (rs := [2]) (avs := [.c (.own 100 r.length)]) Tryz.func53 rfl rfl (fun _ _ => results_tmp rfl _ _ _) (by decide) rfl rfl rfl rfl (fun w0 S => ?_)
 refine AG.seq ?_
 refine AG.region HM ?_
 refine a_nilO (e := 89) 200 ?_ T89
 refine RA.nil nofun ?_
 refine AG.seq ?_
 refine AG.region HM ?_
 refine a_lit (cs := []) (D := []) (css := (([] : List S89) : List S89).map c89) 201 ?_ N86 T89 (hcss := by rfl)
 refine a_move (v := .c (.own _ _)) ?_
 refine RA.nil nofun ?_
 refine AG.seq ?_
 refine AG.seq ?_
 refine AG.region HM ?_
 refine a_move (v := vR _ _) ?_
 refine a_lenR ?_ Tryz.underlying27
 refine a_move (v := vI _) ?_
 refine RA.nil nofun ?_
 refine AG.block ?_
 refine AG.loop ?_
 obtain ⟨K0, hK0, gK0⟩ : ∃ K, k ≤ K ∧ K ≤ k := ⟨k, Nat.le_refl k, Nat.le_refl k⟩
 refine AGr.canon (fun κ => cond (Nat.beq κ 202) 201 (κ)) (AGr.loopI (n := k) (fun k s => k ≤ K0 ∧ ∃ (x0 : List Int) (x3 : List S89) (x8 : List Int) (x9 : Int) (x10 : Int), impl_ringEdges.l0 k x0 x3 x8 x9 x10 = some r ∧ s = St.of [(0, vR 2 (x0.map c2)), (3, .c (.own 202 x3.length)), (8, vR 2 (x8.map c2)), (9, vI x9), (10, vI x10)] [(202, .row 89 (x3.map c89))]) ⟨hK0, _, _, _, _, _, H, rfl⟩ ?_ ?_) ⟨rfl, (ownE rfl (by simp)), rfl, rfl, rfl, trivial⟩ ⟨rfl, trivial⟩ rfl
 ·rintro _ ⟨_, _, _, _, _, _, H, _⟩
  cases H
 ·clear H hK0
  rintro k ih0 _ ⟨hK0, x0, x3, x8, x9, x10, H, rfl⟩
  unfold impl_ringEdges.l0 at H
  refine AG.seq ?_
  refine AG.region HM ?_
  refine a_int (u := .bool (decide (x10 < x9))) ?_
  refine RA.nil nofun ?_
  refine AG.seq ?_
  by_cases hc2 : x10 < x9
  ·rw [if_pos hc2] at H
   refine AG.yes rfl (decide_eq_true hc2) ?_
   refine AG.skip ?_
   refine AG.seq ?_
   refine AG.block ?_
   refine AG.seq ?_
   refine AG.region HM ?_
   refine a_move (v := vI _) ?_
   by_cases hc3 : 0 ≤ x10
   ·rw [if_pos hc3] at H
    by_cases hc4 : x10 < (x8.length : Int)
    ·rw [if_pos hc4] at H
     refine a_ixR (el := c2 (rd2 x8 x10)) ?_ ⟨hc3, hc4⟩ T2 Tryz.underlying27 (hel := R2 hc3 hc4)
     refine a_ldR (v := vI _) ?_ T2
     refine a_move (v := vI _) ?_
     refine a_move (v := vI _) ?_
     refine RA.nil nofun ?_
     refine AG.seq ?_
     refine AG.region HM ?_
     refine a_move (v := vR _ _) ?_
     refine a_move (v := vI _) ?_
     refine a_int (u := .int .i64 (wrap64 (x10 + 1))) ?_
     refine a_move (v := vR _ _) ?_
     refine a_lenR ?_ Tryz.underlying27
     by_cases hc5 : (x0.length : Int) = 0
     ·rw [if_pos hc5] at H
      cases H
     ·rw [if_neg hc5] at H
      refine a_rem (r := Int.tmod (wrap64 (x10 + 1)) (x0.length : Int)) ?_ hc5
      by_cases hc6 : 0 ≤ (Int.tmod (wrap64 (x10 + 1)) (x0.length : Int))
      ·rw [if_pos hc6] at H
       by_cases hc7 : (Int.tmod (wrap64 (x10 + 1)) (x0.length : Int)) < (x0.length : Int)
       ·rw [if_pos hc7] at H
        refine a_ixR (el := c2 (rd2 x0 (Int.tmod (wrap64 (x10 + 1)) (x0.length : Int)))) ?_ ⟨hc6, hc7⟩ T2 Tryz.underlying27 (hel := R2 hc6 hc7)
        refine a_ldR (v := vI _) ?_ T2
        refine a_move (v := vI _) ?_
        refine RA.nil nofun ?_
        refine AG.region HM ?_
        refine a_move (v := .c (.own _ _)) ?_
        refine a_move (v := vI _) ?_
        refine a_move (v := vI _) ?_
        refine a_minmax (mx := false) (r := mn (rd2 x8 x10) (rd2 x0 (Int.tmod (wrap64 (x10 + 1)) (x0.length : Int)))) ?_
        refine a_move (v := vI _) ?_
        refine a_move (v := vI _) ?_
        refine a_minmax (mx := true) (r := mx (rd2 x8 x10) (rd2 x0 (Int.tmod (wrap64 (x10 + 1)) (x0.length : Int)))) ?_
        refine a_buildA (cs := [_, _]) ?_ T89 Tryz.underlying89 T2 rfl
        refine a_lit (cs := [_, _]) (D := []) (css := ([(⟨mn (rd2 x8 x10) (rd2 x0 (Int.tmod (wrap64 (x10 + 1)) (x0.length : Int))), mx (rd2 x8 x10) (rd2 x0 (Int.tmod (wrap64 (x10 + 1)) (x0.length : Int)))⟩ : S89)]).map c89) 203 ?_ N86 T89
        by_cases hc8 : x3.length < 8796093022208
        ·rw [if_pos hc8] at H
         refine a_appO (css' := (x3 ++ [(⟨mn (rd2 x8 x10) (rd2 x0 (Int.tmod (wrap64 (x10 + 1)) (x0.length : Int))), mx (rd2 x8 x10) (rd2 x0 (Int.tmod (wrap64 (x10 + 1)) (x0.length : Int)))⟩ : S89)]).map c89) (n' := (x3 ++ [(⟨mn (rd2 x8 x10) (rd2 x0 (Int.tmod (wrap64 (x10 + 1)) (x0.length : Int))), mx (rd2 x8 x10) (rd2 x0 (Int.tmod (wrap64 (x10 + 1)) (x0.length : Int)))⟩ : S89)]).length) ?_ T89 (by simp [maxLen]; omega) (by simp; omega) Tryz.underlying86 (hc := by exact List.map_append.symm) (hn := by exact List.length_map _)
         refine a_move (v := .c (.own _ _)) ?_
         refine RA.nil nofun ?_
         refine AG.region HM ?_
         refine a_int (u := .int .i64 (wrap64 (x10 + 1))) ?_
         refine a_move (v := vI _) ?_
         refine RA.nil nofun ?_
         exact AGr.canon id (ih0 _ (by omega) _ ⟨by omega, _, _, _, _, _, H, rfl⟩) ⟨rfl, rfl, rfl, rfl, rfl, trivial⟩ ⟨rfl, trivial⟩ rfl
        ·rw [if_neg hc8] at H
         cases H
       ·rw [if_neg hc7] at H
        cases H
      ·rw [if_neg hc6] at H
       cases H
    ·rw [if_neg hc4] at H
     cases H
   ·rw [if_neg hc3] at H
    cases H
  ·rw [if_neg hc2] at H
   refine AG.no rfl (decide_eq_false hc2) ?_
   refine AG.exit ?_
   refine AG.seq ?_
   refine AG.region HM ?_
   refine a_move (v := .c (.own _ _)) ?_
   refine a_move (v := .c (.own _ _)) ?_
   refine RA.nil nofun ?_
   refine AG.ret ?_
   obtain rfl := Option.some.inj H
   exact RetP.mk (fun κ => cond (Nat.beq κ 100) 202 (κ)) ⟨rfl, trivial⟩ ⟨rfl, trivial⟩ rfl
/-! ### slices_SortFunc_pairs: function 54 -/
def slices_SortFunc_pairs.f (l0 : List S89) : Option (List S89) := if l0.length < 4611686018427387904 then some ((sortP (l0.map fun x => (x.f0, x.f1))).map fun p => (⟨p.1, p.2⟩ : S89)) else none
theorem slices_SortFunc_pairs.ok {l0 : List S89} {r : List S89} (H : slices_SortFunc_pairs.f l0 = some r) : OkF Tryz.prog 54 [.c (.own 0 l0.length), .c (.d (.fn 55 []))] [(0, .row 89 (l0.map c89))] (.tup []) [(0, .row 89 (r.map c89))] := by
 unfold slices_SortFunc_pairs.f at H
 by_cases h : l0.length < 4611686018427387904
 ·rw [if_pos h] at H
  obtain rfl := Option.some.inj H
  have := sortPairs (l0.map fun x => (x.f0, x.f1)) (by rw [List.length_map]; exact h)
  rw [List.length_map, List.map_map] at this
  rw [List.map_map]
  exact this
 ·rw [if_neg h] at H
  cases H
/-! ### impl_EdgesOf: function 27 -/
mutual
def impl_EdgesOf.l0 : Nat → List S89 → List S72 → Int → Int → Option ((List (List Int)) × Int)
 | 0, _, _, _, _ => none
 | k + 1, x4, x15, x16, x17 => if x17 < x16 then (if 0 ≤ x17 then (if x17 < (x15.length : Int) then ((impl_ringEdges.f k ((rd72 x15 x17).f1)).bind fun t8 => (if x4.length + t8.length < 8796093022208 then (impl_EdgesOf.l0 k (x4 ++ t8) x15 x16 (wrap64 (x17 + 1))) else (none))) else (none)) else (none)) else ((slices_SortFunc_pairs.f x4).bind fun t12 => (impl_EdgesOf.l1 k t12 (([] : List (List Int)) : List (List Int)) (t12.length : Int) 0))
def impl_EdgesOf.l1 : Nat → List S89 → List (List Int) → Int → Int → Option ((List (List Int)) × Int)
 | 0, _, _, _, _ => none
 | k + 1, x4, x7, x31, x32 => if x32 < x31 then (if 0 ≤ x32 then (if x32 < (x4.length : Int) then (if x32 = 0 then (if x7.length < 5864062014805 then (impl_EdgesOf.l1 k x4 (x7 ++ [[(rd89 x4 x32).f0, (rd89 x4 x32).f1]]) x31 (wrap64 (x32 + 1))) else (none)) else (if 0 ≤ (wrap64 (x32 - 1)) then (if (wrap64 (x32 - 1)) < (x4.length : Int) then (if (((rd89 x4 x32).f0) == ((rd89 x4 (wrap64 (x32 - 1))).f0) && (((rd89 x4 x32).f1) == ((rd89 x4 (wrap64 (x32 - 1))).f1))) = true then (impl_EdgesOf.l1 k x4 x7 x31 (wrap64 (x32 + 1))) else (if x7.length < 5864062014805 then (impl_EdgesOf.l1 k x4 (x7 ++ [[(rd89 x4 x32).f0, (rd89 x4 x32).f1]]) x31 (wrap64 (x32 + 1))) else (none))) else (none)) else (none))) else (none)) else (none)) else (some (x7, 0))
end
def impl_EdgesOf.f (k : Nat) (a0_0 : Int) (a0_1 : Int) (l0_2 : List S50) (l0_3 : List S72) : Option ((List (List Int)) × Int) := (impl_ValidDrawing.f k a0_0 a0_1 l0_2 l0_3).bind fun t1 => (if t1 = true then (impl_EdgesOf.l0 k (([] : List S89) : List S89) l0_3 (l0_3.length : Int) 0) else (some (([] : List (List Int)), 1)))
set_option maxRecDepth 100000 in
theorem impl_EdgesOf.ok {k : Nat} {a0_0 : Int} {a0_1 : Int} {l0_2 : List S50} {l0_3 : List S72} {r0 : List (List Int)} {r1 : Int} (H : impl_EdgesOf.f k a0_0 a0_1 l0_2 l0_3 = some (r0, r1)) : OkF Tryz.prog 27 [.agg [.d (.v (.int .i64 a0_0)), .d (.v (.int .i64 a0_1)), .d (.row 51 (l0_2.map c50)), .d (.row 76 (l0_3.map c72))]] [] (.tup [.c (.own 100 r0.length), .c (.d (.v (.int .i64 r1)))]) [(100, .row 27 (r0.map c27))] := by
 unfold impl_EdgesOf.f at H
 refine OkF.of (N := 58) (rs := [2, 3]) (avs := [.c (.own 100 r0.length), .c (.d (.v (.int .i64 r1)))]) Tryz.func27 rfl rfl (fun _ _ => results_tmp2 rfl _ _ _) (by decide) rfl rfl rfl rfl (fun w0 S => ?_)
 refine AG.seq ?_
 refine AG.region HM ?_
 refine a_box 200 ?_
 refine a_nilO (e := 27) 201 ?_ T27
 refine a_move (v := vI _) ?_
 refine RA.nil nofun ?_
 refine AG.seq ?_
 refine AG.seq ?_
 refine AG.region HM ?_
 refine a_ldB (v := .agg [_, _, _, _]) ?_ T33
 obtain ⟨t1, e2, H⟩ := bindO H
 refine a_call (v := vB t1) (nk := []) (L := []) ?_ rfl (impl_ValidDrawing.ok e2) id (qg qn) trivial trivial trivial rfl
 refine a_un (u := .bool (!t1)) ?_
 refine RA.nil nofun ?_
 by_cases hc3 : t1 = true
 ·rw [if_pos hc3] at H
  refine AG.no rfl (congrArg Bool.not hc3) ?_
  refine AG.skip ?_
  refine AG.seq ?_
  refine AG.region HM ?_
  refine a_lit (cs := []) (D := []) (css := (([] : List S89) : List S89).map c89) 204 ?_ N86 T89 (hcss := by rfl)
  refine a_move (v := .c (.own _ _)) ?_
  refine RA.nil nofun ?_
  refine AG.seq ?_
  refine AG.seq ?_
  refine AG.region HM ?_
  refine a_faB (q := 3) ?_ D33_3
  refine a_ldB (v := vR _ _) ?_ T31
  refine a_lenR ?_ Tryz.underlying31
  refine a_move (v := vI _) ?_
  refine RA.nil nofun ?_
  refine AG.block ?_
  refine AG.loop ?_
  obtain ⟨K0, hK0, gK0⟩ : ∃ K, k ≤ K ∧ K ≤ k := ⟨k, Nat.le_refl k, Nat.le_refl k⟩
  refine AGr.canon (fun κ => cond (Nat.beq κ 205) 204 (κ)) (AGr.loopI (n := k) (fun k s => k ≤ K0 ∧ ∃ (x4 : List S89) (x15 : List S72) (x16 : Int) (x17 : Int), impl_EdgesOf.l0 k x4 x15 x16 x17 = some (r0, r1) ∧ s = St.of [(4, .c (.own 205 x4.length)), (15, vR 76 (x15.map c72)), (16, vI x16), (17, vI x17)] [(205, .row 89 (x4.map c89))]) ⟨hK0, _, _, _, _, H, rfl⟩ ?_ ?_) ⟨(ownE rfl (by simp)), rfl, rfl, rfl, trivial⟩ ⟨rfl, trivial⟩ rfl
  ·rintro _ ⟨_, _, _, _, _, H, _⟩
   cases H
  ·clear H hK0
   rintro k ih0 _ ⟨hK0, x4, x15, x16, x17, H, rfl⟩
   unfold impl_EdgesOf.l0 at H
   refine AG.seq ?_
   refine AG.region HM ?_
   refine a_int (u := .bool (decide (x17 < x16))) ?_
   refine RA.nil nofun ?_
   refine AG.seq ?_
   by_cases hc5 : x17 < x16
   ·rw [if_pos hc5] at H
    refine AG.yes rfl (decide_eq_true hc5) ?_
    refine AG.skip ?_
    refine AG.seq ?_
    refine AG.block ?_
    refine AG.seq ?_
    refine AG.region HM ?_
    by_cases hc6 : 0 ≤ x17
    ·rw [if_pos hc6] at H
     by_cases hc7 : x17 < (x15.length : Int)
     ·rw [if_pos hc7] at H
      refine a_ixR (el := c72 (rd72 x15 x17)) ?_ ⟨hc6, hc7⟩ T76 Tryz.underlying31 (hel := R72 hc6 hc7)
      refine a_ldR (v := .agg [_, _]) ?_ T76
      refine a_alloc (cs := [_, _]) 206 ?_ T76
      refine a_stB (cs' := [_, _]) ?_ T76
      refine RA.nil nofun ?_
      refine AG.region HM ?_
      refine a_move (v := .c (.own _ _)) ?_
      refine a_faB (q := 1) ?_ D76_1
      refine a_ldB (v := vR _ _) ?_ T27
      obtain ⟨t8, e9, H⟩ := bindO H
      refine a_call (v := .c (.own 207 t8.length)) (nk := [(207, .row 89 (t8.map c89))]) (L := []) ?_ rfl (impl_ringEdges.ok e9) (fun κ => cond (Nat.beq κ 207) 100 (κ)) (qd qn) trivial ⟨rfl, trivial⟩ ⟨rfl, trivial⟩ rfl
      by_cases hc10 : x4.length + t8.length < 8796093022208
      ·rw [if_pos hc10] at H
       refine a_appO (css' := (x4 ++ t8).map c89) (n' := (x4 ++ t8).length) ?_ T89 (by simp [maxLen]; omega) (by simp; omega) Tryz.underlying86 (hc := by exact List.map_append.symm) (hn := by exact List.length_map _)
       refine a_move (v := .c (.own _ _)) ?_
       refine RA.nil nofun ?_
       refine AG.region HM ?_
       refine a_int (u := .int .i64 (wrap64 (x17 + 1))) ?_
       refine a_move (v := vI _) ?_
       refine RA.nil nofun ?_
       exact AGr.canon id (ih0 _ (by omega) _ ⟨by omega, _, _, _, _, H, rfl⟩) ⟨rfl, rfl, rfl, rfl, trivial⟩ ⟨rfl, trivial⟩ rfl
      ·rw [if_neg hc10] at H
       cases H
     ·rw [if_neg hc7] at H
      cases H
    ·rw [if_neg hc6] at H
     cases H
   ·rw [if_neg hc5] at H
    refine AG.no rfl (decide_eq_false hc5) ?_
    refine AG.exit ?_
    refine AG.seq ?_
    refine AG.region HM ?_
    refine a_move (v := .c (.own _ _)) ?_
    obtain ⟨t12, e13, H⟩ := bindO H
    refine a_callM (v := .tup []) (nk := []) (L := []) (Mk := [(205, _)]) (ck := [(205, .row 89 (t12.map c89))]) ?_ rfl (slices_SortFunc_pairs.ok e13) (fun κ => cond (Nat.beq κ 0) 205 (κ)) (fun κ => cond (Nat.beq κ 205) 0 (κ)) (mcO (mcD m0)) trivial ⟨rfl, trivial⟩ trivial ⟨rfl, trivial⟩ trivial ⟨rfl, trivial⟩ rfl rfl rfl
    refine RA.nil nofun ?_
    refine AG.relen 205 t12.length ?_
    refine AG.seq ?_
    refine AG.region HM ?_
    refine a_lit (cs := []) (D := []) (css := (([] : List (List Int)) : List (List Int)).map c27) 209 ?_ N46 T27 (hcss := by rfl)
    refine a_move (v := .c (.own _ _)) ?_
    refine RA.nil nofun ?_
    refine AG.seq ?_
    refine AG.seq ?_
    refine AG.region HM ?_
    refine a_move (v := .c (.own _ _)) ?_
    refine a_lenO ?_ Tryz.underlying86
    refine a_move (v := vI _) ?_
    refine RA.nil nofun ?_
    refine AG.block ?_
    refine AG.loop ?_
    obtain ⟨K1, hK1, gK1⟩ : ∃ K, k ≤ K ∧ K ≤ k := ⟨k, Nat.le_refl k, Nat.le_refl k⟩
    refine AGr.canon (fun κ => cond (Nat.beq κ 210) 205 (cond (Nat.beq κ 211) 209 (κ))) (AGr.loopI (n := k) (fun k s => k ≤ K1 ∧ ∃ (x4 : List S89) (x7 : List (List Int)) (x31 : Int) (x32 : Int), impl_EdgesOf.l1 k x4 x7 x31 x32 = some (r0, r1) ∧ s = St.of [(4, .c (.own 210 x4.length)), (7, .c (.own 211 x7.length)), (30, .c (.own 210 x4.length)), (31, vI x31), (32, vI x32)] [(210, .row 89 (x4.map c89)), (211, .row 27 (x7.map c27))]) ⟨hK1, _, _, _, _, H, rfl⟩ ?_ ?_) ⟨rfl, (ownE rfl (by simp)), rfl, rfl, rfl, trivial⟩ ⟨rfl, rfl, trivial⟩ rfl
    ·rintro _ ⟨_, _, _, _, _, H, _⟩
     cases H
    ·clear H hK1
     rintro k ih1 _ ⟨hK1, x4, x7, x31, x32, H, rfl⟩
     unfold impl_EdgesOf.l1 at H
     refine AG.seq ?_
     refine AG.region HM ?_
     refine a_int (u := .bool (decide (x32 < x31))) ?_
     refine RA.nil nofun ?_
     refine AG.seq ?_
     by_cases hc15 : x32 < x31
     ·rw [if_pos hc15] at H
      refine AG.yes rfl (decide_eq_true hc15) ?_
      refine AG.skip ?_
      refine AG.seq ?_
      refine AG.block ?_
      refine AG.seq ?_
      refine AG.region HM ?_
      refine a_move (v := vI _) ?_
      by_cases hc16 : 0 ≤ x32
      ·rw [if_pos hc16] at H
       by_cases hc17 : x32 < (x4.length : Int)
       ·rw [if_pos hc17] at H
        refine a_ixO ?_ ⟨hc16, hc17⟩ T89 Tryz.underlying86
        refine a_ldE (v := .agg [_, _]) ?_ (G89 hc16 hc17) T89
        refine a_alloc (cs := [_, _]) 212 ?_ T89
        refine a_move (v := vI _) ?_
        refine a_stB (cs' := [_, _]) ?_ T89
        refine RA.nil nofun ?_
        refine AG.seq ?_
        refine AG.region HM ?_
        refine a_move (v := vI _) ?_
        refine a_int (u := .bool ((x32 == 0))) ?_
        refine a_move (v := vB _) ?_
        by_cases hc18 : x32 = 0
        ·rw [if_pos hc18] at H
         refine RA.skip rfl rfl rfl rfl rfl (beq_iff_eq.2 hc18) (by decide) ?_
         refine RA.skip rfl rfl rfl rfl rfl (beq_iff_eq.2 hc18) (by decide) ?_
         refine RA.skip rfl rfl rfl rfl rfl (beq_iff_eq.2 hc18) (by decide) ?_
         refine RA.skip rfl rfl rfl rfl rfl (beq_iff_eq.2 hc18) (by decide) ?_
         refine RA.skip rfl rfl rfl rfl rfl (beq_iff_eq.2 hc18) (by decide) ?_
         refine RA.skip rfl rfl rfl rfl rfl (beq_iff_eq.2 hc18) (by decide) ?_
         refine RA.skip rfl rfl rfl rfl rfl (beq_iff_eq.2 hc18) (by decide) ?_
         refine a_pick (b := true) (v := vB _) ?_ (beq_iff_eq.2 hc18)
         refine RA.nil (fun _ => by kernel_rfl) ?_
         refine AG.yes rfl rfl ?_
         refine AG.region HM ?_
         refine a_move (v := .c (.own _ _)) ?_
         refine a_ixaB (q := 0) (iv := 0) ?_ (by decide) T2 Tryz.underlying89
         refine a_ldB (v := vI _) ?_ T2
         refine a_ixaB (q := 1) (iv := 1) ?_ (by decide) T2 Tryz.underlying89
         refine a_ldB (v := vI _) ?_ T2
         refine a_lit (cs := [_, _]) (D := []) (css := ([(rd89 x4 x32).f0, (rd89 x4 x32).f1]).map c2) 213 ?_ N27 T2
         refine a_lit (cs := [_]) (D := [213]) (css := ([[(rd89 x4 x32).f0, (rd89 x4 x32).f1]]).map c27) 214 ?_ N46 T27
         by_cases hc19 : x7.length < 5864062014805
         ·rw [if_pos hc19] at H
          refine a_appO (css' := (x7 ++ [[(rd89 x4 x32).f0, (rd89 x4 x32).f1]]).map c27) (n' := (x7 ++ [[(rd89 x4 x32).f0, (rd89 x4 x32).f1]]).length) ?_ T27 (by simp [maxLen]; omega) (by simp; omega) Tryz.underlying46 (hc := by exact List.map_append.symm) (hn := by exact List.length_map _)
          refine a_move (v := .c (.own _ _)) ?_
          refine RA.nil nofun ?_
          refine AG.region HM ?_
          refine a_int (u := .int .i64 (wrap64 (x32 + 1))) ?_
          refine a_move (v := vI _) ?_
          refine RA.nil nofun ?_
          exact AGr.canon id (ih1 _ (by omega) _ ⟨by omega, _, _, _, _, H, rfl⟩) ⟨rfl, rfl, rfl, rfl, rfl, trivial⟩ ⟨rfl, rfl, trivial⟩ rfl
         ·rw [if_neg hc19] at H
          cases H
        ·rw [if_neg hc18] at H
         refine a_ldB (v := .agg [_, _]) ?_ T89 (hg := Gs.yes rfl rfl rfl (beq_eq_false_iff_ne.2 hc18))
         refine a_move (v := .c (.own _ _)) ?_ (hg := Gs.yes rfl rfl rfl (beq_eq_false_iff_ne.2 hc18))
         refine a_move (v := vI _) ?_ (hg := Gs.yes rfl rfl rfl (beq_eq_false_iff_ne.2 hc18))
         refine a_int (u := .int .i64 (wrap64 (x32 - 1))) ?_ (hg := Gs.yes rfl rfl rfl (beq_eq_false_iff_ne.2 hc18))
         by_cases hc21 : 0 ≤ (wrap64 (x32 - 1))
         ·rw [if_pos hc21] at H
          by_cases hc22 : (wrap64 (x32 - 1)) < (x4.length : Int)
          ·rw [if_pos hc22] at H
           refine a_ixO ?_ ⟨hc21, hc22⟩ T89 Tryz.underlying86 (hg := Gs.yes rfl rfl rfl (beq_eq_false_iff_ne.2 hc18))
           refine a_ldE (v := .agg [_, _]) ?_ (G89 hc21 hc22) T89 (hg := Gs.yes rfl rfl rfl (beq_eq_false_iff_ne.2 hc18))
           refine a_eqS (b := (!(((rd89 x4 x32).f0) == ((rd89 x4 (wrap64 (x32 - 1))).f0) && (((rd89 x4 x32).f1) == ((rd89 x4 (wrap64 (x32 - 1))).f1))))) ?_ (.inr ⟨rfl, rfl⟩) (Q89 ((rd89 x4 x32).f0) ((rd89 x4 (wrap64 (x32 - 1))).f0) ((rd89 x4 x32).f1) ((rd89 x4 (wrap64 (x32 - 1))).f1)).2 (hg := Gs.yes rfl rfl rfl (beq_eq_false_iff_ne.2 hc18))
           refine a_pick (b := false) (v := vB _) ?_ (beq_eq_false_iff_ne.2 hc18)
           refine RA.nil (fun _ => by kernel_rfl) ?_
           by_cases hc23 : (((rd89 x4 x32).f0) == ((rd89 x4 (wrap64 (x32 - 1))).f0) && (((rd89 x4 x32).f1) == ((rd89 x4 (wrap64 (x32 - 1))).f1))) = true
           ·rw [if_pos hc23] at H
            refine AG.no rfl (by rw [show (((rd89 x4 x32).f0) == ((rd89 x4 (wrap64 (x32 - 1))).f0) && (((rd89 x4 x32).f1) == ((rd89 x4 (wrap64 (x32 - 1))).f1))) = true from hc23]; rfl) ?_
            refine AG.skip ?_
            refine AG.region HM ?_
            refine a_int (u := .int .i64 (wrap64 (x32 + 1))) ?_
            refine a_move (v := vI _) ?_
            refine RA.nil nofun ?_
            exact AGr.canon id (ih1 _ (by omega) _ ⟨by omega, _, _, _, _, H, rfl⟩) ⟨rfl, rfl, rfl, rfl, rfl, trivial⟩ ⟨rfl, rfl, trivial⟩ rfl
           ·rw [if_neg hc23] at H
            refine AG.yes rfl (by rw [Bool.eq_false_iff.2 hc23]; rfl) ?_
            refine AG.region HM ?_
            refine a_move (v := .c (.own _ _)) ?_
            refine a_ixaB (q := 0) (iv := 0) ?_ (by decide) T2 Tryz.underlying89
            refine a_ldB (v := vI _) ?_ T2
            refine a_ixaB (q := 1) (iv := 1) ?_ (by decide) T2 Tryz.underlying89
            refine a_ldB (v := vI _) ?_ T2
            refine a_lit (cs := [_, _]) (D := []) (css := ([(rd89 x4 x32).f0, (rd89 x4 x32).f1]).map c2) 213 ?_ N27 T2
            refine a_lit (cs := [_]) (D := [213]) (css := ([[(rd89 x4 x32).f0, (rd89 x4 x32).f1]]).map c27) 214 ?_ N46 T27
            by_cases hc24 : x7.length < 5864062014805
            ·rw [if_pos hc24] at H
             refine a_appO (css' := (x7 ++ [[(rd89 x4 x32).f0, (rd89 x4 x32).f1]]).map c27) (n' := (x7 ++ [[(rd89 x4 x32).f0, (rd89 x4 x32).f1]]).length) ?_ T27 (by simp [maxLen]; omega) (by simp; omega) Tryz.underlying46 (hc := by exact List.map_append.symm) (hn := by exact List.length_map _)
             refine a_move (v := .c (.own _ _)) ?_
             refine RA.nil nofun ?_
             refine AG.region HM ?_
             refine a_int (u := .int .i64 (wrap64 (x32 + 1))) ?_
             refine a_move (v := vI _) ?_
             refine RA.nil nofun ?_
             exact AGr.canon id (ih1 _ (by omega) _ ⟨by omega, _, _, _, _, H, rfl⟩) ⟨rfl, rfl, rfl, rfl, rfl, trivial⟩ ⟨rfl, rfl, trivial⟩ rfl
            ·rw [if_neg hc24] at H
             cases H
          ·rw [if_neg hc22] at H
           cases H
         ·rw [if_neg hc21] at H
          cases H
       ·rw [if_neg hc17] at H
        cases H
      ·rw [if_neg hc16] at H
       cases H
     ·rw [if_neg hc15] at H
      refine AG.no rfl (decide_eq_false hc15) ?_
      refine AG.exit ?_
      refine AG.seq ?_
      refine AG.region HM ?_
      refine a_move (v := .c (.own _ _)) ?_
      refine a_move (v := .c (.own _ _)) ?_
      refine a_move (v := vI _) ?_
      refine RA.nil nofun ?_
      refine AG.ret ?_
      simp only [Option.some.injEq, Prod.mk.injEq] at H
      obtain ⟨rfl, rfl⟩ := H
      exact RetP.mk (fun κ => cond (Nat.beq κ 100) 211 (κ)) ⟨rfl, rfl, trivial⟩ ⟨rfl, trivial⟩ rfl
 ·rw [if_neg hc3] at H
  refine AG.yes rfl (congrArg Bool.not (Bool.eq_false_iff.2 hc3)) ?_
  refine AG.seq ?_
  refine AG.region HM ?_
  refine a_nilO (e := 27) 203 ?_ T27
  refine a_move (v := vI _) ?_
  refine RA.nil nofun ?_
  refine AG.ret ?_
  simp only [Option.some.injEq, Prod.mk.injEq] at H
  obtain ⟨rfl, rfl⟩ := H
  exact RetP.mk (fun κ => cond (Nat.beq κ 100) 203 (κ)) ⟨(ownE rfl (by simp)), rfl, trivial⟩ ⟨rfl, trivial⟩ rfl
/-! ### slices_Index_2_int64_2_int64: function 121 -/
def slices_Index_2_int64_2_int64.l0 : Nat → List S89 → Int → Int → Int → Int → Option (Int)
 | 0, _, _, _, _, _ => none
 | k + 1, x0, y201_0, y201_1, x7, x8 => if x8 < x7 then (if 0 ≤ x8 then (if x8 < (x0.length : Int) then (if (y201_0 == ((rd89 x0 x8).f0) && (y201_1 == ((rd89 x0 x8).f1))) = true then (some x8) else (slices_Index_2_int64_2_int64.l0 k x0 y201_0 y201_1 x7 (wrap64 (x8 + 1)))) else (none)) else (none)) else (some (-1))
def slices_Index_2_int64_2_int64.f (k : Nat) (l0 : List S89) (a1_0 : Int) (a1_1 : Int) : Option (Int) := slices_Index_2_int64_2_int64.l0 k l0 a1_0 a1_1 (l0.length : Int) 0
set_option maxRecDepth 100000 in
theorem slices_Index_2_int64_2_int64.ok {k : Nat} {l0 : List S89} {a1_0 : Int} {a1_1 : Int} {r : Int} (H : slices_Index_2_int64_2_int64.f k l0 a1_0 a1_1 = some r) : OkF Tryz.prog 121 [vR 89 (l0.map c89), .agg [.d (.v (.int .i64 a1_0)), .d (.v (.int .i64 a1_1))]] [] (.c (.d (.v (.int .i64 r)))) [] := by
 unfold slices_Index_2_int64_2_int64.f at H
 refine OkF.of (N := 19) (rs := [4]) (avs := [.c (.d (.v (.int .i64 r)))]) Tryz.func121 rfl rfl (fun _ _ => results_tmp rfl _ _ _) (by decide) rfl rfl rfl rfl (fun w0 S => ?_)
 refine AG.seq ?_
 refine AG.region HM ?_
 refine a_box 200 ?_
 refine a_move (v := vI _) ?_
 refine RA.nil nofun ?_
 refine AG.seq ?_
 refine AG.seq ?_
 refine AG.region HM ?_
 refine a_move (v := vR _ _) ?_
 refine a_lenR ?_ Tryz.underlying86
 refine a_move (v := vI _) ?_
 refine RA.nil nofun ?_
 refine AG.block ?_
 refine AG.loop ?_
 obtain ⟨K0, hK0, gK0⟩ : ∃ K, k ≤ K ∧ K ≤ k := ⟨k, Nat.le_refl k, Nat.le_refl k⟩
 refine AGr.canon (fun κ => cond (Nat.beq κ 201) 200 (κ)) (AGr.loopI (n := k) (fun k s => k ≤ K0 ∧ ∃ (x0 : List S89) (y201_0 : Int) (y201_1 : Int) (x7 : Int) (x8 : Int), slices_Index_2_int64_2_int64.l0 k x0 y201_0 y201_1 x7 x8 = some r ∧ s = St.of [(0, vR 89 (x0.map c89)), (3, .c (.ptr 201 0)), (7, vI x7), (8, vI x8)] [(201, .box 89 [.d (.v (.int .i64 y201_0)), .d (.v (.int .i64 y201_1))])]) ⟨hK0, _, _, _, _, _, H, rfl⟩ ?_ ?_) ⟨rfl, rfl, rfl, rfl, trivial⟩ ⟨rfl, trivial⟩ rfl
 ·rintro _ ⟨_, _, _, _, _, _, H, _⟩
  cases H
 ·clear H hK0
  rintro k ih0 _ ⟨hK0, x0, y201_0, y201_1, x7, x8, H, rfl⟩
  unfold slices_Index_2_int64_2_int64.l0 at H
  refine AG.seq ?_
  refine AG.region HM ?_
  refine a_int (u := .bool (decide (x8 < x7))) ?_
  refine RA.nil nofun ?_
  refine AG.seq ?_
  by_cases hc1 : x8 < x7
  ·rw [if_pos hc1] at H
   refine AG.yes rfl (decide_eq_true hc1) ?_
   refine AG.skip ?_
   refine AG.seq ?_
   refine AG.block ?_
   refine AG.seq ?_
   refine AG.region HM ?_
   refine a_move (v := vI _) ?_
   refine a_move (v := vI _) ?_
   refine RA.nil nofun ?_
   refine AG.seq ?_
   refine AG.region HM ?_
   refine a_ldB (v := .agg [_, _]) ?_ T89
   refine a_move (v := vR _ _) ?_
   refine a_move (v := vI _) ?_
   by_cases hc2 : 0 ≤ x8
   ·rw [if_pos hc2] at H
    by_cases hc3 : x8 < (x0.length : Int)
    ·rw [if_pos hc3] at H
     refine a_ixR (el := c89 (rd89 x0 x8)) ?_ ⟨hc2, hc3⟩ T89 Tryz.underlying86 (hel := R89 hc2 hc3)
     refine a_ldR (v := .agg [_, _]) ?_ T89
     refine a_eqS (b := (y201_0 == ((rd89 x0 x8).f0) && (y201_1 == ((rd89 x0 x8).f1)))) ?_ (.inl ⟨rfl, rfl⟩) (Q89 y201_0 ((rd89 x0 x8).f0) y201_1 ((rd89 x0 x8).f1)).1
     refine RA.nil (fun _ => by kernel_rfl) ?_
     by_cases hc4 : (y201_0 == ((rd89 x0 x8).f0) && (y201_1 == ((rd89 x0 x8).f1))) = true
     ·rw [if_pos hc4] at H
      refine AG.yes rfl hc4 ?_
      refine AG.seq ?_
      refine AG.region HM ?_
      refine a_move (v := vI _) ?_
      refine a_move (v := vI _) ?_
      refine RA.nil nofun ?_
      refine AG.ret ?_
      obtain rfl := Option.some.inj H
      exact RetP.mk id ⟨rfl, trivial⟩ trivial rfl
     ·rw [if_neg hc4] at H
      refine AG.no rfl (Bool.eq_false_iff.2 hc4) ?_
      refine AG.skip ?_
      refine AG.region HM ?_
      refine a_int (u := .int .i64 (wrap64 (x8 + 1))) ?_
      refine a_move (v := vI _) ?_
      refine RA.nil nofun ?_
      exact AGr.canon id (ih0 _ (by omega) _ ⟨by omega, _, _, _, _, _, H, rfl⟩) ⟨rfl, rfl, rfl, rfl, trivial⟩ ⟨rfl, trivial⟩ rfl
    ·rw [if_neg hc3] at H
     cases H
   ·rw [if_neg hc2] at H
    cases H
  ·rw [if_neg hc1] at H
   refine AG.no rfl (decide_eq_false hc1) ?_
   refine AG.exit ?_
   refine AG.seq ?_
   refine AG.region HM ?_
   refine a_move (v := vI _) ?_
   refine RA.nil nofun ?_
   refine AG.ret ?_
   obtain rfl := Option.some.inj H
   exact RetP.mk id ⟨rfl, trivial⟩ trivial rfl
/-! ### slices_Contains_2_int64_2_int64: function 109 -/
def slices_Contains_2_int64_2_int64.f (k : Nat) (l0 : List S89) (a1_0 : Int) (a1_1 : Int) : Option (Bool) := (slices_Index_2_int64_2_int64.f k l0 a1_0 a1_1).bind fun t1 => (some (decide (t1 ≥ 0)))
set_option maxRecDepth 100000 in
theorem slices_Contains_2_int64_2_int64.ok {k : Nat} {l0 : List S89} {a1_0 : Int} {a1_1 : Int} {r : Bool} (H : slices_Contains_2_int64_2_int64.f k l0 a1_0 a1_1 = some r) : OkF Tryz.prog 109 [vR 89 (l0.map c89), .agg [.d (.v (.int .i64 a1_0)), .d (.v (.int .i64 a1_1))]] [] (.c (.d (.v (.bool r)))) [] := by
 unfold slices_Contains_2_int64_2_int64.f at H
 refine OkF.of (N := 9) (rs := [4]) (avs := [.c (.d (.v (.bool r)))]) Tryz.func109 rfl rfl (fun _ _ => results_tmp rfl _ _ _) (by decide) rfl rfl rfl rfl (fun w0 S => ?_)
 refine AG.seq ?_
 refine AG.region HM ?_
 refine a_box 200 ?_
 refine a_move (v := vB _) ?_
 refine RA.nil nofun ?_
 refine AG.seq ?_
 refine AG.region HM ?_
 refine a_move (v := vR _ _) ?_
 refine a_ldB (v := .agg [_, _]) ?_ T89
 obtain ⟨t1, e2, H⟩ := bindO H
 refine a_call (v := vI t1) (nk := []) (L := []) ?_ rfl (slices_Index_2_int64_2_int64.ok e2) id (qd (qg qn)) trivial trivial trivial rfl
 refine a_int (u := .bool (decide (t1 ≥ 0))) ?_
 refine a_move (v := vB _) ?_
 refine RA.nil nofun ?_
 refine AG.ret ?_
 obtain rfl := Option.some.inj H
 exact RetP.mk id ⟨rfl, trivial⟩ trivial rfl
end Go.Proofs.YtanbgmnhbncapaaGreat.PFnExactNearestOrder

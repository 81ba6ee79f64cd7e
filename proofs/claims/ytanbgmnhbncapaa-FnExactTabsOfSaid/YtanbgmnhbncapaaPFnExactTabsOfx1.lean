/- What each function that the law FnExactTabsOf reaches comes to, and the proof that its walk comes to it; laid by a program of this session. No condition. -/
import Derived.Test.YtanbgmnhbncapaaPFnExactTabsOfx0
import Derived.KernelRfl
import Derived.OwnWalk
import Derived.Test.YtanbgmnhbncapaaProg
set_option linter.unusedVariables false
set_option linter.unusedSimpArgs false
namespace Go.Proofs.Ytanbgmnhbncapaa.PFnExactTabsOf
open Go Go.RowKit Go.Proofs.YtanbgmnhbncapaaM Go.Proofs Go.Proofs.Ytanbgmnhbncapaa.SortP
/-! ### spec_TabsOf: function 17 -/
mutual
def spec_TabsOf.j0 : Nat → Int → Int → Int → Int → List S60 → List S91 → Bool → Option (Int × Int)
  | 0, _, _, _, _, _, _, _ => none
  | k + 1, x1, x2, y204_0, y204_1, y204_2, y204_3, x20 => if x20 = true then (some (0, 2)) else ((spec_l14Edges.f k y204_0 y204_1 y204_2 y204_3).bind fun t10 => (spec_TabsOf.l0 k x1 x2 y204_2 t10 0 0))
def spec_TabsOf.l0 : Nat → Int → Int → List S60 → List (List Int) → Int → Int → Option (Int × Int)
  | 0, _, _, _, _, _, _ => none
  | k + 1, x1, x2, y205_2, x8, x9, x10 => if x10 < (x8.length : Int) then (if 0 ≤ x10 then (if 0 < ((rd38 x8 x10).length : Int) then (if 0 ≤ (rd2 (rd38 x8 x10) 0) then (if (rd2 (rd38 x8 x10) 0) < (y205_2.length : Int) then (if 1 < ((rd38 x8 x10).length : Int) then (if 0 ≤ (rd2 (rd38 x8 x10) 1) then (if (rd2 (rd38 x8 x10) 1) < (y205_2.length : Int) then ((spec_l02Apart.f k ((rd60 y205_2 (rd2 (rd38 x8 x10) 0)).f0) ((rd60 y205_2 (rd2 (rd38 x8 x10) 0)).f1) ((rd60 y205_2 (rd2 (rd38 x8 x10) 1)).f0) ((rd60 y205_2 (rd2 (rd38 x8 x10) 1)).f1)).bind fun t19 => ((spec_l14Tabs.f k t19 x1 x2).bind fun t21 => (spec_TabsOf.l0 k x1 x2 y205_2 x8 (wrap64 (x9 + (t21.length : Int))) (wrap64 (x10 + 1))))) else (none)) else (none)) else (none)) else (none)) else (none)) else (none)) else (none)) else (some (x9, 0))
end
def spec_TabsOf.f (k : Nat) (a0_0 : Int) (a0_1 : Int) (l0_2 : List S60) (l0_3 : List S91) (a1 : Int) (a2 : Int) : Option (Int × Int) := (spec_l05Ok.f k a0_0 a0_1 l0_2 l0_3).bind fun t1 => (if t1 = true then ((spec_l00In.f a1 1 5000).bind fun t4 => (if t4 = true then ((spec_l00In.f a2 1 200).bind fun t7 => (spec_TabsOf.j0 k a1 a2 a0_0 a0_1 l0_2 l0_3 (!t7))) else (spec_TabsOf.j0 k a1 a2 a0_0 a0_1 l0_2 l0_3 true))) else (some (0, 1)))
set_option maxRecDepth 100000 in
theorem spec_TabsOf.ok {k : Nat} {a0_0 : Int} {a0_1 : Int} {l0_2 : List S60} {l0_3 : List S91} {a1 : Int} {a2 : Int} {r0 : Int} {r1 : Int} (H : spec_TabsOf.f k a0_0 a0_1 l0_2 l0_3 a1 a2 = some (r0, r1)) : OkF Try.prog 17 [.agg [.d (.v (.int .i64 a0_0)), .d (.v (.int .i64 a0_1)), .d (.row 61 (l0_2.map c60)), .d (.row 96 (l0_3.map c91))], vI a1, vI a2] [] (.tup [.c (.d (.v (.int .i64 r0))), .c (.d (.v (.int .i64 r1)))]) [] := by
  unfold spec_TabsOf.f at H
  refine OkF.of (N := 56) (rs := [6, 7]) (avs := [.c (.d (.v (.int .i64 r0))), .c (.d (.v (.int .i64 r1)))]) Try.func17 rfl rfl (fun _ _ => results_tmp2 rfl _ _ _) (by decide) rfl rfl rfl rfl (fun w0 S => ?_)
  refine AG.seq ?_
  refine AG.region HM ?_
  refine a_box 200 ?_
  refine a_move (v := vI _) ?_
  refine a_move (v := vI _) ?_
  refine RA.nil nofun ?_
  refine AG.seq ?_
  refine AG.seq ?_
  refine AG.region HM ?_
  obtain ⟨t1, e2, H⟩ := bindO H
  refine a_call (v := vB t1) (nk := []) (L := [(200, _)]) ?_ rfl (spec_l05Ok.ok e2) id (qc (rP (pD (pD (pD (pD p0))))) qn) ⟨rfl, trivial⟩ trivial trivial rfl
  refine a_un (u := .bool (!t1)) ?_
  refine RA.nil nofun ?_
  by_cases hc3 : t1 = true
  · rw [if_pos hc3] at H
    refine AG.no rfl (congrArg Bool.not hc3) ?_
    refine AG.skip ?_
    refine AG.seq ?_
    refine AG.seq ?_
    refine AG.join (fun s => ∃ q, q ≤ k ∧ ∃ (x1 : Int) (x2 : Int) (y204_0 : Int) (y204_1 : Int) (y204_2 : List S60) (y204_3 : List S91) (x20 : Bool), spec_TabsOf.j0 q x1 x2 y204_0 y204_1 y204_2 y204_3 x20 = some (r0, r1) ∧ s = St.of [(1, vI x1), (2, vI x2), (3, .c (.ptr 204 0)), (20, vB x20)] [(204, .box 32 [.d (.v (.int .i64 y204_0)), .d (.v (.int .i64 y204_1)), .d (.row 61 (y204_2.map c60)), .d (.row 96 (y204_3.map c91))])]) ?_ ?_
    · skip
      refine AG.region HM ?_
      refine a_move (v := vI _) ?_
      obtain ⟨t4, e5, H⟩ := bindO H
      refine a_call (v := vB t4) (nk := []) (L := []) ?_ rfl (spec_l00In.ok e5) id (qd (qd (qd qn))) trivial trivial trivial rfl
      refine a_un (u := .bool (!t4)) ?_
      refine a_move (v := vB _) ?_
      by_cases hc6 : t4 = true
      · rw [if_pos hc6] at H
        refine a_move (v := vI _) ?_ (hg := Gs.yes rfl rfl rfl (congrArg Bool.not hc6))
        obtain ⟨t7, e8, H⟩ := bindO H
        refine a_call (v := vB t7) (nk := []) (L := []) ?_ rfl (spec_l00In.ok e8) id (qd (qd (qd qn))) trivial trivial trivial rfl (hg := Gs.yes rfl rfl rfl (congrArg Bool.not hc6))
        refine a_un (u := .bool (!t7)) ?_ (hg := Gs.yes rfl rfl rfl (congrArg Bool.not hc6))
        refine a_pick (b := false) (v := vB _) ?_ (congrArg Bool.not hc6)
        refine RA.nil nofun ?_
        exact Can.mk (fun κ => cond (Nat.beq κ 204) 200 (κ)) ⟨_, (by omega), _, _, _, _, _, _, _, H, rfl⟩ ⟨rfl, rfl, rfl, rfl, trivial⟩ ⟨rfl, trivial⟩ rfl
      · rw [if_neg hc6] at H
        refine RA.skip rfl rfl rfl rfl rfl (congrArg Bool.not (Bool.eq_false_iff.2 hc6)) (by decide) ?_
        refine RA.skip rfl rfl rfl rfl rfl (congrArg Bool.not (Bool.eq_false_iff.2 hc6)) (by decide) ?_
        refine RA.skip rfl rfl rfl rfl rfl (congrArg Bool.not (Bool.eq_false_iff.2 hc6)) (by decide) ?_
        refine a_pick (b := true) (v := vB _) ?_ (congrArg Bool.not (Bool.eq_false_iff.2 hc6))
        refine RA.nil nofun ?_
        exact Can.mk (fun κ => cond (Nat.beq κ 204) 200 (κ)) ⟨_, (by omega), _, _, _, _, _, _, _, H, rfl⟩ ⟨rfl, rfl, rfl, rfl, trivial⟩ ⟨rfl, trivial⟩ rfl
    · clear H
      rintro _ ⟨k, hj0, x1, x2, y204_0, y204_1, y204_2, y204_3, x20, H, rfl⟩
      cases k with
      | zero => cases H
      | succ k =>
        rw [spec_TabsOf.j0] at H
        by_cases hc9 : x20 = true
        · rw [if_pos hc9] at H
          refine AG.yes rfl hc9 ?_
          refine AG.seq ?_
          refine AG.region HM ?_
          refine a_move (v := vI _) ?_
          refine a_move (v := vI _) ?_
          refine RA.nil nofun ?_
          refine AG.ret ?_
          simp only [Option.some.injEq, Prod.mk.injEq] at H
          obtain ⟨rfl, rfl⟩ := H
          exact RetP.mk id ⟨rfl, rfl, trivial⟩ trivial rfl
        · rw [if_neg hc9] at H
          refine AG.no rfl (Bool.eq_false_iff.2 hc9) ?_
          refine AG.skip ?_
          refine AG.seq ?_
          refine AG.region HM ?_
          obtain ⟨t10, et10, H⟩ := bindO H
          refine a_callF (L := [(204, _)]) ?_ rfl (spec_l14Edges.ok et10) (qc (rP (pD (pD (pD (pD p0))))) qn) ⟨rfl, trivial⟩
          refine a_move (v := vR _ _) ?_
          refine RA.nil nofun ?_
          refine AG.seq ?_
          refine AG.region HM ?_
          refine a_move (v := vI _) ?_
          refine RA.nil nofun ?_
          refine AG.seq ?_
          refine AG.seq ?_
          refine AG.region HM ?_
          refine a_move (v := vI _) ?_
          refine RA.nil nofun ?_
          refine AG.block ?_
          refine AG.loop ?_
          obtain ⟨K0, hK0, gK0⟩ : ∃ K, k ≤ K ∧ K ≤ k := ⟨k, Nat.le_refl k, Nat.le_refl k⟩
          refine AGr.canon (fun κ => cond (Nat.beq κ 205) 204 (κ)) (AGr.loopI (n := k) (fun k s => k ≤ K0 ∧ ∃ (x1 : Int) (x2 : Int) (y205_0 : Int) (y205_1 : Int) (y205_2 : List S60) (y205_3 : List S91) (x8 : List (List Int)) (x9 : Int) (x10 : Int), spec_TabsOf.l0 k x1 x2 y205_2 x8 x9 x10 = some (r0, r1) ∧ s = St.of [(1, vI x1), (2, vI x2), (3, .c (.ptr 205 0)), (8, vR 38 (x8.map c38)), (9, vI x9), (10, vI x10)] [(205, .box 32 [.d (.v (.int .i64 y205_0)), .d (.v (.int .i64 y205_1)), .d (.row 61 (y205_2.map c60)), .d (.row 96 (y205_3.map c91))])]) ⟨hK0, _, _, _, _, _, _, _, _, _, H, rfl⟩ ?_ ?_) ⟨rfl, rfl, rfl, rfl, rfl, rfl, trivial⟩ ⟨rfl, trivial⟩ rfl
          · rintro _ ⟨_, _, _, _, _, _, _, _, _, _, H, _⟩
            cases H
          · clear H hK0
            rintro k ih0 _ ⟨hK0, x1, x2, y205_0, y205_1, y205_2, y205_3, x8, x9, x10, H, rfl⟩
            unfold spec_TabsOf.l0 at H
            refine AG.seq ?_
            refine AG.seq ?_
            refine AG.region HM ?_
            refine a_move (v := vI _) ?_
            refine a_move (v := vR _ _) ?_
            refine a_lenR ?_ Try.underlying56
            refine a_int (u := .bool (decide (x10 < (x8.length : Int)))) ?_
            refine RA.nil nofun ?_
            by_cases hc11 : x10 < (x8.length : Int)
            · rw [if_pos hc11] at H
              refine AG.yes rfl (decide_eq_true hc11) ?_
              refine AG.skip ?_
              refine AG.seq ?_
              refine AG.block ?_
              refine AG.region HM ?_
              refine a_move (v := vI _) ?_
              refine a_faB (q := 2) ?_ D32_2
              refine a_ldB (v := vR _ _) ?_ T29
              refine a_move (v := vR _ _) ?_
              refine a_move (v := vI _) ?_
              by_cases hc12 : 0 ≤ x10
              · rw [if_pos hc12] at H
                refine a_ixR (el := c38 (rd38 x8 x10)) ?_ ⟨hc12, hc11⟩ T38 Try.underlying56 (hel := R38 hc12 hc11)
                refine a_ldR (v := vR _ _) ?_ T38
                by_cases hc13 : 0 < ((rd38 x8 x10).length : Int)
                · rw [if_pos hc13] at H
                  refine a_ixR (el := c2 (rd2 (rd38 x8 x10) 0)) ?_ ⟨(by decide), hc13⟩ T2 Try.underlying38 (hel := R2 (by decide) hc13)
                  refine a_ldR (v := vI _) ?_ T2
                  by_cases hc14 : 0 ≤ (rd2 (rd38 x8 x10) 0)
                  · rw [if_pos hc14] at H
                    by_cases hc15 : (rd2 (rd38 x8 x10) 0) < (y205_2.length : Int)
                    · rw [if_pos hc15] at H
                      refine a_ixR (el := c60 (rd60 y205_2 (rd2 (rd38 x8 x10) 0))) ?_ ⟨hc14, hc15⟩ T61 Try.underlying29 (hel := R60 hc14 hc15)
                      refine a_ldR (v := .agg [_, _]) ?_ T61
                      refine a_faB (q := 2) ?_ D32_2
                      refine a_ldB (v := vR _ _) ?_ T29
                      refine a_move (v := vR _ _) ?_
                      refine a_move (v := vI _) ?_
                      refine a_ixR (el := c38 (rd38 x8 x10)) ?_ ⟨hc12, hc11⟩ T38 Try.underlying56 (hel := R38 hc12 hc11)
                      refine a_ldR (v := vR _ _) ?_ T38
                      by_cases hc16 : 1 < ((rd38 x8 x10).length : Int)
                      · rw [if_pos hc16] at H
                        refine a_ixR (el := c2 (rd2 (rd38 x8 x10) 1)) ?_ ⟨(by decide), hc16⟩ T2 Try.underlying38 (hel := R2 (by decide) hc16)
                        refine a_ldR (v := vI _) ?_ T2
                        by_cases hc17 : 0 ≤ (rd2 (rd38 x8 x10) 1)
                        · rw [if_pos hc17] at H
                          by_cases hc18 : (rd2 (rd38 x8 x10) 1) < (y205_2.length : Int)
                          · rw [if_pos hc18] at H
                            refine a_ixR (el := c60 (rd60 y205_2 (rd2 (rd38 x8 x10) 1))) ?_ ⟨hc17, hc18⟩ T61 Try.underlying29 (hel := R60 hc17 hc18)
                            refine a_ldR (v := .agg [_, _]) ?_ T61
                            obtain ⟨t19, e20, H⟩ := bindO H
                            refine a_call (v := vI t19) (nk := []) (L := []) ?_ rfl (spec_l02Apart.ok e20) id (qg (qg qn)) trivial trivial trivial rfl
                            refine a_move (v := vI _) ?_
                            refine a_move (v := vI _) ?_
                            obtain ⟨t21, e22, H⟩ := bindO H
                            refine a_call (v := .c (.own 207 t21.length)) (nk := [(207, .row 2 (t21.map c2))]) (L := []) ?_ rfl (spec_l14Tabs.ok e22) (fun κ => cond (Nat.beq κ 207) 100 (κ)) (qd (qd (qd qn))) trivial ⟨rfl, trivial⟩ ⟨rfl, trivial⟩ rfl
                            refine a_lenO ?_ Try.underlying38
                            refine a_int (u := .int .i64 (wrap64 (x9 + (t21.length : Int)))) ?_
                            refine a_move (v := vI _) ?_
                            refine RA.nil (fun _ => by kernel_rfl) ?_
                            refine AG.region HM ?_
                            refine a_move (v := vI _) ?_
                            refine a_int (u := .int .i64 (wrap64 (x10 + 1))) ?_
                            refine a_move (v := vI _) ?_
                            refine RA.nil nofun ?_
                            exact AGr.canon id (ih0 _ (by omega) _ ⟨by omega, _, _, _, _, _, _, _, _, _, H, rfl⟩) ⟨rfl, rfl, rfl, rfl, rfl, rfl, trivial⟩ ⟨rfl, trivial⟩ rfl
                          · rw [if_neg hc18] at H
                            cases H
                        · rw [if_neg hc17] at H
                          cases H
                      · rw [if_neg hc16] at H
                        cases H
                    · rw [if_neg hc15] at H
                      cases H
                  · rw [if_neg hc14] at H
                    cases H
                · rw [if_neg hc13] at H
                  cases H
              · rw [if_neg hc12] at H
                cases H
            · rw [if_neg hc11] at H
              refine AG.no rfl (decide_eq_false hc11) ?_
              refine AG.exit ?_
              refine AG.seq ?_
              refine AG.region HM ?_
              refine a_move (v := vI _) ?_
              refine a_move (v := vI _) ?_
              refine a_move (v := vI _) ?_
              refine RA.nil nofun ?_
              refine AG.ret ?_
              simp only [Option.some.injEq, Prod.mk.injEq] at H
              obtain ⟨rfl, rfl⟩ := H
              exact RetP.mk id ⟨rfl, rfl, trivial⟩ trivial rfl
  · rw [if_neg hc3] at H
    refine AG.yes rfl (congrArg Bool.not (Bool.eq_false_iff.2 hc3)) ?_
    refine AG.seq ?_
    refine AG.region HM ?_
    refine a_move (v := vI _) ?_
    refine a_move (v := vI _) ?_
    refine RA.nil nofun ?_
    refine AG.ret ?_
    simp only [Option.some.injEq, Prod.mk.injEq] at H
    obtain ⟨rfl, rfl⟩ := H
    exact RetP.mk id ⟨rfl, rfl, trivial⟩ trivial rfl
/-! ### impl_within: function 52 -/
def impl_within.f (a0 : Int) (a1 : Int) (a2 : Int) : Option (Bool) := if a0 ≥ a1 then (some (decide (a0 ≤ a2))) else (some false)
set_option maxRecDepth 100000 in
theorem impl_within.ok {a0 : Int} {a1 : Int} {a2 : Int} {r : Bool} (H : impl_within.f a0 a1 a2 = some r) : OkF Try.prog 52 [vI a0, vI a1, vI a2] [] (.c (.d (.v (.bool r)))) [] := by
  unfold impl_within.f at H
  refine OkF.of (N := 15) (rs := [6]) (avs := [.c (.d (.v (.bool r)))]) Try.func52 rfl rfl (fun _ _ => results_tmp rfl _ _ _) (by decide) rfl rfl rfl rfl (fun w0 S => ?_)
  refine AG.seq ?_
  refine AG.region HM ?_
  refine a_move (v := vB _) ?_
  refine RA.nil nofun ?_
  refine AG.seq ?_
  refine AG.region HM ?_
  refine a_move (v := vI _) ?_
  refine a_move (v := vI _) ?_
  refine a_int (u := .bool (decide (a0 ≥ a1))) ?_
  refine a_move (v := vB _) ?_
  by_cases hc1 : a0 ≥ a1
  · rw [if_pos hc1] at H
    refine a_move (v := vI _) ?_ (hg := Gs.yes rfl rfl rfl (decide_eq_true hc1))
    refine a_move (v := vI _) ?_ (hg := Gs.yes rfl rfl rfl (decide_eq_true hc1))
    refine a_int (u := .bool (decide (a0 ≤ a2))) ?_ (hg := Gs.yes rfl rfl rfl (decide_eq_true hc1))
    refine a_pick (b := true) (v := vB _) ?_ (decide_eq_true hc1)
    refine a_move (v := vB _) ?_
    refine RA.nil nofun ?_
    refine AG.ret ?_
    obtain rfl := Option.some.inj H
    exact RetP.mk id ⟨rfl, trivial⟩ trivial rfl
  · rw [if_neg hc1] at H
    refine RA.skip rfl rfl rfl rfl rfl (decide_eq_false hc1) (by decide) ?_
    refine RA.skip rfl rfl rfl rfl rfl (decide_eq_false hc1) (by decide) ?_
    refine RA.skip rfl rfl rfl rfl rfl (decide_eq_false hc1) (by decide) ?_
    refine a_pick (b := false) (v := vB _) ?_ (decide_eq_false hc1)
    refine a_move (v := vB _) ?_
    refine RA.nil nofun ?_
    refine AG.ret ?_
    obtain rfl := Option.some.inj H
    exact RetP.mk id ⟨rfl, trivial⟩ trivial rfl
/-! ### slices_Index_impl_Point: function 113 -/
def slices_Index_impl_Point.l0 : Nat → List S60 → Int → Int → Int → Int → Option (Int)
  | 0, _, _, _, _, _ => none
  | k + 1, x0, y201_0, y201_1, x7, x8 => if x8 < x7 then (if 0 ≤ x8 then (if x8 < (x0.length : Int) then (if (y201_0 == ((rd60 x0 x8).f0) && (y201_1 == ((rd60 x0 x8).f1))) = true then (some x8) else (slices_Index_impl_Point.l0 k x0 y201_0 y201_1 x7 (wrap64 (x8 + 1)))) else (none)) else (none)) else (some (-1))
def slices_Index_impl_Point.f (k : Nat) (l0 : List S60) (a1_0 : Int) (a1_1 : Int) : Option (Int) := slices_Index_impl_Point.l0 k l0 a1_0 a1_1 (l0.length : Int) 0
set_option maxRecDepth 100000 in
theorem slices_Index_impl_Point.ok {k : Nat} {l0 : List S60} {a1_0 : Int} {a1_1 : Int} {r : Int} (H : slices_Index_impl_Point.f k l0 a1_0 a1_1 = some r) : OkF Try.prog 113 [vR 61 (l0.map c60), .agg [.d (.v (.int .i64 a1_0)), .d (.v (.int .i64 a1_1))]] [] (.c (.d (.v (.int .i64 r)))) [] := by
  unfold slices_Index_impl_Point.f at H
  refine OkF.of (N := 19) (rs := [4]) (avs := [.c (.d (.v (.int .i64 r)))]) Try.func113 rfl rfl (fun _ _ => results_tmp rfl _ _ _) (by decide) rfl rfl rfl rfl (fun w0 S => ?_)
  refine AG.seq ?_
  refine AG.region HM ?_
  refine a_box 200 ?_
  refine a_move (v := vI _) ?_
  refine RA.nil nofun ?_
  refine AG.seq ?_
  refine AG.seq ?_
  refine AG.region HM ?_
  refine a_move (v := vR _ _) ?_
  refine a_lenR ?_ Try.underlying29
  refine a_move (v := vI _) ?_
  refine RA.nil nofun ?_
  refine AG.block ?_
  refine AG.loop ?_
  obtain ⟨K0, hK0, gK0⟩ : ∃ K, k ≤ K ∧ K ≤ k := ⟨k, Nat.le_refl k, Nat.le_refl k⟩
  refine AGr.canon (fun κ => cond (Nat.beq κ 201) 200 (κ)) (AGr.loopI (n := k) (fun k s => k ≤ K0 ∧ ∃ (x0 : List S60) (y201_0 : Int) (y201_1 : Int) (x7 : Int) (x8 : Int), slices_Index_impl_Point.l0 k x0 y201_0 y201_1 x7 x8 = some r ∧ s = St.of [(0, vR 61 (x0.map c60)), (3, .c (.ptr 201 0)), (7, vI x7), (8, vI x8)] [(201, .box 61 [.d (.v (.int .i64 y201_0)), .d (.v (.int .i64 y201_1))])]) ⟨hK0, _, _, _, _, _, H, rfl⟩ ?_ ?_) ⟨rfl, rfl, rfl, rfl, trivial⟩ ⟨rfl, trivial⟩ rfl
  · rintro _ ⟨_, _, _, _, _, _, H, _⟩
    cases H
  · clear H hK0
    rintro k ih0 _ ⟨hK0, x0, y201_0, y201_1, x7, x8, H, rfl⟩
    unfold slices_Index_impl_Point.l0 at H
    refine AG.seq ?_
    refine AG.region HM ?_
    refine a_int (u := .bool (decide (x8 < x7))) ?_
    refine RA.nil nofun ?_
    refine AG.seq ?_
    by_cases hc1 : x8 < x7
    · rw [if_pos hc1] at H
      refine AG.yes rfl (decide_eq_true hc1) ?_
      refine AG.skip ?_
      refine AG.seq ?_
      refine AG.block ?_
      refine AG.seq ?_
      refine AG.region HM ?_
      refine a_move (v := vI _) ?_
      refine a_move (v := vI _) ?_
      refine RA.nil nofun ?_
      refine AG.seq ?_
      refine AG.region HM ?_
      refine a_ldB (v := .agg [_, _]) ?_ T61
      refine a_move (v := vR _ _) ?_
      refine a_move (v := vI _) ?_
      by_cases hc2 : 0 ≤ x8
      · rw [if_pos hc2] at H
        by_cases hc3 : x8 < (x0.length : Int)
        · rw [if_pos hc3] at H
          refine a_ixR (el := c60 (rd60 x0 x8)) ?_ ⟨hc2, hc3⟩ T61 Try.underlying29 (hel := R60 hc2 hc3)
          refine a_ldR (v := .agg [_, _]) ?_ T61
          refine a_eqS (b := (y201_0 == ((rd60 x0 x8).f0) && (y201_1 == ((rd60 x0 x8).f1)))) ?_ (.inl ⟨rfl, rfl⟩) (Q61 y201_0 ((rd60 x0 x8).f0) y201_1 ((rd60 x0 x8).f1)).1
          refine RA.nil (fun _ => by kernel_rfl) ?_
          by_cases hc4 : (y201_0 == ((rd60 x0 x8).f0) && (y201_1 == ((rd60 x0 x8).f1))) = true
          · rw [if_pos hc4] at H
            refine AG.yes rfl hc4 ?_
            refine AG.seq ?_
            refine AG.region HM ?_
            refine a_move (v := vI _) ?_
            refine a_move (v := vI _) ?_
            refine RA.nil nofun ?_
            refine AG.ret ?_
            obtain rfl := Option.some.inj H
            exact RetP.mk id ⟨rfl, trivial⟩ trivial rfl
          · rw [if_neg hc4] at H
            refine AG.no rfl (Bool.eq_false_iff.2 hc4) ?_
            refine AG.skip ?_
            refine AG.region HM ?_
            refine a_int (u := .int .i64 (wrap64 (x8 + 1))) ?_
            refine a_move (v := vI _) ?_
            refine RA.nil nofun ?_
            exact AGr.canon id (ih0 _ (by omega) _ ⟨by omega, _, _, _, _, _, H, rfl⟩) ⟨rfl, rfl, rfl, rfl, trivial⟩ ⟨rfl, trivial⟩ rfl
        · rw [if_neg hc3] at H
          cases H
      · rw [if_neg hc2] at H
        cases H
    · rw [if_neg hc1] at H
      refine AG.no rfl (decide_eq_false hc1) ?_
      refine AG.exit ?_
      refine AG.seq ?_
      refine AG.region HM ?_
      refine a_move (v := vI _) ?_
      refine RA.nil nofun ?_
      refine AG.ret ?_
      obtain rfl := Option.some.inj H
      exact RetP.mk id ⟨rfl, trivial⟩ trivial rfl
/-! ### slices_Contains_impl_Point: function 94 -/
def slices_Contains_impl_Point.f (k : Nat) (l0 : List S60) (a1_0 : Int) (a1_1 : Int) : Option (Bool) := (slices_Index_impl_Point.f k l0 a1_0 a1_1).bind fun t1 => (some (decide (t1 ≥ 0)))
set_option maxRecDepth 100000 in
theorem slices_Contains_impl_Point.ok {k : Nat} {l0 : List S60} {a1_0 : Int} {a1_1 : Int} {r : Bool} (H : slices_Contains_impl_Point.f k l0 a1_0 a1_1 = some r) : OkF Try.prog 94 [vR 61 (l0.map c60), .agg [.d (.v (.int .i64 a1_0)), .d (.v (.int .i64 a1_1))]] [] (.c (.d (.v (.bool r)))) [] := by
  unfold slices_Contains_impl_Point.f at H
  refine OkF.of (N := 9) (rs := [4]) (avs := [.c (.d (.v (.bool r)))]) Try.func94 rfl rfl (fun _ _ => results_tmp rfl _ _ _) (by decide) rfl rfl rfl rfl (fun w0 S => ?_)
  refine AG.seq ?_
  refine AG.region HM ?_
  refine a_box 200 ?_
  refine a_move (v := vB _) ?_
  refine RA.nil nofun ?_
  refine AG.seq ?_
  refine AG.region HM ?_
  refine a_move (v := vR _ _) ?_
  refine a_ldB (v := .agg [_, _]) ?_ T61
  obtain ⟨t1, e2, H⟩ := bindO H
  refine a_call (v := vI t1) (nk := []) (L := []) ?_ rfl (slices_Index_impl_Point.ok e2) id (qd (qg qn)) trivial trivial trivial rfl
  refine a_int (u := .bool (decide (t1 ≥ 0))) ?_
  refine a_move (v := vB _) ?_
  refine RA.nil nofun ?_
  refine AG.ret ?_
  obtain rfl := Option.some.inj H
  exact RetP.mk id ⟨rfl, trivial⟩ trivial rfl
/-! ### impl_IsName: function 95 -/
mutual
def impl_IsName.j0 : Nat → ByteArray → Bool → Option (Bool)
  | 0, _, _ => none
  | k + 1, x0, x21 => if x21 = true then (some false) else (impl_IsName.l0 k x0 0)
def impl_IsName.l0 : Nat → ByteArray → Int → Option (Bool)
  | 0, _, _ => none
  | k + 1, x0, x3 => if x3 < (x0.size : Int) then (if 0 ≤ x3 then (if (bt x0 x3) < 97 then (if (bt x0 x3) < 48 then (some false) else (if (bt x0 x3) > 57 then (some false) else (impl_IsName.l0 k x0 (wrap64 (x3 + 1))))) else (if (bt x0 x3) > 122 then (if (bt x0 x3) < 48 then (some false) else (if (bt x0 x3) > 57 then (some false) else (impl_IsName.l0 k x0 (wrap64 (x3 + 1))))) else (impl_IsName.l0 k x0 (wrap64 (x3 + 1))))) else (none)) else (some true)
end
def impl_IsName.f (k : Nat) (a0 : ByteArray) : Option (Bool) := if (a0.size : Int) < 1 then (impl_IsName.j0 k a0 true) else (if (a0.size : Int) > 10 then (impl_IsName.j0 k a0 true) else (if 0 < (a0.size : Int) then (if (bt a0 0) < 97 then (impl_IsName.j0 k a0 true) else (impl_IsName.j0 k a0 (decide ((bt a0 0) > 122)))) else (none)))
set_option maxRecDepth 100000 in
theorem impl_IsName.ok {k : Nat} {a0 : ByteArray} {r : Bool} (H : impl_IsName.f k a0 = some r) : OkF Try.prog 95 [vS a0] [] (.c (.d (.v (.bool r)))) [] := by
  unfold impl_IsName.f at H
  refine OkF.of (N := 50) (rs := [2]) (avs := [.c (.d (.v (.bool r)))]) Try.func95 rfl rfl (fun _ _ => results_tmp rfl _ _ _) (by decide) rfl rfl rfl rfl (fun w0 S => ?_)
  refine AG.seq ?_
  refine AG.region HM ?_
  refine a_move (v := vB _) ?_
  refine RA.nil nofun ?_
  refine AG.seq ?_
  refine AG.seq ?_
  refine AG.join (fun s => ∃ q, q ≤ k ∧ ∃ (x0 : ByteArray) (x21 : Bool), impl_IsName.j0 q x0 x21 = some r ∧ s = St.of [(0, vS x0), (21, vB x21)] []) ?_ ?_
  · skip
    refine AG.region HM ?_
    refine a_move (v := vS _) ?_
    refine a_lenS ?_ Try.underlying9
    refine a_int (u := .bool (decide ((a0.size : Int) < 1))) ?_
    refine a_move (v := vB _) ?_
    by_cases hc1 : (a0.size : Int) < 1
    · rw [if_pos hc1] at H
      refine RA.skip rfl rfl rfl rfl rfl (decide_eq_true hc1) (by decide) ?_
      refine RA.skip rfl rfl rfl rfl rfl (decide_eq_true hc1) (by decide) ?_
      refine RA.skip rfl rfl rfl rfl rfl (decide_eq_true hc1) (by decide) ?_
      refine a_pick (b := true) (v := vB _) ?_ (decide_eq_true hc1)
      refine a_move (v := vB _) ?_
      refine RA.skip rfl rfl rfl rfl rfl rfl (by decide) ?_
      refine RA.skip rfl rfl rfl rfl rfl rfl (by decide) ?_
      refine RA.skip rfl rfl rfl rfl rfl rfl (by decide) ?_
      refine a_pick (b := true) (v := vB _) ?_ rfl
      refine a_move (v := vB _) ?_
      refine RA.skip rfl rfl rfl rfl rfl rfl (by decide) ?_
      refine RA.skip rfl rfl rfl rfl rfl rfl (by decide) ?_
      refine RA.skip rfl rfl rfl rfl rfl rfl (by decide) ?_
      refine a_pick (b := true) (v := vB _) ?_ rfl
      refine RA.nil nofun ?_
      exact Can.mk id ⟨_, (by omega), _, _, H, rfl⟩ ⟨rfl, rfl, trivial⟩ trivial rfl
    · rw [if_neg hc1] at H
      refine a_move (v := vS _) ?_ (hg := Gs.yes rfl rfl rfl (decide_eq_false hc1))
      refine a_lenS ?_ Try.underlying9 (hg := Gs.yes rfl rfl rfl (decide_eq_false hc1))
      refine a_int (u := .bool (decide ((a0.size : Int) > 10))) ?_ (hg := Gs.yes rfl rfl rfl (decide_eq_false hc1))
      refine a_pick (b := false) (v := vB _) ?_ (decide_eq_false hc1)
      refine a_move (v := vB _) ?_
      by_cases hc2 : (a0.size : Int) > 10
      · rw [if_pos hc2] at H
        refine RA.skip rfl rfl rfl rfl rfl (decide_eq_true hc2) (by decide) ?_
        refine RA.skip rfl rfl rfl rfl rfl (decide_eq_true hc2) (by decide) ?_
        refine RA.skip rfl rfl rfl rfl rfl (decide_eq_true hc2) (by decide) ?_
        refine a_pick (b := true) (v := vB _) ?_ (decide_eq_true hc2)
        refine a_move (v := vB _) ?_
        refine RA.skip rfl rfl rfl rfl rfl rfl (by decide) ?_
        refine RA.skip rfl rfl rfl rfl rfl rfl (by decide) ?_
        refine RA.skip rfl rfl rfl rfl rfl rfl (by decide) ?_
        refine a_pick (b := true) (v := vB _) ?_ rfl
        refine RA.nil nofun ?_
        exact Can.mk id ⟨_, (by omega), _, _, H, rfl⟩ ⟨rfl, rfl, trivial⟩ trivial rfl
      · rw [if_neg hc2] at H
        refine a_move (v := vS _) ?_ (hg := Gs.yes rfl rfl rfl (decide_eq_false hc2))
        by_cases hc3 : 0 < (a0.size : Int)
        · rw [if_pos hc3] at H
          refine a_str ?_ ⟨(by decide), hc3⟩ Try.underlying9 (hg := Gs.yes rfl rfl rfl (decide_eq_false hc2))
          refine a_int (u := .bool (decide ((bt a0 0) < 97))) ?_ (hg := Gs.yes rfl rfl rfl (decide_eq_false hc2))
          refine a_pick (b := false) (v := vB _) ?_ (decide_eq_false hc2)
          refine a_move (v := vB _) ?_
          by_cases hc4 : (bt a0 0) < 97
          · rw [if_pos hc4] at H
            refine RA.skip rfl rfl rfl rfl rfl (decide_eq_true hc4) (by decide) ?_
            refine RA.skip rfl rfl rfl rfl rfl (decide_eq_true hc4) (by decide) ?_
            refine RA.skip rfl rfl rfl rfl rfl (decide_eq_true hc4) (by decide) ?_
            refine a_pick (b := true) (v := vB _) ?_ (decide_eq_true hc4)
            refine RA.nil nofun ?_
            exact Can.mk id ⟨_, (by omega), _, _, H, rfl⟩ ⟨rfl, rfl, trivial⟩ trivial rfl
          · rw [if_neg hc4] at H
            refine a_move (v := vS _) ?_ (hg := Gs.yes rfl rfl rfl (decide_eq_false hc4))
            refine a_str ?_ ⟨(by decide), hc3⟩ Try.underlying9 (hg := Gs.yes rfl rfl rfl (decide_eq_false hc4))
            refine a_int (u := .bool (decide ((bt a0 0) > 122))) ?_ (hg := Gs.yes rfl rfl rfl (decide_eq_false hc4))
            refine a_pick (b := false) (v := vB _) ?_ (decide_eq_false hc4)
            refine RA.nil nofun ?_
            exact Can.mk id ⟨_, (by omega), _, _, H, rfl⟩ ⟨rfl, rfl, trivial⟩ trivial rfl
        · rw [if_neg hc3] at H
          cases H
  · clear H
    rintro _ ⟨k, hj0, x0, x21, H, rfl⟩
    cases k with
    | zero => cases H
    | succ k =>
      rw [impl_IsName.j0] at H
      by_cases hc5 : x21 = true
      · rw [if_pos hc5] at H
        refine AG.yes rfl hc5 ?_
        refine AG.seq ?_
        refine AG.region HM ?_
        refine a_move (v := vB _) ?_
        refine RA.nil nofun ?_
        refine AG.ret ?_
        obtain rfl := Option.some.inj H
        exact RetP.mk id ⟨rfl, trivial⟩ trivial rfl
      · rw [if_neg hc5] at H
        refine AG.no rfl (Bool.eq_false_iff.2 hc5) ?_
        refine AG.skip ?_
        refine AG.seq ?_
        refine AG.seq ?_
        refine AG.region HM ?_
        refine a_move (v := vI _) ?_
        refine RA.nil nofun ?_
        refine AG.block ?_
        refine AG.loop ?_
        obtain ⟨K0, hK0, gK0⟩ : ∃ K, k ≤ K ∧ K ≤ k := ⟨k, Nat.le_refl k, Nat.le_refl k⟩
        refine AGr.canon id (AGr.loopI (n := k) (fun k s => k ≤ K0 ∧ ∃ (x0 : ByteArray) (x3 : Int), impl_IsName.l0 k x0 x3 = some r ∧ s = St.of [(0, vS x0), (3, vI x3)] []) ⟨hK0, _, _, H, rfl⟩ ?_ ?_) ⟨rfl, rfl, trivial⟩ trivial rfl
        · rintro _ ⟨_, _, _, H, _⟩
          cases H
        · clear H hK0
          rintro k ih0 _ ⟨hK0, x0, x3, H, rfl⟩
          unfold impl_IsName.l0 at H
          refine AG.seq ?_
          refine AG.seq ?_
          refine AG.region HM ?_
          refine a_move (v := vI _) ?_
          refine a_move (v := vS _) ?_
          refine a_lenS ?_ Try.underlying9
          refine a_int (u := .bool (decide (x3 < (x0.size : Int)))) ?_
          refine RA.nil nofun ?_
          by_cases hc6 : x3 < (x0.size : Int)
          · rw [if_pos hc6] at H
            refine AG.yes rfl (decide_eq_true hc6) ?_
            refine AG.skip ?_
            refine AG.seq ?_
            refine AG.block ?_
            refine AG.seq ?_
            refine AG.region HM ?_
            refine a_move (v := vS _) ?_
            refine a_move (v := vI _) ?_
            by_cases hc7 : 0 ≤ x3
            · rw [if_pos hc7] at H
              refine a_str ?_ ⟨hc7, hc6⟩ Try.underlying9
              refine a_int (u := .bool (decide ((bt x0 x3) < 97))) ?_
              refine a_move (v := vB _) ?_
              by_cases hc8 : (bt x0 x3) < 97
              · rw [if_pos hc8] at H
                refine RA.skip rfl rfl rfl rfl rfl (decide_eq_true hc8) (by decide) ?_
                refine RA.skip rfl rfl rfl rfl rfl (decide_eq_true hc8) (by decide) ?_
                refine RA.skip rfl rfl rfl rfl rfl (decide_eq_true hc8) (by decide) ?_
                refine RA.skip rfl rfl rfl rfl rfl (decide_eq_true hc8) (by decide) ?_
                refine a_pick (b := true) (v := vB _) ?_ (decide_eq_true hc8)
                refine a_move (v := vB _) ?_
                refine a_move (v := vS _) ?_ (hg := Gs.yes rfl rfl rfl rfl)
                refine a_move (v := vI _) ?_ (hg := Gs.yes rfl rfl rfl rfl)
                refine a_str ?_ ⟨hc7, hc6⟩ Try.underlying9 (hg := Gs.yes rfl rfl rfl rfl)
                refine a_int (u := .bool (decide ((bt x0 x3) < 48))) ?_ (hg := Gs.yes rfl rfl rfl rfl)
                refine a_move (v := vB _) ?_ (hg := Gs.yes rfl rfl rfl rfl)
                by_cases hc9 : (bt x0 x3) < 48
                · rw [if_pos hc9] at H
                  refine RA.skip rfl rfl rfl rfl rfl (decide_eq_true hc9) (by decide) ?_
                  refine RA.skip rfl rfl rfl rfl rfl (decide_eq_true hc9) (by decide) ?_
                  refine RA.skip rfl rfl rfl rfl rfl (decide_eq_true hc9) (by decide) ?_
                  refine RA.skip rfl rfl rfl rfl rfl (decide_eq_true hc9) (by decide) ?_
                  refine a_pick (b := true) (v := vB _) ?_ (decide_eq_true hc9) (hg := Gs.yes rfl rfl rfl rfl)
                  refine a_pick (b := true) (v := vB _) ?_ rfl
                  refine RA.nil nofun ?_
                  refine AG.yes rfl rfl ?_
                  refine AG.seq ?_
                  refine AG.region HM ?_
                  refine a_move (v := vB _) ?_
                  refine RA.nil nofun ?_
                  refine AG.ret ?_
                  obtain rfl := Option.some.inj H
                  exact RetP.mk id ⟨rfl, trivial⟩ trivial rfl
                · rw [if_neg hc9] at H
                  refine a_move (v := vS _) ?_ (hg := Gs.yes rfl rfl rfl (decide_eq_false hc9))
                  refine a_move (v := vI _) ?_ (hg := Gs.yes rfl rfl rfl (decide_eq_false hc9))
                  refine a_str ?_ ⟨hc7, hc6⟩ Try.underlying9 (hg := Gs.yes rfl rfl rfl (decide_eq_false hc9))
                  refine a_int (u := .bool (decide ((bt x0 x3) > 57))) ?_ (hg := Gs.yes rfl rfl rfl (decide_eq_false hc9))
                  refine a_pick (b := false) (v := vB _) ?_ (decide_eq_false hc9) (hg := Gs.yes rfl rfl rfl rfl)
                  refine a_pick (b := true) (v := vB _) ?_ rfl
                  refine RA.nil nofun ?_
                  by_cases hc10 : (bt x0 x3) > 57
                  · rw [if_pos hc10] at H
                    refine AG.yes rfl (decide_eq_true hc10) ?_
                    refine AG.seq ?_
                    refine AG.region HM ?_
                    refine a_move (v := vB _) ?_
                    refine RA.nil nofun ?_
                    refine AG.ret ?_
                    obtain rfl := Option.some.inj H
                    exact RetP.mk id ⟨rfl, trivial⟩ trivial rfl
                  · rw [if_neg hc10] at H
                    refine AG.no rfl (decide_eq_false hc10) ?_
                    refine AG.skip ?_
                    refine AG.region HM ?_
                    refine a_move (v := vI _) ?_
                    refine a_int (u := .int .i64 (wrap64 (x3 + 1))) ?_
                    refine a_move (v := vI _) ?_
                    refine RA.nil nofun ?_
                    exact AGr.canon id (ih0 _ (by omega) _ ⟨by omega, _, _, H, rfl⟩) ⟨rfl, rfl, trivial⟩ trivial rfl
              · rw [if_neg hc8] at H
                refine a_move (v := vS _) ?_ (hg := Gs.yes rfl rfl rfl (decide_eq_false hc8))
                refine a_move (v := vI _) ?_ (hg := Gs.yes rfl rfl rfl (decide_eq_false hc8))
                refine a_str ?_ ⟨hc7, hc6⟩ Try.underlying9 (hg := Gs.yes rfl rfl rfl (decide_eq_false hc8))
                refine a_int (u := .bool (decide ((bt x0 x3) > 122))) ?_ (hg := Gs.yes rfl rfl rfl (decide_eq_false hc8))
                refine a_pick (b := false) (v := vB _) ?_ (decide_eq_false hc8)
                refine a_move (v := vB _) ?_
                by_cases hc11 : (bt x0 x3) > 122
                · rw [if_pos hc11] at H
                  refine a_move (v := vS _) ?_ (hg := Gs.yes rfl rfl rfl (decide_eq_true hc11))
                  refine a_move (v := vI _) ?_ (hg := Gs.yes rfl rfl rfl (decide_eq_true hc11))
                  refine a_str ?_ ⟨hc7, hc6⟩ Try.underlying9 (hg := Gs.yes rfl rfl rfl (decide_eq_true hc11))
                  refine a_int (u := .bool (decide ((bt x0 x3) < 48))) ?_ (hg := Gs.yes rfl rfl rfl (decide_eq_true hc11))
                  refine a_move (v := vB _) ?_ (hg := Gs.yes rfl rfl rfl (decide_eq_true hc11))
                  by_cases hc12 : (bt x0 x3) < 48
                  · rw [if_pos hc12] at H
                    refine RA.skip rfl rfl rfl rfl rfl (decide_eq_true hc12) (by decide) ?_
                    refine RA.skip rfl rfl rfl rfl rfl (decide_eq_true hc12) (by decide) ?_
                    refine RA.skip rfl rfl rfl rfl rfl (decide_eq_true hc12) (by decide) ?_
                    refine RA.skip rfl rfl rfl rfl rfl (decide_eq_true hc12) (by decide) ?_
                    refine a_pick (b := true) (v := vB _) ?_ (decide_eq_true hc12) (hg := Gs.yes rfl rfl rfl (decide_eq_true hc11))
                    refine a_pick (b := true) (v := vB _) ?_ (decide_eq_true hc11)
                    refine RA.nil nofun ?_
                    refine AG.yes rfl rfl ?_
                    refine AG.seq ?_
                    refine AG.region HM ?_
                    refine a_move (v := vB _) ?_
                    refine RA.nil nofun ?_
                    refine AG.ret ?_
                    obtain rfl := Option.some.inj H
                    exact RetP.mk id ⟨rfl, trivial⟩ trivial rfl
                  · rw [if_neg hc12] at H
                    refine a_move (v := vS _) ?_ (hg := Gs.yes rfl rfl rfl (decide_eq_false hc12))
                    refine a_move (v := vI _) ?_ (hg := Gs.yes rfl rfl rfl (decide_eq_false hc12))
                    refine a_str ?_ ⟨hc7, hc6⟩ Try.underlying9 (hg := Gs.yes rfl rfl rfl (decide_eq_false hc12))
                    refine a_int (u := .bool (decide ((bt x0 x3) > 57))) ?_ (hg := Gs.yes rfl rfl rfl (decide_eq_false hc12))
                    refine a_pick (b := false) (v := vB _) ?_ (decide_eq_false hc12) (hg := Gs.yes rfl rfl rfl (decide_eq_true hc11))
                    refine a_pick (b := true) (v := vB _) ?_ (decide_eq_true hc11)
                    refine RA.nil nofun ?_
                    by_cases hc13 : (bt x0 x3) > 57
                    · rw [if_pos hc13] at H
                      refine AG.yes rfl (decide_eq_true hc13) ?_
                      refine AG.seq ?_
                      refine AG.region HM ?_
                      refine a_move (v := vB _) ?_
                      refine RA.nil nofun ?_
                      refine AG.ret ?_
                      obtain rfl := Option.some.inj H
                      exact RetP.mk id ⟨rfl, trivial⟩ trivial rfl
                    · rw [if_neg hc13] at H
                      refine AG.no rfl (decide_eq_false hc13) ?_
                      refine AG.skip ?_
                      refine AG.region HM ?_
                      refine a_move (v := vI _) ?_
                      refine a_int (u := .int .i64 (wrap64 (x3 + 1))) ?_
                      refine a_move (v := vI _) ?_
                      refine RA.nil nofun ?_
                      exact AGr.canon id (ih0 _ (by omega) _ ⟨by omega, _, _, H, rfl⟩) ⟨rfl, rfl, trivial⟩ trivial rfl
                · rw [if_neg hc11] at H
                  refine RA.skip rfl rfl rfl rfl rfl (decide_eq_false hc11) (by decide) ?_
                  refine RA.skip rfl rfl rfl rfl rfl (decide_eq_false hc11) (by decide) ?_
                  refine RA.skip rfl rfl rfl rfl rfl (decide_eq_false hc11) (by decide) ?_
                  refine RA.skip rfl rfl rfl rfl rfl (decide_eq_false hc11) (by decide) ?_
                  refine RA.skip rfl rfl rfl rfl rfl (decide_eq_false hc11) (by decide) ?_
                  refine RA.skip0 rfl rfl rfl rfl rfl ?_
                  refine RA.skip0 rfl rfl rfl rfl rfl ?_
                  refine RA.skip0 rfl rfl rfl rfl rfl ?_
                  refine RA.skip0 rfl rfl rfl rfl rfl ?_
                  refine RA.skip rfl rfl rfl rfl rfl (decide_eq_false hc11) (by decide) ?_
                  refine a_pick (b := false) (v := vB _) ?_ (decide_eq_false hc11)
                  refine RA.nil nofun ?_
                  refine AG.no rfl rfl ?_
                  refine AG.skip ?_
                  refine AG.region HM ?_
                  refine a_move (v := vI _) ?_
                  refine a_int (u := .int .i64 (wrap64 (x3 + 1))) ?_
                  refine a_move (v := vI _) ?_
                  refine RA.nil nofun ?_
                  exact AGr.canon id (ih0 _ (by omega) _ ⟨by omega, _, _, H, rfl⟩) ⟨rfl, rfl, trivial⟩ trivial rfl
            · rw [if_neg hc7] at H
              cases H
          · rw [if_neg hc6] at H
            refine AG.no rfl (decide_eq_false hc6) ?_
            refine AG.exit ?_
            refine AG.seq ?_
            refine AG.region HM ?_
            refine a_move (v := vB _) ?_
            refine RA.nil nofun ?_
            refine AG.ret ?_
            obtain rfl := Option.some.inj H
            exact RetP.mk id ⟨rfl, trivial⟩ trivial rfl
/-! ### impl_ringPolygon: function 96 -/
def impl_ringPolygon.l0 : Nat → List S60 → List S60 → List Int → Int → Int → Option ((List S60) × Bool)
  | 0, _, _, _, _, _ => none
  | k + 1, x0, x6, x10, x11, x12 => if x12 < x11 then (if 0 ≤ x12 then (if x12 < (x10.length : Int) then ((impl_within.f (rd2 x10 x12) 0 (wrap64 ((x0.length : Int) - 1))).bind fun t5 => (if t5 = true then (if 0 ≤ (rd2 x10 x12) then (if (rd2 x10 x12) < (x0.length : Int) then (if x6.length < 8796093022208 then (impl_ringPolygon.l0 k x0 (x6 ++ [(⟨(rd60 x0 (rd2 x10 x12)).f0, (rd60 x0 (rd2 x10 x12)).f1⟩ : S60)]) x10 x11 (wrap64 (x12 + 1))) else (none)) else (none)) else (none)) else (some (([] : List S60), false)))) else (none)) else (none)) else (some (x6, true))
def impl_ringPolygon.f (k : Nat) (l0 : List S60) (l1 : List Int) : Option ((List S60) × Bool) := impl_ringPolygon.l0 k l0 ([] : List S60) l1 (l1.length : Int) 0
set_option maxRecDepth 100000 in
theorem impl_ringPolygon.ok {k : Nat} {l0 : List S60} {l1 : List Int} {r0 : List S60} {r1 : Bool} (H : impl_ringPolygon.f k l0 l1 = some (r0, r1)) : OkF Try.prog 96 [vR 61 (l0.map c60), vR 2 (l1.map c2)] [] (.tup [.c (.own 100 r0.length), .c (.d (.v (.bool r1)))]) [(100, .row 61 (r0.map c60))] := by
  unfold impl_ringPolygon.f at H
  refine OkF.of (N := 31) (rs := [4, 5]) (avs := [.c (.own 100 r0.length), .c (.d (.v (.bool r1)))]) Try.func96 rfl rfl (fun _ _ => results_tmp2 rfl _ _ _) (by decide) rfl rfl rfl rfl (fun w0 S => ?_)
  refine AG.seq ?_
  refine AG.region HM ?_
  refine a_nilO (e := 61) 200 ?_ T61
  refine a_move (v := vB _) ?_
  refine RA.nil nofun ?_
  refine AG.seq ?_
  refine AG.region HM ?_
  refine a_lit (cs := []) (D := []) (css := ([] : List S60).map c60) 201 ?_ N29 T61 (hcss := by rfl)
  refine a_move (v := .c (.own _ _)) ?_
  refine RA.nil nofun ?_
  refine AG.seq ?_
  refine AG.seq ?_
  refine AG.region HM ?_
  refine a_move (v := vR _ _) ?_
  refine a_lenR ?_ Try.underlying38
  refine a_move (v := vI _) ?_
  refine RA.nil nofun ?_
  refine AG.block ?_
  refine AG.loop ?_
  obtain ⟨K0, hK0, gK0⟩ : ∃ K, k ≤ K ∧ K ≤ k := ⟨k, Nat.le_refl k, Nat.le_refl k⟩
  refine AGr.canon (fun κ => cond (Nat.beq κ 202) 201 (κ)) (AGr.loopI (n := k) (fun k s => k ≤ K0 ∧ ∃ (x0 : List S60) (x6 : List S60) (x10 : List Int) (x11 : Int) (x12 : Int), impl_ringPolygon.l0 k x0 x6 x10 x11 x12 = some (r0, r1) ∧ s = St.of [(0, vR 61 (x0.map c60)), (6, .c (.own 202 x6.length)), (10, vR 2 (x10.map c2)), (11, vI x11), (12, vI x12)] [(202, .row 61 (x6.map c60))]) ⟨hK0, _, _, _, _, _, H, rfl⟩ ?_ ?_) ⟨rfl, (ownE rfl (by simp)), rfl, rfl, rfl, trivial⟩ ⟨rfl, trivial⟩ rfl
  · rintro _ ⟨_, _, _, _, _, _, H, _⟩
    cases H
  · clear H hK0
    rintro k ih0 _ ⟨hK0, x0, x6, x10, x11, x12, H, rfl⟩
    unfold impl_ringPolygon.l0 at H
    refine AG.seq ?_
    refine AG.region HM ?_
    refine a_int (u := .bool (decide (x12 < x11))) ?_
    refine RA.nil nofun ?_
    refine AG.seq ?_
    by_cases hc2 : x12 < x11
    · rw [if_pos hc2] at H
      refine AG.yes rfl (decide_eq_true hc2) ?_
      refine AG.skip ?_
      refine AG.seq ?_
      refine AG.block ?_
      refine AG.seq ?_
      refine AG.region HM ?_
      by_cases hc3 : 0 ≤ x12
      · rw [if_pos hc3] at H
        by_cases hc4 : x12 < (x10.length : Int)
        · rw [if_pos hc4] at H
          refine a_ixR (el := c2 (rd2 x10 x12)) ?_ ⟨hc3, hc4⟩ T2 Try.underlying38 (hel := R2 hc3 hc4)
          refine a_ldR (v := vI _) ?_ T2
          refine a_move (v := vI _) ?_
          refine RA.nil nofun ?_
          refine AG.seq ?_
          refine AG.seq ?_
          refine AG.region HM ?_
          refine a_move (v := vI _) ?_
          refine a_move (v := vR _ _) ?_
          refine a_lenR ?_ Try.underlying29
          refine a_int (u := .int .i64 (wrap64 ((x0.length : Int) - 1))) ?_
          obtain ⟨t5, e6, H⟩ := bindO H
          refine a_call (v := vB t5) (nk := []) (L := []) ?_ rfl (impl_within.ok e6) id (qd (qd (qd qn))) trivial trivial trivial rfl
          refine a_un (u := .bool (!t5)) ?_
          refine RA.nil nofun ?_
          by_cases hc7 : t5 = true
          · rw [if_pos hc7] at H
            refine AG.no rfl (congrArg Bool.not hc7) ?_
            refine AG.skip ?_
            refine AG.region HM ?_
            refine a_move (v := .c (.own _ _)) ?_
            refine a_move (v := vR _ _) ?_
            refine a_move (v := vI _) ?_
            by_cases hc8 : 0 ≤ (rd2 x10 x12)
            · rw [if_pos hc8] at H
              by_cases hc9 : (rd2 x10 x12) < (x0.length : Int)
              · rw [if_pos hc9] at H
                refine a_ixR (el := c60 (rd60 x0 (rd2 x10 x12))) ?_ ⟨hc8, hc9⟩ T61 Try.underlying29 (hel := R60 hc8 hc9)
                refine a_ldR (v := .agg [_, _]) ?_ T61
                refine a_lit (cs := [_, _]) (D := []) (css := ([(⟨(rd60 x0 (rd2 x10 x12)).f0, (rd60 x0 (rd2 x10 x12)).f1⟩ : S60)]).map c60) 204 ?_ N29 T61
                by_cases hc10 : x6.length < 8796093022208
                · rw [if_pos hc10] at H
                  refine a_appO (css' := (x6 ++ [(⟨(rd60 x0 (rd2 x10 x12)).f0, (rd60 x0 (rd2 x10 x12)).f1⟩ : S60)]).map c60) (n' := (x6 ++ [(⟨(rd60 x0 (rd2 x10 x12)).f0, (rd60 x0 (rd2 x10 x12)).f1⟩ : S60)]).length) ?_ T61 (by simp [maxLen]; omega) (by simp; omega) Try.underlying29 (hc := by exact List.map_append.symm) (hn := by exact List.length_map _)
                  refine a_move (v := .c (.own _ _)) ?_
                  refine RA.nil nofun ?_
                  refine AG.region HM ?_
                  refine a_int (u := .int .i64 (wrap64 (x12 + 1))) ?_
                  refine a_move (v := vI _) ?_
                  refine RA.nil nofun ?_
                  exact AGr.canon id (ih0 _ (by omega) _ ⟨by omega, _, _, _, _, _, H, rfl⟩) ⟨rfl, rfl, rfl, rfl, rfl, trivial⟩ ⟨rfl, trivial⟩ rfl
                · rw [if_neg hc10] at H
                  cases H
              · rw [if_neg hc9] at H
                cases H
            · rw [if_neg hc8] at H
              cases H
          · rw [if_neg hc7] at H
            refine AG.yes rfl (congrArg Bool.not (Bool.eq_false_iff.2 hc7)) ?_
            refine AG.seq ?_
            refine AG.region HM ?_
            refine a_nilO (e := 61) 205 ?_ T61
            refine a_move (v := vB _) ?_
            refine RA.nil nofun ?_
            refine AG.ret ?_
            simp only [Option.some.injEq, Prod.mk.injEq] at H
            obtain ⟨rfl, rfl⟩ := H
            exact RetP.mk (fun κ => cond (Nat.beq κ 100) 205 (κ)) ⟨(ownE rfl (by simp)), rfl, trivial⟩ ⟨rfl, trivial⟩ rfl
        · rw [if_neg hc4] at H
          cases H
      · rw [if_neg hc3] at H
        cases H
    · rw [if_neg hc2] at H
      refine AG.no rfl (decide_eq_false hc2) ?_
      refine AG.exit ?_
      refine AG.seq ?_
      refine AG.region HM ?_
      refine a_move (v := .c (.own _ _)) ?_
      refine a_move (v := .c (.own _ _)) ?_
      refine a_move (v := vB _) ?_
      refine RA.nil nofun ?_
      refine AG.ret ?_
      simp only [Option.some.injEq, Prod.mk.injEq] at H
      obtain ⟨rfl, rfl⟩ := H
      exact RetP.mk (fun κ => cond (Nat.beq κ 100) 202 (κ)) ⟨rfl, rfl, trivial⟩ ⟨rfl, trivial⟩ rfl
/-! ### impl_ValidPoint: function 106 -/
def impl_ValidPoint.f (a0_0 : Int) (a0_1 : Int) : Option (Bool) := (impl_within.f a0_0 0 20000).bind fun t1 => (if t1 = true then ((impl_within.f a0_1 0 20000).bind fun t4 => (some t4)) else (some false))
set_option maxRecDepth 100000 in
theorem impl_ValidPoint.ok {a0_0 : Int} {a0_1 : Int} {r : Bool} (H : impl_ValidPoint.f a0_0 a0_1 = some r) : OkF Try.prog 106 [.agg [.d (.v (.int .i64 a0_0)), .d (.v (.int .i64 a0_1))]] [] (.c (.d (.v (.bool r)))) [] := by
  unfold impl_ValidPoint.f at H
  refine OkF.of (N := 11) (rs := [2]) (avs := [.c (.d (.v (.bool r)))]) Try.func106 rfl rfl (fun _ _ => results_tmp rfl _ _ _) (by decide) rfl rfl rfl rfl (fun w0 S => ?_)
  refine AG.seq ?_
  refine AG.region HM ?_
  refine a_box 200 ?_
  refine a_move (v := vB _) ?_
  refine RA.nil nofun ?_
  refine AG.seq ?_
  refine AG.region HM ?_
  refine a_faB (q := 0) ?_ D61_0
  refine a_ldB (v := vI _) ?_ T2
  obtain ⟨t1, e2, H⟩ := bindO H
  refine a_call (v := vB t1) (nk := []) (L := []) ?_ rfl (impl_within.ok e2) id (qd (qd (qd qn))) trivial trivial trivial rfl
  refine a_move (v := vB _) ?_
  by_cases hc3 : t1 = true
  · rw [if_pos hc3] at H
    refine a_faB (q := 1) ?_ D61_1 (hg := Gs.yes rfl rfl rfl hc3)
    refine a_ldB (v := vI _) ?_ T2 (hg := Gs.yes rfl rfl rfl hc3)
    obtain ⟨t4, e5, H⟩ := bindO H
    refine a_call (v := vB t4) (nk := []) (L := []) ?_ rfl (impl_within.ok e5) id (qd (qd (qd qn))) trivial trivial trivial rfl (hg := Gs.yes rfl rfl rfl hc3)
    refine a_pick (b := true) (v := vB _) ?_ hc3
    refine a_move (v := vB _) ?_
    refine RA.nil nofun ?_
    refine AG.ret ?_
    obtain rfl := Option.some.inj H
    exact RetP.mk id ⟨rfl, trivial⟩ trivial rfl
  · rw [if_neg hc3] at H
    refine RA.skip rfl rfl rfl rfl rfl (Bool.eq_false_iff.2 hc3) (by decide) ?_
    refine RA.skip rfl rfl rfl rfl rfl (Bool.eq_false_iff.2 hc3) (by decide) ?_
    refine RA.skip rfl rfl rfl rfl rfl (Bool.eq_false_iff.2 hc3) (by decide) ?_
    refine a_pick (b := false) (v := vB _) ?_ (Bool.eq_false_iff.2 hc3)
    refine a_move (v := vB _) ?_
    refine RA.nil nofun ?_
    refine AG.ret ?_
    obtain rfl := Option.some.inj H
    exact RetP.mk id ⟨rfl, trivial⟩ trivial rfl
/-! ### impl_validPoints: function 81 -/
def impl_validPoints.l0 : Nat → List S60 → Int → Int → Option (Bool)
  | 0, _, _, _ => none
  | k + 1, x5, x6, x7 => if x7 < x6 then (if 0 ≤ x7 then (if x7 < (x5.length : Int) then ((impl_ValidPoint.f ((rd60 x5 x7).f0) ((rd60 x5 x7).f1)).bind fun t4 => (if t4 = true then (impl_validPoints.l0 k x5 x6 (wrap64 (x7 + 1))) else (some false))) else (none)) else (none)) else (some true)
def impl_validPoints.f (k : Nat) (l0 : List S60) : Option (Bool) := impl_validPoints.l0 k l0 (l0.length : Int) 0
set_option maxRecDepth 100000 in
theorem impl_validPoints.ok {k : Nat} {l0 : List S60} {r : Bool} (H : impl_validPoints.f k l0 = some r) : OkF Try.prog 81 [vR 61 (l0.map c60)] [] (.c (.d (.v (.bool r)))) [] := by
  unfold impl_validPoints.f at H
  refine OkF.of (N := 15) (rs := [2]) (avs := [.c (.d (.v (.bool r)))]) Try.func81 rfl rfl (fun _ _ => results_tmp rfl _ _ _) (by decide) rfl rfl rfl rfl (fun w0 S => ?_)
  refine AG.seq ?_
  refine AG.region HM ?_
  refine a_move (v := vB _) ?_
  refine RA.nil nofun ?_
  refine AG.seq ?_
  refine AG.seq ?_
  refine AG.region HM ?_
  refine a_move (v := vR _ _) ?_
  refine a_lenR ?_ Try.underlying29
  refine a_move (v := vI _) ?_
  refine RA.nil nofun ?_
  refine AG.block ?_
  refine AG.loop ?_
  obtain ⟨K0, hK0, gK0⟩ : ∃ K, k ≤ K ∧ K ≤ k := ⟨k, Nat.le_refl k, Nat.le_refl k⟩
  refine AGr.canon id (AGr.loopI (n := k) (fun k s => k ≤ K0 ∧ ∃ (x5 : List S60) (x6 : Int) (x7 : Int), impl_validPoints.l0 k x5 x6 x7 = some r ∧ s = St.of [(5, vR 61 (x5.map c60)), (6, vI x6), (7, vI x7)] []) ⟨hK0, _, _, _, H, rfl⟩ ?_ ?_) ⟨rfl, rfl, rfl, trivial⟩ trivial rfl
  · rintro _ ⟨_, _, _, _, H, _⟩
    cases H
  · clear H hK0
    rintro k ih0 _ ⟨hK0, x5, x6, x7, H, rfl⟩
    unfold impl_validPoints.l0 at H
    refine AG.seq ?_
    refine AG.region HM ?_
    refine a_int (u := .bool (decide (x7 < x6))) ?_
    refine RA.nil nofun ?_
    refine AG.seq ?_
    by_cases hc1 : x7 < x6
    · rw [if_pos hc1] at H
      refine AG.yes rfl (decide_eq_true hc1) ?_
      refine AG.skip ?_
      refine AG.seq ?_
      refine AG.block ?_
      refine AG.seq ?_
      refine AG.region HM ?_
      by_cases hc2 : 0 ≤ x7
      · rw [if_pos hc2] at H
        by_cases hc3 : x7 < (x5.length : Int)
        · rw [if_pos hc3] at H
          refine a_ixR (el := c60 (rd60 x5 x7)) ?_ ⟨hc2, hc3⟩ T61 Try.underlying29 (hel := R60 hc2 hc3)
          refine a_ldR (v := .agg [_, _]) ?_ T61
          refine a_alloc (cs := [_, _]) 200 ?_ T61
          refine a_stB (cs' := [_, _]) ?_ T61
          refine RA.nil nofun ?_
          refine AG.seq ?_
          refine AG.region HM ?_
          refine a_ldB (v := .agg [_, _]) ?_ T61
          obtain ⟨t4, e5, H⟩ := bindO H
          refine a_call (v := vB t4) (nk := []) (L := []) ?_ rfl (impl_ValidPoint.ok e5) id (qg qn) trivial trivial trivial rfl
          refine a_un (u := .bool (!t4)) ?_
          refine RA.nil nofun ?_
          by_cases hc6 : t4 = true
          · rw [if_pos hc6] at H
            refine AG.no rfl (congrArg Bool.not hc6) ?_
            refine AG.skip ?_
            refine AG.region HM ?_
            refine a_int (u := .int .i64 (wrap64 (x7 + 1))) ?_
            refine a_move (v := vI _) ?_
            refine RA.nil nofun ?_
            exact AGr.canon id (ih0 _ (by omega) _ ⟨by omega, _, _, _, H, rfl⟩) ⟨rfl, rfl, rfl, trivial⟩ trivial rfl
          · rw [if_neg hc6] at H
            refine AG.yes rfl (congrArg Bool.not (Bool.eq_false_iff.2 hc6)) ?_
            refine AG.seq ?_
            refine AG.region HM ?_
            refine a_move (v := vB _) ?_
            refine RA.nil nofun ?_
            refine AG.ret ?_
            obtain rfl := Option.some.inj H
            exact RetP.mk id ⟨rfl, trivial⟩ trivial rfl
        · rw [if_neg hc3] at H
          cases H
      · rw [if_neg hc2] at H
        cases H
    · rw [if_neg hc1] at H
      refine AG.no rfl (decide_eq_false hc1) ?_
      refine AG.exit ?_
      refine AG.seq ?_
      refine AG.region HM ?_
      refine a_move (v := vB _) ?_
      refine RA.nil nofun ?_
      refine AG.ret ?_
      obtain rfl := Option.some.inj H
      exact RetP.mk id ⟨rfl, trivial⟩ trivial rfl
/-! ### impl_side: function 133 -/
def impl_side.f (a0_0 : Int) (a0_1 : Int) (a1_0 : Int) (a1_1 : Int) (a2_0 : Int) (a2_1 : Int) : Option (Int) := if (wrap64 ((wrap64 ((wrap64 (a1_0 - a0_0)) * (wrap64 (a2_1 - a0_1)))) - (wrap64 ((wrap64 (a1_1 - a0_1)) * (wrap64 (a2_0 - a0_0)))))) > 0 then (some 1) else (if (wrap64 ((wrap64 ((wrap64 (a1_0 - a0_0)) * (wrap64 (a2_1 - a0_1)))) - (wrap64 ((wrap64 (a1_1 - a0_1)) * (wrap64 (a2_0 - a0_0)))))) < 0 then (some (-1)) else (some 0))
set_option maxRecDepth 100000 in
theorem impl_side.ok {a0_0 : Int} {a0_1 : Int} {a1_0 : Int} {a1_1 : Int} {a2_0 : Int} {a2_1 : Int} {r : Int} (H : impl_side.f a0_0 a0_1 a1_0 a1_1 a2_0 a2_1 = some r) : OkF Try.prog 133 [.agg [.d (.v (.int .i64 a0_0)), .d (.v (.int .i64 a0_1))], .agg [.d (.v (.int .i64 a1_0)), .d (.v (.int .i64 a1_1))], .agg [.d (.v (.int .i64 a2_0)), .d (.v (.int .i64 a2_1))]] [] (.c (.d (.v (.int .i64 r)))) [] := by
  unfold impl_side.f at H
  refine OkF.of (N := 37) (rs := [6]) (avs := [.c (.d (.v (.int .i64 r)))]) Try.func133 rfl rfl (fun _ _ => results_tmp rfl _ _ _) (by decide) rfl rfl rfl rfl (fun w0 S => ?_)
  refine AG.seq ?_
  refine AG.region HM ?_
  refine a_box 200 ?_
  refine a_box 201 ?_
  refine a_box 202 ?_
  refine a_move (v := vI _) ?_
  refine RA.nil nofun ?_
  refine AG.seq ?_
  refine AG.region HM ?_
  refine a_faB (q := 0) ?_ D61_0
  refine a_ldB (v := vI _) ?_ T2
  refine a_faB (q := 0) ?_ D61_0
  refine a_ldB (v := vI _) ?_ T2
  refine a_int (u := .int .i64 (wrap64 (a1_0 - a0_0))) ?_
  refine a_faB (q := 1) ?_ D61_1
  refine a_ldB (v := vI _) ?_ T2
  refine a_faB (q := 1) ?_ D61_1
  refine a_ldB (v := vI _) ?_ T2
  refine a_int (u := .int .i64 (wrap64 (a2_1 - a0_1))) ?_
  refine a_int (u := .int .i64 (wrap64 ((wrap64 (a1_0 - a0_0)) * (wrap64 (a2_1 - a0_1))))) ?_
  refine a_faB (q := 1) ?_ D61_1
  refine a_ldB (v := vI _) ?_ T2
  refine a_faB (q := 1) ?_ D61_1
  refine a_ldB (v := vI _) ?_ T2
  refine a_int (u := .int .i64 (wrap64 (a1_1 - a0_1))) ?_
  refine a_faB (q := 0) ?_ D61_0
  refine a_ldB (v := vI _) ?_ T2
  refine a_faB (q := 0) ?_ D61_0
  refine a_ldB (v := vI _) ?_ T2
  refine a_int (u := .int .i64 (wrap64 (a2_0 - a0_0))) ?_
  refine a_int (u := .int .i64 (wrap64 ((wrap64 (a1_1 - a0_1)) * (wrap64 (a2_0 - a0_0))))) ?_
  refine a_int (u := .int .i64 (wrap64 ((wrap64 ((wrap64 (a1_0 - a0_0)) * (wrap64 (a2_1 - a0_1)))) - (wrap64 ((wrap64 (a1_1 - a0_1)) * (wrap64 (a2_0 - a0_0))))))) ?_
  refine a_move (v := vI _) ?_
  refine RA.nil nofun ?_
  refine AG.seq ?_
  refine AG.block ?_
  refine AG.seq ?_
  refine AG.region HM ?_
  refine a_move (v := vI _) ?_
  refine a_int (u := .bool (decide ((wrap64 ((wrap64 ((wrap64 (a1_0 - a0_0)) * (wrap64 (a2_1 - a0_1)))) - (wrap64 ((wrap64 (a1_1 - a0_1)) * (wrap64 (a2_0 - a0_0)))))) > 0))) ?_
  refine a_move (v := vB _) ?_
  refine RA.nil nofun ?_
  by_cases hc1 : (wrap64 ((wrap64 ((wrap64 (a1_0 - a0_0)) * (wrap64 (a2_1 - a0_1)))) - (wrap64 ((wrap64 (a1_1 - a0_1)) * (wrap64 (a2_0 - a0_0)))))) > 0
  · rw [if_pos hc1] at H
    refine AG.yes rfl (decide_eq_true hc1) ?_
    refine AG.seq ?_
    refine AG.region HM ?_
    refine a_move (v := vI _) ?_
    refine RA.nil nofun ?_
    refine AG.ret ?_
    obtain rfl := Option.some.inj H
    exact RetP.mk id ⟨rfl, trivial⟩ trivial rfl
  · rw [if_neg hc1] at H
    refine AG.no rfl (decide_eq_false hc1) ?_
    refine AG.seq ?_
    refine AG.region HM ?_
    refine a_move (v := vI _) ?_
    refine a_int (u := .bool (decide ((wrap64 ((wrap64 ((wrap64 (a1_0 - a0_0)) * (wrap64 (a2_1 - a0_1)))) - (wrap64 ((wrap64 (a1_1 - a0_1)) * (wrap64 (a2_0 - a0_0)))))) < 0))) ?_
    refine a_move (v := vB _) ?_
    refine RA.nil nofun ?_
    by_cases hc2 : (wrap64 ((wrap64 ((wrap64 (a1_0 - a0_0)) * (wrap64 (a2_1 - a0_1)))) - (wrap64 ((wrap64 (a1_1 - a0_1)) * (wrap64 (a2_0 - a0_0)))))) < 0
    · rw [if_pos hc2] at H
      refine AG.yes rfl (decide_eq_true hc2) ?_
      refine AG.seq ?_
      refine AG.region HM ?_
      refine a_move (v := vI _) ?_
      refine RA.nil nofun ?_
      refine AG.ret ?_
      obtain rfl := Option.some.inj H
      exact RetP.mk id ⟨rfl, trivial⟩ trivial rfl
    · rw [if_neg hc2] at H
      refine AG.no rfl (decide_eq_false hc2) ?_
      refine AG.skip ?_
      refine AG.seq ?_
      refine AG.region HM ?_
      refine a_move (v := vI _) ?_
      refine RA.nil nofun ?_
      refine AG.ret ?_
      obtain rfl := Option.some.inj H
      exact RetP.mk id ⟨rfl, trivial⟩ trivial rfl
/-! ### impl_on: function 114 -/
def impl_on.f (a0_0 : Int) (a0_1 : Int) (a1_0 : Int) (a1_1 : Int) (a2_0 : Int) (a2_1 : Int) : Option (Bool) := (impl_side.f a0_0 a0_1 a1_0 a1_1 a2_0 a2_1).bind fun t1 => (if t1 = 0 then ((impl_within.f a2_0 (mn a0_0 a1_0) (mx a0_0 a1_0)).bind fun t4 => (if t4 = true then ((impl_within.f a2_1 (mn a0_1 a1_1) (mx a0_1 a1_1)).bind fun t7 => (some t7)) else (some false))) else (some false))
set_option maxRecDepth 100000 in
theorem impl_on.ok {a0_0 : Int} {a0_1 : Int} {a1_0 : Int} {a1_1 : Int} {a2_0 : Int} {a2_1 : Int} {r : Bool} (H : impl_on.f a0_0 a0_1 a1_0 a1_1 a2_0 a2_1 = some r) : OkF Try.prog 114 [.agg [.d (.v (.int .i64 a0_0)), .d (.v (.int .i64 a0_1))], .agg [.d (.v (.int .i64 a1_0)), .d (.v (.int .i64 a1_1))], .agg [.d (.v (.int .i64 a2_0)), .d (.v (.int .i64 a2_1))]] [] (.c (.d (.v (.bool r)))) [] := by
  unfold impl_on.f at H
  refine OkF.of (N := 42) (rs := [6]) (avs := [.c (.d (.v (.bool r)))]) Try.func114 rfl rfl (fun _ _ => results_tmp rfl _ _ _) (by decide) rfl rfl rfl rfl (fun w0 S => ?_)
  refine AG.seq ?_
  refine AG.region HM ?_
  refine a_box 200 ?_
  refine a_box 201 ?_
  refine a_box 202 ?_
  refine a_move (v := vB _) ?_
  refine RA.nil nofun ?_
  refine AG.seq ?_
  refine AG.region HM ?_
  refine a_ldB (v := .agg [_, _]) ?_ T61
  refine a_ldB (v := .agg [_, _]) ?_ T61
  refine a_ldB (v := .agg [_, _]) ?_ T61
  obtain ⟨t1, e2, H⟩ := bindO H
  refine a_call (v := vI t1) (nk := []) (L := []) ?_ rfl (impl_side.ok e2) id (qg (qg (qg qn))) trivial trivial trivial rfl
  refine a_int (u := .bool ((t1 == 0))) ?_
  refine a_move (v := vB _) ?_
  by_cases hc3 : t1 = 0
  · rw [if_pos hc3] at H
    refine a_faB (q := 0) ?_ D61_0 (hg := Gs.yes rfl rfl rfl (beq_iff_eq.2 hc3))
    refine a_ldB (v := vI _) ?_ T2 (hg := Gs.yes rfl rfl rfl (beq_iff_eq.2 hc3))
    refine a_faB (q := 0) ?_ D61_0 (hg := Gs.yes rfl rfl rfl (beq_iff_eq.2 hc3))
    refine a_ldB (v := vI _) ?_ T2 (hg := Gs.yes rfl rfl rfl (beq_iff_eq.2 hc3))
    refine a_faB (q := 0) ?_ D61_0 (hg := Gs.yes rfl rfl rfl (beq_iff_eq.2 hc3))
    refine a_ldB (v := vI _) ?_ T2 (hg := Gs.yes rfl rfl rfl (beq_iff_eq.2 hc3))
    refine a_minmax (mx := false) (r := mn a0_0 a1_0) ?_ (hg := Gs.yes rfl rfl rfl (beq_iff_eq.2 hc3))
    refine a_faB (q := 0) ?_ D61_0 (hg := Gs.yes rfl rfl rfl (beq_iff_eq.2 hc3))
    refine a_ldB (v := vI _) ?_ T2 (hg := Gs.yes rfl rfl rfl (beq_iff_eq.2 hc3))
    refine a_faB (q := 0) ?_ D61_0 (hg := Gs.yes rfl rfl rfl (beq_iff_eq.2 hc3))
    refine a_ldB (v := vI _) ?_ T2 (hg := Gs.yes rfl rfl rfl (beq_iff_eq.2 hc3))
    refine a_minmax (mx := true) (r := mx a0_0 a1_0) ?_ (hg := Gs.yes rfl rfl rfl (beq_iff_eq.2 hc3))
    obtain ⟨t4, e5, H⟩ := bindO H
    refine a_call (v := vB t4) (nk := []) (L := []) ?_ rfl (impl_within.ok e5) id (qd (qd (qd qn))) trivial trivial trivial rfl (hg := Gs.yes rfl rfl rfl (beq_iff_eq.2 hc3))
    refine a_pick (b := true) (v := vB _) ?_ (beq_iff_eq.2 hc3)
    refine a_move (v := vB _) ?_
    by_cases hc6 : t4 = true
    · rw [if_pos hc6] at H
      refine a_faB (q := 1) ?_ D61_1 (hg := Gs.yes rfl rfl rfl hc6)
      refine a_ldB (v := vI _) ?_ T2 (hg := Gs.yes rfl rfl rfl hc6)
      refine a_faB (q := 1) ?_ D61_1 (hg := Gs.yes rfl rfl rfl hc6)
      refine a_ldB (v := vI _) ?_ T2 (hg := Gs.yes rfl rfl rfl hc6)
      refine a_faB (q := 1) ?_ D61_1 (hg := Gs.yes rfl rfl rfl hc6)
      refine a_ldB (v := vI _) ?_ T2 (hg := Gs.yes rfl rfl rfl hc6)
      refine a_minmax (mx := false) (r := mn a0_1 a1_1) ?_ (hg := Gs.yes rfl rfl rfl hc6)
      refine a_faB (q := 1) ?_ D61_1 (hg := Gs.yes rfl rfl rfl hc6)
      refine a_ldB (v := vI _) ?_ T2 (hg := Gs.yes rfl rfl rfl hc6)
      refine a_faB (q := 1) ?_ D61_1 (hg := Gs.yes rfl rfl rfl hc6)
      refine a_ldB (v := vI _) ?_ T2 (hg := Gs.yes rfl rfl rfl hc6)
      refine a_minmax (mx := true) (r := mx a0_1 a1_1) ?_ (hg := Gs.yes rfl rfl rfl hc6)
      obtain ⟨t7, e8, H⟩ := bindO H
      refine a_call (v := vB t7) (nk := []) (L := []) ?_ rfl (impl_within.ok e8) id (qd (qd (qd qn))) trivial trivial trivial rfl (hg := Gs.yes rfl rfl rfl hc6)
      refine a_pick (b := true) (v := vB _) ?_ hc6
      refine a_move (v := vB _) ?_
      refine RA.nil nofun ?_
      refine AG.ret ?_
      obtain rfl := Option.some.inj H
      exact RetP.mk id ⟨rfl, trivial⟩ trivial rfl
    · rw [if_neg hc6] at H
      refine RA.skip rfl rfl rfl rfl rfl (Bool.eq_false_iff.2 hc6) (by decide) ?_
      refine RA.skip rfl rfl rfl rfl rfl (Bool.eq_false_iff.2 hc6) (by decide) ?_
      refine RA.skip rfl rfl rfl rfl rfl (Bool.eq_false_iff.2 hc6) (by decide) ?_
      refine RA.skip rfl rfl rfl rfl rfl (Bool.eq_false_iff.2 hc6) (by decide) ?_
      refine RA.skip rfl rfl rfl rfl rfl (Bool.eq_false_iff.2 hc6) (by decide) ?_
      refine RA.skip rfl rfl rfl rfl rfl (Bool.eq_false_iff.2 hc6) (by decide) ?_
      refine RA.skip rfl rfl rfl rfl rfl (Bool.eq_false_iff.2 hc6) (by decide) ?_
      refine RA.skip rfl rfl rfl rfl rfl (Bool.eq_false_iff.2 hc6) (by decide) ?_
      refine RA.skip rfl rfl rfl rfl rfl (Bool.eq_false_iff.2 hc6) (by decide) ?_
      refine RA.skip rfl rfl rfl rfl rfl (Bool.eq_false_iff.2 hc6) (by decide) ?_
      refine RA.skip rfl rfl rfl rfl rfl (Bool.eq_false_iff.2 hc6) (by decide) ?_
      refine RA.skip rfl rfl rfl rfl rfl (Bool.eq_false_iff.2 hc6) (by decide) ?_
      refine RA.skip rfl rfl rfl rfl rfl (Bool.eq_false_iff.2 hc6) (by decide) ?_
      refine a_pick (b := false) (v := vB _) ?_ (Bool.eq_false_iff.2 hc6)
      refine a_move (v := vB _) ?_
      refine RA.nil nofun ?_
      refine AG.ret ?_
      obtain rfl := Option.some.inj H
      exact RetP.mk id ⟨rfl, trivial⟩ trivial rfl
  · rw [if_neg hc3] at H
    refine RA.skip rfl rfl rfl rfl rfl (beq_eq_false_iff_ne.2 hc3) (by decide) ?_
    refine RA.skip rfl rfl rfl rfl rfl (beq_eq_false_iff_ne.2 hc3) (by decide) ?_
    refine RA.skip rfl rfl rfl rfl rfl (beq_eq_false_iff_ne.2 hc3) (by decide) ?_
    refine RA.skip rfl rfl rfl rfl rfl (beq_eq_false_iff_ne.2 hc3) (by decide) ?_
    refine RA.skip rfl rfl rfl rfl rfl (beq_eq_false_iff_ne.2 hc3) (by decide) ?_
    refine RA.skip rfl rfl rfl rfl rfl (beq_eq_false_iff_ne.2 hc3) (by decide) ?_
    refine RA.skip rfl rfl rfl rfl rfl (beq_eq_false_iff_ne.2 hc3) (by decide) ?_
    refine RA.skip rfl rfl rfl rfl rfl (beq_eq_false_iff_ne.2 hc3) (by decide) ?_
    refine RA.skip rfl rfl rfl rfl rfl (beq_eq_false_iff_ne.2 hc3) (by decide) ?_
    refine RA.skip rfl rfl rfl rfl rfl (beq_eq_false_iff_ne.2 hc3) (by decide) ?_
    refine RA.skip rfl rfl rfl rfl rfl (beq_eq_false_iff_ne.2 hc3) (by decide) ?_
    refine RA.skip rfl rfl rfl rfl rfl (beq_eq_false_iff_ne.2 hc3) (by decide) ?_
    refine RA.skip rfl rfl rfl rfl rfl (beq_eq_false_iff_ne.2 hc3) (by decide) ?_
    refine a_pick (b := false) (v := vB _) ?_ (beq_eq_false_iff_ne.2 hc3)
    refine a_move (v := vB _) ?_
    refine RA.skip rfl rfl rfl rfl rfl rfl (by decide) ?_
    refine RA.skip rfl rfl rfl rfl rfl rfl (by decide) ?_
    refine RA.skip rfl rfl rfl rfl rfl rfl (by decide) ?_
    refine RA.skip rfl rfl rfl rfl rfl rfl (by decide) ?_
    refine RA.skip rfl rfl rfl rfl rfl rfl (by decide) ?_
    refine RA.skip rfl rfl rfl rfl rfl rfl (by decide) ?_
    refine RA.skip rfl rfl rfl rfl rfl rfl (by decide) ?_
    refine RA.skip rfl rfl rfl rfl rfl rfl (by decide) ?_
    refine RA.skip rfl rfl rfl rfl rfl rfl (by decide) ?_
    refine RA.skip rfl rfl rfl rfl rfl rfl (by decide) ?_
    refine RA.skip rfl rfl rfl rfl rfl rfl (by decide) ?_
    refine RA.skip rfl rfl rfl rfl rfl rfl (by decide) ?_
    refine RA.skip rfl rfl rfl rfl rfl rfl (by decide) ?_
    refine a_pick (b := false) (v := vB _) ?_ rfl
    refine a_move (v := vB _) ?_
    refine RA.nil nofun ?_
    refine AG.ret ?_
    obtain rfl := Option.some.inj H
    exact RetP.mk id ⟨rfl, trivial⟩ trivial rfl
/-! ### impl_crossing: function 134 -/
def impl_crossing.f (a0_0 : Int) (a0_1 : Int) (a1_0 : Int) (a1_1 : Int) (a2_0 : Int) (a2_1 : Int) (a3_0 : Int) (a3_1 : Int) : Option (Bool) := (impl_side.f a0_0 a0_1 a1_0 a1_1 a2_0 a2_1).bind fun t1 => ((impl_side.f a0_0 a0_1 a1_0 a1_1 a3_0 a3_1).bind fun t3 => (if (wrap64 (t1 * t3)) < 0 then ((impl_side.f a2_0 a2_1 a3_0 a3_1 a0_0 a0_1).bind fun t6 => ((impl_side.f a2_0 a2_1 a3_0 a3_1 a1_0 a1_1).bind fun t8 => (some (decide ((wrap64 (t6 * t8)) < 0))))) else (some false)))
set_option maxRecDepth 100000 in
theorem impl_crossing.ok {a0_0 : Int} {a0_1 : Int} {a1_0 : Int} {a1_1 : Int} {a2_0 : Int} {a2_1 : Int} {a3_0 : Int} {a3_1 : Int} {r : Bool} (H : impl_crossing.f a0_0 a0_1 a1_0 a1_1 a2_0 a2_1 a3_0 a3_1 = some r) : OkF Try.prog 134 [.agg [.d (.v (.int .i64 a0_0)), .d (.v (.int .i64 a0_1))], .agg [.d (.v (.int .i64 a1_0)), .d (.v (.int .i64 a1_1))], .agg [.d (.v (.int .i64 a2_0)), .d (.v (.int .i64 a2_1))], .agg [.d (.v (.int .i64 a3_0)), .d (.v (.int .i64 a3_1))]] [] (.c (.d (.v (.bool r)))) [] := by
  unfold impl_crossing.f at H
  refine OkF.of (N := 31) (rs := [8]) (avs := [.c (.d (.v (.bool r)))]) Try.func134 rfl rfl (fun _ _ => results_tmp rfl _ _ _) (by decide) rfl rfl rfl rfl (fun w0 S => ?_)
  refine AG.seq ?_
  refine AG.region HM ?_
  refine a_box 200 ?_
  refine a_box 201 ?_
  refine a_box 202 ?_
  refine a_box 203 ?_
  refine a_move (v := vB _) ?_
  refine RA.nil nofun ?_
  refine AG.seq ?_
  refine AG.region HM ?_
  refine a_ldB (v := .agg [_, _]) ?_ T61
  refine a_ldB (v := .agg [_, _]) ?_ T61
  refine a_ldB (v := .agg [_, _]) ?_ T61
  obtain ⟨t1, e2, H⟩ := bindO H
  refine a_call (v := vI t1) (nk := []) (L := []) ?_ rfl (impl_side.ok e2) id (qg (qg (qg qn))) trivial trivial trivial rfl
  refine a_ldB (v := .agg [_, _]) ?_ T61
  refine a_ldB (v := .agg [_, _]) ?_ T61
  refine a_ldB (v := .agg [_, _]) ?_ T61
  obtain ⟨t3, e4, H⟩ := bindO H
  refine a_call (v := vI t3) (nk := []) (L := []) ?_ rfl (impl_side.ok e4) id (qg (qg (qg qn))) trivial trivial trivial rfl
  refine a_int (u := .int .i64 (wrap64 (t1 * t3))) ?_
  refine a_int (u := .bool (decide ((wrap64 (t1 * t3)) < 0))) ?_
  refine a_move (v := vB _) ?_
  by_cases hc5 : (wrap64 (t1 * t3)) < 0
  · rw [if_pos hc5] at H
    refine a_ldB (v := .agg [_, _]) ?_ T61 (hg := Gs.yes rfl rfl rfl (decide_eq_true hc5))
    refine a_ldB (v := .agg [_, _]) ?_ T61 (hg := Gs.yes rfl rfl rfl (decide_eq_true hc5))
    refine a_ldB (v := .agg [_, _]) ?_ T61 (hg := Gs.yes rfl rfl rfl (decide_eq_true hc5))
    obtain ⟨t6, e7, H⟩ := bindO H
    refine a_call (v := vI t6) (nk := []) (L := []) ?_ rfl (impl_side.ok e7) id (qg (qg (qg qn))) trivial trivial trivial rfl (hg := Gs.yes rfl rfl rfl (decide_eq_true hc5))
    refine a_ldB (v := .agg [_, _]) ?_ T61 (hg := Gs.yes rfl rfl rfl (decide_eq_true hc5))
    refine a_ldB (v := .agg [_, _]) ?_ T61 (hg := Gs.yes rfl rfl rfl (decide_eq_true hc5))
    refine a_ldB (v := .agg [_, _]) ?_ T61 (hg := Gs.yes rfl rfl rfl (decide_eq_true hc5))
    obtain ⟨t8, e9, H⟩ := bindO H
    refine a_call (v := vI t8) (nk := []) (L := []) ?_ rfl (impl_side.ok e9) id (qg (qg (qg qn))) trivial trivial trivial rfl (hg := Gs.yes rfl rfl rfl (decide_eq_true hc5))
    refine a_int (u := .int .i64 (wrap64 (t6 * t8))) ?_ (hg := Gs.yes rfl rfl rfl (decide_eq_true hc5))
    refine a_int (u := .bool (decide ((wrap64 (t6 * t8)) < 0))) ?_ (hg := Gs.yes rfl rfl rfl (decide_eq_true hc5))
    refine a_pick (b := true) (v := vB _) ?_ (decide_eq_true hc5)
    refine a_move (v := vB _) ?_
    refine RA.nil (fun _ => by kernel_rfl) ?_
    refine AG.ret ?_
    obtain rfl := Option.some.inj H
    exact RetP.mk id ⟨rfl, trivial⟩ trivial rfl
  · rw [if_neg hc5] at H
    refine RA.skip rfl rfl rfl rfl rfl (decide_eq_false hc5) (by decide) ?_
    refine RA.skip rfl rfl rfl rfl rfl (decide_eq_false hc5) (by decide) ?_
    refine RA.skip rfl rfl rfl rfl rfl (decide_eq_false hc5) (by decide) ?_
    refine RA.skip rfl rfl rfl rfl rfl (decide_eq_false hc5) (by decide) ?_
    refine RA.skip rfl rfl rfl rfl rfl (decide_eq_false hc5) (by decide) ?_
    refine RA.skip rfl rfl rfl rfl rfl (decide_eq_false hc5) (by decide) ?_
    refine RA.skip rfl rfl rfl rfl rfl (decide_eq_false hc5) (by decide) ?_
    refine RA.skip rfl rfl rfl rfl rfl (decide_eq_false hc5) (by decide) ?_
    refine RA.skip rfl rfl rfl rfl rfl (decide_eq_false hc5) (by decide) ?_
    refine RA.skip rfl rfl rfl rfl rfl (decide_eq_false hc5) (by decide) ?_
    refine a_pick (b := false) (v := vB _) ?_ (decide_eq_false hc5)
    refine a_move (v := vB _) ?_
    refine RA.nil (fun _ => by kernel_rfl) ?_
    refine AG.ret ?_
    obtain rfl := Option.some.inj H
    exact RetP.mk id ⟨rfl, trivial⟩ trivial rfl
/-! ### impl_touching: function 115 -/
def impl_touching.f (a0_0 : Int) (a0_1 : Int) (a1_0 : Int) (a1_1 : Int) (a2_0 : Int) (a2_1 : Int) (a3_0 : Int) (a3_1 : Int) : Option (Bool) := (impl_crossing.f a0_0 a0_1 a1_0 a1_1 a2_0 a2_1 a3_0 a3_1).bind fun t1 => (if t1 = true then (some true) else ((impl_on.f a0_0 a0_1 a1_0 a1_1 a2_0 a2_1).bind fun t4 => (if t4 = true then (some true) else ((impl_on.f a0_0 a0_1 a1_0 a1_1 a3_0 a3_1).bind fun t7 => (if t7 = true then (some true) else ((impl_on.f a2_0 a2_1 a3_0 a3_1 a0_0 a0_1).bind fun t10 => (if t10 = true then (some true) else ((impl_on.f a2_0 a2_1 a3_0 a3_1 a1_0 a1_1).bind fun t13 => (some t13)))))))))
set_option maxRecDepth 100000 in
theorem impl_touching.ok {a0_0 : Int} {a0_1 : Int} {a1_0 : Int} {a1_1 : Int} {a2_0 : Int} {a2_1 : Int} {a3_0 : Int} {a3_1 : Int} {r : Bool} (H : impl_touching.f a0_0 a0_1 a1_0 a1_1 a2_0 a2_1 a3_0 a3_1 = some r) : OkF Try.prog 115 [.agg [.d (.v (.int .i64 a0_0)), .d (.v (.int .i64 a0_1))], .agg [.d (.v (.int .i64 a1_0)), .d (.v (.int .i64 a1_1))], .agg [.d (.v (.int .i64 a2_0)), .d (.v (.int .i64 a2_1))], .agg [.d (.v (.int .i64 a3_0)), .d (.v (.int .i64 a3_1))]] [] (.c (.d (.v (.bool r)))) [] := by
  unfold impl_touching.f at H
  refine OkF.of (N := 38) (rs := [8]) (avs := [.c (.d (.v (.bool r)))]) Try.func115 rfl rfl (fun _ _ => results_tmp rfl _ _ _) (by decide) rfl rfl rfl rfl (fun w0 S => ?_)
  refine AG.seq ?_
  refine AG.region HM ?_
  refine a_box 200 ?_
  refine a_box 201 ?_
  refine a_box 202 ?_
  refine a_box 203 ?_
  refine a_move (v := vB _) ?_
  refine RA.nil nofun ?_
  refine AG.seq ?_
  refine AG.region HM ?_
  refine a_ldB (v := .agg [_, _]) ?_ T61
  refine a_ldB (v := .agg [_, _]) ?_ T61
  refine a_ldB (v := .agg [_, _]) ?_ T61
  refine a_ldB (v := .agg [_, _]) ?_ T61
  obtain ⟨t1, e2, H⟩ := bindO H
  refine a_call (v := vB t1) (nk := []) (L := []) ?_ rfl (impl_crossing.ok e2) id (qg (qg (qg (qg qn)))) trivial trivial trivial rfl
  refine a_move (v := vB _) ?_
  by_cases hc3 : t1 = true
  · rw [if_pos hc3] at H
    refine RA.skip rfl rfl rfl rfl rfl hc3 (by decide) ?_
    refine RA.skip rfl rfl rfl rfl rfl hc3 (by decide) ?_
    refine RA.skip rfl rfl rfl rfl rfl hc3 (by decide) ?_
    refine RA.skip rfl rfl rfl rfl rfl hc3 (by decide) ?_
    refine a_pick (b := true) (v := vB _) ?_ hc3
    refine a_move (v := vB _) ?_
    refine RA.skip rfl rfl rfl rfl rfl rfl (by decide) ?_
    refine RA.skip rfl rfl rfl rfl rfl rfl (by decide) ?_
    refine RA.skip rfl rfl rfl rfl rfl rfl (by decide) ?_
    refine RA.skip rfl rfl rfl rfl rfl rfl (by decide) ?_
    refine a_pick (b := true) (v := vB _) ?_ rfl
    refine a_move (v := vB _) ?_
    refine RA.skip rfl rfl rfl rfl rfl rfl (by decide) ?_
    refine RA.skip rfl rfl rfl rfl rfl rfl (by decide) ?_
    refine RA.skip rfl rfl rfl rfl rfl rfl (by decide) ?_
    refine RA.skip rfl rfl rfl rfl rfl rfl (by decide) ?_
    refine a_pick (b := true) (v := vB _) ?_ rfl
    refine a_move (v := vB _) ?_
    refine RA.skip rfl rfl rfl rfl rfl rfl (by decide) ?_
    refine RA.skip rfl rfl rfl rfl rfl rfl (by decide) ?_
    refine RA.skip rfl rfl rfl rfl rfl rfl (by decide) ?_
    refine RA.skip rfl rfl rfl rfl rfl rfl (by decide) ?_
    refine a_pick (b := true) (v := vB _) ?_ rfl
    refine a_move (v := vB _) ?_
    refine RA.nil nofun ?_
    refine AG.ret ?_
    obtain rfl := Option.some.inj H
    exact RetP.mk id ⟨rfl, trivial⟩ trivial rfl
  · rw [if_neg hc3] at H
    refine a_ldB (v := .agg [_, _]) ?_ T61 (hg := Gs.yes rfl rfl rfl (Bool.eq_false_iff.2 hc3))
    refine a_ldB (v := .agg [_, _]) ?_ T61 (hg := Gs.yes rfl rfl rfl (Bool.eq_false_iff.2 hc3))
    refine a_ldB (v := .agg [_, _]) ?_ T61 (hg := Gs.yes rfl rfl rfl (Bool.eq_false_iff.2 hc3))
    obtain ⟨t4, e5, H⟩ := bindO H
    refine a_call (v := vB t4) (nk := []) (L := []) ?_ rfl (impl_on.ok e5) id (qg (qg (qg qn))) trivial trivial trivial rfl (hg := Gs.yes rfl rfl rfl (Bool.eq_false_iff.2 hc3))
    refine a_pick (b := false) (v := vB _) ?_ (Bool.eq_false_iff.2 hc3)
    refine a_move (v := vB _) ?_
    by_cases hc6 : t4 = true
    · rw [if_pos hc6] at H
      refine RA.skip rfl rfl rfl rfl rfl hc6 (by decide) ?_
      refine RA.skip rfl rfl rfl rfl rfl hc6 (by decide) ?_
      refine RA.skip rfl rfl rfl rfl rfl hc6 (by decide) ?_
      refine RA.skip rfl rfl rfl rfl rfl hc6 (by decide) ?_
      refine a_pick (b := true) (v := vB _) ?_ hc6
      refine a_move (v := vB _) ?_
      refine RA.skip rfl rfl rfl rfl rfl rfl (by decide) ?_
      refine RA.skip rfl rfl rfl rfl rfl rfl (by decide) ?_
      refine RA.skip rfl rfl rfl rfl rfl rfl (by decide) ?_
      refine RA.skip rfl rfl rfl rfl rfl rfl (by decide) ?_
      refine a_pick (b := true) (v := vB _) ?_ rfl
      refine a_move (v := vB _) ?_
      refine RA.skip rfl rfl rfl rfl rfl rfl (by decide) ?_
      refine RA.skip rfl rfl rfl rfl rfl rfl (by decide) ?_
      refine RA.skip rfl rfl rfl rfl rfl rfl (by decide) ?_
      refine RA.skip rfl rfl rfl rfl rfl rfl (by decide) ?_
      refine a_pick (b := true) (v := vB _) ?_ rfl
      refine a_move (v := vB _) ?_
      refine RA.nil nofun ?_
      refine AG.ret ?_
      obtain rfl := Option.some.inj H
      exact RetP.mk id ⟨rfl, trivial⟩ trivial rfl
    · rw [if_neg hc6] at H
      refine a_ldB (v := .agg [_, _]) ?_ T61 (hg := Gs.yes rfl rfl rfl (Bool.eq_false_iff.2 hc6))
      refine a_ldB (v := .agg [_, _]) ?_ T61 (hg := Gs.yes rfl rfl rfl (Bool.eq_false_iff.2 hc6))
      refine a_ldB (v := .agg [_, _]) ?_ T61 (hg := Gs.yes rfl rfl rfl (Bool.eq_false_iff.2 hc6))
      obtain ⟨t7, e8, H⟩ := bindO H
      refine a_call (v := vB t7) (nk := []) (L := []) ?_ rfl (impl_on.ok e8) id (qg (qg (qg qn))) trivial trivial trivial rfl (hg := Gs.yes rfl rfl rfl (Bool.eq_false_iff.2 hc6))
      refine a_pick (b := false) (v := vB _) ?_ (Bool.eq_false_iff.2 hc6)
      refine a_move (v := vB _) ?_
      by_cases hc9 : t7 = true
      · rw [if_pos hc9] at H
        refine RA.skip rfl rfl rfl rfl rfl hc9 (by decide) ?_
        refine RA.skip rfl rfl rfl rfl rfl hc9 (by decide) ?_
        refine RA.skip rfl rfl rfl rfl rfl hc9 (by decide) ?_
        refine RA.skip rfl rfl rfl rfl rfl hc9 (by decide) ?_
        refine a_pick (b := true) (v := vB _) ?_ hc9
        refine a_move (v := vB _) ?_
        refine RA.skip rfl rfl rfl rfl rfl rfl (by decide) ?_
        refine RA.skip rfl rfl rfl rfl rfl rfl (by decide) ?_
        refine RA.skip rfl rfl rfl rfl rfl rfl (by decide) ?_
        refine RA.skip rfl rfl rfl rfl rfl rfl (by decide) ?_
        refine a_pick (b := true) (v := vB _) ?_ rfl
        refine a_move (v := vB _) ?_
        refine RA.nil nofun ?_
        refine AG.ret ?_
        obtain rfl := Option.some.inj H
        exact RetP.mk id ⟨rfl, trivial⟩ trivial rfl
      · rw [if_neg hc9] at H
        refine a_ldB (v := .agg [_, _]) ?_ T61 (hg := Gs.yes rfl rfl rfl (Bool.eq_false_iff.2 hc9))
        refine a_ldB (v := .agg [_, _]) ?_ T61 (hg := Gs.yes rfl rfl rfl (Bool.eq_false_iff.2 hc9))
        refine a_ldB (v := .agg [_, _]) ?_ T61 (hg := Gs.yes rfl rfl rfl (Bool.eq_false_iff.2 hc9))
        obtain ⟨t10, e11, H⟩ := bindO H
        refine a_call (v := vB t10) (nk := []) (L := []) ?_ rfl (impl_on.ok e11) id (qg (qg (qg qn))) trivial trivial trivial rfl (hg := Gs.yes rfl rfl rfl (Bool.eq_false_iff.2 hc9))
        refine a_pick (b := false) (v := vB _) ?_ (Bool.eq_false_iff.2 hc9)
        refine a_move (v := vB _) ?_
        by_cases hc12 : t10 = true
        · rw [if_pos hc12] at H
          refine RA.skip rfl rfl rfl rfl rfl hc12 (by decide) ?_
          refine RA.skip rfl rfl rfl rfl rfl hc12 (by decide) ?_
          refine RA.skip rfl rfl rfl rfl rfl hc12 (by decide) ?_
          refine RA.skip rfl rfl rfl rfl rfl hc12 (by decide) ?_
          refine a_pick (b := true) (v := vB _) ?_ hc12
          refine a_move (v := vB _) ?_
          refine RA.nil nofun ?_
          refine AG.ret ?_
          obtain rfl := Option.some.inj H
          exact RetP.mk id ⟨rfl, trivial⟩ trivial rfl
        · rw [if_neg hc12] at H
          refine a_ldB (v := .agg [_, _]) ?_ T61 (hg := Gs.yes rfl rfl rfl (Bool.eq_false_iff.2 hc12))
          refine a_ldB (v := .agg [_, _]) ?_ T61 (hg := Gs.yes rfl rfl rfl (Bool.eq_false_iff.2 hc12))
          refine a_ldB (v := .agg [_, _]) ?_ T61 (hg := Gs.yes rfl rfl rfl (Bool.eq_false_iff.2 hc12))
          obtain ⟨t13, e14, H⟩ := bindO H
          refine a_call (v := vB t13) (nk := []) (L := []) ?_ rfl (impl_on.ok e14) id (qg (qg (qg qn))) trivial trivial trivial rfl (hg := Gs.yes rfl rfl rfl (Bool.eq_false_iff.2 hc12))
          refine a_pick (b := false) (v := vB _) ?_ (Bool.eq_false_iff.2 hc12)
          refine a_move (v := vB _) ?_
          refine RA.nil nofun ?_
          refine AG.ret ?_
          obtain rfl := Option.some.inj H
          exact RetP.mk id ⟨rfl, trivial⟩ trivial rfl
/-! ### impl_doubled: function 116 -/
def impl_doubled.l0 : Nat → List S60 → Int → List S60 → Int → Int → Option (Int)
  | 0, _, _, _, _, _ => none
  | k + 1, x0, x3, x7, x8, x9 => if x9 < x8 then (if 0 ≤ x9 then (if x9 < (x7.length : Int) then (if (x0.length : Int) = 0 then (none) else (if 0 ≤ (Int.tmod (wrap64 (x9 + 1)) (x0.length : Int)) then (if (Int.tmod (wrap64 (x9 + 1)) (x0.length : Int)) < (x0.length : Int) then (impl_doubled.l0 k x0 (wrap64 (x3 + (wrap64 ((wrap64 (((rd60 x7 x9).f0) * ((rd60 x0 (Int.tmod (wrap64 (x9 + 1)) (x0.length : Int))).f1))) - (wrap64 (((rd60 x7 x9).f1) * ((rd60 x0 (Int.tmod (wrap64 (x9 + 1)) (x0.length : Int))).f0))))))) x7 x8 (wrap64 (x9 + 1))) else (none)) else (none))) else (none)) else (none)) else (some x3)
def impl_doubled.f (k : Nat) (l0 : List S60) : Option (Int) := impl_doubled.l0 k l0 0 l0 (l0.length : Int) 0
set_option maxRecDepth 100000 in
theorem impl_doubled.ok {k : Nat} {l0 : List S60} {r : Int} (H : impl_doubled.f k l0 = some r) : OkF Try.prog 116 [vR 61 (l0.map c60)] [] (.c (.d (.v (.int .i64 r)))) [] := by
  unfold impl_doubled.f at H
  refine OkF.of (N := 37) (rs := [2]) (avs := [.c (.d (.v (.int .i64 r)))]) Try.func116 rfl rfl (fun _ _ => results_tmp rfl _ _ _) (by decide) rfl rfl rfl rfl (fun w0 S => ?_)
  refine AG.seq ?_
  refine AG.region HM ?_
  refine a_move (v := vI _) ?_
  refine RA.nil nofun ?_
  refine AG.seq ?_
  refine AG.region HM ?_
  refine a_move (v := vI _) ?_
  refine RA.nil nofun ?_
  refine AG.seq ?_
  refine AG.seq ?_
  refine AG.region HM ?_
  refine a_move (v := vR _ _) ?_
  refine a_lenR ?_ Try.underlying29
  refine a_move (v := vI _) ?_
  refine RA.nil nofun ?_
  refine AG.block ?_
  refine AG.loop ?_
  obtain ⟨K0, hK0, gK0⟩ : ∃ K, k ≤ K ∧ K ≤ k := ⟨k, Nat.le_refl k, Nat.le_refl k⟩
  refine AGr.canon id (AGr.loopI (n := k) (fun k s => k ≤ K0 ∧ ∃ (x0 : List S60) (x3 : Int) (x7 : List S60) (x8 : Int) (x9 : Int), impl_doubled.l0 k x0 x3 x7 x8 x9 = some r ∧ s = St.of [(0, vR 61 (x0.map c60)), (3, vI x3), (7, vR 61 (x7.map c60)), (8, vI x8), (9, vI x9)] []) ⟨hK0, _, _, _, _, _, H, rfl⟩ ?_ ?_) ⟨rfl, rfl, rfl, rfl, rfl, trivial⟩ trivial rfl
  · rintro _ ⟨_, _, _, _, _, _, H, _⟩
    cases H
  · clear H hK0
    rintro k ih0 _ ⟨hK0, x0, x3, x7, x8, x9, H, rfl⟩
    unfold impl_doubled.l0 at H
    refine AG.seq ?_
    refine AG.region HM ?_
    refine a_int (u := .bool (decide (x9 < x8))) ?_
    refine RA.nil nofun ?_
    refine AG.seq ?_
    by_cases hc1 : x9 < x8
    · rw [if_pos hc1] at H
      refine AG.yes rfl (decide_eq_true hc1) ?_
      refine AG.skip ?_
      refine AG.seq ?_
      refine AG.block ?_
      refine AG.seq ?_
      refine AG.region HM ?_
      refine a_move (v := vI _) ?_
      by_cases hc2 : 0 ≤ x9
      · rw [if_pos hc2] at H
        by_cases hc3 : x9 < (x7.length : Int)
        · rw [if_pos hc3] at H
          refine a_ixR (el := c60 (rd60 x7 x9)) ?_ ⟨hc2, hc3⟩ T61 Try.underlying29 (hel := R60 hc2 hc3)
          refine a_ldR (v := .agg [_, _]) ?_ T61
          refine a_alloc (cs := [_, _]) 200 ?_ T61
          refine a_move (v := vI _) ?_
          refine a_stB (cs' := [_, _]) ?_ T61
          refine RA.nil nofun ?_
          refine AG.seq ?_
          refine AG.region HM ?_
          refine a_move (v := vR _ _) ?_
          refine a_move (v := vI _) ?_
          refine a_int (u := .int .i64 (wrap64 (x9 + 1))) ?_
          refine a_move (v := vR _ _) ?_
          refine a_lenR ?_ Try.underlying29
          by_cases hc4 : (x0.length : Int) = 0
          · rw [if_pos hc4] at H
            cases H
          · rw [if_neg hc4] at H
            refine a_rem (r := Int.tmod (wrap64 (x9 + 1)) (x0.length : Int)) ?_ hc4
            by_cases hc5 : 0 ≤ (Int.tmod (wrap64 (x9 + 1)) (x0.length : Int))
            · rw [if_pos hc5] at H
              by_cases hc6 : (Int.tmod (wrap64 (x9 + 1)) (x0.length : Int)) < (x0.length : Int)
              · rw [if_pos hc6] at H
                refine a_ixR (el := c60 (rd60 x0 (Int.tmod (wrap64 (x9 + 1)) (x0.length : Int)))) ?_ ⟨hc5, hc6⟩ T61 Try.underlying29 (hel := R60 hc5 hc6)
                refine a_ldR (v := .agg [_, _]) ?_ T61
                refine a_alloc (cs := [_, _]) 201 ?_ T61
                refine a_stB (cs' := [_, _]) ?_ T61
                refine RA.nil nofun ?_
                refine AG.region HM ?_
                refine a_move (v := vI _) ?_
                refine a_faB (q := 0) ?_ D61_0
                refine a_ldB (v := vI _) ?_ T2
                refine a_faB (q := 1) ?_ D61_1
                refine a_ldB (v := vI _) ?_ T2
                refine a_int (u := .int .i64 (wrap64 (((rd60 x7 x9).f0) * ((rd60 x0 (Int.tmod (wrap64 (x9 + 1)) (x0.length : Int))).f1)))) ?_
                refine a_faB (q := 1) ?_ D61_1
                refine a_ldB (v := vI _) ?_ T2
                refine a_faB (q := 0) ?_ D61_0
                refine a_ldB (v := vI _) ?_ T2
                refine a_int (u := .int .i64 (wrap64 (((rd60 x7 x9).f1) * ((rd60 x0 (Int.tmod (wrap64 (x9 + 1)) (x0.length : Int))).f0)))) ?_
                refine a_int (u := .int .i64 (wrap64 ((wrap64 (((rd60 x7 x9).f0) * ((rd60 x0 (Int.tmod (wrap64 (x9 + 1)) (x0.length : Int))).f1))) - (wrap64 (((rd60 x7 x9).f1) * ((rd60 x0 (Int.tmod (wrap64 (x9 + 1)) (x0.length : Int))).f0)))))) ?_
                refine a_int (u := .int .i64 (wrap64 (x3 + (wrap64 ((wrap64 (((rd60 x7 x9).f0) * ((rd60 x0 (Int.tmod (wrap64 (x9 + 1)) (x0.length : Int))).f1))) - (wrap64 (((rd60 x7 x9).f1) * ((rd60 x0 (Int.tmod (wrap64 (x9 + 1)) (x0.length : Int))).f0)))))))) ?_
                refine a_move (v := vI _) ?_
                refine RA.nil nofun ?_
                refine AG.region HM ?_
                refine a_int (u := .int .i64 (wrap64 (x9 + 1))) ?_
                refine a_move (v := vI _) ?_
                refine RA.nil nofun ?_
                exact AGr.canon id (ih0 _ (by omega) _ ⟨by omega, _, _, _, _, _, H, rfl⟩) ⟨rfl, rfl, rfl, rfl, rfl, trivial⟩ trivial rfl
              · rw [if_neg hc6] at H
                cases H
            · rw [if_neg hc5] at H
              cases H
        · rw [if_neg hc3] at H
          cases H
      · rw [if_neg hc2] at H
        cases H
    · rw [if_neg hc1] at H
      refine AG.no rfl (decide_eq_false hc1) ?_
      refine AG.exit ?_
      refine AG.seq ?_
      refine AG.region HM ?_
      refine a_move (v := vI _) ?_
      refine a_move (v := vI _) ?_
      refine RA.nil nofun ?_
      refine AG.ret ?_
      obtain rfl := Option.some.inj H
      exact RetP.mk id ⟨rfl, trivial⟩ trivial rfl
/-! ### impl_ValidPolygon: function 97 -/
mutual
def impl_ValidPolygon.j0 : Nat → List S60 → Int → Bool → Option (Bool)
  | 0, _, _, _ => none
  | k + 1, x0, x3, x21 => if x21 = true then (some false) else (impl_ValidPolygon.l0 k x0 x3 (x0.length : Int) 0)
def impl_ValidPolygon.l0 : Nat → List S60 → Int → Int → Int → Option (Bool)
  | 0, _, _, _, _ => none
  | k + 1, x0, x3, x23, x24 => if x24 < x23 then (if 0 ≤ x24 then (if x24 < (x0.length : Int) then (if x3 = 0 then (none) else (if 0 ≤ (Int.tmod (wrap64 (x24 + 1)) x3) then (if (Int.tmod (wrap64 (x24 + 1)) x3) < (x0.length : Int) then (if 0 ≤ (Int.tmod (wrap64 (x24 + 2)) x3) then (if (Int.tmod (wrap64 (x24 + 2)) x3) < (x0.length : Int) then (if (((rd60 x0 x24).f0) == ((rd60 x0 (Int.tmod (wrap64 (x24 + 1)) x3)).f0) && (((rd60 x0 x24).f1) == ((rd60 x0 (Int.tmod (wrap64 (x24 + 1)) x3)).f1))) = true then (impl_ValidPolygon.j1 k x0 x3 x24 ((rd60 x0 x24).f0) ((rd60 x0 x24).f1) ((rd60 x0 (Int.tmod (wrap64 (x24 + 1)) x3)).f0) ((rd60 x0 (Int.tmod (wrap64 (x24 + 1)) x3)).f1) x23 x24 true) else ((impl_on.f ((rd60 x0 x24).f0) ((rd60 x0 x24).f1) ((rd60 x0 (Int.tmod (wrap64 (x24 + 1)) x3)).f0) ((rd60 x0 (Int.tmod (wrap64 (x24 + 1)) x3)).f1) ((rd60 x0 (Int.tmod (wrap64 (x24 + 2)) x3)).f0) ((rd60 x0 (Int.tmod (wrap64 (x24 + 2)) x3)).f1)).bind fun t15 => (if t15 = true then (impl_ValidPolygon.j1 k x0 x3 x24 ((rd60 x0 x24).f0) ((rd60 x0 x24).f1) ((rd60 x0 (Int.tmod (wrap64 (x24 + 1)) x3)).f0) ((rd60 x0 (Int.tmod (wrap64 (x24 + 1)) x3)).f1) x23 x24 true) else ((impl_on.f ((rd60 x0 (Int.tmod (wrap64 (x24 + 1)) x3)).f0) ((rd60 x0 (Int.tmod (wrap64 (x24 + 1)) x3)).f1) ((rd60 x0 (Int.tmod (wrap64 (x24 + 2)) x3)).f0) ((rd60 x0 (Int.tmod (wrap64 (x24 + 2)) x3)).f1) ((rd60 x0 x24).f0) ((rd60 x0 x24).f1)).bind fun t18 => (impl_ValidPolygon.j1 k x0 x3 x24 ((rd60 x0 x24).f0) ((rd60 x0 x24).f1) ((rd60 x0 (Int.tmod (wrap64 (x24 + 1)) x3)).f0) ((rd60 x0 (Int.tmod (wrap64 (x24 + 1)) x3)).f1) x23 x24 t18))))) else (none)) else (none)) else (none)) else (none))) else (none)) else (none)) else ((impl_doubled.f k x0).bind fun t31 => (some (decide (t31 > 0))))
def impl_ValidPolygon.j1 : Nat → List S60 → Int → Int → Int → Int → Int → Int → Int → Int → Bool → Option (Bool)
  | 0, _, _, _, _, _, _, _, _, _, _ => none
  | k + 1, x0, x3, x4, y207_0, y207_1, y208_0, y208_1, x23, x24, x59 => if x59 = true then (some false) else (impl_ValidPolygon.l1 k x0 x3 x4 y207_0 y207_1 y208_0 y208_1 (wrap64 (x4 + 2)) x23 x24)
def impl_ValidPolygon.l1 : Nat → List S60 → Int → Int → Int → Int → Int → Int → Int → Int → Int → Option (Bool)
  | 0, _, _, _, _, _, _, _, _, _, _ => none
  | k + 1, x0, x3, x4, y209_0, y209_1, y210_0, y210_1, x8, x23, x24 => if x8 < x3 then (if x3 = 0 then (none) else (if (Int.tmod (wrap64 (x8 + 1)) x3) = x4 then (impl_ValidPolygon.l1 k x0 x3 x4 y209_0 y209_1 y210_0 y210_1 (wrap64 (x8 + 1)) x23 x24) else (if 0 ≤ x8 then (if x8 < (x0.length : Int) then (if 0 ≤ (Int.tmod (wrap64 (x8 + 1)) x3) then (if (Int.tmod (wrap64 (x8 + 1)) x3) < (x0.length : Int) then ((impl_touching.f y209_0 y209_1 y210_0 y210_1 ((rd60 x0 x8).f0) ((rd60 x0 x8).f1) ((rd60 x0 (Int.tmod (wrap64 (x8 + 1)) x3)).f0) ((rd60 x0 (Int.tmod (wrap64 (x8 + 1)) x3)).f1)).bind fun t28 => (if t28 = true then (some false) else (impl_ValidPolygon.l1 k x0 x3 x4 y209_0 y209_1 y210_0 y210_1 (wrap64 (x8 + 1)) x23 x24))) else (none)) else (none)) else (none)) else (none)))) else (impl_ValidPolygon.l0 k x0 x3 x23 (wrap64 (x24 + 1)))
end
def impl_ValidPolygon.f (k : Nat) (l0 : List S60) : Option (Bool) := if (l0.length : Int) < 3 then (impl_ValidPolygon.j0 k l0 (l0.length : Int) true) else (if (l0.length : Int) > 24 then (impl_ValidPolygon.j0 k l0 (l0.length : Int) true) else ((impl_validPoints.f k l0).bind fun t3 => (impl_ValidPolygon.j0 k l0 (l0.length : Int) (!t3))))
set_option maxRecDepth 100000 in
theorem impl_ValidPolygon.ok {k : Nat} {l0 : List S60} {r : Bool} (H : impl_ValidPolygon.f k l0 = some r) : OkF Try.prog 97 [vR 61 (l0.map c60)] [] (.c (.d (.v (.bool r)))) [] := by
  unfold impl_ValidPolygon.f at H
  refine OkF.of (N := 93) (rs := [2]) (avs := [.c (.d (.v (.bool r)))]) Try.func97 rfl rfl (fun _ _ => results_tmp rfl _ _ _) (by decide) rfl rfl rfl rfl (fun w0 S => ?_)
  refine AG.seq ?_
  refine AG.region HM ?_
  refine a_move (v := vB _) ?_
  refine RA.nil nofun ?_
  refine AG.seq ?_
  refine AG.region HM ?_
  refine a_move (v := vR _ _) ?_
  refine a_lenR ?_ Try.underlying29
  refine a_move (v := vI _) ?_
  refine RA.nil nofun ?_
  refine AG.seq ?_
  refine AG.seq ?_
  refine AG.join (fun s => ∃ q, q ≤ k ∧ ∃ (x0 : List S60) (x3 : Int) (x21 : Bool), impl_ValidPolygon.j0 q x0 x3 x21 = some r ∧ s = St.of [(0, vR 61 (x0.map c60)), (3, vI x3), (21, vB x21)] []) ?_ ?_
  · skip
    refine AG.region HM ?_
    refine a_move (v := vI _) ?_
    refine a_int (u := .bool (decide ((l0.length : Int) < 3))) ?_
    refine a_move (v := vB _) ?_
    by_cases hc1 : (l0.length : Int) < 3
    · rw [if_pos hc1] at H
      refine RA.skip rfl rfl rfl rfl rfl (decide_eq_true hc1) (by decide) ?_
      refine RA.skip rfl rfl rfl rfl rfl (decide_eq_true hc1) (by decide) ?_
      refine a_pick (b := true) (v := vB _) ?_ (decide_eq_true hc1)
      refine a_move (v := vB _) ?_
      refine RA.skip rfl rfl rfl rfl rfl rfl (by decide) ?_
      refine RA.skip rfl rfl rfl rfl rfl rfl (by decide) ?_
      refine RA.skip rfl rfl rfl rfl rfl rfl (by decide) ?_
      refine a_pick (b := true) (v := vB _) ?_ rfl
      refine RA.nil nofun ?_
      exact Can.mk id ⟨_, (by omega), _, _, _, H, rfl⟩ ⟨rfl, rfl, rfl, trivial⟩ trivial rfl
    · rw [if_neg hc1] at H
      refine a_move (v := vI _) ?_ (hg := Gs.yes rfl rfl rfl (decide_eq_false hc1))
      refine a_int (u := .bool (decide ((l0.length : Int) > 24))) ?_ (hg := Gs.yes rfl rfl rfl (decide_eq_false hc1))
      refine a_pick (b := false) (v := vB _) ?_ (decide_eq_false hc1)
      refine a_move (v := vB _) ?_
      by_cases hc2 : (l0.length : Int) > 24
      · rw [if_pos hc2] at H
        refine RA.skip rfl rfl rfl rfl rfl (decide_eq_true hc2) (by decide) ?_
        refine RA.skip rfl rfl rfl rfl rfl (decide_eq_true hc2) (by decide) ?_
        refine RA.skip rfl rfl rfl rfl rfl (decide_eq_true hc2) (by decide) ?_
        refine a_pick (b := true) (v := vB _) ?_ (decide_eq_true hc2)
        refine RA.nil nofun ?_
        exact Can.mk id ⟨_, (by omega), _, _, _, H, rfl⟩ ⟨rfl, rfl, rfl, trivial⟩ trivial rfl
      · rw [if_neg hc2] at H
        refine a_move (v := vR _ _) ?_ (hg := Gs.yes rfl rfl rfl (decide_eq_false hc2))
        obtain ⟨t3, e4, H⟩ := bindO H
        refine a_call (v := vB t3) (nk := []) (L := []) ?_ rfl (impl_validPoints.ok e4) id (qd qn) trivial trivial trivial rfl (hg := Gs.yes rfl rfl rfl (decide_eq_false hc2))
        refine a_un (u := .bool (!t3)) ?_ (hg := Gs.yes rfl rfl rfl (decide_eq_false hc2))
        refine a_pick (b := false) (v := vB _) ?_ (decide_eq_false hc2)
        refine RA.nil nofun ?_
        exact Can.mk id ⟨_, (by omega), _, _, _, H, rfl⟩ ⟨rfl, rfl, rfl, trivial⟩ trivial rfl
  · clear H
    rintro _ ⟨k, hj0, x0, x3, x21, H, rfl⟩
    cases k with
    | zero => cases H
    | succ k =>
      rw [impl_ValidPolygon.j0] at H
      by_cases hc5 : x21 = true
      · rw [if_pos hc5] at H
        refine AG.yes rfl hc5 ?_
        refine AG.seq ?_
        refine AG.region HM ?_
        refine a_move (v := vB _) ?_
        refine RA.nil nofun ?_
        refine AG.ret ?_
        obtain rfl := Option.some.inj H
        exact RetP.mk id ⟨rfl, trivial⟩ trivial rfl
      · rw [if_neg hc5] at H
        refine AG.no rfl (Bool.eq_false_iff.2 hc5) ?_
        refine AG.skip ?_
        refine AG.seq ?_
        refine AG.seq ?_
        refine AG.region HM ?_
        refine a_move (v := vR _ _) ?_
        refine a_lenR ?_ Try.underlying29
        refine a_move (v := vI _) ?_
        refine RA.nil nofun ?_
        refine AG.block ?_
        refine AG.loop ?_
        obtain ⟨K0, hK0, gK0⟩ : ∃ K, k ≤ K ∧ K ≤ k := ⟨k, Nat.le_refl k, Nat.le_refl k⟩
        refine AGr.canon id (AGr.loopI (n := k) (fun k s => k ≤ K0 ∧ ∃ (x0 : List S60) (x3 : Int) (x23 : Int) (x24 : Int), impl_ValidPolygon.l0 k x0 x3 x23 x24 = some r ∧ s = St.of [(0, vR 61 (x0.map c60)), (3, vI x3), (23, vI x23), (24, vI x24)] []) ⟨hK0, _, _, _, _, H, rfl⟩ ?_ ?_) ⟨rfl, rfl, rfl, rfl, trivial⟩ trivial rfl
        · rintro _ ⟨_, _, _, _, _, H, _⟩
          cases H
        · clear H hK0
          rintro k ih0 _ ⟨hK0, x0, x3, x23, x24, H, rfl⟩
          unfold impl_ValidPolygon.l0 at H
          refine AG.seq ?_
          refine AG.region HM ?_
          refine a_int (u := .bool (decide (x24 < x23))) ?_
          refine RA.nil nofun ?_
          refine AG.seq ?_
          by_cases hc6 : x24 < x23
          · rw [if_pos hc6] at H
            refine AG.yes rfl (decide_eq_true hc6) ?_
            refine AG.skip ?_
            refine AG.seq ?_
            refine AG.block ?_
            refine AG.seq ?_
            refine AG.region HM ?_
            refine a_move (v := vI _) ?_
            refine a_move (v := vI _) ?_
            refine RA.nil nofun ?_
            refine AG.seq ?_
            refine AG.region HM ?_
            refine a_move (v := vR _ _) ?_
            refine a_move (v := vI _) ?_
            by_cases hc7 : 0 ≤ x24
            · rw [if_pos hc7] at H
              by_cases hc8 : x24 < (x0.length : Int)
              · rw [if_pos hc8] at H
                refine a_ixR (el := c60 (rd60 x0 x24)) ?_ ⟨hc7, hc8⟩ T61 Try.underlying29 (hel := R60 hc7 hc8)
                refine a_ldR (v := .agg [_, _]) ?_ T61
                refine a_move (v := vR _ _) ?_
                refine a_move (v := vI _) ?_
                refine a_int (u := .int .i64 (wrap64 (x24 + 1))) ?_
                refine a_move (v := vI _) ?_
                by_cases hc9 : x3 = 0
                · rw [if_pos hc9] at H
                  cases H
                · rw [if_neg hc9] at H
                  refine a_rem (r := Int.tmod (wrap64 (x24 + 1)) x3) ?_ hc9
                  by_cases hc10 : 0 ≤ (Int.tmod (wrap64 (x24 + 1)) x3)
                  · rw [if_pos hc10] at H
                    by_cases hc11 : (Int.tmod (wrap64 (x24 + 1)) x3) < (x0.length : Int)
                    · rw [if_pos hc11] at H
                      refine a_ixR (el := c60 (rd60 x0 (Int.tmod (wrap64 (x24 + 1)) x3))) ?_ ⟨hc10, hc11⟩ T61 Try.underlying29 (hel := R60 hc10 hc11)
                      refine a_ldR (v := .agg [_, _]) ?_ T61
                      refine a_move (v := vR _ _) ?_
                      refine a_move (v := vI _) ?_
                      refine a_int (u := .int .i64 (wrap64 (x24 + 2))) ?_
                      refine a_move (v := vI _) ?_
                      refine a_rem (r := Int.tmod (wrap64 (x24 + 2)) x3) ?_ hc9
                      by_cases hc12 : 0 ≤ (Int.tmod (wrap64 (x24 + 2)) x3)
                      · rw [if_pos hc12] at H
                        by_cases hc13 : (Int.tmod (wrap64 (x24 + 2)) x3) < (x0.length : Int)
                        · rw [if_pos hc13] at H
                          refine a_ixR (el := c60 (rd60 x0 (Int.tmod (wrap64 (x24 + 2)) x3))) ?_ ⟨hc12, hc13⟩ T61 Try.underlying29 (hel := R60 hc12 hc13)
                          refine a_ldR (v := .agg [_, _]) ?_ T61
                          refine a_alloc (cs := [_, _]) 202 ?_ T61
                          refine a_alloc (cs := [_, _]) 203 ?_ T61
                          refine a_alloc (cs := [_, _]) 204 ?_ T61
                          refine a_stB (cs' := [_, _]) ?_ T61
                          refine a_stB (cs' := [_, _]) ?_ T61
                          refine a_stB (cs' := [_, _]) ?_ T61
                          refine RA.nil (fun _ => by kernel_rfl) ?_
                          refine AG.seq ?_
                          refine AG.seq ?_
                          refine AG.join (fun s => ∃ q, q ≤ k ∧ ∃ (x0 : List S60) (x3 : Int) (x4 : Int) (y207_0 : Int) (y207_1 : Int) (y208_0 : Int) (y208_1 : Int) (x23 : Int) (x24 : Int) (x59 : Bool), impl_ValidPolygon.j1 q x0 x3 x4 y207_0 y207_1 y208_0 y208_1 x23 x24 x59 = some r ∧ s = St.of [(0, vR 61 (x0.map c60)), (3, vI x3), (4, vI x4), (5, .c (.ptr 207 0)), (6, .c (.ptr 208 0)), (23, vI x23), (24, vI x24), (59, vB x59)] [(207, .box 61 [.d (.v (.int .i64 y207_0)), .d (.v (.int .i64 y207_1))]), (208, .box 61 [.d (.v (.int .i64 y208_0)), .d (.v (.int .i64 y208_1))])]) ?_ ?_
                          · skip
                            refine AG.region HM ?_
                            refine a_ldB (v := .agg [_, _]) ?_ T61
                            refine a_ldB (v := .agg [_, _]) ?_ T61
                            refine a_eqS (b := (((rd60 x0 x24).f0) == ((rd60 x0 (Int.tmod (wrap64 (x24 + 1)) x3)).f0) && (((rd60 x0 x24).f1) == ((rd60 x0 (Int.tmod (wrap64 (x24 + 1)) x3)).f1)))) ?_ (.inl ⟨rfl, rfl⟩) (Q61 ((rd60 x0 x24).f0) ((rd60 x0 (Int.tmod (wrap64 (x24 + 1)) x3)).f0) ((rd60 x0 x24).f1) ((rd60 x0 (Int.tmod (wrap64 (x24 + 1)) x3)).f1)).1
                            refine a_move (v := vB _) ?_
                            by_cases hc14 : (((rd60 x0 x24).f0) == ((rd60 x0 (Int.tmod (wrap64 (x24 + 1)) x3)).f0) && (((rd60 x0 x24).f1) == ((rd60 x0 (Int.tmod (wrap64 (x24 + 1)) x3)).f1))) = true
                            · rw [if_pos hc14] at H
                              refine RA.skip rfl rfl rfl rfl rfl hc14 (by decide) ?_
                              refine RA.skip rfl rfl rfl rfl rfl hc14 (by decide) ?_
                              refine RA.skip rfl rfl rfl rfl rfl hc14 (by decide) ?_
                              refine RA.skip rfl rfl rfl rfl rfl hc14 (by decide) ?_
                              refine a_pick (b := true) (v := vB _) ?_ hc14
                              refine a_move (v := vB _) ?_
                              refine RA.skip rfl rfl rfl rfl rfl rfl (by decide) ?_
                              refine RA.skip rfl rfl rfl rfl rfl rfl (by decide) ?_
                              refine RA.skip rfl rfl rfl rfl rfl rfl (by decide) ?_
                              refine RA.skip rfl rfl rfl rfl rfl rfl (by decide) ?_
                              refine a_pick (b := true) (v := vB _) ?_ rfl
                              refine RA.nil nofun ?_
                              exact Can.mk (fun κ => cond (Nat.beq κ 207) 202 (cond (Nat.beq κ 208) 203 (κ))) ⟨_, (by omega), _, _, _, _, _, _, _, _, _, _, H, rfl⟩ ⟨rfl, rfl, rfl, rfl, rfl, rfl, rfl, rfl, trivial⟩ ⟨rfl, rfl, trivial⟩ rfl
                            · rw [if_neg hc14] at H
                              refine a_ldB (v := .agg [_, _]) ?_ T61 (hg := Gs.yes rfl rfl rfl (Bool.eq_false_iff.2 hc14))
                              refine a_ldB (v := .agg [_, _]) ?_ T61 (hg := Gs.yes rfl rfl rfl (Bool.eq_false_iff.2 hc14))
                              refine a_ldB (v := .agg [_, _]) ?_ T61 (hg := Gs.yes rfl rfl rfl (Bool.eq_false_iff.2 hc14))
                              obtain ⟨t15, e16, H⟩ := bindO H
                              refine a_call (v := vB t15) (nk := []) (L := []) ?_ rfl (impl_on.ok e16) id (qg (qg (qg qn))) trivial trivial trivial rfl (hg := Gs.yes rfl rfl rfl (Bool.eq_false_iff.2 hc14))
                              refine a_pick (b := false) (v := vB _) ?_ (Bool.eq_false_iff.2 hc14)
                              refine a_move (v := vB _) ?_
                              by_cases hc17 : t15 = true
                              · rw [if_pos hc17] at H
                                refine RA.skip rfl rfl rfl rfl rfl hc17 (by decide) ?_
                                refine RA.skip rfl rfl rfl rfl rfl hc17 (by decide) ?_
                                refine RA.skip rfl rfl rfl rfl rfl hc17 (by decide) ?_
                                refine RA.skip rfl rfl rfl rfl rfl hc17 (by decide) ?_
                                refine a_pick (b := true) (v := vB _) ?_ hc17
                                refine RA.nil nofun ?_
                                exact Can.mk (fun κ => cond (Nat.beq κ 207) 202 (cond (Nat.beq κ 208) 203 (κ))) ⟨_, (by omega), _, _, _, _, _, _, _, _, _, _, H, rfl⟩ ⟨rfl, rfl, rfl, rfl, rfl, rfl, rfl, rfl, trivial⟩ ⟨rfl, rfl, trivial⟩ rfl
                              · rw [if_neg hc17] at H
                                refine a_ldB (v := .agg [_, _]) ?_ T61 (hg := Gs.yes rfl rfl rfl (Bool.eq_false_iff.2 hc17))
                                refine a_ldB (v := .agg [_, _]) ?_ T61 (hg := Gs.yes rfl rfl rfl (Bool.eq_false_iff.2 hc17))
                                refine a_ldB (v := .agg [_, _]) ?_ T61 (hg := Gs.yes rfl rfl rfl (Bool.eq_false_iff.2 hc17))
                                obtain ⟨t18, e19, H⟩ := bindO H
                                refine a_call (v := vB t18) (nk := []) (L := []) ?_ rfl (impl_on.ok e19) id (qg (qg (qg qn))) trivial trivial trivial rfl (hg := Gs.yes rfl rfl rfl (Bool.eq_false_iff.2 hc17))
                                refine a_pick (b := false) (v := vB _) ?_ (Bool.eq_false_iff.2 hc17)
                                refine RA.nil nofun ?_
                                exact Can.mk (fun κ => cond (Nat.beq κ 207) 202 (cond (Nat.beq κ 208) 203 (κ))) ⟨_, (by omega), _, _, _, _, _, _, _, _, _, _, H, rfl⟩ ⟨rfl, rfl, rfl, rfl, rfl, rfl, rfl, rfl, trivial⟩ ⟨rfl, rfl, trivial⟩ rfl
                          · clear H
                            rintro _ ⟨k, hj1, x0, x3, x4, y207_0, y207_1, y208_0, y208_1, x23, x24, x59, H, rfl⟩
                            cases k with
                            | zero => cases H
                            | succ k =>
                              rw [impl_ValidPolygon.j1] at H
                              by_cases hc20 : x59 = true
                              · rw [if_pos hc20] at H
                                refine AG.yes rfl hc20 ?_
                                refine AG.seq ?_
                                refine AG.region HM ?_
                                refine a_move (v := vB _) ?_
                                refine RA.nil nofun ?_
                                refine AG.ret ?_
                                obtain rfl := Option.some.inj H
                                exact RetP.mk id ⟨rfl, trivial⟩ trivial rfl
                              · rw [if_neg hc20] at H
                                refine AG.no rfl (Bool.eq_false_iff.2 hc20) ?_
                                refine AG.skip ?_
                                refine AG.seq ?_
                                refine AG.region HM ?_
                                refine a_move (v := vI _) ?_
                                refine a_int (u := .int .i64 (wrap64 (x4 + 2))) ?_
                                refine a_move (v := vI _) ?_
                                refine RA.nil nofun ?_
                                refine AG.block ?_
                                refine AG.loop ?_
                                obtain ⟨K1, hK1, gK1⟩ : ∃ K, k ≤ K ∧ K ≤ k := ⟨k, Nat.le_refl k, Nat.le_refl k⟩
                                refine AGr.canon (fun κ => cond (Nat.beq κ 209) 207 (cond (Nat.beq κ 210) 208 (κ))) (AGr.loopI (n := k) (fun k s => k ≤ K1 ∧ ∃ (x0 : List S60) (x3 : Int) (x4 : Int) (y209_0 : Int) (y209_1 : Int) (y210_0 : Int) (y210_1 : Int) (x8 : Int) (x23 : Int) (x24 : Int), impl_ValidPolygon.l1 k x0 x3 x4 y209_0 y209_1 y210_0 y210_1 x8 x23 x24 = some r ∧ s = St.of [(0, vR 61 (x0.map c60)), (3, vI x3), (4, vI x4), (5, .c (.ptr 209 0)), (6, .c (.ptr 210 0)), (8, vI x8), (23, vI x23), (24, vI x24)] [(209, .box 61 [.d (.v (.int .i64 y209_0)), .d (.v (.int .i64 y209_1))]), (210, .box 61 [.d (.v (.int .i64 y210_0)), .d (.v (.int .i64 y210_1))])]) ⟨hK1, _, _, _, _, _, _, _, _, _, _, H, rfl⟩ ?_ ?_) ⟨rfl, rfl, rfl, rfl, rfl, rfl, rfl, rfl, trivial⟩ ⟨rfl, rfl, trivial⟩ rfl
                                · rintro _ ⟨_, _, _, _, _, _, _, _, _, _, _, H, _⟩
                                  cases H
                                · clear H hK1
                                  rintro k ih1 _ ⟨hK1, x0, x3, x4, y209_0, y209_1, y210_0, y210_1, x8, x23, x24, H, rfl⟩
                                  unfold impl_ValidPolygon.l1 at H
                                  refine AG.seq ?_
                                  refine AG.seq ?_
                                  refine AG.region HM ?_
                                  refine a_move (v := vI _) ?_
                                  refine a_move (v := vI _) ?_
                                  refine a_int (u := .bool (decide (x8 < x3))) ?_
                                  refine RA.nil nofun ?_
                                  by_cases hc21 : x8 < x3
                                  · rw [if_pos hc21] at H
                                    refine AG.yes rfl (decide_eq_true hc21) ?_
                                    refine AG.skip ?_
                                    refine AG.seq ?_
                                    refine AG.block ?_
                                    refine AG.seq ?_
                                    refine AG.region HM ?_
                                    refine a_move (v := vI _) ?_
                                    refine a_int (u := .int .i64 (wrap64 (x8 + 1))) ?_
                                    refine a_move (v := vI _) ?_
                                    by_cases hc22 : x3 = 0
                                    · rw [if_pos hc22] at H
                                      cases H
                                    · rw [if_neg hc22] at H
                                      refine a_rem (r := Int.tmod (wrap64 (x8 + 1)) x3) ?_ hc22
                                      refine a_move (v := vI _) ?_
                                      refine a_int (u := .bool (((Int.tmod (wrap64 (x8 + 1)) x3) != x4))) ?_
                                      refine a_move (v := vB _) ?_
                                      by_cases hc23 : (Int.tmod (wrap64 (x8 + 1)) x3) = x4
                                      · rw [if_pos hc23] at H
                                        refine RA.skip rfl rfl rfl rfl rfl (bne_eq_false_iff_eq.2 hc23) (by decide) ?_
                                        refine RA.skip rfl rfl rfl rfl rfl (bne_eq_false_iff_eq.2 hc23) (by decide) ?_
                                        refine RA.skip rfl rfl rfl rfl rfl (bne_eq_false_iff_eq.2 hc23) (by decide) ?_
                                        refine RA.skip rfl rfl rfl rfl rfl (bne_eq_false_iff_eq.2 hc23) (by decide) ?_
                                        refine RA.skip rfl rfl rfl rfl rfl (bne_eq_false_iff_eq.2 hc23) (by decide) ?_
                                        refine RA.skip rfl rfl rfl rfl rfl (bne_eq_false_iff_eq.2 hc23) (by decide) ?_
                                        refine RA.skip rfl rfl rfl rfl rfl (bne_eq_false_iff_eq.2 hc23) (by decide) ?_
                                        refine RA.skip rfl rfl rfl rfl rfl (bne_eq_false_iff_eq.2 hc23) (by decide) ?_
                                        refine RA.skip rfl rfl rfl rfl rfl (bne_eq_false_iff_eq.2 hc23) (by decide) ?_
                                        refine RA.skip rfl rfl rfl rfl rfl (bne_eq_false_iff_eq.2 hc23) (by decide) ?_
                                        refine RA.skip rfl rfl rfl rfl rfl (bne_eq_false_iff_eq.2 hc23) (by decide) ?_
                                        refine RA.skip rfl rfl rfl rfl rfl (bne_eq_false_iff_eq.2 hc23) (by decide) ?_
                                        refine RA.skip rfl rfl rfl rfl rfl (bne_eq_false_iff_eq.2 hc23) (by decide) ?_
                                        refine RA.skip rfl rfl rfl rfl rfl (bne_eq_false_iff_eq.2 hc23) (by decide) ?_
                                        refine a_pick (b := false) (v := vB _) ?_ (bne_eq_false_iff_eq.2 hc23)
                                        refine RA.nil (fun _ => by kernel_rfl) ?_
                                        refine AG.no rfl rfl ?_
                                        refine AG.skip ?_
                                        refine AG.region HM ?_
                                        refine a_move (v := vI _) ?_
                                        refine a_int (u := .int .i64 (wrap64 (x8 + 1))) ?_
                                        refine a_move (v := vI _) ?_
                                        refine RA.nil nofun ?_
                                        exact AGr.canon id (ih1 _ (by omega) _ ⟨by omega, _, _, _, _, _, _, _, _, _, _, H, rfl⟩) ⟨rfl, rfl, rfl, rfl, rfl, rfl, rfl, rfl, trivial⟩ ⟨rfl, rfl, trivial⟩ rfl
                                      · rw [if_neg hc23] at H
                                        refine a_ldB (v := .agg [_, _]) ?_ T61 (hg := Gs.yes rfl rfl rfl (bne_iff_ne.2 hc23))
                                        refine a_ldB (v := .agg [_, _]) ?_ T61 (hg := Gs.yes rfl rfl rfl (bne_iff_ne.2 hc23))
                                        refine a_move (v := vR _ _) ?_ (hg := Gs.yes rfl rfl rfl (bne_iff_ne.2 hc23))
                                        refine a_move (v := vI _) ?_ (hg := Gs.yes rfl rfl rfl (bne_iff_ne.2 hc23))
                                        by_cases hc24 : 0 ≤ x8
                                        · rw [if_pos hc24] at H
                                          by_cases hc25 : x8 < (x0.length : Int)
                                          · rw [if_pos hc25] at H
                                            refine a_ixR (el := c60 (rd60 x0 x8)) ?_ ⟨hc24, hc25⟩ T61 Try.underlying29 (hel := R60 hc24 hc25) (hg := Gs.yes rfl rfl rfl (bne_iff_ne.2 hc23))
                                            refine a_ldR (v := .agg [_, _]) ?_ T61 (hg := Gs.yes rfl rfl rfl (bne_iff_ne.2 hc23))
                                            refine a_move (v := vR _ _) ?_ (hg := Gs.yes rfl rfl rfl (bne_iff_ne.2 hc23))
                                            refine a_move (v := vI _) ?_ (hg := Gs.yes rfl rfl rfl (bne_iff_ne.2 hc23))
                                            refine a_int (u := .int .i64 (wrap64 (x8 + 1))) ?_ (hg := Gs.yes rfl rfl rfl (bne_iff_ne.2 hc23))
                                            refine a_move (v := vI _) ?_ (hg := Gs.yes rfl rfl rfl (bne_iff_ne.2 hc23))
                                            refine a_rem (r := Int.tmod (wrap64 (x8 + 1)) x3) ?_ hc22 (hg := Gs.yes rfl rfl rfl (bne_iff_ne.2 hc23))
                                            by_cases hc26 : 0 ≤ (Int.tmod (wrap64 (x8 + 1)) x3)
                                            · rw [if_pos hc26] at H
                                              by_cases hc27 : (Int.tmod (wrap64 (x8 + 1)) x3) < (x0.length : Int)
                                              · rw [if_pos hc27] at H
                                                refine a_ixR (el := c60 (rd60 x0 (Int.tmod (wrap64 (x8 + 1)) x3))) ?_ ⟨hc26, hc27⟩ T61 Try.underlying29 (hel := R60 hc26 hc27) (hg := Gs.yes rfl rfl rfl (bne_iff_ne.2 hc23))
                                                refine a_ldR (v := .agg [_, _]) ?_ T61 (hg := Gs.yes rfl rfl rfl (bne_iff_ne.2 hc23))
                                                obtain ⟨t28, e29, H⟩ := bindO H
                                                refine a_call (v := vB t28) (nk := []) (L := []) ?_ rfl (impl_touching.ok e29) id (qg (qg (qg (qg qn)))) trivial trivial trivial rfl (hg := Gs.yes rfl rfl rfl (bne_iff_ne.2 hc23))
                                                refine a_pick (b := true) (v := vB _) ?_ (bne_iff_ne.2 hc23)
                                                refine RA.nil (fun _ => by kernel_rfl) ?_
                                                by_cases hc30 : t28 = true
                                                · rw [if_pos hc30] at H
                                                  refine AG.yes rfl hc30 ?_
                                                  refine AG.seq ?_
                                                  refine AG.region HM ?_
                                                  refine a_move (v := vB _) ?_
                                                  refine RA.nil nofun ?_
                                                  refine AG.ret ?_
                                                  obtain rfl := Option.some.inj H
                                                  exact RetP.mk id ⟨rfl, trivial⟩ trivial rfl
                                                · rw [if_neg hc30] at H
                                                  refine AG.no rfl (Bool.eq_false_iff.2 hc30) ?_
                                                  refine AG.skip ?_
                                                  refine AG.region HM ?_
                                                  refine a_move (v := vI _) ?_
                                                  refine a_int (u := .int .i64 (wrap64 (x8 + 1))) ?_
                                                  refine a_move (v := vI _) ?_
                                                  refine RA.nil nofun ?_
                                                  exact AGr.canon id (ih1 _ (by omega) _ ⟨by omega, _, _, _, _, _, _, _, _, _, _, H, rfl⟩) ⟨rfl, rfl, rfl, rfl, rfl, rfl, rfl, rfl, trivial⟩ ⟨rfl, rfl, trivial⟩ rfl
                                              · rw [if_neg hc27] at H
                                                cases H
                                            · rw [if_neg hc26] at H
                                              cases H
                                          · rw [if_neg hc25] at H
                                            cases H
                                        · rw [if_neg hc24] at H
                                          cases H
                                  · rw [if_neg hc21] at H
                                    refine AG.no rfl (decide_eq_false hc21) ?_
                                    refine AG.exit ?_
                                    refine AG.region HM ?_
                                    refine a_int (u := .int .i64 (wrap64 (x24 + 1))) ?_
                                    refine a_move (v := vI _) ?_
                                    refine RA.nil nofun ?_
                                    exact AGr.canon id (ih0 _ (by omega) _ ⟨by omega, _, _, _, _, H, rfl⟩) ⟨rfl, rfl, rfl, rfl, trivial⟩ trivial rfl
                        · rw [if_neg hc13] at H
                          cases H
                      · rw [if_neg hc12] at H
                        cases H
                    · rw [if_neg hc11] at H
                      cases H
                  · rw [if_neg hc10] at H
                    cases H
              · rw [if_neg hc8] at H
                cases H
            · rw [if_neg hc7] at H
              cases H
          · rw [if_neg hc6] at H
            refine AG.no rfl (decide_eq_false hc6) ?_
            refine AG.exit ?_
            refine AG.seq ?_
            refine AG.region HM ?_
            refine a_move (v := vR _ _) ?_
            obtain ⟨t31, e32, H⟩ := bindO H
            refine a_call (v := vI t31) (nk := []) (L := []) ?_ rfl (impl_doubled.ok e32) id (qd qn) trivial trivial trivial rfl
            refine a_int (u := .bool (decide (t31 > 0))) ?_
            refine a_move (v := vB _) ?_
            refine RA.nil nofun ?_
            refine AG.ret ?_
            obtain rfl := Option.some.inj H
            exact RetP.mk id ⟨rfl, trivial⟩ trivial rfl
/-! ### impl_ValidDrawing: function 56 -/
mutual
def impl_ValidDrawing.j0 : Nat → Int → Int → List S60 → List S91 → Bool → Option (Bool)
  | 0, _, _, _, _, _ => none
  | k + 1, y203_0, y203_1, y203_2, y203_3, x30 => if x30 = true then (some false) else (impl_ValidDrawing.l0 k y203_0 y203_1 y203_2 y203_3 y203_2 (y203_2.length : Int) 0)
def impl_ValidDrawing.j1 : Nat → List S60 → List S91 → Option (Bool)
  | 0, _, _ => none
  | k + 1, y209_2, y209_3 => impl_ValidDrawing.l1 k y209_2 y209_3 y209_3 (y209_3.length : Int) 0
def impl_ValidDrawing.l0 : Nat → Int → Int → List S60 → List S91 → List S60 → Int → Int → Option (Bool)
  | 0, _, _, _, _, _, _, _ => none
  | k + 1, y204_0, y204_1, y204_2, y204_3, x32, x33, x34 => if x34 < x33 then (if 0 ≤ x34 then (if x34 < (x32.length : Int) then ((impl_within.f ((rd60 x32 x34).f0) 0 y204_0).bind fun t12 => (if t12 = true then ((impl_within.f ((rd60 x32 x34).f1) 0 y204_1).bind fun t15 => (if t15 = true then (if x34 ≤ (y204_2.length : Int) then ((slices_Contains_impl_Point.f k (y204_2.take ((x34 : Int).toNat)) ((rd60 x32 x34).f0) ((rd60 x32 x34).f1)).bind fun t19 => (if t19 = true then (some false) else (impl_ValidDrawing.l0 k y204_0 y204_1 y204_2 y204_3 x32 x33 (wrap64 (x34 + 1))))) else (none)) else (some false))) else (some false))) else (none)) else (none)) else (impl_ValidDrawing.j1 k y204_2 y204_3)
def impl_ValidDrawing.l1 : Nat → List S60 → List S91 → List S91 → Int → Int → Option (Bool)
  | 0, _, _, _, _, _ => none
  | k + 1, y210_2, y210_3, x63, x64, x65 => if x65 < x64 then (if 0 ≤ x65 then (if x65 < (x63.length : Int) then ((impl_IsName.f k ((rd91 x63 x65).f0)).bind fun t25 => (if t25 = true then (if x65 > 0 then (if 0 ≤ (wrap64 (x65 - 1)) then (if (wrap64 (x65 - 1)) < (y210_3.length : Int) then (impl_ValidDrawing.j2 k y210_2 y210_3 ((rd91 x63 x65).f1) x63 x64 x65 (!(Op.bytesLess (((rd91 y210_3 (wrap64 (x65 - 1))).f0).toList) (((rd91 x63 x65).f0).toList)))) else (none)) else (none)) else (impl_ValidDrawing.j2 k y210_2 y210_3 ((rd91 x63 x65).f1) x63 x64 x65 false)) else (impl_ValidDrawing.j2 k y210_2 y210_3 ((rd91 x63 x65).f1) x63 x64 x65 true))) else (none)) else (none)) else (some true)
def impl_ValidDrawing.j2 : Nat → List S60 → List S91 → List Int → List S91 → Int → Int → Bool → Option (Bool)
  | 0, _, _, _, _, _, _, _ => none
  | k + 1, y213_2, y213_3, y214_1, x63, x64, x65, x89 => if x89 = true then (some false) else ((impl_ringPolygon.f k y213_2 y214_1).bind fun bt32 => (if bt32.2 = true then ((impl_ValidPolygon.f k bt32.1).bind fun t36 => (if t36 = true then (impl_ValidDrawing.l1 k y213_2 y213_3 x63 x64 (wrap64 (x65 + 1))) else (some false))) else (some false)))
end
def impl_ValidDrawing.f (k : Nat) (a0_0 : Int) (a0_1 : Int) (l0_2 : List S60) (l0_3 : List S91) : Option (Bool) := (impl_within.f a0_0 10 20000).bind fun t1 => (if t1 = true then ((impl_within.f a0_1 10 20000).bind fun t4 => (if t4 = true then (if (l0_2.length : Int) > 48 then (impl_ValidDrawing.j0 k a0_0 a0_1 l0_2 l0_3 true) else (impl_ValidDrawing.j0 k a0_0 a0_1 l0_2 l0_3 (decide ((l0_3.length : Int) > 24)))) else (impl_ValidDrawing.j0 k a0_0 a0_1 l0_2 l0_3 true))) else (impl_ValidDrawing.j0 k a0_0 a0_1 l0_2 l0_3 true))
set_option maxRecDepth 100000 in
theorem impl_ValidDrawing.ok {k : Nat} {a0_0 : Int} {a0_1 : Int} {l0_2 : List S60} {l0_3 : List S91} {r : Bool} (H : impl_ValidDrawing.f k a0_0 a0_1 l0_2 l0_3 = some r) : OkF Try.prog 56 [.agg [.d (.v (.int .i64 a0_0)), .d (.v (.int .i64 a0_1)), .d (.row 61 (l0_2.map c60)), .d (.row 96 (l0_3.map c91))]] [] (.c (.d (.v (.bool r)))) [] := by
  unfold impl_ValidDrawing.f at H
  refine OkF.of (N := 106) (rs := [2]) (avs := [.c (.d (.v (.bool r)))]) Try.func56 rfl rfl (fun _ _ => results_tmp rfl _ _ _) (by decide) rfl rfl rfl rfl (fun w0 S => ?_)
  refine AG.seq ?_
  refine AG.region HM ?_
  refine a_box 200 ?_
  refine a_move (v := vB _) ?_
  refine RA.nil nofun ?_
  refine AG.seq ?_
  refine AG.seq ?_
  refine AG.join (fun s => ∃ q, q ≤ k ∧ ∃ (y203_0 : Int) (y203_1 : Int) (y203_2 : List S60) (y203_3 : List S91) (x30 : Bool), impl_ValidDrawing.j0 q y203_0 y203_1 y203_2 y203_3 x30 = some r ∧ s = St.of [(1, .c (.ptr 203 0)), (30, vB x30)] [(203, .box 32 [.d (.v (.int .i64 y203_0)), .d (.v (.int .i64 y203_1)), .d (.row 61 (y203_2.map c60)), .d (.row 96 (y203_3.map c91))])]) ?_ ?_
  · skip
    refine AG.region HM ?_
    refine a_faB (q := 0) ?_ D32_0
    refine a_ldB (v := vI _) ?_ T2
    obtain ⟨t1, e2, H⟩ := bindO H
    refine a_call (v := vB t1) (nk := []) (L := []) ?_ rfl (impl_within.ok e2) id (qd (qd (qd qn))) trivial trivial trivial rfl
    refine a_un (u := .bool (!t1)) ?_
    refine a_move (v := vB _) ?_
    by_cases hc3 : t1 = true
    · rw [if_pos hc3] at H
      refine a_faB (q := 1) ?_ D32_1 (hg := Gs.yes rfl rfl rfl (congrArg Bool.not hc3))
      refine a_ldB (v := vI _) ?_ T2 (hg := Gs.yes rfl rfl rfl (congrArg Bool.not hc3))
      obtain ⟨t4, e5, H⟩ := bindO H
      refine a_call (v := vB t4) (nk := []) (L := []) ?_ rfl (impl_within.ok e5) id (qd (qd (qd qn))) trivial trivial trivial rfl (hg := Gs.yes rfl rfl rfl (congrArg Bool.not hc3))
      refine a_un (u := .bool (!t4)) ?_ (hg := Gs.yes rfl rfl rfl (congrArg Bool.not hc3))
      refine a_pick (b := false) (v := vB _) ?_ (congrArg Bool.not hc3)
      refine a_move (v := vB _) ?_
      by_cases hc6 : t4 = true
      · rw [if_pos hc6] at H
        refine a_faB (q := 2) ?_ D32_2 (hg := Gs.yes rfl rfl rfl (congrArg Bool.not hc6))
        refine a_ldB (v := vR _ _) ?_ T29 (hg := Gs.yes rfl rfl rfl (congrArg Bool.not hc6))
        refine a_lenR ?_ Try.underlying29 (hg := Gs.yes rfl rfl rfl (congrArg Bool.not hc6))
        refine a_int (u := .bool (decide ((l0_2.length : Int) > 48))) ?_ (hg := Gs.yes rfl rfl rfl (congrArg Bool.not hc6))
        refine a_pick (b := false) (v := vB _) ?_ (congrArg Bool.not hc6)
        refine a_move (v := vB _) ?_
        by_cases hc7 : (l0_2.length : Int) > 48
        · rw [if_pos hc7] at H
          refine RA.skip rfl rfl rfl rfl rfl (decide_eq_true hc7) (by decide) ?_
          refine RA.skip rfl rfl rfl rfl rfl (decide_eq_true hc7) (by decide) ?_
          refine RA.skip rfl rfl rfl rfl rfl (decide_eq_true hc7) (by decide) ?_
          refine RA.skip rfl rfl rfl rfl rfl (decide_eq_true hc7) (by decide) ?_
          refine a_pick (b := true) (v := vB _) ?_ (decide_eq_true hc7)
          refine RA.nil nofun ?_
          exact Can.mk (fun κ => cond (Nat.beq κ 203) 200 (κ)) ⟨_, (by omega), _, _, _, _, _, H, rfl⟩ ⟨rfl, rfl, trivial⟩ ⟨rfl, trivial⟩ rfl
        · rw [if_neg hc7] at H
          refine a_faB (q := 3) ?_ D32_3 (hg := Gs.yes rfl rfl rfl (decide_eq_false hc7))
          refine a_ldB (v := vR _ _) ?_ T30 (hg := Gs.yes rfl rfl rfl (decide_eq_false hc7))
          refine a_lenR ?_ Try.underlying30 (hg := Gs.yes rfl rfl rfl (decide_eq_false hc7))
          refine a_int (u := .bool (decide ((l0_3.length : Int) > 24))) ?_ (hg := Gs.yes rfl rfl rfl (decide_eq_false hc7))
          refine a_pick (b := false) (v := vB _) ?_ (decide_eq_false hc7)
          refine RA.nil nofun ?_
          exact Can.mk (fun κ => cond (Nat.beq κ 203) 200 (κ)) ⟨_, (by omega), _, _, _, _, _, H, rfl⟩ ⟨rfl, rfl, trivial⟩ ⟨rfl, trivial⟩ rfl
      · rw [if_neg hc6] at H
        refine RA.skip rfl rfl rfl rfl rfl (congrArg Bool.not (Bool.eq_false_iff.2 hc6)) (by decide) ?_
        refine RA.skip rfl rfl rfl rfl rfl (congrArg Bool.not (Bool.eq_false_iff.2 hc6)) (by decide) ?_
        refine RA.skip rfl rfl rfl rfl rfl (congrArg Bool.not (Bool.eq_false_iff.2 hc6)) (by decide) ?_
        refine RA.skip rfl rfl rfl rfl rfl (congrArg Bool.not (Bool.eq_false_iff.2 hc6)) (by decide) ?_
        refine a_pick (b := true) (v := vB _) ?_ (congrArg Bool.not (Bool.eq_false_iff.2 hc6))
        refine a_move (v := vB _) ?_
        refine RA.skip rfl rfl rfl rfl rfl rfl (by decide) ?_
        refine RA.skip rfl rfl rfl rfl rfl rfl (by decide) ?_
        refine RA.skip rfl rfl rfl rfl rfl rfl (by decide) ?_
        refine RA.skip rfl rfl rfl rfl rfl rfl (by decide) ?_
        refine a_pick (b := true) (v := vB _) ?_ rfl
        refine RA.nil nofun ?_
        exact Can.mk (fun κ => cond (Nat.beq κ 203) 200 (κ)) ⟨_, (by omega), _, _, _, _, _, H, rfl⟩ ⟨rfl, rfl, trivial⟩ ⟨rfl, trivial⟩ rfl
    · rw [if_neg hc3] at H
      refine RA.skip rfl rfl rfl rfl rfl (congrArg Bool.not (Bool.eq_false_iff.2 hc3)) (by decide) ?_
      refine RA.skip rfl rfl rfl rfl rfl (congrArg Bool.not (Bool.eq_false_iff.2 hc3)) (by decide) ?_
      refine RA.skip rfl rfl rfl rfl rfl (congrArg Bool.not (Bool.eq_false_iff.2 hc3)) (by decide) ?_
      refine RA.skip rfl rfl rfl rfl rfl (congrArg Bool.not (Bool.eq_false_iff.2 hc3)) (by decide) ?_
      refine a_pick (b := true) (v := vB _) ?_ (congrArg Bool.not (Bool.eq_false_iff.2 hc3))
      refine a_move (v := vB _) ?_
      refine RA.skip rfl rfl rfl rfl rfl rfl (by decide) ?_
      refine RA.skip rfl rfl rfl rfl rfl rfl (by decide) ?_
      refine RA.skip rfl rfl rfl rfl rfl rfl (by decide) ?_
      refine RA.skip rfl rfl rfl rfl rfl rfl (by decide) ?_
      refine a_pick (b := true) (v := vB _) ?_ rfl
      refine a_move (v := vB _) ?_
      refine RA.skip rfl rfl rfl rfl rfl rfl (by decide) ?_
      refine RA.skip rfl rfl rfl rfl rfl rfl (by decide) ?_
      refine RA.skip rfl rfl rfl rfl rfl rfl (by decide) ?_
      refine RA.skip rfl rfl rfl rfl rfl rfl (by decide) ?_
      refine a_pick (b := true) (v := vB _) ?_ rfl
      refine RA.nil nofun ?_
      exact Can.mk (fun κ => cond (Nat.beq κ 203) 200 (κ)) ⟨_, (by omega), _, _, _, _, _, H, rfl⟩ ⟨rfl, rfl, trivial⟩ ⟨rfl, trivial⟩ rfl
  · clear H
    rintro _ ⟨k, hj0, y203_0, y203_1, y203_2, y203_3, x30, H, rfl⟩
    cases k with
    | zero => cases H
    | succ k =>
      rw [impl_ValidDrawing.j0] at H
      by_cases hc8 : x30 = true
      · rw [if_pos hc8] at H
        refine AG.yes rfl hc8 ?_
        refine AG.seq ?_
        refine AG.region HM ?_
        refine a_move (v := vB _) ?_
        refine RA.nil nofun ?_
        refine AG.ret ?_
        obtain rfl := Option.some.inj H
        exact RetP.mk id ⟨rfl, trivial⟩ trivial rfl
      · rw [if_neg hc8] at H
        refine AG.no rfl (Bool.eq_false_iff.2 hc8) ?_
        refine AG.skip ?_
        refine AG.seq ?_
        refine AG.seq ?_
        refine AG.region HM ?_
        refine a_faB (q := 2) ?_ D32_2
        refine a_ldB (v := vR _ _) ?_ T29
        refine a_lenR ?_ Try.underlying29
        refine a_move (v := vI _) ?_
        refine RA.nil nofun ?_
        refine AG.join (fun s => ∃ q, q ≤ k ∧ ∃ (y209_0 : Int) (y209_1 : Int) (y209_2 : List S60) (y209_3 : List S91), impl_ValidDrawing.j1 q y209_2 y209_3 = some r ∧ s = St.of [(1, .c (.ptr 209 0))] [(209, .box 32 [.d (.v (.int .i64 y209_0)), .d (.v (.int .i64 y209_1)), .d (.row 61 (y209_2.map c60)), .d (.row 96 (y209_3.map c91))])]) ?_ ?_
        · skip
          refine AG.block ?_
          refine AG.loop ?_
          obtain ⟨K0, hK0, gK0⟩ : ∃ K, k ≤ K ∧ K ≤ k := ⟨k, Nat.le_refl k, Nat.le_refl k⟩
          refine AGr.canon (fun κ => cond (Nat.beq κ 204) 203 (κ)) (AGr.loopI (n := k) (fun k s => k ≤ K0 ∧ ∃ (y204_0 : Int) (y204_1 : Int) (y204_2 : List S60) (y204_3 : List S91) (x32 : List S60) (x33 : Int) (x34 : Int), impl_ValidDrawing.l0 k y204_0 y204_1 y204_2 y204_3 x32 x33 x34 = some r ∧ s = St.of [(1, .c (.ptr 204 0)), (32, vR 61 (x32.map c60)), (33, vI x33), (34, vI x34)] [(204, .box 32 [.d (.v (.int .i64 y204_0)), .d (.v (.int .i64 y204_1)), .d (.row 61 (y204_2.map c60)), .d (.row 96 (y204_3.map c91))])]) ⟨hK0, _, _, _, _, _, _, _, H, rfl⟩ ?_ ?_) ⟨rfl, rfl, rfl, rfl, trivial⟩ ⟨rfl, trivial⟩ rfl
          · rintro _ ⟨_, _, _, _, _, _, _, _, H, _⟩
            cases H
          · clear H hK0
            rintro k ih0 _ ⟨hK0, y204_0, y204_1, y204_2, y204_3, x32, x33, x34, H, rfl⟩
            unfold impl_ValidDrawing.l0 at H
            refine AG.seq ?_
            refine AG.region HM ?_
            refine a_int (u := .bool (decide (x34 < x33))) ?_
            refine RA.nil nofun ?_
            refine AG.seq ?_
            by_cases hc9 : x34 < x33
            · rw [if_pos hc9] at H
              refine AG.yes rfl (decide_eq_true hc9) ?_
              refine AG.skip ?_
              refine AG.seq ?_
              refine AG.block ?_
              refine AG.seq ?_
              refine AG.region HM ?_
              refine a_move (v := vI _) ?_
              by_cases hc10 : 0 ≤ x34
              · rw [if_pos hc10] at H
                by_cases hc11 : x34 < (x32.length : Int)
                · rw [if_pos hc11] at H
                  refine a_ixR (el := c60 (rd60 x32 x34)) ?_ ⟨hc10, hc11⟩ T61 Try.underlying29 (hel := R60 hc10 hc11)
                  refine a_ldR (v := .agg [_, _]) ?_ T61
                  refine a_alloc (cs := [_, _]) 205 ?_ T61
                  refine a_move (v := vI _) ?_
                  refine a_stB (cs' := [_, _]) ?_ T61
                  refine RA.nil nofun ?_
                  refine AG.seq ?_
                  refine AG.region HM ?_
                  refine a_faB (q := 0) ?_ D61_0
                  refine a_ldB (v := vI _) ?_ T2
                  refine a_faB (q := 0) ?_ D32_0
                  refine a_ldB (v := vI _) ?_ T2
                  obtain ⟨t12, e13, H⟩ := bindO H
                  refine a_call (v := vB t12) (nk := []) (L := []) ?_ rfl (impl_within.ok e13) id (qd (qd (qd qn))) trivial trivial trivial rfl
                  refine a_un (u := .bool (!t12)) ?_
                  refine a_move (v := vB _) ?_
                  by_cases hc14 : t12 = true
                  · rw [if_pos hc14] at H
                    refine a_faB (q := 1) ?_ D61_1 (hg := Gs.yes rfl rfl rfl (congrArg Bool.not hc14))
                    refine a_ldB (v := vI _) ?_ T2 (hg := Gs.yes rfl rfl rfl (congrArg Bool.not hc14))
                    refine a_faB (q := 1) ?_ D32_1 (hg := Gs.yes rfl rfl rfl (congrArg Bool.not hc14))
                    refine a_ldB (v := vI _) ?_ T2 (hg := Gs.yes rfl rfl rfl (congrArg Bool.not hc14))
                    obtain ⟨t15, e16, H⟩ := bindO H
                    refine a_call (v := vB t15) (nk := []) (L := []) ?_ rfl (impl_within.ok e16) id (qd (qd (qd qn))) trivial trivial trivial rfl (hg := Gs.yes rfl rfl rfl (congrArg Bool.not hc14))
                    refine a_un (u := .bool (!t15)) ?_ (hg := Gs.yes rfl rfl rfl (congrArg Bool.not hc14))
                    refine a_pick (b := false) (v := vB _) ?_ (congrArg Bool.not hc14)
                    refine a_move (v := vB _) ?_
                    by_cases hc17 : t15 = true
                    · rw [if_pos hc17] at H
                      refine a_faB (q := 2) ?_ D32_2 (hg := Gs.yes rfl rfl rfl (congrArg Bool.not hc17))
                      refine a_ldB (v := vR _ _) ?_ T29 (hg := Gs.yes rfl rfl rfl (congrArg Bool.not hc17))
                      refine a_move (v := vI _) ?_ (hg := Gs.yes rfl rfl rfl (congrArg Bool.not hc17))
                      by_cases hc18 : x34 ≤ (y204_2.length : Int)
                      · rw [if_pos hc18] at H
                        refine a_slR (l := none) (h := some x34) (css' := (y204_2.take ((x34 : Int).toNat)).map c60) ?_ Try.underlying29 T61 ⟨(Int.le_refl 0), hc10, (lenM (p := fun n => x34 ≤ n) hc18)⟩ (map_take_drop _ _ _ _) (hg := Gs.yes rfl rfl rfl (congrArg Bool.not hc17))
                        refine a_ldB (v := .agg [_, _]) ?_ T61 (hg := Gs.yes rfl rfl rfl (congrArg Bool.not hc17))
                        obtain ⟨t19, e20, H⟩ := bindO H
                        refine a_call (v := vB t19) (nk := []) (L := []) ?_ rfl (slices_Contains_impl_Point.ok e20) id (qd (qg qn)) trivial trivial trivial rfl (hg := Gs.yes rfl rfl rfl (congrArg Bool.not hc17))
                        refine a_pick (b := false) (v := vB _) ?_ (congrArg Bool.not hc17)
                        refine RA.nil (fun _ => by kernel_rfl) ?_
                        by_cases hc21 : t19 = true
                        · rw [if_pos hc21] at H
                          refine AG.yes rfl hc21 ?_
                          refine AG.seq ?_
                          refine AG.region HM ?_
                          refine a_move (v := vB _) ?_
                          refine RA.nil nofun ?_
                          refine AG.ret ?_
                          obtain rfl := Option.some.inj H
                          exact RetP.mk id ⟨rfl, trivial⟩ trivial rfl
                        · rw [if_neg hc21] at H
                          refine AG.no rfl (Bool.eq_false_iff.2 hc21) ?_
                          refine AG.skip ?_
                          refine AG.region HM ?_
                          refine a_int (u := .int .i64 (wrap64 (x34 + 1))) ?_
                          refine a_move (v := vI _) ?_
                          refine RA.nil nofun ?_
                          exact AGr.canon id (ih0 _ (by omega) _ ⟨by omega, _, _, _, _, _, _, _, H, rfl⟩) ⟨rfl, rfl, rfl, rfl, trivial⟩ ⟨rfl, trivial⟩ rfl
                      · rw [if_neg hc18] at H
                        cases H
                    · rw [if_neg hc17] at H
                      refine RA.skip rfl rfl rfl rfl rfl (congrArg Bool.not (Bool.eq_false_iff.2 hc17)) (by decide) ?_
                      refine RA.skip rfl rfl rfl rfl rfl (congrArg Bool.not (Bool.eq_false_iff.2 hc17)) (by decide) ?_
                      refine RA.skip rfl rfl rfl rfl rfl (congrArg Bool.not (Bool.eq_false_iff.2 hc17)) (by decide) ?_
                      refine RA.skip rfl rfl rfl rfl rfl (congrArg Bool.not (Bool.eq_false_iff.2 hc17)) (by decide) ?_
                      refine RA.skip rfl rfl rfl rfl rfl (congrArg Bool.not (Bool.eq_false_iff.2 hc17)) (by decide) ?_
                      refine RA.skip rfl rfl rfl rfl rfl (congrArg Bool.not (Bool.eq_false_iff.2 hc17)) (by decide) ?_
                      refine a_pick (b := true) (v := vB _) ?_ (congrArg Bool.not (Bool.eq_false_iff.2 hc17))
                      refine RA.nil (fun _ => by kernel_rfl) ?_
                      refine AG.yes rfl rfl ?_
                      refine AG.seq ?_
                      refine AG.region HM ?_
                      refine a_move (v := vB _) ?_
                      refine RA.nil nofun ?_
                      refine AG.ret ?_
                      obtain rfl := Option.some.inj H
                      exact RetP.mk id ⟨rfl, trivial⟩ trivial rfl
                  · rw [if_neg hc14] at H
                    refine RA.skip rfl rfl rfl rfl rfl (congrArg Bool.not (Bool.eq_false_iff.2 hc14)) (by decide) ?_
                    refine RA.skip rfl rfl rfl rfl rfl (congrArg Bool.not (Bool.eq_false_iff.2 hc14)) (by decide) ?_
                    refine RA.skip rfl rfl rfl rfl rfl (congrArg Bool.not (Bool.eq_false_iff.2 hc14)) (by decide) ?_
                    refine RA.skip rfl rfl rfl rfl rfl (congrArg Bool.not (Bool.eq_false_iff.2 hc14)) (by decide) ?_
                    refine RA.skip rfl rfl rfl rfl rfl (congrArg Bool.not (Bool.eq_false_iff.2 hc14)) (by decide) ?_
                    refine RA.skip rfl rfl rfl rfl rfl (congrArg Bool.not (Bool.eq_false_iff.2 hc14)) (by decide) ?_
                    refine a_pick (b := true) (v := vB _) ?_ (congrArg Bool.not (Bool.eq_false_iff.2 hc14))
                    refine a_move (v := vB _) ?_
                    refine RA.skip rfl rfl rfl rfl rfl rfl (by decide) ?_
                    refine RA.skip rfl rfl rfl rfl rfl rfl (by decide) ?_
                    refine RA.skip rfl rfl rfl rfl rfl rfl (by decide) ?_
                    refine RA.skip rfl rfl rfl rfl rfl rfl (by decide) ?_
                    refine RA.skip rfl rfl rfl rfl rfl rfl (by decide) ?_
                    refine RA.skip rfl rfl rfl rfl rfl rfl (by decide) ?_
                    refine a_pick (b := true) (v := vB _) ?_ rfl
                    refine RA.nil (fun _ => by kernel_rfl) ?_
                    refine AG.yes rfl rfl ?_
                    refine AG.seq ?_
                    refine AG.region HM ?_
                    refine a_move (v := vB _) ?_
                    refine RA.nil nofun ?_
                    refine AG.ret ?_
                    obtain rfl := Option.some.inj H
                    exact RetP.mk id ⟨rfl, trivial⟩ trivial rfl
                · rw [if_neg hc11] at H
                  cases H
              · rw [if_neg hc10] at H
                cases H
            · rw [if_neg hc9] at H
              refine AG.no rfl (decide_eq_false hc9) ?_
              refine AG.exit ?_
              exact Can.mk (fun κ => cond (Nat.beq κ 209) 204 (κ)) ⟨_, (by omega), _, _, _, _, H, rfl⟩ ⟨rfl, trivial⟩ ⟨rfl, trivial⟩ rfl
        · clear H
          rintro _ ⟨k, hj1, y209_0, y209_1, y209_2, y209_3, H, rfl⟩
          cases k with
          | zero => cases H
          | succ k =>
            rw [impl_ValidDrawing.j1] at H
            refine AG.seq ?_
            refine AG.seq ?_
            refine AG.region HM ?_
            refine a_faB (q := 3) ?_ D32_3
            refine a_ldB (v := vR _ _) ?_ T30
            refine a_lenR ?_ Try.underlying30
            refine a_move (v := vI _) ?_
            refine RA.nil nofun ?_
            refine AG.block ?_
            refine AG.loop ?_
            obtain ⟨K1, hK1, gK1⟩ : ∃ K, k ≤ K ∧ K ≤ k := ⟨k, Nat.le_refl k, Nat.le_refl k⟩
            refine AGr.canon (fun κ => cond (Nat.beq κ 210) 209 (κ)) (AGr.loopI (n := k) (fun k s => k ≤ K1 ∧ ∃ (y210_0 : Int) (y210_1 : Int) (y210_2 : List S60) (y210_3 : List S91) (x63 : List S91) (x64 : Int) (x65 : Int), impl_ValidDrawing.l1 k y210_2 y210_3 x63 x64 x65 = some r ∧ s = St.of [(1, .c (.ptr 210 0)), (63, vR 96 (x63.map c91)), (64, vI x64), (65, vI x65)] [(210, .box 32 [.d (.v (.int .i64 y210_0)), .d (.v (.int .i64 y210_1)), .d (.row 61 (y210_2.map c60)), .d (.row 96 (y210_3.map c91))])]) ⟨hK1, _, _, _, _, _, _, _, H, rfl⟩ ?_ ?_) ⟨rfl, rfl, rfl, rfl, trivial⟩ ⟨rfl, trivial⟩ rfl
            · rintro _ ⟨_, _, _, _, _, _, _, _, H, _⟩
              cases H
            · clear H hK1
              rintro k ih1 _ ⟨hK1, y210_0, y210_1, y210_2, y210_3, x63, x64, x65, H, rfl⟩
              unfold impl_ValidDrawing.l1 at H
              refine AG.seq ?_
              refine AG.region HM ?_
              refine a_int (u := .bool (decide (x65 < x64))) ?_
              refine RA.nil nofun ?_
              refine AG.seq ?_
              by_cases hc22 : x65 < x64
              · rw [if_pos hc22] at H
                refine AG.yes rfl (decide_eq_true hc22) ?_
                refine AG.skip ?_
                refine AG.seq ?_
                refine AG.block ?_
                refine AG.seq ?_
                refine AG.region HM ?_
                refine a_move (v := vI _) ?_
                by_cases hc23 : 0 ≤ x65
                · rw [if_pos hc23] at H
                  by_cases hc24 : x65 < (x63.length : Int)
                  · rw [if_pos hc24] at H
                    refine a_ixR (el := c91 (rd91 x63 x65)) ?_ ⟨hc23, hc24⟩ T96 Try.underlying30 (hel := R91 hc23 hc24)
                    refine a_ldR (v := .agg [_, _]) ?_ T96
                    refine a_alloc (cs := [_, _]) 211 ?_ T96
                    refine a_move (v := vI _) ?_
                    refine a_stB (cs' := [_, _]) ?_ T96
                    refine RA.nil nofun ?_
                    refine AG.seq ?_
                    refine AG.seq ?_
                    refine AG.join (fun s => ∃ q, q ≤ k ∧ ∃ (y213_0 : Int) (y213_1 : Int) (y213_2 : List S60) (y213_3 : List S91) (y214_0 : ByteArray) (y214_1 : List Int) (x63 : List S91) (x64 : Int) (x65 : Int) (x89 : Bool), impl_ValidDrawing.j2 q y213_2 y213_3 y214_1 x63 x64 x65 x89 = some r ∧ s = St.of [(1, .c (.ptr 213 0)), (6, .c (.ptr 214 0)), (63, vR 96 (x63.map c91)), (64, vI x64), (65, vI x65), (89, vB x89)] [(213, .box 32 [.d (.v (.int .i64 y213_0)), .d (.v (.int .i64 y213_1)), .d (.row 61 (y213_2.map c60)), .d (.row 96 (y213_3.map c91))]), (214, .box 96 [.d (.v (.string y214_0)), .d (.row 2 (y214_1.map c2))])]) ?_ ?_
                    · skip
                      refine AG.region HM ?_
                      refine a_faB (q := 0) ?_ D96_0
                      refine a_ldB (v := vS _) ?_ T9
                      obtain ⟨t25, e26, H⟩ := bindO H
                      refine a_call (v := vB t25) (nk := []) (L := []) ?_ rfl (impl_IsName.ok e26) id (qd qn) trivial trivial trivial rfl
                      refine a_un (u := .bool (!t25)) ?_
                      refine a_move (v := vB _) ?_
                      by_cases hc27 : t25 = true
                      · rw [if_pos hc27] at H
                        refine a_move (v := vI _) ?_ (hg := Gs.yes rfl rfl rfl (congrArg Bool.not hc27))
                        refine a_int (u := .bool (decide (x65 > 0))) ?_ (hg := Gs.yes rfl rfl rfl (congrArg Bool.not hc27))
                        refine a_move (v := vB _) ?_ (hg := Gs.yes rfl rfl rfl (congrArg Bool.not hc27))
                        by_cases hc28 : x65 > 0
                        · rw [if_pos hc28] at H
                          refine a_faB (q := 3) ?_ D32_3 (hg := Gs.yes rfl rfl rfl (decide_eq_true hc28))
                          refine a_ldB (v := vR _ _) ?_ T30 (hg := Gs.yes rfl rfl rfl (decide_eq_true hc28))
                          refine a_move (v := vI _) ?_ (hg := Gs.yes rfl rfl rfl (decide_eq_true hc28))
                          refine a_int (u := .int .i64 (wrap64 (x65 - 1))) ?_ (hg := Gs.yes rfl rfl rfl (decide_eq_true hc28))
                          by_cases hc29 : 0 ≤ (wrap64 (x65 - 1))
                          · rw [if_pos hc29] at H
                            by_cases hc30 : (wrap64 (x65 - 1)) < (y210_3.length : Int)
                            · rw [if_pos hc30] at H
                              refine a_ixR (el := c91 (rd91 y210_3 (wrap64 (x65 - 1)))) ?_ ⟨hc29, hc30⟩ T96 Try.underlying30 (hel := R91 hc29 hc30) (hg := Gs.yes rfl rfl rfl (decide_eq_true hc28))
                              refine a_faR (cells' := [_, _]) ?_ D96_0 (hg := Gs.yes rfl rfl rfl (decide_eq_true hc28))
                              refine a_ldR (v := vS _) ?_ T9 (hg := Gs.yes rfl rfl rfl (decide_eq_true hc28))
                              refine a_faB (q := 0) ?_ D96_0 (hg := Gs.yes rfl rfl rfl (decide_eq_true hc28))
                              refine a_ldB (v := vS _) ?_ T9 (hg := Gs.yes rfl rfl rfl (decide_eq_true hc28))
                              refine a_bin (u := .bool (!(Op.bytesLess (((rd91 y210_3 (wrap64 (x65 - 1))).f0).toList) (((rd91 x63 x65).f0).toList)))) ?_ (hg := Gs.yes rfl rfl rfl (decide_eq_true hc28))
                              refine a_pick (b := true) (v := vB _) ?_ (decide_eq_true hc28) (hg := Gs.yes rfl rfl rfl (congrArg Bool.not hc27))
                              refine a_pick (b := false) (v := vB _) ?_ (congrArg Bool.not hc27)
                              refine RA.nil (fun _ => by kernel_rfl) ?_
                              exact Can.mk (fun κ => cond (Nat.beq κ 213) 210 (cond (Nat.beq κ 214) 211 (κ))) ⟨_, (by omega), _, _, _, _, _, _, _, _, _, _, H, rfl⟩ ⟨rfl, rfl, rfl, rfl, rfl, rfl, trivial⟩ ⟨rfl, rfl, trivial⟩ rfl
                            · rw [if_neg hc30] at H
                              cases H
                          · rw [if_neg hc29] at H
                            cases H
                        · rw [if_neg hc28] at H
                          refine RA.skip rfl rfl rfl rfl rfl (decide_eq_false hc28) (by decide) ?_
                          refine RA.skip rfl rfl rfl rfl rfl (decide_eq_false hc28) (by decide) ?_
                          refine RA.skip rfl rfl rfl rfl rfl (decide_eq_false hc28) (by decide) ?_
                          refine RA.skip rfl rfl rfl rfl rfl (decide_eq_false hc28) (by decide) ?_
                          refine RA.skip rfl rfl rfl rfl rfl (decide_eq_false hc28) (by decide) ?_
                          refine RA.skip rfl rfl rfl rfl rfl (decide_eq_false hc28) (by decide) ?_
                          refine RA.skip rfl rfl rfl rfl rfl (decide_eq_false hc28) (by decide) ?_
                          refine RA.skip rfl rfl rfl rfl rfl (decide_eq_false hc28) (by decide) ?_
                          refine RA.skip rfl rfl rfl rfl rfl (decide_eq_false hc28) (by decide) ?_
                          refine RA.skip rfl rfl rfl rfl rfl (decide_eq_false hc28) (by decide) ?_
                          refine a_pick (b := false) (v := vB _) ?_ (decide_eq_false hc28) (hg := Gs.yes rfl rfl rfl (congrArg Bool.not hc27))
                          refine a_pick (b := false) (v := vB _) ?_ (congrArg Bool.not hc27)
                          refine RA.nil (fun _ => by kernel_rfl) ?_
                          exact Can.mk (fun κ => cond (Nat.beq κ 213) 210 (cond (Nat.beq κ 214) 211 (κ))) ⟨_, (by omega), _, _, _, _, _, _, _, _, _, _, H, rfl⟩ ⟨rfl, rfl, rfl, rfl, rfl, rfl, trivial⟩ ⟨rfl, rfl, trivial⟩ rfl
                      · rw [if_neg hc27] at H
                        refine RA.skip rfl rfl rfl rfl rfl (congrArg Bool.not (Bool.eq_false_iff.2 hc27)) (by decide) ?_
                        refine RA.skip rfl rfl rfl rfl rfl (congrArg Bool.not (Bool.eq_false_iff.2 hc27)) (by decide) ?_
                        refine RA.skip rfl rfl rfl rfl rfl (congrArg Bool.not (Bool.eq_false_iff.2 hc27)) (by decide) ?_
                        refine RA.skip0 rfl rfl rfl rfl rfl ?_
                        refine RA.skip0 rfl rfl rfl rfl rfl ?_
                        refine RA.skip0 rfl rfl rfl rfl rfl ?_
                        refine RA.skip0 rfl rfl rfl rfl rfl ?_
                        refine RA.skip0 rfl rfl rfl rfl rfl ?_
                        refine RA.skip0 rfl rfl rfl rfl rfl ?_
                        refine RA.skip0 rfl rfl rfl rfl rfl ?_
                        refine RA.skip0 rfl rfl rfl rfl rfl ?_
                        refine RA.skip0 rfl rfl rfl rfl rfl ?_
                        refine RA.skip0 rfl rfl rfl rfl rfl ?_
                        refine RA.skip rfl rfl rfl rfl rfl (congrArg Bool.not (Bool.eq_false_iff.2 hc27)) (by decide) ?_
                        refine a_pick (b := true) (v := vB _) ?_ (congrArg Bool.not (Bool.eq_false_iff.2 hc27))
                        refine RA.nil (fun _ => by kernel_rfl) ?_
                        exact Can.mk (fun κ => cond (Nat.beq κ 213) 210 (cond (Nat.beq κ 214) 211 (κ))) ⟨_, (by omega), _, _, _, _, _, _, _, _, _, _, H, rfl⟩ ⟨rfl, rfl, rfl, rfl, rfl, rfl, trivial⟩ ⟨rfl, rfl, trivial⟩ rfl
                    · clear H
                      rintro _ ⟨k, hj2, y213_0, y213_1, y213_2, y213_3, y214_0, y214_1, x63, x64, x65, x89, H, rfl⟩
                      cases k with
                      | zero => cases H
                      | succ k =>
                        rw [impl_ValidDrawing.j2] at H
                        by_cases hc31 : x89 = true
                        · rw [if_pos hc31] at H
                          refine AG.yes rfl hc31 ?_
                          refine AG.seq ?_
                          refine AG.region HM ?_
                          refine a_move (v := vB _) ?_
                          refine RA.nil nofun ?_
                          refine AG.ret ?_
                          obtain rfl := Option.some.inj H
                          exact RetP.mk id ⟨rfl, trivial⟩ trivial rfl
                        · rw [if_neg hc31] at H
                          refine AG.no rfl (Bool.eq_false_iff.2 hc31) ?_
                          refine AG.skip ?_
                          refine AG.seq ?_
                          refine AG.region HM ?_
                          refine a_faB (q := 2) ?_ D32_2
                          refine a_ldB (v := vR _ _) ?_ T29
                          refine a_faB (q := 1) ?_ D96_1
                          refine a_ldB (v := vR _ _) ?_ T38
                          obtain ⟨⟨t32, t33⟩, e34, H⟩ := bindO H
                          refine a_call (v := .tup [.c (.own 215 t32.length), .c (.d (.v (.bool t33)))]) (nk := [(215, .row 61 (t32.map c60))]) (L := []) ?_ rfl (impl_ringPolygon.ok e34) (fun κ => cond (Nat.beq κ 215) 100 (κ)) (qd (qd qn)) trivial ⟨rfl, trivial⟩ ⟨rfl, trivial⟩ rfl
                          refine a_move (v := .tup [_, _]) ?_
                          refine a_ext (v := .c (.own _ _)) ?_
                          refine a_ext (v := vB _) ?_
                          refine a_move (v := .c (.own _ _)) ?_
                          refine a_move (v := vB _) ?_
                          refine RA.nil nofun ?_
                          refine AG.seq ?_
                          refine AG.region HM ?_
                          refine a_move (v := vB _) ?_
                          refine a_un (u := .bool (!t33)) ?_
                          refine a_move (v := vB _) ?_
                          by_cases hc35 : t33 = true
                          · rw [if_pos hc35] at H
                            refine a_move (v := .c (.own _ _)) ?_ (hg := Gs.yes rfl rfl rfl (congrArg Bool.not hc35))
                            obtain ⟨t36, e37, H⟩ := bindO H
                            refine a_call (v := vB t36) (nk := []) (L := [(215, _)]) ?_ rfl (impl_ValidPolygon.ok e37) id (qc rO qn) ⟨rfl, trivial⟩ trivial trivial rfl (hg := Gs.yes rfl rfl rfl (congrArg Bool.not hc35))
                            refine a_un (u := .bool (!t36)) ?_ (hg := Gs.yes rfl rfl rfl (congrArg Bool.not hc35))
                            refine a_pick (b := false) (v := vB _) ?_ (congrArg Bool.not hc35)
                            refine RA.nil nofun ?_
                            by_cases hc38 : t36 = true
                            · rw [if_pos hc38] at H
                              refine AG.no rfl (congrArg Bool.not hc38) ?_
                              refine AG.skip ?_
                              refine AG.region HM ?_
                              refine a_int (u := .int .i64 (wrap64 (x65 + 1))) ?_
                              refine a_move (v := vI _) ?_
                              refine RA.nil nofun ?_
                              exact AGr.canon (fun κ => cond (Nat.beq κ 210) 213 (κ)) (ih1 _ (by omega) _ ⟨by omega, _, _, _, _, _, _, _, H, rfl⟩) ⟨rfl, rfl, rfl, rfl, trivial⟩ ⟨rfl, trivial⟩ rfl
                            · rw [if_neg hc38] at H
                              refine AG.yes rfl (congrArg Bool.not (Bool.eq_false_iff.2 hc38)) ?_
                              refine AG.seq ?_
                              refine AG.region HM ?_
                              refine a_move (v := vB _) ?_
                              refine RA.nil nofun ?_
                              refine AG.ret ?_
                              obtain rfl := Option.some.inj H
                              exact RetP.mk id ⟨rfl, trivial⟩ trivial rfl
                          · rw [if_neg hc35] at H
                            refine RA.skip rfl rfl rfl rfl rfl (congrArg Bool.not (Bool.eq_false_iff.2 hc35)) (by decide) ?_
                            refine RA.skip rfl rfl rfl rfl rfl (congrArg Bool.not (Bool.eq_false_iff.2 hc35)) (by decide) ?_
                            refine RA.skip rfl rfl rfl rfl rfl (congrArg Bool.not (Bool.eq_false_iff.2 hc35)) (by decide) ?_
                            refine a_pick (b := true) (v := vB _) ?_ (congrArg Bool.not (Bool.eq_false_iff.2 hc35))
                            refine RA.nil nofun ?_
                            refine AG.yes rfl rfl ?_
                            refine AG.seq ?_
                            refine AG.region HM ?_
                            refine a_move (v := vB _) ?_
                            refine RA.nil nofun ?_
                            refine AG.ret ?_
                            obtain rfl := Option.some.inj H
                            exact RetP.mk id ⟨rfl, trivial⟩ trivial rfl
                  · rw [if_neg hc24] at H
                    cases H
                · rw [if_neg hc23] at H
                  cases H
              · rw [if_neg hc22] at H
                refine AG.no rfl (decide_eq_false hc22) ?_
                refine AG.exit ?_
                refine AG.seq ?_
                refine AG.region HM ?_
                refine a_move (v := vB _) ?_
                refine RA.nil nofun ?_
                refine AG.ret ?_
                obtain rfl := Option.some.inj H
                exact RetP.mk id ⟨rfl, trivial⟩ trivial rfl
/-! ### impl_ringEdges: function 78 -/
def impl_ringEdges.l0 : Nat → List Int → List S88 → List Int → Int → Int → Option ((List S88))
  | 0, _, _, _, _, _ => none
  | k + 1, x0, x3, x8, x9, x10 => if x10 < x9 then (if 0 ≤ x10 then (if x10 < (x8.length : Int) then (if (x0.length : Int) = 0 then (none) else (if 0 ≤ (Int.tmod (wrap64 (x10 + 1)) (x0.length : Int)) then (if (Int.tmod (wrap64 (x10 + 1)) (x0.length : Int)) < (x0.length : Int) then (if x3.length < 8796093022208 then (impl_ringEdges.l0 k x0 (x3 ++ [(⟨mn (rd2 x8 x10) (rd2 x0 (Int.tmod (wrap64 (x10 + 1)) (x0.length : Int))), mx (rd2 x8 x10) (rd2 x0 (Int.tmod (wrap64 (x10 + 1)) (x0.length : Int)))⟩ : S88)]) x8 x9 (wrap64 (x10 + 1))) else (none)) else (none)) else (none))) else (none)) else (none)) else (some x3)
def impl_ringEdges.f (k : Nat) (l0 : List Int) : Option ((List S88)) := impl_ringEdges.l0 k l0 ([] : List S88) l0 (l0.length : Int) 0
set_option maxRecDepth 100000 in
theorem impl_ringEdges.ok {k : Nat} {l0 : List Int} {r : List S88} (H : impl_ringEdges.f k l0 = some r) : OkF Try.prog 78 [vR 2 (l0.map c2)] [] (.c (.own 100 r.length)) [(100, .row 88 (r.map c88))] := by
  unfold impl_ringEdges.f at H
  refine OkF.of (N := 35) (rs := [2]) (avs := [.c (.own 100 r.length)]) Try.func78 rfl rfl (fun _ _ => results_tmp rfl _ _ _) (by decide) rfl rfl rfl rfl (fun w0 S => ?_)
  refine AG.seq ?_
  refine AG.region HM ?_
  refine a_nilO (e := 88) 200 ?_ T88
  refine RA.nil nofun ?_
  refine AG.seq ?_
  refine AG.region HM ?_
  refine a_lit (cs := []) (D := []) (css := ([] : List S88).map c88) 201 ?_ N87 T88 (hcss := by rfl)
  refine a_move (v := .c (.own _ _)) ?_
  refine RA.nil nofun ?_
  refine AG.seq ?_
  refine AG.seq ?_
  refine AG.region HM ?_
  refine a_move (v := vR _ _) ?_
  refine a_lenR ?_ Try.underlying38
  refine a_move (v := vI _) ?_
  refine RA.nil nofun ?_
  refine AG.block ?_
  refine AG.loop ?_
  obtain ⟨K0, hK0, gK0⟩ : ∃ K, k ≤ K ∧ K ≤ k := ⟨k, Nat.le_refl k, Nat.le_refl k⟩
  refine AGr.canon (fun κ => cond (Nat.beq κ 202) 201 (κ)) (AGr.loopI (n := k) (fun k s => k ≤ K0 ∧ ∃ (x0 : List Int) (x3 : List S88) (x8 : List Int) (x9 : Int) (x10 : Int), impl_ringEdges.l0 k x0 x3 x8 x9 x10 = some r ∧ s = St.of [(0, vR 2 (x0.map c2)), (3, .c (.own 202 x3.length)), (8, vR 2 (x8.map c2)), (9, vI x9), (10, vI x10)] [(202, .row 88 (x3.map c88))]) ⟨hK0, _, _, _, _, _, H, rfl⟩ ?_ ?_) ⟨rfl, (ownE rfl (by simp)), rfl, rfl, rfl, trivial⟩ ⟨rfl, trivial⟩ rfl
  · rintro _ ⟨_, _, _, _, _, _, H, _⟩
    cases H
  · clear H hK0
    rintro k ih0 _ ⟨hK0, x0, x3, x8, x9, x10, H, rfl⟩
    unfold impl_ringEdges.l0 at H
    refine AG.seq ?_
    refine AG.region HM ?_
    refine a_int (u := .bool (decide (x10 < x9))) ?_
    refine RA.nil nofun ?_
    refine AG.seq ?_
    by_cases hc2 : x10 < x9
    · rw [if_pos hc2] at H
      refine AG.yes rfl (decide_eq_true hc2) ?_
      refine AG.skip ?_
      refine AG.seq ?_
      refine AG.block ?_
      refine AG.seq ?_
      refine AG.region HM ?_
      refine a_move (v := vI _) ?_
      by_cases hc3 : 0 ≤ x10
      · rw [if_pos hc3] at H
        by_cases hc4 : x10 < (x8.length : Int)
        · rw [if_pos hc4] at H
          refine a_ixR (el := c2 (rd2 x8 x10)) ?_ ⟨hc3, hc4⟩ T2 Try.underlying38 (hel := R2 hc3 hc4)
          refine a_ldR (v := vI _) ?_ T2
          refine a_move (v := vI _) ?_
          refine a_move (v := vI _) ?_
          refine RA.nil nofun ?_
          refine AG.seq ?_
          refine AG.region HM ?_
          refine a_move (v := vR _ _) ?_
          refine a_move (v := vI _) ?_
          refine a_int (u := .int .i64 (wrap64 (x10 + 1))) ?_
          refine a_move (v := vR _ _) ?_
          refine a_lenR ?_ Try.underlying38
          by_cases hc5 : (x0.length : Int) = 0
          · rw [if_pos hc5] at H
            cases H
          · rw [if_neg hc5] at H
            refine a_rem (r := Int.tmod (wrap64 (x10 + 1)) (x0.length : Int)) ?_ hc5
            by_cases hc6 : 0 ≤ (Int.tmod (wrap64 (x10 + 1)) (x0.length : Int))
            · rw [if_pos hc6] at H
              by_cases hc7 : (Int.tmod (wrap64 (x10 + 1)) (x0.length : Int)) < (x0.length : Int)
              · rw [if_pos hc7] at H
                refine a_ixR (el := c2 (rd2 x0 (Int.tmod (wrap64 (x10 + 1)) (x0.length : Int)))) ?_ ⟨hc6, hc7⟩ T2 Try.underlying38 (hel := R2 hc6 hc7)
                refine a_ldR (v := vI _) ?_ T2
                refine a_move (v := vI _) ?_
                refine RA.nil nofun ?_
                refine AG.region HM ?_
                refine a_move (v := .c (.own _ _)) ?_
                refine a_move (v := vI _) ?_
                refine a_move (v := vI _) ?_
                refine a_minmax (mx := false) (r := mn (rd2 x8 x10) (rd2 x0 (Int.tmod (wrap64 (x10 + 1)) (x0.length : Int)))) ?_
                refine a_move (v := vI _) ?_
                refine a_move (v := vI _) ?_
                refine a_minmax (mx := true) (r := mx (rd2 x8 x10) (rd2 x0 (Int.tmod (wrap64 (x10 + 1)) (x0.length : Int)))) ?_
                refine a_buildA (cs := [_, _]) ?_ T88 Try.underlying88 T2 rfl
                refine a_lit (cs := [_, _]) (D := []) (css := ([(⟨mn (rd2 x8 x10) (rd2 x0 (Int.tmod (wrap64 (x10 + 1)) (x0.length : Int))), mx (rd2 x8 x10) (rd2 x0 (Int.tmod (wrap64 (x10 + 1)) (x0.length : Int)))⟩ : S88)]).map c88) 203 ?_ N87 T88
                by_cases hc8 : x3.length < 8796093022208
                · rw [if_pos hc8] at H
                  refine a_appO (css' := (x3 ++ [(⟨mn (rd2 x8 x10) (rd2 x0 (Int.tmod (wrap64 (x10 + 1)) (x0.length : Int))), mx (rd2 x8 x10) (rd2 x0 (Int.tmod (wrap64 (x10 + 1)) (x0.length : Int)))⟩ : S88)]).map c88) (n' := (x3 ++ [(⟨mn (rd2 x8 x10) (rd2 x0 (Int.tmod (wrap64 (x10 + 1)) (x0.length : Int))), mx (rd2 x8 x10) (rd2 x0 (Int.tmod (wrap64 (x10 + 1)) (x0.length : Int)))⟩ : S88)]).length) ?_ T88 (by simp [maxLen]; omega) (by simp; omega) Try.underlying87 (hc := by exact List.map_append.symm) (hn := by exact List.length_map _)
                  refine a_move (v := .c (.own _ _)) ?_
                  refine RA.nil nofun ?_
                  refine AG.region HM ?_
                  refine a_int (u := .int .i64 (wrap64 (x10 + 1))) ?_
                  refine a_move (v := vI _) ?_
                  refine RA.nil nofun ?_
                  exact AGr.canon id (ih0 _ (by omega) _ ⟨by omega, _, _, _, _, _, H, rfl⟩) ⟨rfl, rfl, rfl, rfl, rfl, trivial⟩ ⟨rfl, trivial⟩ rfl
                · rw [if_neg hc8] at H
                  cases H
              · rw [if_neg hc7] at H
                cases H
            · rw [if_neg hc6] at H
              cases H
        · rw [if_neg hc4] at H
          cases H
      · rw [if_neg hc3] at H
        cases H
    · rw [if_neg hc2] at H
      refine AG.no rfl (decide_eq_false hc2) ?_
      refine AG.exit ?_
      refine AG.seq ?_
      refine AG.region HM ?_
      refine a_move (v := .c (.own _ _)) ?_
      refine a_move (v := .c (.own _ _)) ?_
      refine RA.nil nofun ?_
      refine AG.ret ?_
      obtain rfl := Option.some.inj H
      exact RetP.mk (fun κ => cond (Nat.beq κ 100) 202 (κ)) ⟨rfl, trivial⟩ ⟨rfl, trivial⟩ rfl
/-! ### slices_SortFunc_pairs: function 79 -/
def slices_SortFunc_pairs.f (l0 : List S88) : Option (List S88) := if l0.length < 4611686018427387904 then some ((sortP (l0.map fun x => (x.f0, x.f1))).map fun p => (⟨p.1, p.2⟩ : S88)) else none
theorem slices_SortFunc_pairs.ok {l0 : List S88} {r : List S88} (H : slices_SortFunc_pairs.f l0 = some r) : OkF Try.prog 79 [.c (.own 0 l0.length), .c (.d (.fn 80 []))] [(0, .row 88 (l0.map c88))] (.tup []) [(0, .row 88 (r.map c88))] := by
  unfold slices_SortFunc_pairs.f at H
  by_cases h : l0.length < 4611686018427387904
  · rw [if_pos h] at H
    obtain rfl := Option.some.inj H
    have := sortPairs (l0.map fun x => (x.f0, x.f1)) (by rw [List.length_map]; exact h)
    rw [List.length_map, List.map_map] at this
    rw [List.map_map]
    exact this
  · rw [if_neg h] at H
    cases H
/-! ### impl_EdgesOf: function 44 -/
mutual
def impl_EdgesOf.l0 : Nat → List S88 → List S91 → Int → Int → Option ((List (List Int)) × Int)
  | 0, _, _, _, _ => none
  | k + 1, x4, x15, x16, x17 => if x17 < x16 then (if 0 ≤ x17 then (if x17 < (x15.length : Int) then ((impl_ringEdges.f k ((rd91 x15 x17).f1)).bind fun t8 => (if x4.length + t8.length < 8796093022208 then (impl_EdgesOf.l0 k (x4 ++ t8) x15 x16 (wrap64 (x17 + 1))) else (none))) else (none)) else (none)) else ((slices_SortFunc_pairs.f x4).bind fun t12 => (impl_EdgesOf.l1 k t12 ([] : List (List Int)) (t12.length : Int) 0))
def impl_EdgesOf.l1 : Nat → List S88 → List (List Int) → Int → Int → Option ((List (List Int)) × Int)
  | 0, _, _, _, _ => none
  | k + 1, x4, x7, x31, x32 => if x32 < x31 then (if 0 ≤ x32 then (if x32 < (x4.length : Int) then (if x32 = 0 then (if x7.length < 5864062014805 then (impl_EdgesOf.l1 k x4 (x7 ++ [[(rd88 x4 x32).f0, (rd88 x4 x32).f1]]) x31 (wrap64 (x32 + 1))) else (none)) else (if 0 ≤ (wrap64 (x32 - 1)) then (if (wrap64 (x32 - 1)) < (x4.length : Int) then (if (((rd88 x4 x32).f0) == ((rd88 x4 (wrap64 (x32 - 1))).f0) && (((rd88 x4 x32).f1) == ((rd88 x4 (wrap64 (x32 - 1))).f1))) = true then (impl_EdgesOf.l1 k x4 x7 x31 (wrap64 (x32 + 1))) else (if x7.length < 5864062014805 then (impl_EdgesOf.l1 k x4 (x7 ++ [[(rd88 x4 x32).f0, (rd88 x4 x32).f1]]) x31 (wrap64 (x32 + 1))) else (none))) else (none)) else (none))) else (none)) else (none)) else (some (x7, 0))
end
def impl_EdgesOf.f (k : Nat) (a0_0 : Int) (a0_1 : Int) (l0_2 : List S60) (l0_3 : List S91) : Option ((List (List Int)) × Int) := (impl_ValidDrawing.f k a0_0 a0_1 l0_2 l0_3).bind fun t1 => (if t1 = true then (impl_EdgesOf.l0 k ([] : List S88) l0_3 (l0_3.length : Int) 0) else (some (([] : List (List Int)), 1)))
set_option maxRecDepth 100000 in
theorem impl_EdgesOf.ok {k : Nat} {a0_0 : Int} {a0_1 : Int} {l0_2 : List S60} {l0_3 : List S91} {r0 : List (List Int)} {r1 : Int} (H : impl_EdgesOf.f k a0_0 a0_1 l0_2 l0_3 = some (r0, r1)) : OkF Try.prog 44 [.agg [.d (.v (.int .i64 a0_0)), .d (.v (.int .i64 a0_1)), .d (.row 61 (l0_2.map c60)), .d (.row 96 (l0_3.map c91))]] [] (.tup [.c (.own 100 r0.length), .c (.d (.v (.int .i64 r1)))]) [(100, .row 38 (r0.map c38))] := by
  unfold impl_EdgesOf.f at H
  refine OkF.of (N := 58) (rs := [2, 3]) (avs := [.c (.own 100 r0.length), .c (.d (.v (.int .i64 r1)))]) Try.func44 rfl rfl (fun _ _ => results_tmp2 rfl _ _ _) (by decide) rfl rfl rfl rfl (fun w0 S => ?_)
  refine AG.seq ?_
  refine AG.region HM ?_
  refine a_box 200 ?_
  refine a_nilO (e := 38) 201 ?_ T38
  refine a_move (v := vI _) ?_
  refine RA.nil nofun ?_
  refine AG.seq ?_
  refine AG.seq ?_
  refine AG.region HM ?_
  refine a_ldB (v := .agg [_, _, _, _]) ?_ T32
  obtain ⟨t1, e2, H⟩ := bindO H
  refine a_call (v := vB t1) (nk := []) (L := []) ?_ rfl (impl_ValidDrawing.ok e2) id (qg qn) trivial trivial trivial rfl
  refine a_un (u := .bool (!t1)) ?_
  refine RA.nil nofun ?_
  by_cases hc3 : t1 = true
  · rw [if_pos hc3] at H
    refine AG.no rfl (congrArg Bool.not hc3) ?_
    refine AG.skip ?_
    refine AG.seq ?_
    refine AG.region HM ?_
    refine a_lit (cs := []) (D := []) (css := ([] : List S88).map c88) 204 ?_ N87 T88 (hcss := by rfl)
    refine a_move (v := .c (.own _ _)) ?_
    refine RA.nil nofun ?_
    refine AG.seq ?_
    refine AG.seq ?_
    refine AG.region HM ?_
    refine a_faB (q := 3) ?_ D32_3
    refine a_ldB (v := vR _ _) ?_ T30
    refine a_lenR ?_ Try.underlying30
    refine a_move (v := vI _) ?_
    refine RA.nil nofun ?_
    refine AG.block ?_
    refine AG.loop ?_
    obtain ⟨K0, hK0, gK0⟩ : ∃ K, k ≤ K ∧ K ≤ k := ⟨k, Nat.le_refl k, Nat.le_refl k⟩
    refine AGr.canon (fun κ => cond (Nat.beq κ 205) 204 (κ)) (AGr.loopI (n := k) (fun k s => k ≤ K0 ∧ ∃ (x4 : List S88) (x15 : List S91) (x16 : Int) (x17 : Int), impl_EdgesOf.l0 k x4 x15 x16 x17 = some (r0, r1) ∧ s = St.of [(4, .c (.own 205 x4.length)), (15, vR 96 (x15.map c91)), (16, vI x16), (17, vI x17)] [(205, .row 88 (x4.map c88))]) ⟨hK0, _, _, _, _, H, rfl⟩ ?_ ?_) ⟨(ownE rfl (by simp)), rfl, rfl, rfl, trivial⟩ ⟨rfl, trivial⟩ rfl
    · rintro _ ⟨_, _, _, _, _, H, _⟩
      cases H
    · clear H hK0
      rintro k ih0 _ ⟨hK0, x4, x15, x16, x17, H, rfl⟩
      unfold impl_EdgesOf.l0 at H
      refine AG.seq ?_
      refine AG.region HM ?_
      refine a_int (u := .bool (decide (x17 < x16))) ?_
      refine RA.nil nofun ?_
      refine AG.seq ?_
      by_cases hc5 : x17 < x16
      · rw [if_pos hc5] at H
        refine AG.yes rfl (decide_eq_true hc5) ?_
        refine AG.skip ?_
        refine AG.seq ?_
        refine AG.block ?_
        refine AG.seq ?_
        refine AG.region HM ?_
        by_cases hc6 : 0 ≤ x17
        · rw [if_pos hc6] at H
          by_cases hc7 : x17 < (x15.length : Int)
          · rw [if_pos hc7] at H
            refine a_ixR (el := c91 (rd91 x15 x17)) ?_ ⟨hc6, hc7⟩ T96 Try.underlying30 (hel := R91 hc6 hc7)
            refine a_ldR (v := .agg [_, _]) ?_ T96
            refine a_alloc (cs := [_, _]) 206 ?_ T96
            refine a_stB (cs' := [_, _]) ?_ T96
            refine RA.nil nofun ?_
            refine AG.region HM ?_
            refine a_move (v := .c (.own _ _)) ?_
            refine a_faB (q := 1) ?_ D96_1
            refine a_ldB (v := vR _ _) ?_ T38
            obtain ⟨t8, e9, H⟩ := bindO H
            refine a_call (v := .c (.own 207 t8.length)) (nk := [(207, .row 88 (t8.map c88))]) (L := []) ?_ rfl (impl_ringEdges.ok e9) (fun κ => cond (Nat.beq κ 207) 100 (κ)) (qd qn) trivial ⟨rfl, trivial⟩ ⟨rfl, trivial⟩ rfl
            by_cases hc10 : x4.length + t8.length < 8796093022208
            · rw [if_pos hc10] at H
              refine a_appO (css' := (x4 ++ t8).map c88) (n' := (x4 ++ t8).length) ?_ T88 (by simp [maxLen]; omega) (by simp; omega) Try.underlying87 (hc := by exact List.map_append.symm) (hn := by exact List.length_map _)
              refine a_move (v := .c (.own _ _)) ?_
              refine RA.nil nofun ?_
              refine AG.region HM ?_
              refine a_int (u := .int .i64 (wrap64 (x17 + 1))) ?_
              refine a_move (v := vI _) ?_
              refine RA.nil nofun ?_
              exact AGr.canon id (ih0 _ (by omega) _ ⟨by omega, _, _, _, _, H, rfl⟩) ⟨rfl, rfl, rfl, rfl, trivial⟩ ⟨rfl, trivial⟩ rfl
            · rw [if_neg hc10] at H
              cases H
          · rw [if_neg hc7] at H
            cases H
        · rw [if_neg hc6] at H
          cases H
      · rw [if_neg hc5] at H
        refine AG.no rfl (decide_eq_false hc5) ?_
        refine AG.exit ?_
        refine AG.seq ?_
        refine AG.region HM ?_
        refine a_move (v := .c (.own _ _)) ?_
        obtain ⟨t12, e13, H⟩ := bindO H
        refine a_callM (v := .tup []) (nk := []) (L := []) (Mk := [(205, _)]) (ck := [(205, .row 88 (t12.map c88))]) ?_ rfl (slices_SortFunc_pairs.ok e13) (fun κ => cond (Nat.beq κ 0) 205 (κ)) (fun κ => cond (Nat.beq κ 205) 0 (κ)) (mcO (mcD m0)) trivial ⟨rfl, trivial⟩ trivial ⟨rfl, trivial⟩ trivial ⟨rfl, trivial⟩ rfl rfl rfl
        refine RA.nil nofun ?_
        refine AG.relen 205 t12.length ?_
        refine AG.seq ?_
        refine AG.region HM ?_
        refine a_lit (cs := []) (D := []) (css := ([] : List (List Int)).map c38) 209 ?_ N56 T38 (hcss := by rfl)
        refine a_move (v := .c (.own _ _)) ?_
        refine RA.nil nofun ?_
        refine AG.seq ?_
        refine AG.seq ?_
        refine AG.region HM ?_
        refine a_move (v := .c (.own _ _)) ?_
        refine a_lenO ?_ Try.underlying87
        refine a_move (v := vI _) ?_
        refine RA.nil nofun ?_
        refine AG.block ?_
        refine AG.loop ?_
        obtain ⟨K1, hK1, gK1⟩ : ∃ K, k ≤ K ∧ K ≤ k := ⟨k, Nat.le_refl k, Nat.le_refl k⟩
        refine AGr.canon (fun κ => cond (Nat.beq κ 210) 205 (cond (Nat.beq κ 211) 209 (κ))) (AGr.loopI (n := k) (fun k s => k ≤ K1 ∧ ∃ (x4 : List S88) (x7 : List (List Int)) (x31 : Int) (x32 : Int), impl_EdgesOf.l1 k x4 x7 x31 x32 = some (r0, r1) ∧ s = St.of [(4, .c (.own 210 x4.length)), (7, .c (.own 211 x7.length)), (30, .c (.own 210 x4.length)), (31, vI x31), (32, vI x32)] [(210, .row 88 (x4.map c88)), (211, .row 38 (x7.map c38))]) ⟨hK1, _, _, _, _, H, rfl⟩ ?_ ?_) ⟨rfl, (ownE rfl (by simp)), rfl, rfl, rfl, trivial⟩ ⟨rfl, rfl, trivial⟩ rfl
        · rintro _ ⟨_, _, _, _, _, H, _⟩
          cases H
        · clear H hK1
          rintro k ih1 _ ⟨hK1, x4, x7, x31, x32, H, rfl⟩
          unfold impl_EdgesOf.l1 at H
          refine AG.seq ?_
          refine AG.region HM ?_
          refine a_int (u := .bool (decide (x32 < x31))) ?_
          refine RA.nil nofun ?_
          refine AG.seq ?_
          by_cases hc15 : x32 < x31
          · rw [if_pos hc15] at H
            refine AG.yes rfl (decide_eq_true hc15) ?_
            refine AG.skip ?_
            refine AG.seq ?_
            refine AG.block ?_
            refine AG.seq ?_
            refine AG.region HM ?_
            refine a_move (v := vI _) ?_
            by_cases hc16 : 0 ≤ x32
            · rw [if_pos hc16] at H
              by_cases hc17 : x32 < (x4.length : Int)
              · rw [if_pos hc17] at H
                refine a_ixO ?_ ⟨hc16, hc17⟩ T88 Try.underlying87
                refine a_ldE (v := .agg [_, _]) ?_ (G88 hc16 hc17) T88
                refine a_alloc (cs := [_, _]) 212 ?_ T88
                refine a_move (v := vI _) ?_
                refine a_stB (cs' := [_, _]) ?_ T88
                refine RA.nil nofun ?_
                refine AG.seq ?_
                refine AG.region HM ?_
                refine a_move (v := vI _) ?_
                refine a_int (u := .bool ((x32 == 0))) ?_
                refine a_move (v := vB _) ?_
                by_cases hc18 : x32 = 0
                · rw [if_pos hc18] at H
                  refine RA.skip rfl rfl rfl rfl rfl (beq_iff_eq.2 hc18) (by decide) ?_
                  refine RA.skip rfl rfl rfl rfl rfl (beq_iff_eq.2 hc18) (by decide) ?_
                  refine RA.skip rfl rfl rfl rfl rfl (beq_iff_eq.2 hc18) (by decide) ?_
                  refine RA.skip rfl rfl rfl rfl rfl (beq_iff_eq.2 hc18) (by decide) ?_
                  refine RA.skip rfl rfl rfl rfl rfl (beq_iff_eq.2 hc18) (by decide) ?_
                  refine RA.skip rfl rfl rfl rfl rfl (beq_iff_eq.2 hc18) (by decide) ?_
                  refine RA.skip rfl rfl rfl rfl rfl (beq_iff_eq.2 hc18) (by decide) ?_
                  refine a_pick (b := true) (v := vB _) ?_ (beq_iff_eq.2 hc18)
                  refine RA.nil (fun _ => by kernel_rfl) ?_
                  refine AG.yes rfl rfl ?_
                  refine AG.region HM ?_
                  refine a_move (v := .c (.own _ _)) ?_
                  refine a_ixaB (q := 0) (iv := 0) ?_ (by decide) T2 Try.underlying88
                  refine a_ldB (v := vI _) ?_ T2
                  refine a_ixaB (q := 1) (iv := 1) ?_ (by decide) T2 Try.underlying88
                  refine a_ldB (v := vI _) ?_ T2
                  refine a_lit (cs := [_, _]) (D := []) (css := ([(rd88 x4 x32).f0, (rd88 x4 x32).f1]).map c2) 213 ?_ N38 T2
                  refine a_lit (cs := [_]) (D := [213]) (css := ([[(rd88 x4 x32).f0, (rd88 x4 x32).f1]]).map c38) 214 ?_ N56 T38
                  by_cases hc19 : x7.length < 5864062014805
                  · rw [if_pos hc19] at H
                    refine a_appO (css' := (x7 ++ [[(rd88 x4 x32).f0, (rd88 x4 x32).f1]]).map c38) (n' := (x7 ++ [[(rd88 x4 x32).f0, (rd88 x4 x32).f1]]).length) ?_ T38 (by simp [maxLen]; omega) (by simp; omega) Try.underlying56 (hc := by exact List.map_append.symm) (hn := by exact List.length_map _)
                    refine a_move (v := .c (.own _ _)) ?_
                    refine RA.nil nofun ?_
                    refine AG.region HM ?_
                    refine a_int (u := .int .i64 (wrap64 (x32 + 1))) ?_
                    refine a_move (v := vI _) ?_
                    refine RA.nil nofun ?_
                    exact AGr.canon id (ih1 _ (by omega) _ ⟨by omega, _, _, _, _, H, rfl⟩) ⟨rfl, rfl, rfl, rfl, rfl, trivial⟩ ⟨rfl, rfl, trivial⟩ rfl
                  · rw [if_neg hc19] at H
                    cases H
                · rw [if_neg hc18] at H
                  refine a_ldB (v := .agg [_, _]) ?_ T88 (hg := Gs.yes rfl rfl rfl (beq_eq_false_iff_ne.2 hc18))
                  refine a_move (v := .c (.own _ _)) ?_ (hg := Gs.yes rfl rfl rfl (beq_eq_false_iff_ne.2 hc18))
                  refine a_move (v := vI _) ?_ (hg := Gs.yes rfl rfl rfl (beq_eq_false_iff_ne.2 hc18))
                  refine a_int (u := .int .i64 (wrap64 (x32 - 1))) ?_ (hg := Gs.yes rfl rfl rfl (beq_eq_false_iff_ne.2 hc18))
                  by_cases hc21 : 0 ≤ (wrap64 (x32 - 1))
                  · rw [if_pos hc21] at H
                    by_cases hc22 : (wrap64 (x32 - 1)) < (x4.length : Int)
                    · rw [if_pos hc22] at H
                      refine a_ixO ?_ ⟨hc21, hc22⟩ T88 Try.underlying87 (hg := Gs.yes rfl rfl rfl (beq_eq_false_iff_ne.2 hc18))
                      refine a_ldE (v := .agg [_, _]) ?_ (G88 hc21 hc22) T88 (hg := Gs.yes rfl rfl rfl (beq_eq_false_iff_ne.2 hc18))
                      refine a_eqS (b := (!(((rd88 x4 x32).f0) == ((rd88 x4 (wrap64 (x32 - 1))).f0) && (((rd88 x4 x32).f1) == ((rd88 x4 (wrap64 (x32 - 1))).f1))))) ?_ (.inr ⟨rfl, rfl⟩) (Q88 ((rd88 x4 x32).f0) ((rd88 x4 (wrap64 (x32 - 1))).f0) ((rd88 x4 x32).f1) ((rd88 x4 (wrap64 (x32 - 1))).f1)).2 (hg := Gs.yes rfl rfl rfl (beq_eq_false_iff_ne.2 hc18))
                      refine a_pick (b := false) (v := vB _) ?_ (beq_eq_false_iff_ne.2 hc18)
                      refine RA.nil (fun _ => by kernel_rfl) ?_
                      by_cases hc23 : (((rd88 x4 x32).f0) == ((rd88 x4 (wrap64 (x32 - 1))).f0) && (((rd88 x4 x32).f1) == ((rd88 x4 (wrap64 (x32 - 1))).f1))) = true
                      · rw [if_pos hc23] at H
                        refine AG.no rfl (by rw [show (((rd88 x4 x32).f0) == ((rd88 x4 (wrap64 (x32 - 1))).f0) && (((rd88 x4 x32).f1) == ((rd88 x4 (wrap64 (x32 - 1))).f1))) = true from hc23]; rfl) ?_
                        refine AG.skip ?_
                        refine AG.region HM ?_
                        refine a_int (u := .int .i64 (wrap64 (x32 + 1))) ?_
                        refine a_move (v := vI _) ?_
                        refine RA.nil nofun ?_
                        exact AGr.canon id (ih1 _ (by omega) _ ⟨by omega, _, _, _, _, H, rfl⟩) ⟨rfl, rfl, rfl, rfl, rfl, trivial⟩ ⟨rfl, rfl, trivial⟩ rfl
                      · rw [if_neg hc23] at H
                        refine AG.yes rfl (by rw [Bool.eq_false_iff.2 hc23]; rfl) ?_
                        refine AG.region HM ?_
                        refine a_move (v := .c (.own _ _)) ?_
                        refine a_ixaB (q := 0) (iv := 0) ?_ (by decide) T2 Try.underlying88
                        refine a_ldB (v := vI _) ?_ T2
                        refine a_ixaB (q := 1) (iv := 1) ?_ (by decide) T2 Try.underlying88
                        refine a_ldB (v := vI _) ?_ T2
                        refine a_lit (cs := [_, _]) (D := []) (css := ([(rd88 x4 x32).f0, (rd88 x4 x32).f1]).map c2) 213 ?_ N38 T2
                        refine a_lit (cs := [_]) (D := [213]) (css := ([[(rd88 x4 x32).f0, (rd88 x4 x32).f1]]).map c38) 214 ?_ N56 T38
                        by_cases hc24 : x7.length < 5864062014805
                        · rw [if_pos hc24] at H
                          refine a_appO (css' := (x7 ++ [[(rd88 x4 x32).f0, (rd88 x4 x32).f1]]).map c38) (n' := (x7 ++ [[(rd88 x4 x32).f0, (rd88 x4 x32).f1]]).length) ?_ T38 (by simp [maxLen]; omega) (by simp; omega) Try.underlying56 (hc := by exact List.map_append.symm) (hn := by exact List.length_map _)
                          refine a_move (v := .c (.own _ _)) ?_
                          refine RA.nil nofun ?_
                          refine AG.region HM ?_
                          refine a_int (u := .int .i64 (wrap64 (x32 + 1))) ?_
                          refine a_move (v := vI _) ?_
                          refine RA.nil nofun ?_
                          exact AGr.canon id (ih1 _ (by omega) _ ⟨by omega, _, _, _, _, H, rfl⟩) ⟨rfl, rfl, rfl, rfl, rfl, trivial⟩ ⟨rfl, rfl, trivial⟩ rfl
                        · rw [if_neg hc24] at H
                          cases H
                    · rw [if_neg hc22] at H
                      cases H
                  · rw [if_neg hc21] at H
                    cases H
              · rw [if_neg hc17] at H
                cases H
            · rw [if_neg hc16] at H
              cases H
          · rw [if_neg hc15] at H
            refine AG.no rfl (decide_eq_false hc15) ?_
            refine AG.exit ?_
            refine AG.seq ?_
            refine AG.region HM ?_
            refine a_move (v := .c (.own _ _)) ?_
            refine a_move (v := .c (.own _ _)) ?_
            refine a_move (v := vI _) ?_
            refine RA.nil nofun ?_
            refine AG.ret ?_
            simp only [Option.some.injEq, Prod.mk.injEq] at H
            obtain ⟨rfl, rfl⟩ := H
            exact RetP.mk (fun κ => cond (Nat.beq κ 100) 211 (κ)) ⟨rfl, rfl, trivial⟩ ⟨rfl, trivial⟩ rfl
  · rw [if_neg hc3] at H
    refine AG.yes rfl (congrArg Bool.not (Bool.eq_false_iff.2 hc3)) ?_
    refine AG.seq ?_
    refine AG.region HM ?_
    refine a_nilO (e := 38) 203 ?_ T38
    refine a_move (v := vI _) ?_
    refine RA.nil nofun ?_
    refine AG.ret ?_
    simp only [Option.some.injEq, Prod.mk.injEq] at H
    obtain ⟨rfl, rfl⟩ := H
    exact RetP.mk (fun κ => cond (Nat.beq κ 100) 203 (κ)) ⟨(ownE rfl (by simp)), rfl, trivial⟩ ⟨rfl, trivial⟩ rfl
/-! ### impl_RootOf: function 82 -/
def impl_RootOf.l0 : Nat → Int → Int → Int → Option (Int)
  | 0, _, _, _ => none
  | k + 1, x0, x3, x4 => if x3 < x4 then (if (wrap64 (Int.tdiv (wrap64 ((wrap64 (x3 + x4)) + 1)) 2)) = 0 then (none) else (if (wrap64 (Int.tdiv (wrap64 ((wrap64 (x3 + x4)) + 1)) 2)) ≤ (wrap64 (Int.tdiv x0 (wrap64 (Int.tdiv (wrap64 ((wrap64 (x3 + x4)) + 1)) 2)))) then (impl_RootOf.l0 k x0 (wrap64 (Int.tdiv (wrap64 ((wrap64 (x3 + x4)) + 1)) 2)) x4) else (impl_RootOf.l0 k x0 x3 (wrap64 ((wrap64 (Int.tdiv (wrap64 ((wrap64 (x3 + x4)) + 1)) 2)) - 1))))) else (some x3)
def impl_RootOf.f (k : Nat) (a0 : Int) : Option (Int) := if a0 < 1 then (some 0) else (impl_RootOf.l0 k a0 1 3037000499)
set_option maxRecDepth 100000 in
theorem impl_RootOf.ok {k : Nat} {a0 : Int} {r : Int} (H : impl_RootOf.f k a0 = some r) : OkF Try.prog 82 [vI a0] [] (.c (.d (.v (.int .i64 r)))) [] := by
  unfold impl_RootOf.f at H
  refine OkF.of (N := 25) (rs := [2]) (avs := [.c (.d (.v (.int .i64 r)))]) Try.func82 rfl rfl (fun _ _ => results_tmp rfl _ _ _) (by decide) rfl rfl rfl rfl (fun w0 S => ?_)
  refine AG.seq ?_
  refine AG.region HM ?_
  refine a_move (v := vI _) ?_
  refine RA.nil nofun ?_
  refine AG.seq ?_
  refine AG.seq ?_
  refine AG.region HM ?_
  refine a_move (v := vI _) ?_
  refine a_int (u := .bool (decide (a0 < 1))) ?_
  refine RA.nil nofun ?_
  by_cases hc1 : a0 < 1
  · rw [if_pos hc1] at H
    refine AG.yes rfl (decide_eq_true hc1) ?_
    refine AG.seq ?_
    refine AG.region HM ?_
    refine a_move (v := vI _) ?_
    refine RA.nil nofun ?_
    refine AG.ret ?_
    obtain rfl := Option.some.inj H
    exact RetP.mk id ⟨rfl, trivial⟩ trivial rfl
  · rw [if_neg hc1] at H
    refine AG.no rfl (decide_eq_false hc1) ?_
    refine AG.skip ?_
    refine AG.seq ?_
    refine AG.region HM ?_
    refine a_move (v := vI _) ?_
    refine a_move (v := vI _) ?_
    refine RA.nil nofun ?_
    refine AG.seq ?_
    refine AG.block ?_
    refine AG.loop ?_
    obtain ⟨K0, hK0, gK0⟩ : ∃ K, k ≤ K ∧ K ≤ k := ⟨k, Nat.le_refl k, Nat.le_refl k⟩
    refine AGr.canon id (AGr.loopI (n := k) (fun k s => k ≤ K0 ∧ ∃ (x0 : Int) (x3 : Int) (x4 : Int), impl_RootOf.l0 k x0 x3 x4 = some r ∧ s = St.of [(0, vI x0), (3, vI x3), (4, vI x4)] []) ⟨hK0, _, _, _, H, rfl⟩ ?_ ?_) ⟨rfl, rfl, rfl, trivial⟩ trivial rfl
    · rintro _ ⟨_, _, _, _, H, _⟩
      cases H
    · clear H hK0
      rintro k ih0 _ ⟨hK0, x0, x3, x4, H, rfl⟩
      unfold impl_RootOf.l0 at H
      refine AG.seq ?_
      refine AG.seq ?_
      refine AG.region HM ?_
      refine a_move (v := vI _) ?_
      refine a_move (v := vI _) ?_
      refine a_int (u := .bool (decide (x3 < x4))) ?_
      refine RA.nil nofun ?_
      by_cases hc2 : x3 < x4
      · rw [if_pos hc2] at H
        refine AG.yes rfl (decide_eq_true hc2) ?_
        refine AG.skip ?_
        refine AG.block ?_
        refine AG.seq ?_
        refine AG.region HM ?_
        refine a_move (v := vI _) ?_
        refine a_move (v := vI _) ?_
        refine a_int (u := .int .i64 (wrap64 (x3 + x4))) ?_
        refine a_int (u := .int .i64 (wrap64 ((wrap64 (x3 + x4)) + 1))) ?_
        refine a_quo (r := wrap64 (Int.tdiv (wrap64 ((wrap64 (x3 + x4)) + 1)) 2)) ?_ (show ¬ (2 : Int) = 0 from by decide)
        refine a_move (v := vI _) ?_
        refine RA.nil nofun ?_
        refine AG.seq ?_
        refine AG.region HM ?_
        refine a_move (v := vI _) ?_
        refine a_move (v := vI _) ?_
        refine a_move (v := vI _) ?_
        by_cases hc3 : (wrap64 (Int.tdiv (wrap64 ((wrap64 (x3 + x4)) + 1)) 2)) = 0
        · rw [if_pos hc3] at H
          cases H
        · rw [if_neg hc3] at H
          refine a_quo (r := wrap64 (Int.tdiv x0 (wrap64 (Int.tdiv (wrap64 ((wrap64 (x3 + x4)) + 1)) 2)))) ?_ hc3
          refine a_int (u := .bool (decide ((wrap64 (Int.tdiv (wrap64 ((wrap64 (x3 + x4)) + 1)) 2)) ≤ (wrap64 (Int.tdiv x0 (wrap64 (Int.tdiv (wrap64 ((wrap64 (x3 + x4)) + 1)) 2))))))) ?_
          refine RA.nil nofun ?_
          by_cases hc4 : (wrap64 (Int.tdiv (wrap64 ((wrap64 (x3 + x4)) + 1)) 2)) ≤ (wrap64 (Int.tdiv x0 (wrap64 (Int.tdiv (wrap64 ((wrap64 (x3 + x4)) + 1)) 2))))
          · rw [if_pos hc4] at H
            refine AG.yes rfl (decide_eq_true hc4) ?_
            refine AG.region HM ?_
            refine a_move (v := vI _) ?_
            refine a_move (v := vI _) ?_
            refine RA.nil nofun ?_
            exact AGr.canon id (ih0 _ (by omega) _ ⟨by omega, _, _, _, H, rfl⟩) ⟨rfl, rfl, rfl, trivial⟩ trivial rfl
          · rw [if_neg hc4] at H
            refine AG.no rfl (decide_eq_false hc4) ?_
            refine AG.region HM ?_
            refine a_move (v := vI _) ?_
            refine a_int (u := .int .i64 (wrap64 ((wrap64 (Int.tdiv (wrap64 ((wrap64 (x3 + x4)) + 1)) 2)) - 1))) ?_
            refine a_move (v := vI _) ?_
            refine RA.nil nofun ?_
            exact AGr.canon id (ih0 _ (by omega) _ ⟨by omega, _, _, _, H, rfl⟩) ⟨rfl, rfl, rfl, trivial⟩ trivial rfl
      · rw [if_neg hc2] at H
        refine AG.no rfl (decide_eq_false hc2) ?_
        refine AG.exit ?_
        refine AG.seq ?_
        refine AG.region HM ?_
        refine a_move (v := vI _) ?_
        refine a_move (v := vI _) ?_
        refine RA.nil nofun ?_
        refine AG.ret ?_
        obtain rfl := Option.some.inj H
        exact RetP.mk id ⟨rfl, trivial⟩ trivial rfl
/-! ### impl_squared: function 83 -/
def impl_squared.f (a0_0 : Int) (a0_1 : Int) (a1_0 : Int) (a1_1 : Int) : Option (Int) := some (wrap64 ((wrap64 ((wrap64 (a0_0 - a1_0)) * (wrap64 (a0_0 - a1_0)))) + (wrap64 ((wrap64 (a0_1 - a1_1)) * (wrap64 (a0_1 - a1_1))))))
set_option maxRecDepth 100000 in
theorem impl_squared.ok {a0_0 : Int} {a0_1 : Int} {a1_0 : Int} {a1_1 : Int} {r : Int} (H : impl_squared.f a0_0 a0_1 a1_0 a1_1 = some r) : OkF Try.prog 83 [.agg [.d (.v (.int .i64 a0_0)), .d (.v (.int .i64 a0_1))], .agg [.d (.v (.int .i64 a1_0)), .d (.v (.int .i64 a1_1))]] [] (.c (.d (.v (.int .i64 r)))) [] := by
  unfold impl_squared.f at H
  refine OkF.of (N := 28) (rs := [4]) (avs := [.c (.d (.v (.int .i64 r)))]) Try.func83 rfl rfl (fun _ _ => results_tmp rfl _ _ _) (by decide) rfl rfl rfl rfl (fun w0 S => ?_)
  refine AG.seq ?_
  refine AG.region HM ?_
  refine a_box 200 ?_
  refine a_box 201 ?_
  refine a_move (v := vI _) ?_
  refine RA.nil nofun ?_
  refine AG.seq ?_
  refine AG.region HM ?_
  refine a_faB (q := 0) ?_ D61_0
  refine a_ldB (v := vI _) ?_ T2
  refine a_faB (q := 0) ?_ D61_0
  refine a_ldB (v := vI _) ?_ T2
  refine a_int (u := .int .i64 (wrap64 (a0_0 - a1_0))) ?_
  refine a_faB (q := 0) ?_ D61_0
  refine a_ldB (v := vI _) ?_ T2
  refine a_faB (q := 0) ?_ D61_0
  refine a_ldB (v := vI _) ?_ T2
  refine a_int (u := .int .i64 (wrap64 (a0_0 - a1_0))) ?_
  refine a_int (u := .int .i64 (wrap64 ((wrap64 (a0_0 - a1_0)) * (wrap64 (a0_0 - a1_0))))) ?_
  refine a_faB (q := 1) ?_ D61_1
  refine a_ldB (v := vI _) ?_ T2
  refine a_faB (q := 1) ?_ D61_1
  refine a_ldB (v := vI _) ?_ T2
  refine a_int (u := .int .i64 (wrap64 (a0_1 - a1_1))) ?_
  refine a_faB (q := 1) ?_ D61_1
  refine a_ldB (v := vI _) ?_ T2
  refine a_faB (q := 1) ?_ D61_1
  refine a_ldB (v := vI _) ?_ T2
  refine a_int (u := .int .i64 (wrap64 (a0_1 - a1_1))) ?_
  refine a_int (u := .int .i64 (wrap64 ((wrap64 (a0_1 - a1_1)) * (wrap64 (a0_1 - a1_1))))) ?_
  refine a_int (u := .int .i64 (wrap64 ((wrap64 ((wrap64 (a0_0 - a1_0)) * (wrap64 (a0_0 - a1_0)))) + (wrap64 ((wrap64 (a0_1 - a1_1)) * (wrap64 (a0_1 - a1_1))))))) ?_
  refine a_move (v := vI _) ?_
  refine RA.nil nofun ?_
  refine AG.ret ?_
  obtain rfl := Option.some.inj H
  exact RetP.mk id ⟨rfl, trivial⟩ trivial rfl
/-! ### impl_Distance: function 45 -/
def impl_Distance.f (k : Nat) (a0_0 : Int) (a0_1 : Int) (a1_0 : Int) (a1_1 : Int) : Option (Int) := (impl_validPoints.f k ([(⟨a0_0, a0_1⟩ : S60), (⟨a1_0, a1_1⟩ : S60)])).bind fun t2 => (if t2 = true then ((impl_squared.f a0_0 a0_1 a1_0 a1_1).bind fun t5 => ((impl_RootOf.f k t5).bind fun t7 => (some t7))) else (some (-1)))
set_option maxRecDepth 100000 in
theorem impl_Distance.ok {k : Nat} {a0_0 : Int} {a0_1 : Int} {a1_0 : Int} {a1_1 : Int} {r : Int} (H : impl_Distance.f k a0_0 a0_1 a1_0 a1_1 = some r) : OkF Try.prog 45 [.agg [.d (.v (.int .i64 a0_0)), .d (.v (.int .i64 a0_1))], .agg [.d (.v (.int .i64 a1_0)), .d (.v (.int .i64 a1_1))]] [] (.c (.d (.v (.int .i64 r)))) [] := by
  unfold impl_Distance.f at H
  refine OkF.of (N := 14) (rs := [4]) (avs := [.c (.d (.v (.int .i64 r)))]) Try.func45 rfl rfl (fun _ _ => results_tmp rfl _ _ _) (by decide) rfl rfl rfl rfl (fun w0 S => ?_)
  refine AG.seq ?_
  refine AG.region HM ?_
  refine a_box 200 ?_
  refine a_box 201 ?_
  refine a_move (v := vI _) ?_
  refine RA.nil nofun ?_
  refine AG.seq ?_
  refine AG.seq ?_
  refine AG.region HM ?_
  refine a_ldB (v := .agg [_, _]) ?_ T61
  refine a_ldB (v := .agg [_, _]) ?_ T61
  refine a_lit (cs := [_, _, _, _]) (D := []) (css := ([(⟨a0_0, a0_1⟩ : S60), (⟨a1_0, a1_1⟩ : S60)]).map c60) 202 ?_ N29 T61 (hcss := by rfl)
  obtain ⟨t2, e3, H⟩ := bindO H
  refine a_call (v := vB t2) (nk := []) (L := [(202, _)]) ?_ rfl (impl_validPoints.ok e3) id (qc rO qn) ⟨rfl, trivial⟩ trivial trivial rfl
  refine a_un (u := .bool (!t2)) ?_
  refine RA.nil nofun ?_
  by_cases hc4 : t2 = true
  · rw [if_pos hc4] at H
    refine AG.no rfl (congrArg Bool.not hc4) ?_
    refine AG.skip ?_
    refine AG.seq ?_
    refine AG.region HM ?_
    refine a_ldB (v := .agg [_, _]) ?_ T61
    refine a_ldB (v := .agg [_, _]) ?_ T61
    obtain ⟨t5, e6, H⟩ := bindO H
    refine a_call (v := vI t5) (nk := []) (L := []) ?_ rfl (impl_squared.ok e6) id (qg (qg qn)) trivial trivial trivial rfl
    obtain ⟨t7, e8, H⟩ := bindO H
    refine a_call (v := vI t7) (nk := []) (L := []) ?_ rfl (impl_RootOf.ok e8) id (qd qn) trivial trivial trivial rfl
    refine a_move (v := vI _) ?_
    refine RA.nil nofun ?_
    refine AG.ret ?_
    obtain rfl := Option.some.inj H
    exact RetP.mk id ⟨rfl, trivial⟩ trivial rfl
  · rw [if_neg hc4] at H
    refine AG.yes rfl (congrArg Bool.not (Bool.eq_false_iff.2 hc4)) ?_
    refine AG.seq ?_
    refine AG.region HM ?_
    refine a_move (v := vI _) ?_
    refine RA.nil nofun ?_
    refine AG.ret ?_
    obtain rfl := Option.some.inj H
    exact RetP.mk id ⟨rfl, trivial⟩ trivial rfl
/-! ### impl_nearest: function 92 -/
def impl_nearest.f (a0 : Int) (a1 : Int) : Option (Int) := if a1 = 0 then (some 0) else (if (mx a1 (wrap64 (0 - a1))) = 0 then (none) else (if (Int.tmod (mx a0 (wrap64 (0 - a0))) (mx a1 (wrap64 (0 - a1)))) ≥ (wrap64 ((mx a1 (wrap64 (0 - a1))) - (Int.tmod (mx a0 (wrap64 (0 - a0))) (mx a1 (wrap64 (0 - a1)))))) then (if ((decide (a0 < 0)) == (decide (a1 < 0))) = true then (some (wrap64 ((wrap64 (Int.tdiv (mx a0 (wrap64 (0 - a0))) (mx a1 (wrap64 (0 - a1))))) + 1))) else (some (wrap64 (0 - (wrap64 ((wrap64 (Int.tdiv (mx a0 (wrap64 (0 - a0))) (mx a1 (wrap64 (0 - a1))))) + 1)))))) else (if ((decide (a0 < 0)) == (decide (a1 < 0))) = true then (some (wrap64 (Int.tdiv (mx a0 (wrap64 (0 - a0))) (mx a1 (wrap64 (0 - a1)))))) else (some (wrap64 (0 - (wrap64 (Int.tdiv (mx a0 (wrap64 (0 - a0))) (mx a1 (wrap64 (0 - a1)))))))))))
set_option maxRecDepth 100000 in
theorem impl_nearest.ok {a0 : Int} {a1 : Int} {r : Int} (H : impl_nearest.f a0 a1 = some r) : OkF Try.prog 92 [vI a0, vI a1] [] (.c (.d (.v (.int .i64 r)))) [] := by
  unfold impl_nearest.f at H
  refine OkF.of (N := 40) (rs := [4]) (avs := [.c (.d (.v (.int .i64 r)))]) Try.func92 rfl rfl (fun _ _ => results_tmp rfl _ _ _) (by decide) rfl rfl rfl rfl (fun w0 S => ?_)
  refine AG.seq ?_
  refine AG.region HM ?_
  refine a_move (v := vI _) ?_
  refine RA.nil nofun ?_
  refine AG.seq ?_
  refine AG.seq ?_
  refine AG.region HM ?_
  refine a_move (v := vI _) ?_
  refine a_int (u := .bool ((a1 == 0))) ?_
  refine RA.nil nofun ?_
  by_cases hc1 : a1 = 0
  · rw [if_pos hc1] at H
    refine AG.yes rfl (beq_iff_eq.2 hc1) ?_
    refine AG.seq ?_
    refine AG.region HM ?_
    refine a_move (v := vI _) ?_
    refine RA.nil nofun ?_
    refine AG.ret ?_
    obtain rfl := Option.some.inj H
    exact RetP.mk id ⟨rfl, trivial⟩ trivial rfl
  · rw [if_neg hc1] at H
    refine AG.no rfl (beq_eq_false_iff_ne.2 hc1) ?_
    refine AG.skip ?_
    refine AG.seq ?_
    refine AG.region HM ?_
    refine a_move (v := vI _) ?_
    refine a_int (u := .bool (decide (a0 < 0))) ?_
    refine a_move (v := vI _) ?_
    refine a_int (u := .bool (decide (a1 < 0))) ?_
    refine a_binB (p := (decide (a0 < 0))) (q := (decide (a1 < 0))) (b := (!((decide (a0 < 0)) == (decide (a1 < 0))))) ?_ Try.underlying4 (.inr ⟨rfl, rfl⟩)
    refine a_move (v := vB _) ?_
    refine RA.nil nofun ?_
    refine AG.seq ?_
    refine AG.region HM ?_
    refine a_move (v := vI _) ?_
    refine a_move (v := vI _) ?_
    refine a_un (u := .int .i64 (wrap64 (0 - a0))) ?_
    refine a_minmax (mx := true) (r := mx a0 (wrap64 (0 - a0))) ?_
    refine a_move (v := vI _) ?_
    refine a_move (v := vI _) ?_
    refine a_un (u := .int .i64 (wrap64 (0 - a1))) ?_
    refine a_minmax (mx := true) (r := mx a1 (wrap64 (0 - a1))) ?_
    refine a_move (v := vI _) ?_
    refine a_move (v := vI _) ?_
    refine RA.nil nofun ?_
    refine AG.seq ?_
    refine AG.region HM ?_
    refine a_move (v := vI _) ?_
    refine a_move (v := vI _) ?_
    by_cases hc2 : (mx a1 (wrap64 (0 - a1))) = 0
    · rw [if_pos hc2] at H
      cases H
    · rw [if_neg hc2] at H
      refine a_quo (r := wrap64 (Int.tdiv (mx a0 (wrap64 (0 - a0))) (mx a1 (wrap64 (0 - a1))))) ?_ hc2
      refine a_move (v := vI _) ?_
      refine RA.nil nofun ?_
      refine AG.seq ?_
      refine AG.seq ?_
      refine AG.region HM ?_
      refine a_move (v := vI _) ?_
      refine a_move (v := vI _) ?_
      refine a_rem (r := Int.tmod (mx a0 (wrap64 (0 - a0))) (mx a1 (wrap64 (0 - a1)))) ?_ hc2
      refine a_move (v := vI _) ?_
      refine RA.nil nofun ?_
      refine AG.seq ?_
      refine AG.region HM ?_
      refine a_move (v := vI _) ?_
      refine a_move (v := vI _) ?_
      refine a_move (v := vI _) ?_
      refine a_int (u := .int .i64 (wrap64 ((mx a1 (wrap64 (0 - a1))) - (Int.tmod (mx a0 (wrap64 (0 - a0))) (mx a1 (wrap64 (0 - a1))))))) ?_
      refine a_int (u := .bool (decide ((Int.tmod (mx a0 (wrap64 (0 - a0))) (mx a1 (wrap64 (0 - a1)))) ≥ (wrap64 ((mx a1 (wrap64 (0 - a1))) - (Int.tmod (mx a0 (wrap64 (0 - a0))) (mx a1 (wrap64 (0 - a1))))))))) ?_
      refine RA.nil nofun ?_
      by_cases hc3 : (Int.tmod (mx a0 (wrap64 (0 - a0))) (mx a1 (wrap64 (0 - a1)))) ≥ (wrap64 ((mx a1 (wrap64 (0 - a1))) - (Int.tmod (mx a0 (wrap64 (0 - a0))) (mx a1 (wrap64 (0 - a1))))))
      · rw [if_pos hc3] at H
        refine AG.yes rfl (decide_eq_true hc3) ?_
        refine AG.region HM ?_
        refine a_move (v := vI _) ?_
        refine a_int (u := .int .i64 (wrap64 ((wrap64 (Int.tdiv (mx a0 (wrap64 (0 - a0))) (mx a1 (wrap64 (0 - a1))))) + 1))) ?_
        refine a_move (v := vI _) ?_
        refine RA.nil nofun ?_
        refine AG.seq ?_
        refine AG.seq ?_
        refine AG.region HM ?_
        refine a_move (v := vB _) ?_
        refine RA.nil nofun ?_
        by_cases hc4 : ((decide (a0 < 0)) == (decide (a1 < 0))) = true
        · rw [if_pos hc4] at H
          refine AG.no rfl (by rw [show ((decide (a0 < 0)) == (decide (a1 < 0))) = true from hc4]; rfl) ?_
          refine AG.skip ?_
          refine AG.seq ?_
          refine AG.region HM ?_
          refine a_move (v := vI _) ?_
          refine a_move (v := vI _) ?_
          refine RA.nil nofun ?_
          refine AG.ret ?_
          obtain rfl := Option.some.inj H
          exact RetP.mk id ⟨rfl, trivial⟩ trivial rfl
        · rw [if_neg hc4] at H
          refine AG.yes rfl (by rw [Bool.eq_false_iff.2 hc4]; rfl) ?_
          refine AG.seq ?_
          refine AG.region HM ?_
          refine a_move (v := vI _) ?_
          refine a_un (u := .int .i64 (wrap64 (0 - (wrap64 ((wrap64 (Int.tdiv (mx a0 (wrap64 (0 - a0))) (mx a1 (wrap64 (0 - a1))))) + 1))))) ?_
          refine a_move (v := vI _) ?_
          refine RA.nil nofun ?_
          refine AG.ret ?_
          obtain rfl := Option.some.inj H
          exact RetP.mk id ⟨rfl, trivial⟩ trivial rfl
      · rw [if_neg hc3] at H
        refine AG.no rfl (decide_eq_false hc3) ?_
        refine AG.skip ?_
        refine AG.seq ?_
        refine AG.seq ?_
        refine AG.region HM ?_
        refine a_move (v := vB _) ?_
        refine RA.nil nofun ?_
        by_cases hc5 : ((decide (a0 < 0)) == (decide (a1 < 0))) = true
        · rw [if_pos hc5] at H
          refine AG.no rfl (by rw [show ((decide (a0 < 0)) == (decide (a1 < 0))) = true from hc5]; rfl) ?_
          refine AG.skip ?_
          refine AG.seq ?_
          refine AG.region HM ?_
          refine a_move (v := vI _) ?_
          refine a_move (v := vI _) ?_
          refine RA.nil nofun ?_
          refine AG.ret ?_
          obtain rfl := Option.some.inj H
          exact RetP.mk id ⟨rfl, trivial⟩ trivial rfl
        · rw [if_neg hc5] at H
          refine AG.yes rfl (by rw [Bool.eq_false_iff.2 hc5]; rfl) ?_
          refine AG.seq ?_
          refine AG.region HM ?_
          refine a_move (v := vI _) ?_
          refine a_un (u := .int .i64 (wrap64 (0 - (wrap64 (Int.tdiv (mx a0 (wrap64 (0 - a0))) (mx a1 (wrap64 (0 - a1)))))))) ?_
          refine a_move (v := vI _) ?_
          refine RA.nil nofun ?_
          refine AG.ret ?_
          obtain rfl := Option.some.inj H
          exact RetP.mk id ⟨rfl, trivial⟩ trivial rfl
/-! ### impl_tabs: function 53 -/
def impl_tabs.l0 : Nat → Int → Int → Int → List Int → Int → Option ((List Int))
  | 0, _, _, _, _, _ => none
  | k + 1, x0, x2, x7, x8, x9 => if x9 < x7 then (if x0 ≥ (wrap64 ((wrap64 (3 * x7)) * x2)) then ((impl_nearest.f (wrap64 (x0 * (wrap64 ((wrap64 (2 * x9)) + 1)))) (wrap64 (2 * x7))).bind fun t5 => (if x8.length < 17592186044416 then (impl_tabs.l0 k x0 x2 x7 (x8 ++ [wrap64 (t5 - (wrap64 (Int.tdiv x2 2)))]) (wrap64 (x9 + 1))) else (none))) else (some x8)) else (some x8)
def impl_tabs.f (k : Nat) (a0 : Int) (a1 : Int) (a2 : Int) : Option ((List Int)) := if a1 = 0 then (none) else (impl_tabs.l0 k a0 a2 (mx (wrap64 (Int.tdiv a0 a1)) 1) ([] : List Int) 0)
set_option maxRecDepth 100000 in
theorem impl_tabs.ok {k : Nat} {a0 : Int} {a1 : Int} {a2 : Int} {r : List Int} (H : impl_tabs.f k a0 a1 a2 = some r) : OkF Try.prog 53 [vI a0, vI a1, vI a2] [] (.c (.own 100 r.length)) [(100, .row 2 (r.map c2))] := by
  unfold impl_tabs.f at H
  refine OkF.of (N := 43) (rs := [6]) (avs := [.c (.own 100 r.length)]) Try.func53 rfl rfl (fun _ _ => results_tmp rfl _ _ _) (by decide) rfl rfl rfl rfl (fun w0 S => ?_)
  refine AG.seq ?_
  refine AG.region HM ?_
  refine a_nilO (e := 2) 200 ?_ T2
  refine RA.nil nofun ?_
  refine AG.seq ?_
  refine AG.region HM ?_
  refine a_move (v := vI _) ?_
  refine a_move (v := vI _) ?_
  by_cases hc1 : a1 = 0
  · rw [if_pos hc1] at H
    cases H
  · rw [if_neg hc1] at H
    refine a_quo (r := wrap64 (Int.tdiv a0 a1)) ?_ hc1
    refine a_minmax (mx := true) (r := mx (wrap64 (Int.tdiv a0 a1)) 1) ?_
    refine a_move (v := vI _) ?_
    refine RA.nil nofun ?_
    refine AG.seq ?_
    refine AG.region HM ?_
    refine a_lit (cs := []) (D := []) (css := ([] : List Int).map c2) 201 ?_ N38 T2 (hcss := by rfl)
    refine a_move (v := .c (.own _ _)) ?_
    refine RA.nil nofun ?_
    refine AG.seq ?_
    refine AG.seq ?_
    refine AG.region HM ?_
    refine a_move (v := vI _) ?_
    refine RA.nil nofun ?_
    refine AG.block ?_
    refine AG.loop ?_
    obtain ⟨K0, hK0, gK0⟩ : ∃ K, k ≤ K ∧ K ≤ k := ⟨k, Nat.le_refl k, Nat.le_refl k⟩
    refine AGr.canon (fun κ => cond (Nat.beq κ 202) 201 (κ)) (AGr.loopI (n := k) (fun k s => k ≤ K0 ∧ ∃ (x0 : Int) (x2 : Int) (x7 : Int) (x8 : List Int) (x9 : Int), impl_tabs.l0 k x0 x2 x7 x8 x9 = some r ∧ s = St.of [(0, vI x0), (2, vI x2), (7, vI x7), (8, .c (.own 202 x8.length)), (9, vI x9)] [(202, .row 2 (x8.map c2))]) ⟨hK0, _, _, _, _, _, H, rfl⟩ ?_ ?_) ⟨rfl, rfl, rfl, (ownE rfl (by simp)), rfl, trivial⟩ ⟨rfl, trivial⟩ rfl
    · rintro _ ⟨_, _, _, _, _, _, H, _⟩
      cases H
    · clear H hK0
      rintro k ih0 _ ⟨hK0, x0, x2, x7, x8, x9, H, rfl⟩
      unfold impl_tabs.l0 at H
      refine AG.seq ?_
      refine AG.seq ?_
      refine AG.region HM ?_
      refine a_move (v := vI _) ?_
      refine a_move (v := vI _) ?_
      refine a_int (u := .bool (decide (x9 < x7))) ?_
      refine a_move (v := vB _) ?_
      by_cases hc3 : x9 < x7
      · rw [if_pos hc3] at H
        refine a_move (v := vI _) ?_ (hg := Gs.yes rfl rfl rfl (decide_eq_true hc3))
        refine a_move (v := vI _) ?_ (hg := Gs.yes rfl rfl rfl (decide_eq_true hc3))
        refine a_int (u := .int .i64 (wrap64 (3 * x7))) ?_ (hg := Gs.yes rfl rfl rfl (decide_eq_true hc3))
        refine a_move (v := vI _) ?_ (hg := Gs.yes rfl rfl rfl (decide_eq_true hc3))
        refine a_int (u := .int .i64 (wrap64 ((wrap64 (3 * x7)) * x2))) ?_ (hg := Gs.yes rfl rfl rfl (decide_eq_true hc3))
        refine a_int (u := .bool (decide (x0 ≥ (wrap64 ((wrap64 (3 * x7)) * x2))))) ?_ (hg := Gs.yes rfl rfl rfl (decide_eq_true hc3))
        refine a_pick (b := true) (v := vB _) ?_ (decide_eq_true hc3)
        refine RA.nil nofun ?_
        by_cases hc4 : x0 ≥ (wrap64 ((wrap64 (3 * x7)) * x2))
        · rw [if_pos hc4] at H
          refine AG.yes rfl (decide_eq_true hc4) ?_
          refine AG.skip ?_
          refine AG.seq ?_
          refine AG.block ?_
          refine AG.region HM ?_
          refine a_move (v := .c (.own _ _)) ?_
          refine a_move (v := vI _) ?_
          refine a_move (v := vI _) ?_
          refine a_int (u := .int .i64 (wrap64 (2 * x9))) ?_
          refine a_int (u := .int .i64 (wrap64 ((wrap64 (2 * x9)) + 1))) ?_
          refine a_int (u := .int .i64 (wrap64 (x0 * (wrap64 ((wrap64 (2 * x9)) + 1))))) ?_
          refine a_move (v := vI _) ?_
          refine a_int (u := .int .i64 (wrap64 (2 * x7))) ?_
          obtain ⟨t5, e6, H⟩ := bindO H
          refine a_call (v := vI t5) (nk := []) (L := []) ?_ rfl (impl_nearest.ok e6) id (qd (qd qn)) trivial trivial trivial rfl
          refine a_move (v := vI _) ?_
          refine a_quo (r := wrap64 (Int.tdiv x2 2)) ?_ (show ¬ (2 : Int) = 0 from by decide)
          refine a_int (u := .int .i64 (wrap64 (t5 - (wrap64 (Int.tdiv x2 2))))) ?_
          refine a_lit (cs := [_]) (D := []) (css := ([wrap64 (t5 - (wrap64 (Int.tdiv x2 2)))]).map c2) 204 ?_ N38 T2
          by_cases hc7 : x8.length < 17592186044416
          · rw [if_pos hc7] at H
            refine a_appO (css' := (x8 ++ [wrap64 (t5 - (wrap64 (Int.tdiv x2 2)))]).map c2) (n' := (x8 ++ [wrap64 (t5 - (wrap64 (Int.tdiv x2 2)))]).length) ?_ T2 (by simp [maxLen]; omega) (by simp; omega) Try.underlying38 (hc := by exact List.map_append.symm) (hn := by exact List.length_map _)
            refine a_move (v := .c (.own _ _)) ?_
            refine RA.nil nofun ?_
            refine AG.region HM ?_
            refine a_move (v := vI _) ?_
            refine a_int (u := .int .i64 (wrap64 (x9 + 1))) ?_
            refine a_move (v := vI _) ?_
            refine RA.nil nofun ?_
            exact AGr.canon id (ih0 _ (by omega) _ ⟨by omega, _, _, _, _, _, H, rfl⟩) ⟨rfl, rfl, rfl, rfl, rfl, trivial⟩ ⟨rfl, trivial⟩ rfl
          · rw [if_neg hc7] at H
            cases H
        · rw [if_neg hc4] at H
          refine AG.no rfl (decide_eq_false hc4) ?_
          refine AG.exit ?_
          refine AG.seq ?_
          refine AG.region HM ?_
          refine a_move (v := .c (.own _ _)) ?_
          refine a_move (v := .c (.own _ _)) ?_
          refine RA.nil nofun ?_
          refine AG.ret ?_
          obtain rfl := Option.some.inj H
          exact RetP.mk (fun κ => cond (Nat.beq κ 100) 202 (κ)) ⟨rfl, trivial⟩ ⟨rfl, trivial⟩ rfl
      · rw [if_neg hc3] at H
        refine RA.skip rfl rfl rfl rfl rfl (decide_eq_false hc3) (by decide) ?_
        refine RA.skip rfl rfl rfl rfl rfl (decide_eq_false hc3) (by decide) ?_
        refine RA.skip rfl rfl rfl rfl rfl (decide_eq_false hc3) (by decide) ?_
        refine RA.skip rfl rfl rfl rfl rfl (decide_eq_false hc3) (by decide) ?_
        refine RA.skip rfl rfl rfl rfl rfl (decide_eq_false hc3) (by decide) ?_
        refine RA.skip rfl rfl rfl rfl rfl (decide_eq_false hc3) (by decide) ?_
        refine a_pick (b := false) (v := vB _) ?_ (decide_eq_false hc3)
        refine RA.nil nofun ?_
        refine AG.no rfl rfl ?_
        refine AG.exit ?_
        refine AG.seq ?_
        refine AG.region HM ?_
        refine a_move (v := .c (.own _ _)) ?_
        refine a_move (v := .c (.own _ _)) ?_
        refine RA.nil nofun ?_
        refine AG.ret ?_
        obtain rfl := Option.some.inj H
        exact RetP.mk (fun κ => cond (Nat.beq κ 100) 202 (κ)) ⟨rfl, trivial⟩ ⟨rfl, trivial⟩ rfl
/-! ### impl_TabsOf: function 18 -/
mutual
def impl_TabsOf.j0 : Nat → Int → Int → List S60 → List (List Int) → Int → Bool → Option (Int × Int)
  | 0, _, _, _, _, _, _ => none
  | k + 1, x1, x2, y204_2, x8, x9, x29 => if x29 = true then (impl_TabsOf.j1 k x1 x2 y204_2 x8 2) else (impl_TabsOf.j1 k x1 x2 y204_2 x8 x9)
def impl_TabsOf.j1 : Nat → Int → Int → List S60 → List (List Int) → Int → Option (Int × Int)
  | 0, _, _, _, _, _ => none
  | k + 1, x1, x2, y205_2, x8, x9 => if x9 = 0 then (impl_TabsOf.l0 k x1 x2 y205_2 0 x8 (x8.length : Int) 0) else (some (0, x9))
def impl_TabsOf.l0 : Nat → Int → Int → List S60 → Int → List (List Int) → Int → Int → Option (Int × Int)
  | 0, _, _, _, _, _, _, _ => none
  | k + 1, x1, x2, y206_2, x10, x33, x34, x35 => if x35 < x34 then (if 0 ≤ x35 then (if x35 < (x33.length : Int) then (if 0 < ((rd38 x33 x35).length : Int) then (if 0 ≤ (rd2 (rd38 x33 x35) 0) then (if (rd2 (rd38 x33 x35) 0) < (y206_2.length : Int) then (if 1 < ((rd38 x33 x35).length : Int) then (if 0 ≤ (rd2 (rd38 x33 x35) 1) then (if (rd2 (rd38 x33 x35) 1) < (y206_2.length : Int) then ((impl_Distance.f k ((rd60 y206_2 (rd2 (rd38 x33 x35) 0)).f0) ((rd60 y206_2 (rd2 (rd38 x33 x35) 0)).f1) ((rd60 y206_2 (rd2 (rd38 x33 x35) 1)).f0) ((rd60 y206_2 (rd2 (rd38 x33 x35) 1)).f1)).bind fun t21 => ((impl_tabs.f k t21 x1 x2).bind fun t23 => (impl_TabsOf.l0 k x1 x2 y206_2 (wrap64 (x10 + (t23.length : Int))) x33 x34 (wrap64 (x35 + 1))))) else (none)) else (none)) else (none)) else (none)) else (none)) else (none)) else (none)) else (none)) else (some (x10, 0))
end
def impl_TabsOf.f (k : Nat) (a0_0 : Int) (a0_1 : Int) (l0_2 : List S60) (l0_3 : List S91) (a1 : Int) (a2 : Int) : Option (Int × Int) := (impl_EdgesOf.f k a0_0 a0_1 l0_2 l0_3).bind fun bt1 => (if bt1.2 = 0 then ((impl_within.f a1 1 5000).bind fun t5 => (if t5 = true then ((impl_within.f a2 1 200).bind fun t8 => (impl_TabsOf.j0 k a1 a2 l0_2 bt1.1 bt1.2 (!t8))) else (impl_TabsOf.j0 k a1 a2 l0_2 bt1.1 bt1.2 true))) else (impl_TabsOf.j0 k a1 a2 l0_2 bt1.1 bt1.2 false))
set_option maxRecDepth 100000 in
theorem impl_TabsOf.ok {k : Nat} {a0_0 : Int} {a0_1 : Int} {l0_2 : List S60} {l0_3 : List S91} {a1 : Int} {a2 : Int} {r0 : Int} {r1 : Int} (H : impl_TabsOf.f k a0_0 a0_1 l0_2 l0_3 a1 a2 = some (r0, r1)) : OkF Try.prog 18 [.agg [.d (.v (.int .i64 a0_0)), .d (.v (.int .i64 a0_1)), .d (.row 61 (l0_2.map c60)), .d (.row 96 (l0_3.map c91))], vI a1, vI a2] [] (.tup [.c (.d (.v (.int .i64 r0))), .c (.d (.v (.int .i64 r1)))]) [] := by
  unfold impl_TabsOf.f at H
  refine OkF.of (N := 62) (rs := [6, 7]) (avs := [.c (.d (.v (.int .i64 r0))), .c (.d (.v (.int .i64 r1)))]) Try.func18 rfl rfl (fun _ _ => results_tmp2 rfl _ _ _) (by decide) rfl rfl rfl rfl (fun w0 S => ?_)
  refine AG.seq ?_
  refine AG.region HM ?_
  refine a_box 200 ?_
  refine a_move (v := vI _) ?_
  refine a_move (v := vI _) ?_
  refine RA.nil nofun ?_
  refine AG.seq ?_
  refine AG.region HM ?_
  refine a_ldB (v := .agg [_, _, _, _]) ?_ T32
  obtain ⟨⟨t1, t2⟩, e3, H⟩ := bindO H
  refine a_call (v := .tup [.c (.own 201 t1.length), .c (.d (.v (.int .i64 t2)))]) (nk := [(201, .row 38 (t1.map c38))]) (L := []) ?_ rfl (impl_EdgesOf.ok e3) (fun κ => cond (Nat.beq κ 201) 100 (κ)) (qg qn) trivial ⟨rfl, trivial⟩ ⟨rfl, trivial⟩ rfl
  refine a_move (v := .tup [_, _]) ?_
  refine a_ext (v := .c (.own _ _)) ?_
  refine a_ext (v := vI _) ?_
  refine a_move (v := .c (.own _ _)) ?_
  refine a_move (v := vI _) ?_
  refine RA.nil nofun ?_
  refine AG.seq ?_
  refine AG.seq ?_
  refine AG.freeze 201 ?_
  refine AG.join (fun s => ∃ q, q ≤ k ∧ ∃ (x1 : Int) (x2 : Int) (y204_0 : Int) (y204_1 : Int) (y204_2 : List S60) (y204_3 : List S91) (x8 : List (List Int)) (x9 : Int) (x29 : Bool), impl_TabsOf.j0 q x1 x2 y204_2 x8 x9 x29 = some (r0, r1) ∧ s = St.of [(1, vI x1), (2, vI x2), (3, .c (.ptr 204 0)), (8, vR 38 (x8.map c38)), (9, vI x9), (29, vB x29)] [(204, .box 32 [.d (.v (.int .i64 y204_0)), .d (.v (.int .i64 y204_1)), .d (.row 61 (y204_2.map c60)), .d (.row 96 (y204_3.map c91))])]) ?_ ?_
  · skip
    refine AG.region HM ?_
    refine a_move (v := vI _) ?_
    refine a_int (u := .bool ((t2 == 0))) ?_
    refine a_move (v := vB _) ?_
    by_cases hc4 : t2 = 0
    · rw [if_pos hc4] at H
      refine a_move (v := vI _) ?_ (hg := Gs.yes rfl rfl rfl (beq_iff_eq.2 hc4))
      obtain ⟨t5, e6, H⟩ := bindO H
      refine a_call (v := vB t5) (nk := []) (L := []) ?_ rfl (impl_within.ok e6) id (qd (qd (qd qn))) trivial trivial trivial rfl (hg := Gs.yes rfl rfl rfl (beq_iff_eq.2 hc4))
      refine a_un (u := .bool (!t5)) ?_ (hg := Gs.yes rfl rfl rfl (beq_iff_eq.2 hc4))
      refine a_move (v := vB _) ?_ (hg := Gs.yes rfl rfl rfl (beq_iff_eq.2 hc4))
      by_cases hc7 : t5 = true
      · rw [if_pos hc7] at H
        refine a_move (v := vI _) ?_ (hg := Gs.yes rfl rfl rfl (congrArg Bool.not hc7))
        obtain ⟨t8, e9, H⟩ := bindO H
        refine a_call (v := vB t8) (nk := []) (L := []) ?_ rfl (impl_within.ok e9) id (qd (qd (qd qn))) trivial trivial trivial rfl (hg := Gs.yes rfl rfl rfl (congrArg Bool.not hc7))
        refine a_un (u := .bool (!t8)) ?_ (hg := Gs.yes rfl rfl rfl (congrArg Bool.not hc7))
        refine a_pick (b := false) (v := vB _) ?_ (congrArg Bool.not hc7) (hg := Gs.yes rfl rfl rfl (beq_iff_eq.2 hc4))
        refine a_pick (b := true) (v := vB _) ?_ (beq_iff_eq.2 hc4)
        refine RA.nil nofun ?_
        exact Can.mk (fun κ => cond (Nat.beq κ 204) 200 (κ)) ⟨_, (by omega), _, _, _, _, _, _, _, _, _, H, rfl⟩ ⟨rfl, rfl, rfl, rfl, rfl, rfl, trivial⟩ ⟨rfl, trivial⟩ rfl
      · rw [if_neg hc7] at H
        refine RA.skip rfl rfl rfl rfl rfl (congrArg Bool.not (Bool.eq_false_iff.2 hc7)) (by decide) ?_
        refine RA.skip rfl rfl rfl rfl rfl (congrArg Bool.not (Bool.eq_false_iff.2 hc7)) (by decide) ?_
        refine RA.skip rfl rfl rfl rfl rfl (congrArg Bool.not (Bool.eq_false_iff.2 hc7)) (by decide) ?_
        refine a_pick (b := true) (v := vB _) ?_ (congrArg Bool.not (Bool.eq_false_iff.2 hc7)) (hg := Gs.yes rfl rfl rfl (beq_iff_eq.2 hc4))
        refine a_pick (b := true) (v := vB _) ?_ (beq_iff_eq.2 hc4)
        refine RA.nil nofun ?_
        exact Can.mk (fun κ => cond (Nat.beq κ 204) 200 (κ)) ⟨_, (by omega), _, _, _, _, _, _, _, _, _, H, rfl⟩ ⟨rfl, rfl, rfl, rfl, rfl, rfl, trivial⟩ ⟨rfl, trivial⟩ rfl
    · rw [if_neg hc4] at H
      refine RA.skip rfl rfl rfl rfl rfl (beq_eq_false_iff_ne.2 hc4) (by decide) ?_
      refine RA.skip rfl rfl rfl rfl rfl (beq_eq_false_iff_ne.2 hc4) (by decide) ?_
      refine RA.skip rfl rfl rfl rfl rfl (beq_eq_false_iff_ne.2 hc4) (by decide) ?_
      refine RA.skip rfl rfl rfl rfl rfl (beq_eq_false_iff_ne.2 hc4) (by decide) ?_
      refine RA.skip0 rfl rfl rfl rfl rfl ?_
      refine RA.skip0 rfl rfl rfl rfl rfl ?_
      refine RA.skip0 rfl rfl rfl rfl rfl ?_
      refine RA.skip rfl rfl rfl rfl rfl (beq_eq_false_iff_ne.2 hc4) (by decide) ?_
      refine a_pick (b := false) (v := vB _) ?_ (beq_eq_false_iff_ne.2 hc4)
      refine RA.nil nofun ?_
      exact Can.mk (fun κ => cond (Nat.beq κ 204) 200 (κ)) ⟨_, (by omega), _, _, _, _, _, _, _, _, _, H, rfl⟩ ⟨rfl, rfl, rfl, rfl, rfl, rfl, trivial⟩ ⟨rfl, trivial⟩ rfl
  · clear H
    rintro _ ⟨k, hj0, x1, x2, y204_0, y204_1, y204_2, y204_3, x8, x9, x29, H, rfl⟩
    cases k with
    | zero => cases H
    | succ k =>
      rw [impl_TabsOf.j0] at H
      refine AG.join (fun s => ∃ q, q ≤ k ∧ ∃ (x1 : Int) (x2 : Int) (y205_0 : Int) (y205_1 : Int) (y205_2 : List S60) (y205_3 : List S91) (x8 : List (List Int)) (x9 : Int), impl_TabsOf.j1 q x1 x2 y205_2 x8 x9 = some (r0, r1) ∧ s = St.of [(1, vI x1), (2, vI x2), (3, .c (.ptr 205 0)), (8, vR 38 (x8.map c38)), (9, vI x9)] [(205, .box 32 [.d (.v (.int .i64 y205_0)), .d (.v (.int .i64 y205_1)), .d (.row 61 (y205_2.map c60)), .d (.row 96 (y205_3.map c91))])]) ?_ ?_
      · skip
        by_cases hc10 : x29 = true
        · rw [if_pos hc10] at H
          refine AG.yes rfl hc10 ?_
          refine AG.region HM ?_
          refine a_move (v := vI _) ?_
          refine RA.nil nofun ?_
          exact Can.mk (fun κ => cond (Nat.beq κ 205) 204 (κ)) ⟨_, (by omega), _, _, _, _, _, _, _, _, H, rfl⟩ ⟨rfl, rfl, rfl, rfl, rfl, trivial⟩ ⟨rfl, trivial⟩ rfl
        · rw [if_neg hc10] at H
          refine AG.no rfl (Bool.eq_false_iff.2 hc10) ?_
          refine AG.skip ?_
          exact Can.mk (fun κ => cond (Nat.beq κ 205) 204 (κ)) ⟨_, (by omega), _, _, _, _, _, _, _, _, H, rfl⟩ ⟨rfl, rfl, rfl, rfl, rfl, trivial⟩ ⟨rfl, trivial⟩ rfl
      · clear H
        rintro _ ⟨k, hj1, x1, x2, y205_0, y205_1, y205_2, y205_3, x8, x9, H, rfl⟩
        cases k with
        | zero => cases H
        | succ k =>
          rw [impl_TabsOf.j1] at H
          refine AG.seq ?_
          refine AG.seq ?_
          refine AG.region HM ?_
          refine a_move (v := vI _) ?_
          refine a_int (u := .bool ((x9 != 0))) ?_
          refine RA.nil nofun ?_
          by_cases hc11 : x9 = 0
          · rw [if_pos hc11] at H
            refine AG.no rfl (bne_eq_false_iff_eq.2 hc11) ?_
            refine AG.skip ?_
            refine AG.seq ?_
            refine AG.region HM ?_
            refine a_move (v := vI _) ?_
            refine RA.nil nofun ?_
            refine AG.seq ?_
            refine AG.seq ?_
            refine AG.region HM ?_
            refine a_move (v := vR _ _) ?_
            refine a_lenR ?_ Try.underlying56
            refine a_move (v := vI _) ?_
            refine RA.nil nofun ?_
            refine AG.block ?_
            refine AG.loop ?_
            obtain ⟨K0, hK0, gK0⟩ : ∃ K, k ≤ K ∧ K ≤ k := ⟨k, Nat.le_refl k, Nat.le_refl k⟩
            refine AGr.canon (fun κ => cond (Nat.beq κ 206) 205 (κ)) (AGr.loopI (n := k) (fun k s => k ≤ K0 ∧ ∃ (x1 : Int) (x2 : Int) (y206_0 : Int) (y206_1 : Int) (y206_2 : List S60) (y206_3 : List S91) (x10 : Int) (x33 : List (List Int)) (x34 : Int) (x35 : Int), impl_TabsOf.l0 k x1 x2 y206_2 x10 x33 x34 x35 = some (r0, r1) ∧ s = St.of [(1, vI x1), (2, vI x2), (3, .c (.ptr 206 0)), (10, vI x10), (33, vR 38 (x33.map c38)), (34, vI x34), (35, vI x35)] [(206, .box 32 [.d (.v (.int .i64 y206_0)), .d (.v (.int .i64 y206_1)), .d (.row 61 (y206_2.map c60)), .d (.row 96 (y206_3.map c91))])]) ⟨hK0, _, _, _, _, _, _, _, _, _, _, H, rfl⟩ ?_ ?_) ⟨rfl, rfl, rfl, rfl, rfl, rfl, rfl, trivial⟩ ⟨rfl, trivial⟩ rfl
            · rintro _ ⟨_, _, _, _, _, _, _, _, _, _, _, H, _⟩
              cases H
            · clear H hK0
              rintro k ih0 _ ⟨hK0, x1, x2, y206_0, y206_1, y206_2, y206_3, x10, x33, x34, x35, H, rfl⟩
              unfold impl_TabsOf.l0 at H
              refine AG.seq ?_
              refine AG.region HM ?_
              refine a_int (u := .bool (decide (x35 < x34))) ?_
              refine RA.nil nofun ?_
              refine AG.seq ?_
              by_cases hc12 : x35 < x34
              · rw [if_pos hc12] at H
                refine AG.yes rfl (decide_eq_true hc12) ?_
                refine AG.skip ?_
                refine AG.seq ?_
                refine AG.block ?_
                refine AG.seq ?_
                refine AG.region HM ?_
                by_cases hc13 : 0 ≤ x35
                · rw [if_pos hc13] at H
                  by_cases hc14 : x35 < (x33.length : Int)
                  · rw [if_pos hc14] at H
                    refine a_ixR (el := c38 (rd38 x33 x35)) ?_ ⟨hc13, hc14⟩ T38 Try.underlying56 (hel := R38 hc13 hc14)
                    refine a_ldR (v := vR _ _) ?_ T38
                    refine a_move (v := vR _ _) ?_
                    refine RA.nil nofun ?_
                    refine AG.region HM ?_
                    refine a_move (v := vI _) ?_
                    refine a_faB (q := 2) ?_ D32_2
                    refine a_ldB (v := vR _ _) ?_ T29
                    refine a_move (v := vR _ _) ?_
                    by_cases hc15 : 0 < ((rd38 x33 x35).length : Int)
                    · rw [if_pos hc15] at H
                      refine a_ixR (el := c2 (rd2 (rd38 x33 x35) 0)) ?_ ⟨(by decide), hc15⟩ T2 Try.underlying38 (hel := R2 (by decide) hc15)
                      refine a_ldR (v := vI _) ?_ T2
                      by_cases hc16 : 0 ≤ (rd2 (rd38 x33 x35) 0)
                      · rw [if_pos hc16] at H
                        by_cases hc17 : (rd2 (rd38 x33 x35) 0) < (y206_2.length : Int)
                        · rw [if_pos hc17] at H
                          refine a_ixR (el := c60 (rd60 y206_2 (rd2 (rd38 x33 x35) 0))) ?_ ⟨hc16, hc17⟩ T61 Try.underlying29 (hel := R60 hc16 hc17)
                          refine a_ldR (v := .agg [_, _]) ?_ T61
                          refine a_faB (q := 2) ?_ D32_2
                          refine a_ldB (v := vR _ _) ?_ T29
                          refine a_move (v := vR _ _) ?_
                          by_cases hc18 : 1 < ((rd38 x33 x35).length : Int)
                          · rw [if_pos hc18] at H
                            refine a_ixR (el := c2 (rd2 (rd38 x33 x35) 1)) ?_ ⟨(by decide), hc18⟩ T2 Try.underlying38 (hel := R2 (by decide) hc18)
                            refine a_ldR (v := vI _) ?_ T2
                            by_cases hc19 : 0 ≤ (rd2 (rd38 x33 x35) 1)
                            · rw [if_pos hc19] at H
                              by_cases hc20 : (rd2 (rd38 x33 x35) 1) < (y206_2.length : Int)
                              · rw [if_pos hc20] at H
                                refine a_ixR (el := c60 (rd60 y206_2 (rd2 (rd38 x33 x35) 1))) ?_ ⟨hc19, hc20⟩ T61 Try.underlying29 (hel := R60 hc19 hc20)
                                refine a_ldR (v := .agg [_, _]) ?_ T61
                                obtain ⟨t21, e22, H⟩ := bindO H
                                refine a_call (v := vI t21) (nk := []) (L := []) ?_ rfl (impl_Distance.ok e22) id (qg (qg qn)) trivial trivial trivial rfl
                                refine a_move (v := vI _) ?_
                                refine a_move (v := vI _) ?_
                                obtain ⟨t23, e24, H⟩ := bindO H
                                refine a_call (v := .c (.own 208 t23.length)) (nk := [(208, .row 2 (t23.map c2))]) (L := []) ?_ rfl (impl_tabs.ok e24) (fun κ => cond (Nat.beq κ 208) 100 (κ)) (qd (qd (qd qn))) trivial ⟨rfl, trivial⟩ ⟨rfl, trivial⟩ rfl
                                refine a_lenO ?_ Try.underlying38
                                refine a_int (u := .int .i64 (wrap64 (x10 + (t23.length : Int)))) ?_
                                refine a_move (v := vI _) ?_
                                refine RA.nil (fun _ => by kernel_rfl) ?_
                                refine AG.region HM ?_
                                refine a_int (u := .int .i64 (wrap64 (x35 + 1))) ?_
                                refine a_move (v := vI _) ?_
                                refine RA.nil nofun ?_
                                exact AGr.canon id (ih0 _ (by omega) _ ⟨by omega, _, _, _, _, _, _, _, _, _, _, H, rfl⟩) ⟨rfl, rfl, rfl, rfl, rfl, rfl, rfl, trivial⟩ ⟨rfl, trivial⟩ rfl
                              · rw [if_neg hc20] at H
                                cases H
                            · rw [if_neg hc19] at H
                              cases H
                          · rw [if_neg hc18] at H
                            cases H
                        · rw [if_neg hc17] at H
                          cases H
                      · rw [if_neg hc16] at H
                        cases H
                    · rw [if_neg hc15] at H
                      cases H
                  · rw [if_neg hc14] at H
                    cases H
                · rw [if_neg hc13] at H
                  cases H
              · rw [if_neg hc12] at H
                refine AG.no rfl (decide_eq_false hc12) ?_
                refine AG.exit ?_
                refine AG.seq ?_
                refine AG.region HM ?_
                refine a_move (v := vI _) ?_
                refine a_move (v := vI _) ?_
                refine a_move (v := vI _) ?_
                refine RA.nil nofun ?_
                refine AG.ret ?_
                simp only [Option.some.injEq, Prod.mk.injEq] at H
                obtain ⟨rfl, rfl⟩ := H
                exact RetP.mk id ⟨rfl, rfl, trivial⟩ trivial rfl
          · rw [if_neg hc11] at H
            refine AG.yes rfl (bne_iff_ne.2 hc11) ?_
            refine AG.seq ?_
            refine AG.region HM ?_
            refine a_move (v := vI _) ?_
            refine a_move (v := vI _) ?_
            refine a_move (v := vI _) ?_
            refine RA.nil nofun ?_
            refine AG.ret ?_
            simp only [Option.some.injEq, Prod.mk.injEq] at H
            obtain ⟨rfl, rfl⟩ := H
            exact RetP.mk id ⟨rfl, rfl, trivial⟩ trivial rfl
/-! ### laws_FnExactTabsOf: function 4 -/
def laws_FnExactTabsOf.j0 : Nat → Int → Int → List S60 → List S91 → Int → Int → List S60 → List S91 → Bool → Option (Bool)
  | 0, _, _, _, _, _, _, _, _, _ => none
  | k + 1, y209_0, y209_1, y209_2, y209_3, y210_0, y210_1, y210_2, y210_3, x42 => if x42 = true then (some false) else ((laws_toDrawing.f k y209_0 y209_1 y209_2 y209_3).bind fun bt22 => ((laws_eqDrawing.f k y210_0 y210_1 y210_2 y210_3 bt22.1 bt22.2.1 bt22.2.2.1 bt22.2.2.2).bind fun t27 => (if t27 = true then (some true) else (some false))))
def laws_FnExactTabsOf.f (k : Nat) (a0_0 : Int) (a0_1 : Int) (l0_2 : List S60) (l0_3 : List S91) (a1 : Int) (a2 : Int) : Option (Bool) := (laws_szDrawing.f k a0_0 a0_1 l0_2 l0_3 1048576).bind fun t1 => (if t1 < 0 then (some true) else ((laws_toDrawing.f k a0_0 a0_1 l0_2 l0_3).bind fun bt4 => ((spec_TabsOf.f k bt4.1 bt4.2.1 bt4.2.2.1 bt4.2.2.2 a1 a2).bind fun bt9 => ((laws_toDrawing.f k a0_0 a0_1 l0_2 l0_3).bind fun bt12 => ((impl_TabsOf.f k bt12.1 bt12.2.1 bt12.2.2.1 bt12.2.2.2 a1 a2).bind fun bt17 => (if bt17.1 = bt9.1 then (laws_FnExactTabsOf.j0 k a0_0 a0_1 l0_2 l0_3 bt12.1 bt12.2.1 bt12.2.2.1 bt12.2.2.2 (bt17.2 != bt9.2)) else (laws_FnExactTabsOf.j0 k a0_0 a0_1 l0_2 l0_3 bt12.1 bt12.2.1 bt12.2.2.1 bt12.2.2.2 true)))))))
set_option maxRecDepth 100000 in
theorem laws_FnExactTabsOf.ok {k : Nat} {a0_0 : Int} {a0_1 : Int} {l0_2 : List S60} {l0_3 : List S91} {a1 : Int} {a2 : Int} {r : Bool} (H : laws_FnExactTabsOf.f k a0_0 a0_1 l0_2 l0_3 a1 a2 = some r) : OkF Try.prog 4 [.agg [.d (.v (.int .i64 a0_0)), .d (.v (.int .i64 a0_1)), .d (.row 95 (l0_2.map c60)), .d (.row 92 (l0_3.map c91))], vI a1, vI a2] [] (.c (.d (.v (.bool r)))) [] := by
  unfold laws_FnExactTabsOf.f at H
  refine OkF.of (N := 48) (rs := [6]) (avs := [.c (.d (.v (.bool r)))]) Try.func4 rfl rfl (fun _ _ => results_tmp rfl _ _ _) (by decide) rfl rfl rfl rfl (fun w0 S => ?_)
  refine AG.seq ?_
  refine AG.region HM ?_
  refine a_box 200 ?_
  refine a_move (v := vB _) ?_
  refine RA.nil nofun ?_
  refine AG.seq ?_
  refine AG.region HM ?_
  refine a_move (v := vI _) ?_
  refine RA.nil nofun ?_
  refine AG.seq ?_
  refine AG.region HM ?_
  refine a_ldB (v := .agg [_, _, _, _]) ?_ T25
  refine a_move (v := vI _) ?_
  obtain ⟨t1, e2, H⟩ := bindO H
  refine a_call (v := vI t1) (nk := []) (L := []) ?_ rfl (laws_szDrawing.ok e2) id (qg (qd qn)) trivial trivial trivial rfl
  refine a_move (v := vI _) ?_
  refine RA.nil nofun ?_
  refine AG.seq ?_
  refine AG.seq ?_
  refine AG.region HM ?_
  refine a_move (v := vI _) ?_
  refine a_int (u := .bool (decide (t1 < 0))) ?_
  refine RA.nil nofun ?_
  by_cases hc3 : t1 < 0
  · rw [if_pos hc3] at H
    refine AG.yes rfl (decide_eq_true hc3) ?_
    refine AG.seq ?_
    refine AG.region HM ?_
    refine a_move (v := vB _) ?_
    refine RA.nil nofun ?_
    refine AG.ret ?_
    obtain rfl := Option.some.inj H
    exact RetP.mk id ⟨rfl, trivial⟩ trivial rfl
  · rw [if_neg hc3] at H
    refine AG.no rfl (decide_eq_false hc3) ?_
    refine AG.skip ?_
    refine AG.seq ?_
    refine AG.region HM ?_
    refine a_ldB (v := .agg [_, _, _, _]) ?_ T25
    obtain ⟨⟨t4, t5, t6, t7⟩, e8, H⟩ := bindO H
    refine a_call (v := .agg [.d (.v (.int .i64 t4)), .d (.v (.int .i64 t5)), .own 202 t6.length, .own 203 t7.length]) (nk := [(202, .row 61 (t6.map c60)), (203, .row 96 (t7.map c91))]) (L := []) ?_ rfl (laws_toDrawing.ok e8) (fun κ => cond (Nat.beq κ 202) 100 (cond (Nat.beq κ 203) 101 (κ))) (qg qn) trivial ⟨rfl, rfl, trivial⟩ ⟨rfl, rfl, trivial⟩ rfl
    refine a_move (v := vI _) ?_
    refine a_move (v := vI _) ?_
    obtain ⟨⟨t9, t10⟩, e11, H⟩ := bindO H
    refine a_call (v := .tup [.c (.d (.v (.int .i64 t9))), .c (.d (.v (.int .i64 t10)))]) (nk := []) (L := [(202, _), (203, _)]) ?_ rfl (spec_TabsOf.ok e11) id (qm (eD (eD (eC rO (eC rO eN)))) (qd (qd qn))) ⟨rfl, rfl, trivial⟩ trivial trivial rfl
    refine a_move (v := .tup [_, _]) ?_
    refine a_ext (v := vI _) ?_
    refine a_ext (v := vI _) ?_
    refine a_move (v := vI _) ?_
    refine a_move (v := vI _) ?_
    refine RA.nil nofun ?_
    refine AG.seq ?_
    refine AG.freeze 203 ?_
    refine AG.region HM ?_
    refine a_ldB (v := .agg [_, _, _, _]) ?_ T25
    obtain ⟨⟨t12, t13, t14, t15⟩, e16, H⟩ := bindO H
    refine a_call (v := .agg [.d (.v (.int .i64 t12)), .d (.v (.int .i64 t13)), .own 205 t14.length, .own 206 t15.length]) (nk := [(205, .row 61 (t14.map c60)), (206, .row 96 (t15.map c91))]) (L := []) ?_ rfl (laws_toDrawing.ok e16) (fun κ => cond (Nat.beq κ 205) 100 (cond (Nat.beq κ 206) 101 (κ))) (qg qn) trivial ⟨rfl, rfl, trivial⟩ ⟨rfl, rfl, trivial⟩ rfl
    refine a_alloc (cs := [_, _, _, _]) 207 ?_ T32
    refine a_stB (cs' := [_, _, _, _]) ?_ T32
    refine RA.nil nofun ?_
    refine AG.seq ?_
    refine AG.freeze 206 ?_
    refine AG.region HM ?_
    refine a_ldB (v := .agg [_, _, _, _]) ?_ T32
    refine a_move (v := vI _) ?_
    refine a_move (v := vI _) ?_
    obtain ⟨⟨t17, t18⟩, e19, H⟩ := bindO H
    refine a_call (v := .tup [.c (.d (.v (.int .i64 t17))), .c (.d (.v (.int .i64 t18)))]) (nk := []) (L := [(205, _)]) ?_ rfl (impl_TabsOf.ok e19) id (qm (eD (eD (eC rO (eD eN)))) (qd (qd qn))) ⟨rfl, trivial⟩ trivial trivial rfl
    refine a_move (v := .tup [_, _]) ?_
    refine a_ext (v := vI _) ?_
    refine a_ext (v := vI _) ?_
    refine a_move (v := vI _) ?_
    refine a_move (v := vI _) ?_
    refine RA.nil nofun ?_
    refine AG.seq ?_
    refine AG.seq ?_
    refine AG.join (fun s => ∃ q, q ≤ k ∧ ∃ (y209_0 : Int) (y209_1 : Int) (y209_2 : List S60) (y209_3 : List S91) (y210_0 : Int) (y210_1 : Int) (y210_2 : List S60) (y210_3 : List S91) (x42 : Bool), laws_FnExactTabsOf.j0 q y209_0 y209_1 y209_2 y209_3 y210_0 y210_1 y210_2 y210_3 x42 = some r ∧ s = St.of [(3, .c (.ptr 209 0)), (10, .c (.ptr 210 0)), (42, vB x42)] [(209, .box 25 [.d (.v (.int .i64 y209_0)), .d (.v (.int .i64 y209_1)), .d (.row 95 (y209_2.map c60)), .d (.row 92 (y209_3.map c91))]), (210, .box 32 [.d (.v (.int .i64 y210_0)), .d (.v (.int .i64 y210_1)), .own 211 y210_2.length, .d (.row 96 (y210_3.map c91))]), (211, .row 61 (y210_2.map c60))]) ?_ ?_
    · skip
      refine AG.region HM ?_
      refine a_move (v := vI _) ?_
      refine a_move (v := vI _) ?_
      refine a_int (u := .bool ((t17 != t9))) ?_
      refine a_move (v := vB _) ?_
      by_cases hc20 : t17 = t9
      · rw [if_pos hc20] at H
        refine a_move (v := vI _) ?_ (hg := Gs.yes rfl rfl rfl (bne_eq_false_iff_eq.2 hc20))
        refine a_move (v := vI _) ?_ (hg := Gs.yes rfl rfl rfl (bne_eq_false_iff_eq.2 hc20))
        refine a_int (u := .bool ((t18 != t10))) ?_ (hg := Gs.yes rfl rfl rfl (bne_eq_false_iff_eq.2 hc20))
        refine a_pick (b := false) (v := vB _) ?_ (bne_eq_false_iff_eq.2 hc20)
        refine RA.nil nofun ?_
        exact Can.mk (fun κ => cond (Nat.beq κ 209) 200 (cond (Nat.beq κ 210) 207 (cond (Nat.beq κ 211) 205 (κ)))) ⟨_, (by omega), _, _, _, _, _, _, _, _, _, H, rfl⟩ ⟨rfl, rfl, rfl, trivial⟩ ⟨rfl, rfl, rfl, trivial⟩ rfl
      · rw [if_neg hc20] at H
        refine RA.skip rfl rfl rfl rfl rfl (bne_iff_ne.2 hc20) (by decide) ?_
        refine RA.skip rfl rfl rfl rfl rfl (bne_iff_ne.2 hc20) (by decide) ?_
        refine RA.skip rfl rfl rfl rfl rfl (bne_iff_ne.2 hc20) (by decide) ?_
        refine a_pick (b := true) (v := vB _) ?_ (bne_iff_ne.2 hc20)
        refine RA.nil nofun ?_
        exact Can.mk (fun κ => cond (Nat.beq κ 209) 200 (cond (Nat.beq κ 210) 207 (cond (Nat.beq κ 211) 205 (κ)))) ⟨_, (by omega), _, _, _, _, _, _, _, _, _, H, rfl⟩ ⟨rfl, rfl, rfl, trivial⟩ ⟨rfl, rfl, rfl, trivial⟩ rfl
    · clear H
      rintro _ ⟨k, hj0, y209_0, y209_1, y209_2, y209_3, y210_0, y210_1, y210_2, y210_3, x42, H, rfl⟩
      cases k with
      | zero => cases H
      | succ k =>
        rw [laws_FnExactTabsOf.j0] at H
        by_cases hc21 : x42 = true
        · rw [if_pos hc21] at H
          refine AG.yes rfl hc21 ?_
          refine AG.seq ?_
          refine AG.region HM ?_
          refine a_move (v := vB _) ?_
          refine RA.nil nofun ?_
          refine AG.ret ?_
          obtain rfl := Option.some.inj H
          exact RetP.mk id ⟨rfl, trivial⟩ trivial rfl
        · rw [if_neg hc21] at H
          refine AG.no rfl (Bool.eq_false_iff.2 hc21) ?_
          refine AG.skip ?_
          refine AG.seq ?_
          refine AG.seq ?_
          refine AG.region HM ?_
          refine a_ldB (v := .agg [_, _, _, _]) ?_ T32
          refine a_ldB (v := .agg [_, _, _, _]) ?_ T25
          obtain ⟨⟨t22, t23, t24, t25⟩, e26, H⟩ := bindO H
          refine a_call (v := .agg [.d (.v (.int .i64 t22)), .d (.v (.int .i64 t23)), .own 212 t24.length, .own 213 t25.length]) (nk := [(212, .row 61 (t24.map c60)), (213, .row 96 (t25.map c91))]) (L := []) ?_ rfl (laws_toDrawing.ok e26) (fun κ => cond (Nat.beq κ 212) 100 (cond (Nat.beq κ 213) 101 (κ))) (qg qn) trivial ⟨rfl, rfl, trivial⟩ ⟨rfl, rfl, trivial⟩ rfl
          obtain ⟨t27, e28, H⟩ := bindO H
          refine a_call (v := vB t27) (nk := []) (L := [(211, _), (212, _), (213, _)]) ?_ rfl (laws_eqDrawing.ok e28) id (qm (eD (eD (eC rO (eD eN)))) (qm (eD (eD (eC rO (eC rO eN)))) qn)) ⟨rfl, rfl, rfl, trivial⟩ trivial trivial rfl
          refine a_un (u := .bool (!t27)) ?_
          refine RA.nil (fun _ => by kernel_rfl) ?_
          by_cases hc29 : t27 = true
          · rw [if_pos hc29] at H
            refine AG.no rfl (congrArg Bool.not hc29) ?_
            refine AG.skip ?_
            refine AG.seq ?_
            refine AG.freeze 213 ?_
            refine AG.region HM ?_
            refine a_move (v := vB _) ?_
            refine RA.nil nofun ?_
            refine AG.ret ?_
            obtain rfl := Option.some.inj H
            exact RetP.mk id ⟨rfl, trivial⟩ trivial rfl
          · rw [if_neg hc29] at H
            refine AG.yes rfl (congrArg Bool.not (Bool.eq_false_iff.2 hc29)) ?_
            refine AG.seq ?_
            refine AG.freeze 213 ?_
            refine AG.region HM ?_
            refine a_move (v := vB _) ?_
            refine RA.nil nofun ?_
            refine AG.ret ?_
            obtain rfl := Option.some.inj H
            exact RetP.mk id ⟨rfl, trivial⟩ trivial rfl
def B60 (x : S60) : Prop := (Lit.int .i64 x.f0).wf = true ∧ (Lit.int .i64 x.f1).wf = true
def B91 (x : S91) : Prop := x.f0.size ≤ maxLen ∧ (x.f1.length ≤ maxLen ∧ ∀ x_ ∈ x.f1, (Lit.int .i64 x_).wf = true)
def B24 (x : S24) : Prop := (Lit.int .i64 x.f0).wf = true ∧ (Lit.int .i64 x.f1).wf = true ∧ (x.f2.length ≤ maxLen ∧ ∀ x_ ∈ x.f2, B60 x_) ∧ (x.f3.length ≤ maxLen ∧ ∀ x_ ∈ x.f3, B91 x_)
/-- The one plain statement of laws_FnExactTabsOf. -/
def laws_FnExactTabsOf.Pure : Prop := ∀ (a0_0 : Int) (a0_1 : Int) (l0_2 : List S60) (l0_3 : List S91) (a1 : Int) (a2 : Int), B24 (⟨a0_0, a0_1, l0_2, l0_3⟩ : S24) → (Lit.int .i64 a1).wf = true → (Lit.int .i64 a2).wf = true → ∃ k, laws_FnExactTabsOf.f k a0_0 a0_1 l0_2 l0_3 a1 a2 = some true
end Go.Proofs.Ytanbgmnhbncapaa.PFnExactTabsOf

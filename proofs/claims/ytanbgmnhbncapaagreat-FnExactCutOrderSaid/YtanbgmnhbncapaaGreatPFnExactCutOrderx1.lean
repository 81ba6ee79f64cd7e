/- What each function that the law FnExactCutOrder reaches comes to, and the proof that its walk comes to it; laid by a program of this session. No condition. -/
import Derived.Test.YtanbgmnhbncapaaGreatPFnExactCutOrderx0
import Derived.KernelRfl
import Derived.OwnWalk
import Derived.Test.YtanbgmnhbncapaaGreatProg
set_option linter.unusedVariables false
set_option linter.unusedSimpArgs false
namespace Go.Proofs.YtanbgmnhbncapaaGreat.PFnExactCutOrder
open Go Go.RowKit Go.Proofs.YtanbgmnhbncapaaGreatM Go.Proofs Go.Proofs.YtanbgmnhbncapaaGreat.SortP
/-! ### spec_l05Near: function 78 -/
mutual
def spec_l05Near.l0 : Nat → List S72 → Int → List Int → List Int → Int → Option ((List Int))
 | 0, _, _, _, _, _ => none
 | k + 1, x0_3, x1, x5, x6, x7 => if x7 < (x0_3.length : Int) then (spec_l05Near.l1 k x0_3 x1 x5 x6 x7 false 0) else (some x5)
def spec_l05Near.l1 : Nat → List S72 → Int → List Int → List Int → Int → Bool → Int → Option ((List Int))
 | 0, _, _, _, _, _, _, _ => none
 | k + 1, x0_3, x1, x5, x6, x7, x8, x9 => if x9 < (x6.length : Int) then (if x8 = true then (spec_l05Near.l1 k x0_3 x1 x5 x6 x7 true (wrap64 (x9 + 1))) else (if 0 ≤ x7 then (if x7 < (x0_3.length : Int) then (if 0 ≤ x9 then (if (x6.length : Int) = 0 then (none) else (if 0 ≤ (Int.tmod (wrap64 (x9 + 1)) (x6.length : Int)) then (if (Int.tmod (wrap64 (x9 + 1)) (x6.length : Int)) < (x6.length : Int) then ((spec_l05HasEdge.f k ((rd72 x0_3 x7).f1) (rd2 x6 x9) (rd2 x6 (Int.tmod (wrap64 (x9 + 1)) (x6.length : Int)))).bind fun t13 => (spec_l05Near.l1 k x0_3 x1 x5 x6 x7 t13 (wrap64 (x9 + 1)))) else (none)) else (none))) else (none)) else (none)) else (none))) else (if x7 = x1 then (spec_l05Near.l0 k x0_3 x1 x5 x6 (wrap64 (x7 + 1))) else (if x8 = true then (if x5.length < 17592186044416 then (spec_l05Near.l0 k x0_3 x1 (x5 ++ [x7]) x6 (wrap64 (x7 + 1))) else (none)) else (spec_l05Near.l0 k x0_3 x1 x5 x6 (wrap64 (x7 + 1)))))
end
def spec_l05Near.f (k : Nat) (a0_0 : Int) (a0_1 : Int) (l0_2 : List S50) (l0_3 : List S72) (a1 : Int) : Option ((List Int)) := if 0 ≤ a1 then (if a1 < (l0_3.length : Int) then (spec_l05Near.l0 k l0_3 a1 (([] : List Int) : List Int) ((rd72 l0_3 a1).f1) 0) else (none)) else (none)
set_option maxRecDepth 100000 in
theorem spec_l05Near.ok {k : Nat} {a0_0 : Int} {a0_1 : Int} {l0_2 : List S50} {l0_3 : List S72} {a1 : Int} {r : List Int} (H : spec_l05Near.f k a0_0 a0_1 l0_2 l0_3 a1 = some r) : OkF Tryz.prog 78 [.c (.d (.ro [.v (.int .i64 a0_0), .v (.int .i64 a0_1), .row 51 (l0_2.map c50), .row 76 (l0_3.map c72)])), vI a1] [] (.c (.own 100 r.length)) [(100, .row 2 (r.map c2))] := by
 unfold spec_l05Near.f at H
 refine OkF.of (N := 69) (rs := [4]) (avs := [.c (.own 100 r.length)]) Tryz.func78 rfl rfl (fun _ _ => results_tmp rfl _ _ _) (by decide) rfl rfl rfl rfl (fun w0 S => ?_)
 refine AG.seq ?_
 refine AG.region HM ?_
 refine a_nilO (e := 2) 200 ?_ T2
 refine RA.nil nofun ?_
 refine AG.seq ?_
 refine AG.region HM ?_
 refine a_lit (cs := []) (D := []) (css := (([] : List Int) : List Int).map c2) 201 ?_ N27 T2 (hcss := by rfl)
 refine a_move (v := .c (.own _ _)) ?_
 refine RA.nil nofun ?_
 refine AG.seq ?_
 refine AG.region HM ?_
 refine a_move (v := vO [_, _, _, _]) ?_
 refine a_nil (v := vO [_, _, _, _]) ?_
 refine a_faR (cells' := [_]) ?_ D33_3
 refine a_ldR (v := vR _ _) ?_ T31
 refine a_move (v := vI _) ?_
 by_cases hc2 : 0 ≤ a1
 ·rw [if_pos hc2] at H
  by_cases hc3 : a1 < (l0_3.length : Int)
  ·rw [if_pos hc3] at H
   refine a_ixR (el := c72 (rd72 l0_3 a1)) ?_ ⟨hc2, hc3⟩ T76 Tryz.underlying31 (hel := R72 hc2 hc3)
   refine a_faR (cells' := [_]) ?_ D76_1
   refine a_ldR (v := vR _ _) ?_ T27
   refine a_move (v := vR _ _) ?_
   refine RA.nil nofun ?_
   refine AG.seq ?_
   refine AG.seq ?_
   refine AG.region HM ?_
   refine a_move (v := vI _) ?_
   refine RA.nil nofun ?_
   refine AG.block ?_
   refine AG.loop ?_
   obtain ⟨K0, hK0, gK0⟩ : ∃ K, k ≤ K ∧ K ≤ k := ⟨k, Nat.le_refl k, Nat.le_refl k⟩
   refine AGr.canon (fun κ => cond (Nat.beq κ 202) 201 (κ)) (AGr.loopI (n := k) (fun k s => k ≤ K0 ∧ ∃ (x0_0 : Int) (x0_1 : Int) (x0_2 : List S50) (x0_3 : List S72) (x1 : Int) (x5 : List Int) (x6 : List Int) (x7 : Int), spec_l05Near.l0 k x0_3 x1 x5 x6 x7 = some r ∧ s = St.of [(0, .c (.d (.ro [.v (.int .i64 x0_0), .v (.int .i64 x0_1), .row 51 (x0_2.map c50), .row 76 (x0_3.map c72)]))), (1, vI x1), (5, .c (.own 202 x5.length)), (6, vR 2 (x6.map c2)), (7, vI x7)] [(202, .row 2 (x5.map c2))]) ⟨hK0, _, _, _, _, _, _, _, _, H, rfl⟩ ?_ ?_) ⟨rfl, rfl, (ownE rfl (by simp)), rfl, rfl, trivial⟩ ⟨rfl, trivial⟩ rfl
   ·rintro _ ⟨_, _, _, _, _, _, _, _, _, H, _⟩
    cases H
   ·clear H hK0
    rintro k ih0 _ ⟨hK0, x0_0, x0_1, x0_2, x0_3, x1, x5, x6, x7, H, rfl⟩
    unfold spec_l05Near.l0 at H
    refine AG.seq ?_
    refine AG.seq ?_
    refine AG.region HM ?_
    refine a_move (v := vI _) ?_
    refine a_move (v := vO [_, _, _, _]) ?_
    refine a_nil (v := vO [_, _, _, _]) ?_
    refine a_faR (cells' := [_]) ?_ D33_3
    refine a_ldR (v := vR _ _) ?_ T31
    refine a_lenR ?_ Tryz.underlying31
    refine a_int (u := .bool (decide (x7 < (x0_3.length : Int)))) ?_
    refine RA.nil nofun ?_
    by_cases hc4 : x7 < (x0_3.length : Int)
    ·rw [if_pos hc4] at H
     refine AG.yes rfl (decide_eq_true hc4) ?_
     refine AG.skip ?_
     refine AG.seq ?_
     refine AG.block ?_
     refine AG.seq ?_
     refine AG.region HM ?_
     refine a_move (v := vB _) ?_
     refine RA.nil nofun ?_
     refine AG.seq ?_
     refine AG.seq ?_
     refine AG.region HM ?_
     refine a_move (v := vI _) ?_
     refine RA.nil nofun ?_
     refine AG.block ?_
     refine AG.loop ?_
     obtain ⟨K1, hK1, gK1⟩ : ∃ K, k ≤ K ∧ K ≤ k := ⟨k, Nat.le_refl k, Nat.le_refl k⟩
     refine AGr.canon (fun κ => cond (Nat.beq κ 203) 202 (κ)) (AGr.loopI (n := k) (fun k s => k ≤ K1 ∧ ∃ (x0_0 : Int) (x0_1 : Int) (x0_2 : List S50) (x0_3 : List S72) (x1 : Int) (x5 : List Int) (x6 : List Int) (x7 : Int) (x8 : Bool) (x9 : Int), spec_l05Near.l1 k x0_3 x1 x5 x6 x7 x8 x9 = some r ∧ s = St.of [(0, .c (.d (.ro [.v (.int .i64 x0_0), .v (.int .i64 x0_1), .row 51 (x0_2.map c50), .row 76 (x0_3.map c72)]))), (1, vI x1), (5, .c (.own 203 x5.length)), (6, vR 2 (x6.map c2)), (7, vI x7), (8, vB x8), (9, vI x9)] [(203, .row 2 (x5.map c2))]) ⟨hK1, _, _, _, _, _, _, _, _, _, _, H, rfl⟩ ?_ ?_) ⟨rfl, rfl, rfl, rfl, rfl, rfl, rfl, trivial⟩ ⟨rfl, trivial⟩ rfl
     ·rintro _ ⟨_, _, _, _, _, _, _, _, _, _, _, H, _⟩
      cases H
     ·clear H hK1
      rintro k ih1 _ ⟨hK1, x0_0, x0_1, x0_2, x0_3, x1, x5, x6, x7, x8, x9, H, rfl⟩
      unfold spec_l05Near.l1 at H
      refine AG.seq ?_
      refine AG.seq ?_
      refine AG.region HM ?_
      refine a_move (v := vI _) ?_
      refine a_move (v := vR _ _) ?_
      refine a_lenR ?_ Tryz.underlying27
      refine a_int (u := .bool (decide (x9 < (x6.length : Int)))) ?_
      refine RA.nil nofun ?_
      by_cases hc5 : x9 < (x6.length : Int)
      ·rw [if_pos hc5] at H
       refine AG.yes rfl (decide_eq_true hc5) ?_
       refine AG.skip ?_
       refine AG.seq ?_
       refine AG.block ?_
       refine AG.region HM ?_
       refine a_move (v := vB _) ?_
       refine a_move (v := vB _) ?_
       by_cases hc6 : x8 = true
       ·rw [if_pos hc6] at H
        refine RA.skip rfl rfl rfl rfl rfl hc6 (by decide) ?_
        refine RA.skip rfl rfl rfl rfl rfl hc6 (by decide) ?_
        refine RA.skip rfl rfl rfl rfl rfl hc6 (by decide) ?_
        refine RA.skip rfl rfl rfl rfl rfl hc6 (by decide) ?_
        refine RA.skip rfl rfl rfl rfl rfl hc6 (by decide) ?_
        refine RA.skip rfl rfl rfl rfl rfl hc6 (by decide) ?_
        refine RA.skip rfl rfl rfl rfl rfl hc6 (by decide) ?_
        refine RA.skip rfl rfl rfl rfl rfl hc6 (by decide) ?_
        refine RA.skip rfl rfl rfl rfl rfl hc6 (by decide) ?_
        refine RA.skip rfl rfl rfl rfl rfl hc6 (by decide) ?_
        refine RA.skip rfl rfl rfl rfl rfl hc6 (by decide) ?_
        refine RA.skip rfl rfl rfl rfl rfl hc6 (by decide) ?_
        refine RA.skip rfl rfl rfl rfl rfl hc6 (by decide) ?_
        refine RA.skip rfl rfl rfl rfl rfl hc6 (by decide) ?_
        refine RA.skip rfl rfl rfl rfl rfl hc6 (by decide) ?_
        refine RA.skip rfl rfl rfl rfl rfl hc6 (by decide) ?_
        refine RA.skip rfl rfl rfl rfl rfl hc6 (by decide) ?_
        refine RA.skip rfl rfl rfl rfl rfl hc6 (by decide) ?_
        refine RA.skip rfl rfl rfl rfl rfl hc6 (by decide) ?_
        refine RA.skip rfl rfl rfl rfl rfl hc6 (by decide) ?_
        refine RA.skip rfl rfl rfl rfl rfl hc6 (by decide) ?_
        refine a_pick (b := true) (v := vB _) ?_ hc6
        refine a_move (v := vB _) ?_
        refine RA.nil (fun _ => by kernel_rfl) ?_
        refine AG.region HM ?_
        refine a_move (v := vI _) ?_
        refine a_int (u := .int .i64 (wrap64 (x9 + 1))) ?_
        refine a_move (v := vI _) ?_
        refine RA.nil nofun ?_
        exact AGr.canon id (ih1 _ (by omega) _ ⟨by omega, _, _, _, _, _, _, _, _, _, _, H, rfl⟩) ⟨rfl, rfl, rfl, rfl, rfl, rfl, rfl, trivial⟩ ⟨rfl, trivial⟩ rfl
       ·rw [if_neg hc6] at H
        refine a_move (v := vO [_, _, _, _]) ?_ (hg := Gs.yes rfl rfl rfl (Bool.eq_false_iff.2 hc6))
        refine a_nil (v := vO [_, _, _, _]) ?_ (hg := Gs.yes rfl rfl rfl (Bool.eq_false_iff.2 hc6))
        refine a_faR (cells' := [_]) ?_ D33_3 (hg := Gs.yes rfl rfl rfl (Bool.eq_false_iff.2 hc6))
        refine a_ldR (v := vR _ _) ?_ T31 (hg := Gs.yes rfl rfl rfl (Bool.eq_false_iff.2 hc6))
        refine a_move (v := vI _) ?_ (hg := Gs.yes rfl rfl rfl (Bool.eq_false_iff.2 hc6))
        by_cases hc7 : 0 ≤ x7
        ·rw [if_pos hc7] at H
         by_cases hc8 : x7 < (x0_3.length : Int)
         ·rw [if_pos hc8] at H
          refine a_ixR (el := c72 (rd72 x0_3 x7)) ?_ ⟨hc7, hc8⟩ T76 Tryz.underlying31 (hel := R72 hc7 hc8) (hg := Gs.yes rfl rfl rfl (Bool.eq_false_iff.2 hc6))
          refine a_faR (cells' := [_]) ?_ D76_1 (hg := Gs.yes rfl rfl rfl (Bool.eq_false_iff.2 hc6))
          refine a_ldR (v := vR _ _) ?_ T27 (hg := Gs.yes rfl rfl rfl (Bool.eq_false_iff.2 hc6))
          refine a_move (v := vR _ _) ?_ (hg := Gs.yes rfl rfl rfl (Bool.eq_false_iff.2 hc6))
          refine a_move (v := vI _) ?_ (hg := Gs.yes rfl rfl rfl (Bool.eq_false_iff.2 hc6))
          by_cases hc9 : 0 ≤ x9
          ·rw [if_pos hc9] at H
           refine a_ixR (el := c2 (rd2 x6 x9)) ?_ ⟨hc9, hc5⟩ T2 Tryz.underlying27 (hel := R2 hc9 hc5) (hg := Gs.yes rfl rfl rfl (Bool.eq_false_iff.2 hc6))
           refine a_ldR (v := vI _) ?_ T2 (hg := Gs.yes rfl rfl rfl (Bool.eq_false_iff.2 hc6))
           refine a_move (v := vR _ _) ?_ (hg := Gs.yes rfl rfl rfl (Bool.eq_false_iff.2 hc6))
           refine a_move (v := vI _) ?_ (hg := Gs.yes rfl rfl rfl (Bool.eq_false_iff.2 hc6))
           refine a_int (u := .int .i64 (wrap64 (x9 + 1))) ?_ (hg := Gs.yes rfl rfl rfl (Bool.eq_false_iff.2 hc6))
           refine a_move (v := vR _ _) ?_ (hg := Gs.yes rfl rfl rfl (Bool.eq_false_iff.2 hc6))
           refine a_lenR ?_ Tryz.underlying27 (hg := Gs.yes rfl rfl rfl (Bool.eq_false_iff.2 hc6))
           by_cases hc10 : (x6.length : Int) = 0
           ·rw [if_pos hc10] at H
            cases H
           ·rw [if_neg hc10] at H
            refine a_rem (r := Int.tmod (wrap64 (x9 + 1)) (x6.length : Int)) ?_ hc10 (hg := Gs.yes rfl rfl rfl (Bool.eq_false_iff.2 hc6))
            by_cases hc11 : 0 ≤ (Int.tmod (wrap64 (x9 + 1)) (x6.length : Int))
            ·rw [if_pos hc11] at H
             by_cases hc12 : (Int.tmod (wrap64 (x9 + 1)) (x6.length : Int)) < (x6.length : Int)
             ·rw [if_pos hc12] at H
              refine a_ixR (el := c2 (rd2 x6 (Int.tmod (wrap64 (x9 + 1)) (x6.length : Int)))) ?_ ⟨hc11, hc12⟩ T2 Tryz.underlying27 (hel := R2 hc11 hc12) (hg := Gs.yes rfl rfl rfl (Bool.eq_false_iff.2 hc6))
              refine a_ldR (v := vI _) ?_ T2 (hg := Gs.yes rfl rfl rfl (Bool.eq_false_iff.2 hc6))
              obtain ⟨t13, e14, H⟩ := bindO H
              refine a_call (v := vB t13) (nk := []) (L := []) ?_ rfl (spec_l05HasEdge.ok e14) id (qd (qd (qd qn))) trivial trivial trivial rfl (hg := Gs.yes rfl rfl rfl (Bool.eq_false_iff.2 hc6))
              refine a_pick (b := false) (v := vB _) ?_ (Bool.eq_false_iff.2 hc6)
              refine a_move (v := vB _) ?_
              refine RA.nil (fun _ => by kernel_rfl) ?_
              refine AG.region HM ?_
              refine a_move (v := vI _) ?_
              refine a_int (u := .int .i64 (wrap64 (x9 + 1))) ?_
              refine a_move (v := vI _) ?_
              refine RA.nil nofun ?_
              exact AGr.canon id (ih1 _ (by omega) _ ⟨by omega, _, _, _, _, _, _, _, _, _, _, H, rfl⟩) ⟨rfl, rfl, rfl, rfl, rfl, rfl, rfl, trivial⟩ ⟨rfl, trivial⟩ rfl
             ·rw [if_neg hc12] at H
              cases H
            ·rw [if_neg hc11] at H
             cases H
          ·rw [if_neg hc9] at H
           cases H
         ·rw [if_neg hc8] at H
          cases H
        ·rw [if_neg hc7] at H
         cases H
      ·rw [if_neg hc5] at H
       refine AG.no rfl (decide_eq_false hc5) ?_
       refine AG.exit ?_
       refine AG.seq ?_
       refine AG.region HM ?_
       refine a_move (v := vI _) ?_
       refine a_move (v := vI _) ?_
       refine a_int (u := .bool ((x7 != x1))) ?_
       refine a_move (v := vB _) ?_
       by_cases hc15 : x7 = x1
       ·rw [if_pos hc15] at H
        refine RA.skip rfl rfl rfl rfl rfl (bne_eq_false_iff_eq.2 hc15) (by decide) ?_
        refine a_pick (b := false) (v := vB _) ?_ (bne_eq_false_iff_eq.2 hc15)
        refine RA.nil nofun ?_
        refine AG.no rfl rfl ?_
        refine AG.skip ?_
        refine AG.region HM ?_
        refine a_move (v := vI _) ?_
        refine a_int (u := .int .i64 (wrap64 (x7 + 1))) ?_
        refine a_move (v := vI _) ?_
        refine RA.nil nofun ?_
        exact AGr.canon (fun κ => cond (Nat.beq κ 202) 203 (κ)) (ih0 _ (by omega) _ ⟨by omega, _, _, _, _, _, _, _, _, H, rfl⟩) ⟨rfl, rfl, rfl, rfl, rfl, trivial⟩ ⟨rfl, trivial⟩ rfl
       ·rw [if_neg hc15] at H
        refine a_move (v := vB _) ?_ (hg := Gs.yes rfl rfl rfl (bne_iff_ne.2 hc15))
        refine a_pick (b := true) (v := vB _) ?_ (bne_iff_ne.2 hc15)
        refine RA.nil nofun ?_
        by_cases hc16 : x8 = true
        ·rw [if_pos hc16] at H
         refine AG.yes rfl hc16 ?_
         refine AG.region HM ?_
         refine a_move (v := .c (.own _ _)) ?_
         refine a_move (v := vI _) ?_
         refine a_lit (cs := [_]) (D := []) (css := ([x7]).map c2) 205 ?_ N27 T2
         by_cases hc17 : x5.length < 17592186044416
         ·rw [if_pos hc17] at H
          refine a_appO (css' := (x5 ++ [x7]).map c2) (n' := (x5 ++ [x7]).length) ?_ T2 (by simp [maxLen]; omega) (by simp; omega) Tryz.underlying27 (hc := by exact List.map_append.symm) (hn := by exact List.length_map _)
          refine a_move (v := .c (.own _ _)) ?_
          refine RA.nil nofun ?_
          refine AG.region HM ?_
          refine a_move (v := vI _) ?_
          refine a_int (u := .int .i64 (wrap64 (x7 + 1))) ?_
          refine a_move (v := vI _) ?_
          refine RA.nil nofun ?_
          exact AGr.canon (fun κ => cond (Nat.beq κ 202) 203 (κ)) (ih0 _ (by omega) _ ⟨by omega, _, _, _, _, _, _, _, _, H, rfl⟩) ⟨rfl, rfl, rfl, rfl, rfl, trivial⟩ ⟨rfl, trivial⟩ rfl
         ·rw [if_neg hc17] at H
          cases H
        ·rw [if_neg hc16] at H
         refine AG.no rfl (Bool.eq_false_iff.2 hc16) ?_
         refine AG.skip ?_
         refine AG.region HM ?_
         refine a_move (v := vI _) ?_
         refine a_int (u := .int .i64 (wrap64 (x7 + 1))) ?_
         refine a_move (v := vI _) ?_
         refine RA.nil nofun ?_
         exact AGr.canon (fun κ => cond (Nat.beq κ 202) 203 (κ)) (ih0 _ (by omega) _ ⟨by omega, _, _, _, _, _, _, _, _, H, rfl⟩) ⟨rfl, rfl, rfl, rfl, rfl, trivial⟩ ⟨rfl, trivial⟩ rfl
    ·rw [if_neg hc4] at H
     refine AG.no rfl (decide_eq_false hc4) ?_
     refine AG.exit ?_
     refine AG.seq ?_
     refine AG.region HM ?_
     refine a_move (v := .c (.own _ _)) ?_
     refine a_move (v := .c (.own _ _)) ?_
     refine RA.nil nofun ?_
     refine AG.ret ?_
     obtain rfl := Option.some.inj H
     exact RetP.mk (fun κ => cond (Nat.beq κ 100) 202 (κ)) ⟨rfl, trivial⟩ ⟨rfl, trivial⟩ rfl
  ·rw [if_neg hc3] at H
   cases H
 ·rw [if_neg hc2] at H
  cases H
/-! ### spec_l14Faces: function 46 -/
mutual
def spec_l14Faces.l0 : Nat → Int → Int → List S50 → List S72 → List (List Int) → List Int → Int → Option ((List Int))
 | 0, _, _, _, _, _, _, _ => none
 | k + 1, x0_0, x0_1, x0_2, x0_3, x1, x5, x6 => if x6 < (x0_3.length : Int) then (if x5.length < 17592186044416 then (spec_l14Faces.l0 k x0_0 x0_1 x0_2 x0_3 x1 (x5 ++ [24]) (wrap64 (x6 + 1))) else (none)) else (spec_l14Faces.l1 k x0_0 x0_1 x0_2 x0_3 x1 x5 0)
def spec_l14Faces.l1 : Nat → Int → Int → List S50 → List S72 → List (List Int) → List Int → Int → Option ((List Int))
 | 0, _, _, _, _, _, _, _ => none
 | k + 1, x0_0, x0_1, x0_2, x0_3, x1, x5, x7 => if x7 < (x1.length : Int) then (if 0 ≤ x7 then (if 0 < ((rd27 x1 x7).length : Int) then (if 1 < ((rd27 x1 x7).length : Int) then ((spec_l05OnEdge.f k x0_0 x0_1 x0_2 x0_3 (rd2 (rd27 x1 x7) 0) (rd2 (rd27 x1 x7) 1)).bind fun t9 => (if (t9.length : Int) = 1 then (if 0 < (t9.length : Int) then (if 0 ≤ (rd2 t9 0) then (if (rd2 t9 0) < (x5.length : Int) then (spec_l14Faces.l1 k x0_0 x0_1 x0_2 x0_3 x1 (x5.set ((rd2 t9 0) : Int).toNat 0) (wrap64 (x7 + 1))) else (none)) else (none)) else (none)) else (spec_l14Faces.l1 k x0_0 x0_1 x0_2 x0_3 x1 x5 (wrap64 (x7 + 1))))) else (none)) else (none)) else (none)) else (spec_l14Faces.l2 k x0_0 x0_1 x0_2 x0_3 x5 0)
def spec_l14Faces.l2 : Nat → Int → Int → List S50 → List S72 → List Int → Int → Option ((List Int))
 | 0, _, _, _, _, _, _ => none
 | k + 1, x0_0, x0_1, x0_2, x0_3, x5, x9 => if x9 < (x5.length : Int) then (spec_l14Faces.l3 k x0_0 x0_1 x0_2 x0_3 x5 x9 0) else (some x5)
def spec_l14Faces.l3 : Nat → Int → Int → List S50 → List S72 → List Int → Int → Int → Option ((List Int))
 | 0, _, _, _, _, _, _, _ => none
 | k + 1, x0_0, x0_1, x0_2, x0_3, x5, x9, x10 => if x10 < (x5.length : Int) then ((spec_l05Near.f k x0_0 x0_1 x0_2 x0_3 x10).bind fun t18 => (spec_l14Faces.l4 k x0_0 x0_1 x0_2 x0_3 x5 x9 x10 t18 0)) else (spec_l14Faces.l2 k x0_0 x0_1 x0_2 x0_3 x5 (wrap64 (x9 + 1)))
def spec_l14Faces.l4 : Nat → Int → Int → List S50 → List S72 → List Int → Int → Int → List Int → Int → Option ((List Int))
 | 0, _, _, _, _, _, _, _, _, _ => none
 | k + 1, x0_0, x0_1, x0_2, x0_3, x5, x9, x10, x11, x12 => if x12 < (x11.length : Int) then (if 0 ≤ x10 then (if x10 < (x5.length : Int) then (if 0 ≤ x12 then (if 0 ≤ (rd2 x11 x12) then (if (rd2 x11 x12) < (x5.length : Int) then ((spec_l00Min.f (rd2 x5 x10) (wrap64 ((rd2 x5 (rd2 x11 x12)) + 1))).bind fun t26 => (spec_l14Faces.l4 k x0_0 x0_1 x0_2 x0_3 (x5.set (x10 : Int).toNat t26) x9 x10 x11 (wrap64 (x12 + 1)))) else (none)) else (none)) else (none)) else (none)) else (none)) else (spec_l14Faces.l3 k x0_0 x0_1 x0_2 x0_3 x5 x9 (wrap64 (x10 + 1)))
end
def spec_l14Faces.f (k : Nat) (a0_0 : Int) (a0_1 : Int) (l0_2 : List S50) (l0_3 : List S72) (l1 : List (List Int)) : Option ((List Int)) := spec_l14Faces.l0 k a0_0 a0_1 l0_2 l0_3 l1 (([] : List Int) : List Int) 0
set_option maxRecDepth 100000 in
theorem spec_l14Faces.ok {k : Nat} {a0_0 : Int} {a0_1 : Int} {l0_2 : List S50} {l0_3 : List S72} {l1 : List (List Int)} {r : List Int} (H : spec_l14Faces.f k a0_0 a0_1 l0_2 l0_3 l1 = some r) : OkF Tryz.prog 46 [.c (.d (.ro [.v (.int .i64 a0_0), .v (.int .i64 a0_1), .row 51 (l0_2.map c50), .row 76 (l0_3.map c72)])), vR 27 (l1.map c27)] [] (.c (.own 100 r.length)) [(100, .row 2 (r.map c2))] := by
 unfold spec_l14Faces.f at H
 refine OkF.of (N := 92) (rs := [4]) (avs := [.c (.own 100 r.length)]) Tryz.func46 rfl rfl (fun _ _ => results_tmp rfl _ _ _) (by decide) rfl rfl rfl rfl (fun w0 S => ?_)
 refine AG.seq ?_
 refine AG.region HM ?_
 refine a_nilO (e := 2) 200 ?_ T2
 refine RA.nil nofun ?_
 refine AG.seq ?_
 refine AG.region HM ?_
 refine a_lit (cs := []) (D := []) (css := (([] : List Int) : List Int).map c2) 201 ?_ N27 T2 (hcss := by rfl)
 refine a_move (v := .c (.own _ _)) ?_
 refine RA.nil nofun ?_
 refine AG.seq ?_
 refine AG.seq ?_
 refine AG.region HM ?_
 refine a_move (v := vI _) ?_
 refine RA.nil nofun ?_
 refine AG.block ?_
 refine AG.loop ?_
 obtain ⟨K0, hK0, gK0⟩ : ∃ K, k ≤ K ∧ K ≤ k := ⟨k, Nat.le_refl k, Nat.le_refl k⟩
 refine AGr.canon (fun κ => cond (Nat.beq κ 202) 201 (κ)) (AGr.loopI (n := k) (fun k s => k ≤ K0 ∧ ∃ (x0_0 : Int) (x0_1 : Int) (x0_2 : List S50) (x0_3 : List S72) (x1 : List (List Int)) (x5 : List Int) (x6 : Int), spec_l14Faces.l0 k x0_0 x0_1 x0_2 x0_3 x1 x5 x6 = some r ∧ s = St.of [(0, .c (.d (.ro [.v (.int .i64 x0_0), .v (.int .i64 x0_1), .row 51 (x0_2.map c50), .row 76 (x0_3.map c72)]))), (1, vR 27 (x1.map c27)), (5, .c (.own 202 x5.length)), (6, vI x6)] [(202, .row 2 (x5.map c2))]) ⟨hK0, _, _, _, _, _, _, _, H, rfl⟩ ?_ ?_) ⟨rfl, rfl, (ownE rfl (by simp)), rfl, trivial⟩ ⟨rfl, trivial⟩ rfl
 ·rintro _ ⟨_, _, _, _, _, _, _, _, H, _⟩
  cases H
 ·clear H hK0
  rintro k ih0 _ ⟨hK0, x0_0, x0_1, x0_2, x0_3, x1, x5, x6, H, rfl⟩
  unfold spec_l14Faces.l0 at H
  refine AG.seq ?_
  refine AG.seq ?_
  refine AG.region HM ?_
  refine a_move (v := vI _) ?_
  refine a_move (v := vO [_, _, _, _]) ?_
  refine a_nil (v := vO [_, _, _, _]) ?_
  refine a_faR (cells' := [_]) ?_ D33_3
  refine a_ldR (v := vR _ _) ?_ T31
  refine a_lenR ?_ Tryz.underlying31
  refine a_int (u := .bool (decide (x6 < (x0_3.length : Int)))) ?_
  refine RA.nil nofun ?_
  by_cases hc2 : x6 < (x0_3.length : Int)
  ·rw [if_pos hc2] at H
   refine AG.yes rfl (decide_eq_true hc2) ?_
   refine AG.skip ?_
   refine AG.seq ?_
   refine AG.block ?_
   refine AG.region HM ?_
   refine a_move (v := .c (.own _ _)) ?_
   refine a_lit (cs := [_]) (D := []) (css := ([24]).map c2) 203 ?_ N27 T2
   by_cases hc3 : x5.length < 17592186044416
   ·rw [if_pos hc3] at H
    refine a_appO (css' := (x5 ++ [24]).map c2) (n' := (x5 ++ [24]).length) ?_ T2 (by simp [maxLen]; omega) (by simp; omega) Tryz.underlying27 (hc := by exact List.map_append.symm) (hn := by exact List.length_map _)
    refine a_move (v := .c (.own _ _)) ?_
    refine RA.nil nofun ?_
    refine AG.region HM ?_
    refine a_move (v := vI _) ?_
    refine a_int (u := .int .i64 (wrap64 (x6 + 1))) ?_
    refine a_move (v := vI _) ?_
    refine RA.nil nofun ?_
    exact AGr.canon id (ih0 _ (by omega) _ ⟨by omega, _, _, _, _, _, _, _, H, rfl⟩) ⟨rfl, rfl, rfl, rfl, trivial⟩ ⟨rfl, trivial⟩ rfl
   ·rw [if_neg hc3] at H
    cases H
  ·rw [if_neg hc2] at H
   refine AG.no rfl (decide_eq_false hc2) ?_
   refine AG.exit ?_
   refine AG.seq ?_
   refine AG.seq ?_
   refine AG.region HM ?_
   refine a_move (v := vI _) ?_
   refine RA.nil nofun ?_
   refine AG.block ?_
   refine AG.loop ?_
   obtain ⟨K1, hK1, gK1⟩ : ∃ K, k ≤ K ∧ K ≤ k := ⟨k, Nat.le_refl k, Nat.le_refl k⟩
   refine AGr.canon (fun κ => cond (Nat.beq κ 204) 202 (κ)) (AGr.loopI (n := k) (fun k s => k ≤ K1 ∧ ∃ (x0_0 : Int) (x0_1 : Int) (x0_2 : List S50) (x0_3 : List S72) (x1 : List (List Int)) (x5 : List Int) (x7 : Int), spec_l14Faces.l1 k x0_0 x0_1 x0_2 x0_3 x1 x5 x7 = some r ∧ s = St.of [(0, .c (.d (.ro [.v (.int .i64 x0_0), .v (.int .i64 x0_1), .row 51 (x0_2.map c50), .row 76 (x0_3.map c72)]))), (1, vR 27 (x1.map c27)), (5, .c (.own 204 x5.length)), (7, vI x7)] [(204, .row 2 (x5.map c2))]) ⟨hK1, _, _, _, _, _, _, _, H, rfl⟩ ?_ ?_) ⟨rfl, rfl, rfl, rfl, trivial⟩ ⟨rfl, trivial⟩ rfl
   ·rintro _ ⟨_, _, _, _, _, _, _, _, H, _⟩
    cases H
   ·clear H hK1
    rintro k ih1 _ ⟨hK1, x0_0, x0_1, x0_2, x0_3, x1, x5, x7, H, rfl⟩
    unfold spec_l14Faces.l1 at H
    refine AG.seq ?_
    refine AG.seq ?_
    refine AG.region HM ?_
    refine a_move (v := vI _) ?_
    refine a_move (v := vR _ _) ?_
    refine a_lenR ?_ Tryz.underlying46
    refine a_int (u := .bool (decide (x7 < (x1.length : Int)))) ?_
    refine RA.nil nofun ?_
    by_cases hc5 : x7 < (x1.length : Int)
    ·rw [if_pos hc5] at H
     refine AG.yes rfl (decide_eq_true hc5) ?_
     refine AG.skip ?_
     refine AG.seq ?_
     refine AG.block ?_
     refine AG.seq ?_
     refine AG.region HM ?_
     refine a_move (v := vO [_, _, _, _]) ?_
     refine a_move (v := vR _ _) ?_
     refine a_move (v := vI _) ?_
     by_cases hc6 : 0 ≤ x7
     ·rw [if_pos hc6] at H
      refine a_ixR (el := c27 (rd27 x1 x7)) ?_ ⟨hc6, hc5⟩ T27 Tryz.underlying46 (hel := R27 hc6 hc5)
      refine a_ldR (v := vR _ _) ?_ T27
      by_cases hc7 : 0 < ((rd27 x1 x7).length : Int)
      ·rw [if_pos hc7] at H
       refine a_ixR (el := c2 (rd2 (rd27 x1 x7) 0)) ?_ ⟨(by decide), hc7⟩ T2 Tryz.underlying27 (hel := R2 (by decide) hc7)
       refine a_ldR (v := vI _) ?_ T2
       refine a_move (v := vR _ _) ?_
       refine a_move (v := vI _) ?_
       refine a_ixR (el := c27 (rd27 x1 x7)) ?_ ⟨hc6, hc5⟩ T27 Tryz.underlying46 (hel := R27 hc6 hc5)
       refine a_ldR (v := vR _ _) ?_ T27
       by_cases hc8 : 1 < ((rd27 x1 x7).length : Int)
       ·rw [if_pos hc8] at H
        refine a_ixR (el := c2 (rd2 (rd27 x1 x7) 1)) ?_ ⟨(by decide), hc8⟩ T2 Tryz.underlying27 (hel := R2 (by decide) hc8)
        refine a_ldR (v := vI _) ?_ T2
        obtain ⟨t9, e10, H⟩ := bindO H
        refine a_call (v := .c (.own 205 t9.length)) (nk := [(205, .row 2 (t9.map c2))]) (L := []) ?_ rfl (spec_l05OnEdge.ok e10) (fun κ => cond (Nat.beq κ 205) 100 (κ)) (qd (qd (qd qn))) trivial ⟨rfl, trivial⟩ ⟨rfl, trivial⟩ rfl
        refine a_move (v := .c (.own _ _)) ?_
        refine RA.nil (fun _ => by kernel_rfl) ?_
        refine AG.seq ?_
        refine AG.region HM ?_
        refine a_move (v := .c (.own _ _)) ?_
        refine a_lenO ?_ Tryz.underlying27
        refine a_int (u := .bool (((t9.length : Int) == 1))) ?_
        refine RA.nil nofun ?_
        by_cases hc11 : (t9.length : Int) = 1
        ·rw [if_pos hc11] at H
         refine AG.yes rfl (beq_iff_eq.2 hc11) ?_
         refine AG.region HM ?_
         refine a_move (v := .c (.own _ _)) ?_
         refine a_move (v := .c (.own _ _)) ?_
         by_cases hc12 : 0 < (t9.length : Int)
         ·rw [if_pos hc12] at H
          refine a_ixO ?_ ⟨(by decide), hc12⟩ T2 Tryz.underlying27
          refine a_ldE (v := vI _) ?_ (G2 (by decide) hc12) T2
          by_cases hc13 : 0 ≤ (rd2 t9 0)
          ·rw [if_pos hc13] at H
           by_cases hc14 : (rd2 t9 0) < (x5.length : Int)
           ·rw [if_pos hc14] at H
            refine a_ixO ?_ ⟨hc13, hc14⟩ T2 Tryz.underlying27
            refine a_stF (css' := (x5.set ((rd2 t9 0) : Int).toNat 0).map c2) ?_ (flat_map (fun _ => rfl)) (G2 hc13 hc14) T2 (hcss := by exact set_map rfl)
            refine RA.nil nofun ?_
            refine AG.region HM ?_
            refine a_move (v := vI _) ?_
            refine a_int (u := .int .i64 (wrap64 (x7 + 1))) ?_
            refine a_move (v := vI _) ?_
            refine RA.nil nofun ?_
            exact AGr.canon id (ih1 _ (by omega) _ ⟨by omega, _, _, _, _, _, _, _, H, rfl⟩) ⟨rfl, rfl, (ownE rfl (by simp)), rfl, trivial⟩ ⟨rfl, trivial⟩ rfl
           ·rw [if_neg hc14] at H
            cases H
          ·rw [if_neg hc13] at H
           cases H
         ·rw [if_neg hc12] at H
          cases H
        ·rw [if_neg hc11] at H
         refine AG.no rfl (beq_eq_false_iff_ne.2 hc11) ?_
         refine AG.skip ?_
         refine AG.region HM ?_
         refine a_move (v := vI _) ?_
         refine a_int (u := .int .i64 (wrap64 (x7 + 1))) ?_
         refine a_move (v := vI _) ?_
         refine RA.nil nofun ?_
         exact AGr.canon id (ih1 _ (by omega) _ ⟨by omega, _, _, _, _, _, _, _, H, rfl⟩) ⟨rfl, rfl, rfl, rfl, trivial⟩ ⟨rfl, trivial⟩ rfl
       ·rw [if_neg hc8] at H
        cases H
      ·rw [if_neg hc7] at H
       cases H
     ·rw [if_neg hc6] at H
      cases H
    ·rw [if_neg hc5] at H
     refine AG.no rfl (decide_eq_false hc5) ?_
     refine AG.exit ?_
     refine AG.seq ?_
     refine AG.seq ?_
     refine AG.region HM ?_
     refine a_move (v := vI _) ?_
     refine RA.nil nofun ?_
     refine AG.block ?_
     refine AG.loop ?_
     obtain ⟨K2, hK2, gK2⟩ : ∃ K, k ≤ K ∧ K ≤ k := ⟨k, Nat.le_refl k, Nat.le_refl k⟩
     refine AGr.canon (fun κ => cond (Nat.beq κ 206) 204 (κ)) (AGr.loopI (n := k) (fun k s => k ≤ K2 ∧ ∃ (x0_0 : Int) (x0_1 : Int) (x0_2 : List S50) (x0_3 : List S72) (x5 : List Int) (x9 : Int), spec_l14Faces.l2 k x0_0 x0_1 x0_2 x0_3 x5 x9 = some r ∧ s = St.of [(0, .c (.d (.ro [.v (.int .i64 x0_0), .v (.int .i64 x0_1), .row 51 (x0_2.map c50), .row 76 (x0_3.map c72)]))), (5, .c (.own 206 x5.length)), (9, vI x9)] [(206, .row 2 (x5.map c2))]) ⟨hK2, _, _, _, _, _, _, H, rfl⟩ ?_ ?_) ⟨rfl, rfl, rfl, trivial⟩ ⟨rfl, trivial⟩ rfl
     ·rintro _ ⟨_, _, _, _, _, _, _, H, _⟩
      cases H
     ·clear H hK2
      rintro k ih2 _ ⟨hK2, x0_0, x0_1, x0_2, x0_3, x5, x9, H, rfl⟩
      unfold spec_l14Faces.l2 at H
      refine AG.seq ?_
      refine AG.seq ?_
      refine AG.region HM ?_
      refine a_move (v := vI _) ?_
      refine a_move (v := .c (.own _ _)) ?_
      refine a_lenO ?_ Tryz.underlying27
      refine a_int (u := .bool (decide (x9 < (x5.length : Int)))) ?_
      refine RA.nil nofun ?_
      by_cases hc16 : x9 < (x5.length : Int)
      ·rw [if_pos hc16] at H
       refine AG.yes rfl (decide_eq_true hc16) ?_
       refine AG.skip ?_
       refine AG.seq ?_
       refine AG.block ?_
       refine AG.seq ?_
       refine AG.region HM ?_
       refine a_move (v := vI _) ?_
       refine RA.nil nofun ?_
       refine AG.block ?_
       refine AG.loop ?_
       obtain ⟨K3, hK3, gK3⟩ : ∃ K, k ≤ K ∧ K ≤ k := ⟨k, Nat.le_refl k, Nat.le_refl k⟩
       refine AGr.canon (fun κ => cond (Nat.beq κ 207) 206 (κ)) (AGr.loopI (n := k) (fun k s => k ≤ K3 ∧ ∃ (x0_0 : Int) (x0_1 : Int) (x0_2 : List S50) (x0_3 : List S72) (x5 : List Int) (x9 : Int) (x10 : Int), spec_l14Faces.l3 k x0_0 x0_1 x0_2 x0_3 x5 x9 x10 = some r ∧ s = St.of [(0, .c (.d (.ro [.v (.int .i64 x0_0), .v (.int .i64 x0_1), .row 51 (x0_2.map c50), .row 76 (x0_3.map c72)]))), (5, .c (.own 207 x5.length)), (9, vI x9), (10, vI x10)] [(207, .row 2 (x5.map c2))]) ⟨hK3, _, _, _, _, _, _, _, H, rfl⟩ ?_ ?_) ⟨rfl, rfl, rfl, rfl, trivial⟩ ⟨rfl, trivial⟩ rfl
       ·rintro _ ⟨_, _, _, _, _, _, _, _, H, _⟩
        cases H
       ·clear H hK3
        rintro k ih3 _ ⟨hK3, x0_0, x0_1, x0_2, x0_3, x5, x9, x10, H, rfl⟩
        unfold spec_l14Faces.l3 at H
        refine AG.seq ?_
        refine AG.seq ?_
        refine AG.region HM ?_
        refine a_move (v := vI _) ?_
        refine a_move (v := .c (.own _ _)) ?_
        refine a_lenO ?_ Tryz.underlying27
        refine a_int (u := .bool (decide (x10 < (x5.length : Int)))) ?_
        refine RA.nil nofun ?_
        by_cases hc17 : x10 < (x5.length : Int)
        ·rw [if_pos hc17] at H
         refine AG.yes rfl (decide_eq_true hc17) ?_
         refine AG.skip ?_
         refine AG.seq ?_
         refine AG.block ?_
         refine AG.seq ?_
         refine AG.region HM ?_
         refine a_move (v := vO [_, _, _, _]) ?_
         refine a_move (v := vI _) ?_
         obtain ⟨t18, e19, H⟩ := bindO H
         refine a_call (v := .c (.own 208 t18.length)) (nk := [(208, .row 2 (t18.map c2))]) (L := []) ?_ rfl (spec_l05Near.ok e19) (fun κ => cond (Nat.beq κ 208) 100 (κ)) (qd (qd qn)) trivial ⟨rfl, trivial⟩ ⟨rfl, trivial⟩ rfl
         refine a_move (v := .c (.own _ _)) ?_
         refine RA.nil nofun ?_
         refine AG.seq ?_
         refine AG.region HM ?_
         refine a_move (v := vI _) ?_
         refine RA.nil nofun ?_
         refine AG.block ?_
         refine AG.loop ?_
         obtain ⟨K4, hK4, gK4⟩ : ∃ K, k ≤ K ∧ K ≤ k := ⟨k, Nat.le_refl k, Nat.le_refl k⟩
         refine AGr.canon (fun κ => cond (Nat.beq κ 209) 207 (cond (Nat.beq κ 210) 208 (κ))) (AGr.loopI (n := k) (fun k s => k ≤ K4 ∧ ∃ (x0_0 : Int) (x0_1 : Int) (x0_2 : List S50) (x0_3 : List S72) (x5 : List Int) (x9 : Int) (x10 : Int) (x11 : List Int) (x12 : Int), spec_l14Faces.l4 k x0_0 x0_1 x0_2 x0_3 x5 x9 x10 x11 x12 = some r ∧ s = St.of [(0, .c (.d (.ro [.v (.int .i64 x0_0), .v (.int .i64 x0_1), .row 51 (x0_2.map c50), .row 76 (x0_3.map c72)]))), (5, .c (.own 209 x5.length)), (9, vI x9), (10, vI x10), (11, .c (.own 210 x11.length)), (12, vI x12)] [(209, .row 2 (x5.map c2)), (210, .row 2 (x11.map c2))]) ⟨hK4, _, _, _, _, _, _, _, _, _, H, rfl⟩ ?_ ?_) ⟨rfl, rfl, rfl, rfl, rfl, rfl, trivial⟩ ⟨rfl, rfl, trivial⟩ rfl
         ·rintro _ ⟨_, _, _, _, _, _, _, _, _, _, H, _⟩
          cases H
         ·clear H hK4
          rintro k ih4 _ ⟨hK4, x0_0, x0_1, x0_2, x0_3, x5, x9, x10, x11, x12, H, rfl⟩
          unfold spec_l14Faces.l4 at H
          refine AG.seq ?_
          refine AG.seq ?_
          refine AG.region HM ?_
          refine a_move (v := vI _) ?_
          refine a_move (v := .c (.own _ _)) ?_
          refine a_lenO ?_ Tryz.underlying27
          refine a_int (u := .bool (decide (x12 < (x11.length : Int)))) ?_
          refine RA.nil nofun ?_
          by_cases hc20 : x12 < (x11.length : Int)
          ·rw [if_pos hc20] at H
           refine AG.yes rfl (decide_eq_true hc20) ?_
           refine AG.skip ?_
           refine AG.seq ?_
           refine AG.block ?_
           refine AG.region HM ?_
           refine a_move (v := .c (.own _ _)) ?_
           refine a_move (v := vI _) ?_
           refine a_move (v := .c (.own _ _)) ?_
           refine a_move (v := vI _) ?_
           by_cases hc21 : 0 ≤ x10
           ·rw [if_pos hc21] at H
            by_cases hc22 : x10 < (x5.length : Int)
            ·rw [if_pos hc22] at H
             refine a_ixO ?_ ⟨hc21, hc22⟩ T2 Tryz.underlying27
             refine a_ldE (v := vI _) ?_ (G2 hc21 hc22) T2
             refine a_move (v := .c (.own _ _)) ?_
             refine a_move (v := .c (.own _ _)) ?_
             refine a_move (v := vI _) ?_
             by_cases hc23 : 0 ≤ x12
             ·rw [if_pos hc23] at H
              refine a_ixO ?_ ⟨hc23, hc20⟩ T2 Tryz.underlying27
              refine a_ldE (v := vI _) ?_ (G2 hc23 hc20) T2
              by_cases hc24 : 0 ≤ (rd2 x11 x12)
              ·rw [if_pos hc24] at H
               by_cases hc25 : (rd2 x11 x12) < (x5.length : Int)
               ·rw [if_pos hc25] at H
                refine a_ixO ?_ ⟨hc24, hc25⟩ T2 Tryz.underlying27
                refine a_ldE (v := vI _) ?_ (G2 hc24 hc25) T2
                refine a_int (u := .int .i64 (wrap64 ((rd2 x5 (rd2 x11 x12)) + 1))) ?_
                obtain ⟨t26, e27, H⟩ := bindO H
                refine a_call (v := vI t26) (nk := []) (L := []) ?_ rfl (spec_l00Min.ok e27) id (qd (qd qn)) trivial trivial trivial rfl
                refine a_ixO ?_ ⟨hc21, hc22⟩ T2 Tryz.underlying27
                refine a_stF (css' := (x5.set (x10 : Int).toNat t26).map c2) ?_ (flat_map (fun _ => rfl)) (G2 hc21 hc22) T2 (hcss := by exact set_map rfl)
                refine RA.nil (fun _ => by kernel_rfl) ?_
                refine AG.region HM ?_
                refine a_move (v := vI _) ?_
                refine a_int (u := .int .i64 (wrap64 (x12 + 1))) ?_
                refine a_move (v := vI _) ?_
                refine RA.nil nofun ?_
                exact AGr.canon id (ih4 _ (by omega) _ ⟨by omega, _, _, _, _, _, _, _, _, _, H, rfl⟩) ⟨rfl, (ownE rfl (by simp)), rfl, rfl, rfl, rfl, trivial⟩ ⟨rfl, rfl, trivial⟩ rfl
               ·rw [if_neg hc25] at H
                cases H
              ·rw [if_neg hc24] at H
               cases H
             ·rw [if_neg hc23] at H
              cases H
            ·rw [if_neg hc22] at H
             cases H
           ·rw [if_neg hc21] at H
            cases H
          ·rw [if_neg hc20] at H
           refine AG.no rfl (decide_eq_false hc20) ?_
           refine AG.exit ?_
           refine AG.region HM ?_
           refine a_move (v := vI _) ?_
           refine a_int (u := .int .i64 (wrap64 (x10 + 1))) ?_
           refine a_move (v := vI _) ?_
           refine RA.nil nofun ?_
           exact AGr.canon (fun κ => cond (Nat.beq κ 207) 209 (κ)) (ih3 _ (by omega) _ ⟨by omega, _, _, _, _, _, _, _, H, rfl⟩) ⟨rfl, rfl, rfl, rfl, trivial⟩ ⟨rfl, trivial⟩ rfl
        ·rw [if_neg hc17] at H
         refine AG.no rfl (decide_eq_false hc17) ?_
         refine AG.exit ?_
         refine AG.region HM ?_
         refine a_move (v := vI _) ?_
         refine a_int (u := .int .i64 (wrap64 (x9 + 1))) ?_
         refine a_move (v := vI _) ?_
         refine RA.nil nofun ?_
         exact AGr.canon (fun κ => cond (Nat.beq κ 206) 207 (κ)) (ih2 _ (by omega) _ ⟨by omega, _, _, _, _, _, _, H, rfl⟩) ⟨rfl, rfl, rfl, trivial⟩ ⟨rfl, trivial⟩ rfl
      ·rw [if_neg hc16] at H
       refine AG.no rfl (decide_eq_false hc16) ?_
       refine AG.exit ?_
       refine AG.seq ?_
       refine AG.region HM ?_
       refine a_move (v := .c (.own _ _)) ?_
       refine a_move (v := .c (.own _ _)) ?_
       refine RA.nil nofun ?_
       refine AG.ret ?_
       obtain rfl := Option.some.inj H
       exact RetP.mk (fun κ => cond (Nat.beq κ 100) 206 (κ)) ⟨rfl, trivial⟩ ⟨rfl, trivial⟩ rfl
/-! ### spec_l14Depths: function 20 -/
mutual
def spec_l14Depths.l0 : Nat → Int → Int → List S50 → List S72 → List (List Int) → List Int → List Int → Int → Option ((List Int))
 | 0, _, _, _, _, _, _, _, _ => none
 | k + 1, x0_0, x0_1, x0_2, x0_3, x1, x5, x6, x7 => if x7 < (x1.length : Int) then (if 0 ≤ x7 then (if 0 < ((rd27 x1 x7).length : Int) then (if 1 < ((rd27 x1 x7).length : Int) then ((spec_l05OnEdge.f k x0_0 x0_1 x0_2 x0_3 (rd2 (rd27 x1 x7) 0) (rd2 (rd27 x1 x7) 1)).bind fun t8 => (if (t8.length : Int) > 1 then (if 0 < (t8.length : Int) then (if 0 ≤ (rd2 t8 0) then (if (rd2 t8 0) < (x5.length : Int) then (spec_l14Depths.l1 k x0_0 x0_1 x0_2 x0_3 x1 x5 x6 x7 t8 (wrap64 ((rd2 x5 (rd2 t8 0)) + 1)) 1) else (none)) else (none)) else (none)) else (if x6.length < 17592186044416 then (spec_l14Depths.l0 k x0_0 x0_1 x0_2 x0_3 x1 x5 (x6 ++ [0]) (wrap64 (x7 + 1))) else (none)))) else (none)) else (none)) else (none)) else (some x6)
def spec_l14Depths.l1 : Nat → Int → Int → List S50 → List S72 → List (List Int) → List Int → List Int → Int → List Int → Int → Int → Option ((List Int))
 | 0, _, _, _, _, _, _, _, _, _, _, _ => none
 | k + 1, x0_0, x0_1, x0_2, x0_3, x1, x5, x6, x7, x8, x9, x10 => if x10 < (x8.length : Int) then (if 0 ≤ x10 then (if 0 ≤ (rd2 x8 x10) then (if (rd2 x8 x10) < (x5.length : Int) then ((spec_l00Min.f x9 (wrap64 ((rd2 x5 (rd2 x8 x10)) + 1))).bind fun t18 => (spec_l14Depths.l1 k x0_0 x0_1 x0_2 x0_3 x1 x5 x6 x7 x8 t18 (wrap64 (x10 + 1)))) else (none)) else (none)) else (none)) else (if x6.length < 17592186044416 then (spec_l14Depths.l0 k x0_0 x0_1 x0_2 x0_3 x1 x5 (x6 ++ [x9]) (wrap64 (x7 + 1))) else (none))
end
def spec_l14Depths.f (k : Nat) (a0_0 : Int) (a0_1 : Int) (l0_2 : List S50) (l0_3 : List S72) (l1 : List (List Int)) : Option ((List Int)) := (spec_l14Faces.f k a0_0 a0_1 l0_2 l0_3 l1).bind fun t1 => (spec_l14Depths.l0 k a0_0 a0_1 l0_2 l0_3 l1 t1 (([] : List Int) : List Int) 0)
set_option maxRecDepth 100000 in
theorem spec_l14Depths.ok {k : Nat} {a0_0 : Int} {a0_1 : Int} {l0_2 : List S50} {l0_3 : List S72} {l1 : List (List Int)} {r : List Int} (H : spec_l14Depths.f k a0_0 a0_1 l0_2 l0_3 l1 = some r) : OkF Tryz.prog 20 [.c (.d (.ro [.v (.int .i64 a0_0), .v (.int .i64 a0_1), .row 51 (l0_2.map c50), .row 76 (l0_3.map c72)])), vR 27 (l1.map c27)] [] (.c (.own 100 r.length)) [(100, .row 2 (r.map c2))] := by
 unfold spec_l14Depths.f at H
 refine OkF.of (N := 66) (rs := [4]) (avs := [.c (.own 100 r.length)]) Tryz.func20 rfl rfl (fun _ _ => results_tmp rfl _ _ _) (by decide) rfl rfl rfl rfl (fun w0 S => ?_)
 refine AG.seq ?_
 refine AG.region HM ?_
 refine a_nilO (e := 2) 200 ?_ T2
 refine RA.nil nofun ?_
 refine AG.seq ?_
 refine AG.region HM ?_
 refine a_move (v := vO [_, _, _, _]) ?_
 refine a_move (v := vR _ _) ?_
 obtain ⟨t1, e2, H⟩ := bindO H
 refine a_call (v := .c (.own 201 t1.length)) (nk := [(201, .row 2 (t1.map c2))]) (L := []) ?_ rfl (spec_l14Faces.ok e2) (fun κ => cond (Nat.beq κ 201) 100 (κ)) (qd (qd qn)) trivial ⟨rfl, trivial⟩ ⟨rfl, trivial⟩ rfl
 refine a_move (v := .c (.own _ _)) ?_
 refine RA.nil nofun ?_
 refine AG.seq ?_
 refine AG.region HM ?_
 refine a_lit (cs := []) (D := []) (css := (([] : List Int) : List Int).map c2) 202 ?_ N27 T2 (hcss := by rfl)
 refine a_move (v := .c (.own _ _)) ?_
 refine RA.nil nofun ?_
 refine AG.seq ?_
 refine AG.seq ?_
 refine AG.region HM ?_
 refine a_move (v := vI _) ?_
 refine RA.nil nofun ?_
 refine AG.block ?_
 refine AG.loop ?_
 obtain ⟨K0, hK0, gK0⟩ : ∃ K, k ≤ K ∧ K ≤ k := ⟨k, Nat.le_refl k, Nat.le_refl k⟩
 refine AGr.canon (fun κ => cond (Nat.beq κ 203) 201 (cond (Nat.beq κ 204) 202 (κ))) (AGr.loopI (n := k) (fun k s => k ≤ K0 ∧ ∃ (x0_0 : Int) (x0_1 : Int) (x0_2 : List S50) (x0_3 : List S72) (x1 : List (List Int)) (x5 : List Int) (x6 : List Int) (x7 : Int), spec_l14Depths.l0 k x0_0 x0_1 x0_2 x0_3 x1 x5 x6 x7 = some r ∧ s = St.of [(0, .c (.d (.ro [.v (.int .i64 x0_0), .v (.int .i64 x0_1), .row 51 (x0_2.map c50), .row 76 (x0_3.map c72)]))), (1, vR 27 (x1.map c27)), (5, .c (.own 203 x5.length)), (6, .c (.own 204 x6.length)), (7, vI x7)] [(203, .row 2 (x5.map c2)), (204, .row 2 (x6.map c2))]) ⟨hK0, _, _, _, _, _, _, _, _, H, rfl⟩ ?_ ?_) ⟨rfl, rfl, rfl, (ownE rfl (by simp)), rfl, trivial⟩ ⟨rfl, rfl, trivial⟩ rfl
 ·rintro _ ⟨_, _, _, _, _, _, _, _, _, H, _⟩
  cases H
 ·clear H hK0
  rintro k ih0 _ ⟨hK0, x0_0, x0_1, x0_2, x0_3, x1, x5, x6, x7, H, rfl⟩
  unfold spec_l14Depths.l0 at H
  refine AG.seq ?_
  refine AG.seq ?_
  refine AG.region HM ?_
  refine a_move (v := vI _) ?_
  refine a_move (v := vR _ _) ?_
  refine a_lenR ?_ Tryz.underlying46
  refine a_int (u := .bool (decide (x7 < (x1.length : Int)))) ?_
  refine RA.nil nofun ?_
  by_cases hc4 : x7 < (x1.length : Int)
  ·rw [if_pos hc4] at H
   refine AG.yes rfl (decide_eq_true hc4) ?_
   refine AG.skip ?_
   refine AG.seq ?_
   refine AG.block ?_
   refine AG.seq ?_
   refine AG.region HM ?_
   refine a_move (v := vO [_, _, _, _]) ?_
   refine a_move (v := vR _ _) ?_
   refine a_move (v := vI _) ?_
   by_cases hc5 : 0 ≤ x7
   ·rw [if_pos hc5] at H
    refine a_ixR (el := c27 (rd27 x1 x7)) ?_ ⟨hc5, hc4⟩ T27 Tryz.underlying46 (hel := R27 hc5 hc4)
    refine a_ldR (v := vR _ _) ?_ T27
    by_cases hc6 : 0 < ((rd27 x1 x7).length : Int)
    ·rw [if_pos hc6] at H
     refine a_ixR (el := c2 (rd2 (rd27 x1 x7) 0)) ?_ ⟨(by decide), hc6⟩ T2 Tryz.underlying27 (hel := R2 (by decide) hc6)
     refine a_ldR (v := vI _) ?_ T2
     refine a_move (v := vR _ _) ?_
     refine a_move (v := vI _) ?_
     refine a_ixR (el := c27 (rd27 x1 x7)) ?_ ⟨hc5, hc4⟩ T27 Tryz.underlying46 (hel := R27 hc5 hc4)
     refine a_ldR (v := vR _ _) ?_ T27
     by_cases hc7 : 1 < ((rd27 x1 x7).length : Int)
     ·rw [if_pos hc7] at H
      refine a_ixR (el := c2 (rd2 (rd27 x1 x7) 1)) ?_ ⟨(by decide), hc7⟩ T2 Tryz.underlying27 (hel := R2 (by decide) hc7)
      refine a_ldR (v := vI _) ?_ T2
      obtain ⟨t8, e9, H⟩ := bindO H
      refine a_call (v := .c (.own 205 t8.length)) (nk := [(205, .row 2 (t8.map c2))]) (L := []) ?_ rfl (spec_l05OnEdge.ok e9) (fun κ => cond (Nat.beq κ 205) 100 (κ)) (qd (qd (qd qn))) trivial ⟨rfl, trivial⟩ ⟨rfl, trivial⟩ rfl
      refine a_move (v := .c (.own _ _)) ?_
      refine RA.nil (fun _ => by kernel_rfl) ?_
      refine AG.seq ?_
      refine AG.region HM ?_
      refine a_move (v := vI _) ?_
      refine RA.nil nofun ?_
      refine AG.seq ?_
      refine AG.seq ?_
      refine AG.region HM ?_
      refine a_move (v := .c (.own _ _)) ?_
      refine a_lenO ?_ Tryz.underlying27
      refine a_int (u := .bool (decide ((t8.length : Int) > 1))) ?_
      refine RA.nil nofun ?_
      by_cases hc10 : (t8.length : Int) > 1
      ·rw [if_pos hc10] at H
       refine AG.yes rfl (decide_eq_true hc10) ?_
       refine AG.seq ?_
       refine AG.region HM ?_
       refine a_move (v := .c (.own _ _)) ?_
       refine a_move (v := .c (.own _ _)) ?_
       by_cases hc11 : 0 < (t8.length : Int)
       ·rw [if_pos hc11] at H
        refine a_ixO ?_ ⟨(by decide), hc11⟩ T2 Tryz.underlying27
        refine a_ldE (v := vI _) ?_ (G2 (by decide) hc11) T2
        by_cases hc12 : 0 ≤ (rd2 t8 0)
        ·rw [if_pos hc12] at H
         by_cases hc13 : (rd2 t8 0) < (x5.length : Int)
         ·rw [if_pos hc13] at H
          refine a_ixO ?_ ⟨hc12, hc13⟩ T2 Tryz.underlying27
          refine a_ldE (v := vI _) ?_ (G2 hc12 hc13) T2
          refine a_int (u := .int .i64 (wrap64 ((rd2 x5 (rd2 t8 0)) + 1))) ?_
          refine a_move (v := vI _) ?_
          refine RA.nil nofun ?_
          refine AG.seq ?_
          refine AG.region HM ?_
          refine a_move (v := vI _) ?_
          refine RA.nil nofun ?_
          refine AG.block ?_
          refine AG.loop ?_
          obtain ⟨K1, hK1, gK1⟩ : ∃ K, k ≤ K ∧ K ≤ k := ⟨k, Nat.le_refl k, Nat.le_refl k⟩
          refine AGr.canon (fun κ => cond (Nat.beq κ 206) 203 (cond (Nat.beq κ 207) 204 (cond (Nat.beq κ 208) 205 (κ)))) (AGr.loopI (n := k) (fun k s => k ≤ K1 ∧ ∃ (x0_0 : Int) (x0_1 : Int) (x0_2 : List S50) (x0_3 : List S72) (x1 : List (List Int)) (x5 : List Int) (x6 : List Int) (x7 : Int) (x8 : List Int) (x9 : Int) (x10 : Int), spec_l14Depths.l1 k x0_0 x0_1 x0_2 x0_3 x1 x5 x6 x7 x8 x9 x10 = some r ∧ s = St.of [(0, .c (.d (.ro [.v (.int .i64 x0_0), .v (.int .i64 x0_1), .row 51 (x0_2.map c50), .row 76 (x0_3.map c72)]))), (1, vR 27 (x1.map c27)), (5, .c (.own 206 x5.length)), (6, .c (.own 207 x6.length)), (7, vI x7), (8, .c (.own 208 x8.length)), (9, vI x9), (10, vI x10)] [(206, .row 2 (x5.map c2)), (207, .row 2 (x6.map c2)), (208, .row 2 (x8.map c2))]) ⟨hK1, _, _, _, _, _, _, _, _, _, _, _, H, rfl⟩ ?_ ?_) ⟨rfl, rfl, rfl, rfl, rfl, rfl, rfl, rfl, trivial⟩ ⟨rfl, rfl, rfl, trivial⟩ rfl
          ·rintro _ ⟨_, _, _, _, _, _, _, _, _, _, _, _, H, _⟩
           cases H
          ·clear H hK1
           rintro k ih1 _ ⟨hK1, x0_0, x0_1, x0_2, x0_3, x1, x5, x6, x7, x8, x9, x10, H, rfl⟩
           unfold spec_l14Depths.l1 at H
           refine AG.seq ?_
           refine AG.seq ?_
           refine AG.region HM ?_
           refine a_move (v := vI _) ?_
           refine a_move (v := .c (.own _ _)) ?_
           refine a_lenO ?_ Tryz.underlying27
           refine a_int (u := .bool (decide (x10 < (x8.length : Int)))) ?_
           refine RA.nil nofun ?_
           by_cases hc14 : x10 < (x8.length : Int)
           ·rw [if_pos hc14] at H
            refine AG.yes rfl (decide_eq_true hc14) ?_
            refine AG.skip ?_
            refine AG.seq ?_
            refine AG.block ?_
            refine AG.region HM ?_
            refine a_move (v := vI _) ?_
            refine a_move (v := .c (.own _ _)) ?_
            refine a_move (v := .c (.own _ _)) ?_
            refine a_move (v := vI _) ?_
            by_cases hc15 : 0 ≤ x10
            ·rw [if_pos hc15] at H
             refine a_ixO ?_ ⟨hc15, hc14⟩ T2 Tryz.underlying27
             refine a_ldE (v := vI _) ?_ (G2 hc15 hc14) T2
             by_cases hc16 : 0 ≤ (rd2 x8 x10)
             ·rw [if_pos hc16] at H
              by_cases hc17 : (rd2 x8 x10) < (x5.length : Int)
              ·rw [if_pos hc17] at H
               refine a_ixO ?_ ⟨hc16, hc17⟩ T2 Tryz.underlying27
               refine a_ldE (v := vI _) ?_ (G2 hc16 hc17) T2
               refine a_int (u := .int .i64 (wrap64 ((rd2 x5 (rd2 x8 x10)) + 1))) ?_
               obtain ⟨t18, e19, H⟩ := bindO H
               refine a_call (v := vI t18) (nk := []) (L := []) ?_ rfl (spec_l00Min.ok e19) id (qd (qd qn)) trivial trivial trivial rfl
               refine a_move (v := vI _) ?_
               refine RA.nil nofun ?_
               refine AG.region HM ?_
               refine a_move (v := vI _) ?_
               refine a_int (u := .int .i64 (wrap64 (x10 + 1))) ?_
               refine a_move (v := vI _) ?_
               refine RA.nil nofun ?_
               exact AGr.canon id (ih1 _ (by omega) _ ⟨by omega, _, _, _, _, _, _, _, _, _, _, _, H, rfl⟩) ⟨rfl, rfl, rfl, rfl, rfl, rfl, rfl, rfl, trivial⟩ ⟨rfl, rfl, rfl, trivial⟩ rfl
              ·rw [if_neg hc17] at H
               cases H
             ·rw [if_neg hc16] at H
              cases H
            ·rw [if_neg hc15] at H
             cases H
           ·rw [if_neg hc14] at H
            refine AG.no rfl (decide_eq_false hc14) ?_
            refine AG.exit ?_
            refine AG.region HM ?_
            refine a_move (v := .c (.own _ _)) ?_
            refine a_move (v := vI _) ?_
            refine a_lit (cs := [_]) (D := []) (css := ([x9]).map c2) 210 ?_ N27 T2
            by_cases hc20 : x6.length < 17592186044416
            ·rw [if_pos hc20] at H
             refine a_appO (css' := (x6 ++ [x9]).map c2) (n' := (x6 ++ [x9]).length) ?_ T2 (by simp [maxLen]; omega) (by simp; omega) Tryz.underlying27 (hc := by exact List.map_append.symm) (hn := by exact List.length_map _)
             refine a_move (v := .c (.own _ _)) ?_
             refine RA.nil nofun ?_
             refine AG.region HM ?_
             refine a_move (v := vI _) ?_
             refine a_int (u := .int .i64 (wrap64 (x7 + 1))) ?_
             refine a_move (v := vI _) ?_
             refine RA.nil nofun ?_
             exact AGr.canon (fun κ => cond (Nat.beq κ 203) 206 (cond (Nat.beq κ 204) 207 (κ))) (ih0 _ (by omega) _ ⟨by omega, _, _, _, _, _, _, _, _, H, rfl⟩) ⟨rfl, rfl, rfl, rfl, rfl, trivial⟩ ⟨rfl, rfl, trivial⟩ rfl
            ·rw [if_neg hc20] at H
             cases H
         ·rw [if_neg hc13] at H
          cases H
        ·rw [if_neg hc12] at H
         cases H
       ·rw [if_neg hc11] at H
        cases H
      ·rw [if_neg hc10] at H
       refine AG.no rfl (decide_eq_false hc10) ?_
       refine AG.skip ?_
       refine AG.region HM ?_
       refine a_move (v := .c (.own _ _)) ?_
       refine a_move (v := vI _) ?_
       refine a_lit (cs := [_]) (D := []) (css := ([0]).map c2) 210 ?_ N27 T2
       by_cases hc22 : x6.length < 17592186044416
       ·rw [if_pos hc22] at H
        refine a_appO (css' := (x6 ++ [0]).map c2) (n' := (x6 ++ [0]).length) ?_ T2 (by simp [maxLen]; omega) (by simp; omega) Tryz.underlying27 (hc := by exact List.map_append.symm) (hn := by exact List.length_map _)
        refine a_move (v := .c (.own _ _)) ?_
        refine RA.nil nofun ?_
        refine AG.region HM ?_
        refine a_move (v := vI _) ?_
        refine a_int (u := .int .i64 (wrap64 (x7 + 1))) ?_
        refine a_move (v := vI _) ?_
        refine RA.nil nofun ?_
        exact AGr.canon id (ih0 _ (by omega) _ ⟨by omega, _, _, _, _, _, _, _, _, H, rfl⟩) ⟨rfl, rfl, rfl, rfl, rfl, trivial⟩ ⟨rfl, rfl, trivial⟩ rfl
       ·rw [if_neg hc22] at H
        cases H
     ·rw [if_neg hc7] at H
      cases H
    ·rw [if_neg hc6] at H
     cases H
   ·rw [if_neg hc5] at H
    cases H
  ·rw [if_neg hc4] at H
   refine AG.no rfl (decide_eq_false hc4) ?_
   refine AG.exit ?_
   refine AG.seq ?_
   refine AG.region HM ?_
   refine a_move (v := .c (.own _ _)) ?_
   refine a_move (v := .c (.own _ _)) ?_
   refine RA.nil nofun ?_
   refine AG.ret ?_
   obtain rfl := Option.some.inj H
   exact RetP.mk (fun κ => cond (Nat.beq κ 100) 204 (κ)) ⟨rfl, trivial⟩ ⟨rfl, trivial⟩ rfl
/-! ### spec_l00Own: function 64 -/
def spec_l00Own.f (l0 : List Int) : Option ((List Int)) := if ([] : List Int).length + l0.length < 17592186044416 then (some (([] : List Int) ++ l0)) else (none)
set_option maxRecDepth 100000 in
theorem spec_l00Own.ok {l0 : List Int} {r : List Int} (H : spec_l00Own.f l0 = some r) : OkF Tryz.prog 64 [vR 2 (l0.map c2)] [] (.c (.own 100 r.length)) [(100, .row 2 (r.map c2))] := by
 unfold spec_l00Own.f at H
 refine OkF.of (N := 6) (rs := [2]) (avs := [.c (.own 100 r.length)]) Tryz.func64 rfl rfl (fun _ _ => results_tmp rfl _ _ _) (by decide) rfl rfl rfl rfl (fun w0 S => ?_)
 refine AG.seq ?_
 refine AG.region HM ?_
 refine a_nilO (e := 2) 200 ?_ T2
 refine RA.nil nofun ?_
 refine AG.seq ?_
 refine AG.region HM ?_
 refine a_lit (cs := []) (D := []) (css := (([] : List Int)).map c2) 201 ?_ N27 T2
 refine a_move (v := vR _ _) ?_
 by_cases hc1 : ([] : List Int).length + l0.length < 17592186044416
 ·rw [if_pos hc1] at H
  refine a_appR (css2 := l0.map c2) (css' := (([] : List Int) ++ l0).map c2) (n' := (([] : List Int) ++ l0).length) ?_ (by simp [c2, isV, Value.oneCell']) T2 (by simp [maxLen]; omega) (by simp; omega) Tryz.underlying27 (hc := by exact List.map_append.symm) (hn := by exact List.length_map _)
  refine a_move (v := .c (.own _ _)) ?_
  refine RA.nil nofun ?_
  refine AG.ret ?_
  obtain rfl := Option.some.inj H
  exact RetP.mk (fun κ => cond (Nat.beq κ 100) 201 (κ)) ⟨rfl, trivial⟩ ⟨rfl, trivial⟩ rfl
 ·rw [if_neg hc1] at H
  cases H
/-! ### spec_l14Order: function 35 -/
mutual
def spec_l14Order.l0 : Nat → List Int → List Int → Int → Option ((List Int))
 | 0, _, _, _ => none
 | k + 1, x0, x3, x4 => if x4 < (x0.length : Int) then (spec_l14Order.l1 k x0 x3 x4 (x3.length : Int)) else (some x3)
def spec_l14Order.l1 : Nat → List Int → List Int → Int → Int → Option ((List Int))
 | 0, _, _, _, _ => none
 | k + 1, x0, x3, x4, x5 => if x5 > 0 then (if 0 ≤ (wrap64 (x5 - 1)) then (if (wrap64 (x5 - 1)) < (x3.length : Int) then (if 0 ≤ (rd2 x3 (wrap64 (x5 - 1))) then (if (rd2 x3 (wrap64 (x5 - 1))) < (x0.length : Int) then (if 0 ≤ x4 then (if x4 < (x0.length : Int) then (if (rd2 x0 (rd2 x3 (wrap64 (x5 - 1)))) < (rd2 x0 x4) then (spec_l14Order.l1 k x0 x3 x4 (wrap64 (x5 - 1))) else (if 0 ≤ x5 then (if x5 ≤ (x3.length : Int) then ((spec_l00Own.f (x3.take ((x5 : Int).toNat))).bind fun t13 => (if t13.length < 17592186044416 then ((some (t13 ++ [x4] : List Int)).bind fun y16 => (if y16.length + (x3.length - (x5 : Int).toNat) < 17592186044416 then (spec_l14Order.l0 k x0 (y16 ++ (x3.drop ((x5 : Int).toNat)).take (x3.length - (x5 : Int).toNat)) (wrap64 (x4 + 1))) else (none))) else (none))) else (none)) else (none))) else (none)) else (none)) else (none)) else (none)) else (none)) else (none)) else (if 0 ≤ x5 then (if x5 ≤ (x3.length : Int) then ((spec_l00Own.f (x3.take ((x5 : Int).toNat))).bind fun t21 => (if t21.length < 17592186044416 then ((some (t21 ++ [x4] : List Int)).bind fun y24 => (if y24.length + (x3.length - (x5 : Int).toNat) < 17592186044416 then (spec_l14Order.l0 k x0 (y24 ++ (x3.drop ((x5 : Int).toNat)).take (x3.length - (x5 : Int).toNat)) (wrap64 (x4 + 1))) else (none))) else (none))) else (none)) else (none))
end
def spec_l14Order.f (k : Nat) (l0 : List Int) : Option ((List Int)) := spec_l14Order.l0 k l0 (([] : List Int) : List Int) 0
set_option maxRecDepth 100000 in
theorem spec_l14Order.ok {k : Nat} {l0 : List Int} {r : List Int} (H : spec_l14Order.f k l0 = some r) : OkF Tryz.prog 35 [vR 2 (l0.map c2)] [] (.c (.own 100 r.length)) [(100, .row 2 (r.map c2))] := by
 unfold spec_l14Order.f at H
 refine OkF.of (N := 49) (rs := [2]) (avs := [.c (.own 100 r.length)]) Tryz.func35 rfl rfl (fun _ _ => results_tmp rfl _ _ _) (by decide) rfl rfl rfl rfl (fun w0 S => ?_)
 refine AG.seq ?_
 refine AG.region HM ?_
 refine a_nilO (e := 2) 200 ?_ T2
 refine RA.nil nofun ?_
 refine AG.seq ?_
 refine AG.region HM ?_
 refine a_lit (cs := []) (D := []) (css := (([] : List Int) : List Int).map c2) 201 ?_ N27 T2 (hcss := by rfl)
 refine a_move (v := .c (.own _ _)) ?_
 refine RA.nil nofun ?_
 refine AG.seq ?_
 refine AG.seq ?_
 refine AG.region HM ?_
 refine a_move (v := vI _) ?_
 refine RA.nil nofun ?_
 refine AG.block ?_
 refine AG.loop ?_
 obtain ⟨K0, hK0, gK0⟩ : ∃ K, k ≤ K ∧ K ≤ k := ⟨k, Nat.le_refl k, Nat.le_refl k⟩
 refine AGr.canon (fun κ => cond (Nat.beq κ 202) 201 (κ)) (AGr.loopI (n := k) (fun k s => k ≤ K0 ∧ ∃ (x0 : List Int) (x3 : List Int) (x4 : Int), spec_l14Order.l0 k x0 x3 x4 = some r ∧ s = St.of [(0, vR 2 (x0.map c2)), (3, .c (.own 202 x3.length)), (4, vI x4)] [(202, .row 2 (x3.map c2))]) ⟨hK0, _, _, _, H, rfl⟩ ?_ ?_) ⟨rfl, (ownE rfl (by simp)), rfl, trivial⟩ ⟨rfl, trivial⟩ rfl
 ·rintro _ ⟨_, _, _, _, H, _⟩
  cases H
 ·clear H hK0
  rintro k ih0 _ ⟨hK0, x0, x3, x4, H, rfl⟩
  unfold spec_l14Order.l0 at H
  refine AG.seq ?_
  refine AG.seq ?_
  refine AG.region HM ?_
  refine a_move (v := vI _) ?_
  refine a_move (v := vR _ _) ?_
  refine a_lenR ?_ Tryz.underlying27
  refine a_int (u := .bool (decide (x4 < (x0.length : Int)))) ?_
  refine RA.nil nofun ?_
  by_cases hc2 : x4 < (x0.length : Int)
  ·rw [if_pos hc2] at H
   refine AG.yes rfl (decide_eq_true hc2) ?_
   refine AG.skip ?_
   refine AG.seq ?_
   refine AG.block ?_
   refine AG.seq ?_
   refine AG.region HM ?_
   refine a_move (v := .c (.own _ _)) ?_
   refine a_lenO ?_ Tryz.underlying27
   refine a_move (v := vI _) ?_
   refine RA.nil nofun ?_
   refine AG.seq ?_
   refine AG.block ?_
   refine AG.loop ?_
   obtain ⟨K1, hK1, gK1⟩ : ∃ K, k ≤ K ∧ K ≤ k := ⟨k, Nat.le_refl k, Nat.le_refl k⟩
   refine AGr.canon (fun κ => cond (Nat.beq κ 203) 202 (κ)) (AGr.loopI (n := k) (fun k s => k ≤ K1 ∧ ∃ (x0 : List Int) (x3 : List Int) (x4 : Int) (x5 : Int), spec_l14Order.l1 k x0 x3 x4 x5 = some r ∧ s = St.of [(0, vR 2 (x0.map c2)), (3, .c (.own 203 x3.length)), (4, vI x4), (5, vI x5)] [(203, .row 2 (x3.map c2))]) ⟨hK1, _, _, _, _, H, rfl⟩ ?_ ?_) ⟨rfl, rfl, rfl, rfl, trivial⟩ ⟨rfl, trivial⟩ rfl
   ·rintro _ ⟨_, _, _, _, _, H, _⟩
    cases H
   ·clear H hK1
    rintro k ih1 _ ⟨hK1, x0, x3, x4, x5, H, rfl⟩
    unfold spec_l14Order.l1 at H
    refine AG.seq ?_
    refine AG.seq ?_
    refine AG.region HM ?_
    refine a_move (v := vI _) ?_
    refine a_int (u := .bool (decide (x5 > 0))) ?_
    refine a_move (v := vB _) ?_
    by_cases hc3 : x5 > 0
    ·rw [if_pos hc3] at H
     refine a_move (v := vR _ _) ?_ (hg := Gs.yes rfl rfl rfl (decide_eq_true hc3))
     refine a_move (v := .c (.own _ _)) ?_ (hg := Gs.yes rfl rfl rfl (decide_eq_true hc3))
     refine a_move (v := vI _) ?_ (hg := Gs.yes rfl rfl rfl (decide_eq_true hc3))
     refine a_int (u := .int .i64 (wrap64 (x5 - 1))) ?_ (hg := Gs.yes rfl rfl rfl (decide_eq_true hc3))
     by_cases hc4 : 0 ≤ (wrap64 (x5 - 1))
     ·rw [if_pos hc4] at H
      by_cases hc5 : (wrap64 (x5 - 1)) < (x3.length : Int)
      ·rw [if_pos hc5] at H
       refine a_ixO ?_ ⟨hc4, hc5⟩ T2 Tryz.underlying27 (hg := Gs.yes rfl rfl rfl (decide_eq_true hc3))
       refine a_ldE (v := vI _) ?_ (G2 hc4 hc5) T2 (hg := Gs.yes rfl rfl rfl (decide_eq_true hc3))
       by_cases hc6 : 0 ≤ (rd2 x3 (wrap64 (x5 - 1)))
       ·rw [if_pos hc6] at H
        by_cases hc7 : (rd2 x3 (wrap64 (x5 - 1))) < (x0.length : Int)
        ·rw [if_pos hc7] at H
         refine a_ixR (el := c2 (rd2 x0 (rd2 x3 (wrap64 (x5 - 1))))) ?_ ⟨hc6, hc7⟩ T2 Tryz.underlying27 (hel := R2 hc6 hc7) (hg := Gs.yes rfl rfl rfl (decide_eq_true hc3))
         refine a_ldR (v := vI _) ?_ T2 (hg := Gs.yes rfl rfl rfl (decide_eq_true hc3))
         refine a_move (v := vR _ _) ?_ (hg := Gs.yes rfl rfl rfl (decide_eq_true hc3))
         refine a_move (v := vI _) ?_ (hg := Gs.yes rfl rfl rfl (decide_eq_true hc3))
         by_cases hc8 : 0 ≤ x4
         ·rw [if_pos hc8] at H
          by_cases hc9 : x4 < (x0.length : Int)
          ·rw [if_pos hc9] at H
           refine a_ixR (el := c2 (rd2 x0 x4)) ?_ ⟨hc8, hc9⟩ T2 Tryz.underlying27 (hel := R2 hc8 hc9) (hg := Gs.yes rfl rfl rfl (decide_eq_true hc3))
           refine a_ldR (v := vI _) ?_ T2 (hg := Gs.yes rfl rfl rfl (decide_eq_true hc3))
           refine a_int (u := .bool (decide ((rd2 x0 (rd2 x3 (wrap64 (x5 - 1)))) < (rd2 x0 x4)))) ?_ (hg := Gs.yes rfl rfl rfl (decide_eq_true hc3))
           refine a_pick (b := true) (v := vB _) ?_ (decide_eq_true hc3)
           refine RA.nil (fun _ => by kernel_rfl) ?_
           by_cases hc10 : (rd2 x0 (rd2 x3 (wrap64 (x5 - 1)))) < (rd2 x0 x4)
           ·rw [if_pos hc10] at H
            refine AG.yes rfl (decide_eq_true hc10) ?_
            refine AG.skip ?_
            refine AG.block ?_
            refine AG.region HM ?_
            refine a_move (v := vI _) ?_
            refine a_int (u := .int .i64 (wrap64 (x5 - 1))) ?_
            refine a_move (v := vI _) ?_
            refine RA.nil nofun ?_
            exact AGr.canon id (ih1 _ (by omega) _ ⟨by omega, _, _, _, _, H, rfl⟩) ⟨rfl, rfl, rfl, rfl, trivial⟩ ⟨rfl, trivial⟩ rfl
           ·rw [if_neg hc10] at H
            refine AG.no rfl (decide_eq_false hc10) ?_
            refine AG.exit ?_
            refine AG.seq ?_
            refine AG.region HM ?_
            refine a_move (v := .c (.own _ _)) ?_
            refine a_move (v := vI _) ?_
            by_cases hc11 : 0 ≤ x5
            ·rw [if_pos hc11] at H
             by_cases hc12 : x5 ≤ (x3.length : Int)
             ·rw [if_pos hc12] at H
              refine a_slO (l := none) (h := some x5) ?_ Tryz.underlying27 T2 ⟨(Int.le_refl 0), hc11, hc12⟩
              obtain ⟨t13, e14, H⟩ := bindO H
              refine a_call (v := .c (.own 204 t13.length)) (nk := [(204, .row 2 (t13.map c2))]) (L := [(203, _)]) ?_ rfl (spec_l00Own.ok e14) (fun κ => cond (Nat.beq κ 204) 100 (κ)) (qc (rC (map_drop_take _ _ _ _)) qn) ⟨rfl, trivial⟩ ⟨rfl, trivial⟩ ⟨rfl, trivial⟩ rfl
              refine a_move (v := .c (.own _ _)) ?_
              refine RA.nil nofun ?_
              refine AG.seq ?_
              refine AG.region HM ?_
              refine a_move (v := .c (.own _ _)) ?_
              refine a_move (v := vI _) ?_
              refine a_lit (cs := [_]) (D := []) (css := ([x4]).map c2) 205 ?_ N27 T2
              by_cases hc15 : t13.length < 17592186044416
              ·rw [if_pos hc15] at H
               obtain ⟨y16, ey16, H⟩ := bindO H
               have ey16 := Option.some.inj ey16
               refine a_appO (css' := y16.map c2) (n' := y16.length) ?_ T2 (by rw [← ey16]; simp [maxLen]; omega) (by rw [← ey16]; simp; omega) Tryz.underlying27 (hc := by rw [← ey16]; exact List.map_append.symm) (hn := by exact List.length_map _)
               refine a_move (v := .c (.own _ _)) ?_
               refine RA.nil nofun ?_
               refine AG.region HM ?_
               refine a_move (v := .c (.own _ _)) ?_
               refine a_move (v := .c (.own _ _)) ?_
               refine a_move (v := vI _) ?_
               refine a_slO (l := some x5) (h := none) ?_ Tryz.underlying27 T2 ⟨hc11, hc12, (Int.le_refl _)⟩
               by_cases hc17 : y16.length + (x3.length - (x5 : Int).toNat) < 17592186044416
               ·rw [if_pos hc17] at H
                refine a_appC (css2 := x3.map c2) (css' := (y16 ++ (x3.drop ((x5 : Int).toNat)).take (x3.length - (x5 : Int).toNat)).map c2) (n' := (y16 ++ (x3.drop ((x5 : Int).toNat)).take (x3.length - (x5 : Int).toNat)).length) ?_ (by simp [c2, isV, Value.oneCell']) T2 (by simp [maxLen]; omega) (by simp; omega) (by rw [List.map_append, List.map_take, List.map_drop]) (by exact List.length_map _) Tryz.underlying27
                refine a_move (v := .c (.own _ _)) ?_
                refine RA.nil nofun ?_
                refine AG.region HM ?_
                refine a_move (v := vI _) ?_
                refine a_int (u := .int .i64 (wrap64 (x4 + 1))) ?_
                refine a_move (v := vI _) ?_
                refine RA.nil nofun ?_
                exact AGr.canon (fun κ => cond (Nat.beq κ 202) 204 (κ)) (ih0 _ (by omega) _ ⟨by omega, _, _, _, H, rfl⟩) ⟨rfl, rfl, rfl, trivial⟩ ⟨rfl, trivial⟩ rfl
               ·rw [if_neg hc17] at H
                cases H
              ·rw [if_neg hc15] at H
               cases H
             ·rw [if_neg hc12] at H
              cases H
            ·rw [if_neg hc11] at H
             cases H
          ·rw [if_neg hc9] at H
           cases H
         ·rw [if_neg hc8] at H
          cases H
        ·rw [if_neg hc7] at H
         cases H
       ·rw [if_neg hc6] at H
        cases H
      ·rw [if_neg hc5] at H
       cases H
     ·rw [if_neg hc4] at H
      cases H
    ·rw [if_neg hc3] at H
     refine RA.skip rfl rfl rfl rfl rfl (decide_eq_false hc3) (by decide) ?_
     refine RA.skip rfl rfl rfl rfl rfl (decide_eq_false hc3) (by decide) ?_
     refine RA.skip rfl rfl rfl rfl rfl (decide_eq_false hc3) (by decide) ?_
     refine RA.skip rfl rfl rfl rfl rfl (decide_eq_false hc3) (by decide) ?_
     refine RA.skip rfl rfl rfl rfl rfl (decide_eq_false hc3) (by decide) ?_
     refine RA.skip rfl rfl rfl rfl rfl (decide_eq_false hc3) (by decide) ?_
     refine RA.skip rfl rfl rfl rfl rfl (decide_eq_false hc3) (by decide) ?_
     refine RA.skip rfl rfl rfl rfl rfl (decide_eq_false hc3) (by decide) ?_
     refine RA.skip rfl rfl rfl rfl rfl (decide_eq_false hc3) (by decide) ?_
     refine RA.skip rfl rfl rfl rfl rfl (decide_eq_false hc3) (by decide) ?_
     refine RA.skip rfl rfl rfl rfl rfl (decide_eq_false hc3) (by decide) ?_
     refine RA.skip rfl rfl rfl rfl rfl (decide_eq_false hc3) (by decide) ?_
     refine RA.skip rfl rfl rfl rfl rfl (decide_eq_false hc3) (by decide) ?_
     refine a_pick (b := false) (v := vB _) ?_ (decide_eq_false hc3)
     refine RA.nil (fun _ => by kernel_rfl) ?_
     refine AG.no rfl rfl ?_
     refine AG.exit ?_
     refine AG.seq ?_
     refine AG.region HM ?_
     refine a_move (v := .c (.own _ _)) ?_
     refine a_move (v := vI _) ?_
     by_cases hc19 : 0 ≤ x5
     ·rw [if_pos hc19] at H
      by_cases hc20 : x5 ≤ (x3.length : Int)
      ·rw [if_pos hc20] at H
       refine a_slO (l := none) (h := some x5) ?_ Tryz.underlying27 T2 ⟨(Int.le_refl 0), hc19, hc20⟩
       obtain ⟨t21, e22, H⟩ := bindO H
       refine a_call (v := .c (.own 204 t21.length)) (nk := [(204, .row 2 (t21.map c2))]) (L := [(203, _)]) ?_ rfl (spec_l00Own.ok e22) (fun κ => cond (Nat.beq κ 204) 100 (κ)) (qc (rC (map_drop_take _ _ _ _)) qn) ⟨rfl, trivial⟩ ⟨rfl, trivial⟩ ⟨rfl, trivial⟩ rfl
       refine a_move (v := .c (.own _ _)) ?_
       refine RA.nil nofun ?_
       refine AG.seq ?_
       refine AG.region HM ?_
       refine a_move (v := .c (.own _ _)) ?_
       refine a_move (v := vI _) ?_
       refine a_lit (cs := [_]) (D := []) (css := ([x4]).map c2) 205 ?_ N27 T2
       by_cases hc23 : t21.length < 17592186044416
       ·rw [if_pos hc23] at H
        obtain ⟨y24, ey24, H⟩ := bindO H
        have ey24 := Option.some.inj ey24
        refine a_appO (css' := y24.map c2) (n' := y24.length) ?_ T2 (by rw [← ey24]; simp [maxLen]; omega) (by rw [← ey24]; simp; omega) Tryz.underlying27 (hc := by rw [← ey24]; exact List.map_append.symm) (hn := by exact List.length_map _)
        refine a_move (v := .c (.own _ _)) ?_
        refine RA.nil nofun ?_
        refine AG.region HM ?_
        refine a_move (v := .c (.own _ _)) ?_
        refine a_move (v := .c (.own _ _)) ?_
        refine a_move (v := vI _) ?_
        refine a_slO (l := some x5) (h := none) ?_ Tryz.underlying27 T2 ⟨hc19, hc20, (Int.le_refl _)⟩
        by_cases hc25 : y24.length + (x3.length - (x5 : Int).toNat) < 17592186044416
        ·rw [if_pos hc25] at H
         refine a_appC (css2 := x3.map c2) (css' := (y24 ++ (x3.drop ((x5 : Int).toNat)).take (x3.length - (x5 : Int).toNat)).map c2) (n' := (y24 ++ (x3.drop ((x5 : Int).toNat)).take (x3.length - (x5 : Int).toNat)).length) ?_ (by simp [c2, isV, Value.oneCell']) T2 (by simp [maxLen]; omega) (by simp; omega) (by rw [List.map_append, List.map_take, List.map_drop]) (by exact List.length_map _) Tryz.underlying27
         refine a_move (v := .c (.own _ _)) ?_
         refine RA.nil nofun ?_
         refine AG.region HM ?_
         refine a_move (v := vI _) ?_
         refine a_int (u := .int .i64 (wrap64 (x4 + 1))) ?_
         refine a_move (v := vI _) ?_
         refine RA.nil nofun ?_
         exact AGr.canon (fun κ => cond (Nat.beq κ 202) 204 (κ)) (ih0 _ (by omega) _ ⟨by omega, _, _, _, H, rfl⟩) ⟨rfl, rfl, rfl, trivial⟩ ⟨rfl, trivial⟩ rfl
        ·rw [if_neg hc25] at H
         cases H
       ·rw [if_neg hc23] at H
        cases H
      ·rw [if_neg hc20] at H
       cases H
     ·rw [if_neg hc19] at H
      cases H
  ·rw [if_neg hc2] at H
   refine AG.no rfl (decide_eq_false hc2) ?_
   refine AG.exit ?_
   refine AG.seq ?_
   refine AG.region HM ?_
   refine a_move (v := .c (.own _ _)) ?_
   refine a_move (v := .c (.own _ _)) ?_
   refine RA.nil nofun ?_
   refine AG.ret ?_
   obtain rfl := Option.some.inj H
   exact RetP.mk (fun κ => cond (Nat.beq κ 100) 202 (κ)) ⟨rfl, trivial⟩ ⟨rfl, trivial⟩ rfl
/-! ### spec_CutOrder: function 14 -/
def spec_CutOrder.f (k : Nat) (a0_0 : Int) (a0_1 : Int) (l0_2 : List S50) (l0_3 : List S72) : Option ((List Int) × Int) := (spec_l05Ok.f k a0_0 a0_1 l0_2 l0_3).bind fun t1 => (if t1 = true then ((spec_l14Edges.f k a0_0 a0_1 l0_2 l0_3).bind fun t4 => ((spec_l14Depths.f k a0_0 a0_1 l0_2 l0_3 t4).bind fun t5 => ((spec_l14Order.f k t5).bind fun t7 => (some (t7, 0))))) else (some (([] : List Int), 1)))
set_option maxRecDepth 100000 in
theorem spec_CutOrder.ok {k : Nat} {a0_0 : Int} {a0_1 : Int} {l0_2 : List S50} {l0_3 : List S72} {r0 : List Int} {r1 : Int} (H : spec_CutOrder.f k a0_0 a0_1 l0_2 l0_3 = some (r0, r1)) : OkF Tryz.prog 14 [.agg [.d (.v (.int .i64 a0_0)), .d (.v (.int .i64 a0_1)), .d (.row 51 (l0_2.map c50)), .d (.row 76 (l0_3.map c72))]] [] (.tup [.c (.own 100 r0.length), .c (.d (.v (.int .i64 r1)))]) [(100, .row 2 (r0.map c2))] := by
 unfold spec_CutOrder.f at H
 refine OkF.of (N := 9) (rs := [2, 3]) (avs := [.c (.own 100 r0.length), .c (.d (.v (.int .i64 r1)))]) Tryz.func14 rfl rfl (fun _ _ => results_tmp2 rfl _ _ _) (by decide) rfl rfl rfl rfl (fun w0 S => ?_)
 refine AG.seq ?_
 refine AG.region HM ?_
 refine a_box 200 ?_
 refine a_nilO (e := 2) 201 ?_ T2
 refine a_move (v := vI _) ?_
 refine RA.nil nofun ?_
 refine AG.seq ?_
 refine AG.seq ?_
 refine AG.region HM ?_
 obtain ⟨t1, e2, H⟩ := bindO H
 refine a_call (v := vB t1) (nk := []) (L := [(200, _)]) ?_ rfl (spec_l05Ok.ok e2) id (qc (rP (pD (pD (pD (pD p0))))) qn) ⟨rfl, trivial⟩ trivial trivial rfl
 refine a_un (u := .bool (!t1)) ?_
 refine RA.nil nofun ?_
 by_cases hc3 : t1 = true
 ·rw [if_pos hc3] at H
  refine AG.no rfl (congrArg Bool.not hc3) ?_
  refine AG.skip ?_
  refine AG.seq ?_
  refine AG.region HM ?_
  obtain ⟨t4, et4, H⟩ := bindO H
  refine a_callF (L := [(200, _)]) ?_ rfl (spec_l14Edges.ok et4) (qc (rP (pD (pD (pD (pD p0))))) qn) ⟨rfl, trivial⟩
  obtain ⟨t5, e6, H⟩ := bindO H
  refine a_call (v := .c (.own 203 t5.length)) (nk := [(203, .row 2 (t5.map c2))]) (L := [(200, _)]) ?_ rfl (spec_l14Depths.ok e6) (fun κ => cond (Nat.beq κ 203) 100 (κ)) (qc (rP (pD (pD (pD (pD p0))))) (qd qn)) ⟨rfl, trivial⟩ ⟨rfl, trivial⟩ ⟨rfl, trivial⟩ rfl
  obtain ⟨t7, e8, H⟩ := bindO H
  refine a_call (v := .c (.own 204 t7.length)) (nk := [(204, .row 2 (t7.map c2))]) (L := [(203, _)]) ?_ rfl (spec_l14Order.ok e8) (fun κ => cond (Nat.beq κ 204) 100 (κ)) (qc rO qn) ⟨rfl, trivial⟩ ⟨rfl, trivial⟩ ⟨rfl, trivial⟩ rfl
  refine a_move (v := .c (.own _ _)) ?_
  refine a_move (v := vI _) ?_
  refine RA.nil nofun ?_
  refine AG.ret ?_
  simp only [Option.some.injEq, Prod.mk.injEq] at H
  obtain ⟨rfl, rfl⟩ := H
  exact RetP.mk (fun κ => cond (Nat.beq κ 100) 204 (κ)) ⟨rfl, rfl, trivial⟩ ⟨rfl, trivial⟩ rfl
 ·rw [if_neg hc3] at H
  refine AG.yes rfl (congrArg Bool.not (Bool.eq_false_iff.2 hc3)) ?_
  refine AG.seq ?_
  refine AG.region HM ?_
  refine a_nilO (e := 2) 205 ?_ T2
  refine a_move (v := vI _) ?_
  refine RA.nil nofun ?_
  refine AG.ret ?_
  simp only [Option.some.injEq, Prod.mk.injEq] at H
  obtain ⟨rfl, rfl⟩ := H
  exact RetP.mk (fun κ => cond (Nat.beq κ 100) 205 (κ)) ⟨(ownE rfl (by simp)), rfl, trivial⟩ ⟨rfl, trivial⟩ rfl
/-! ### impl_within: function 65 -/
def impl_within.f (a0 : Int) (a1 : Int) (a2 : Int) : Option (Bool) := if a0 ≥ a1 then (some (decide (a0 ≤ a2))) else (some false)
set_option maxRecDepth 100000 in
theorem impl_within.ok {a0 : Int} {a1 : Int} {a2 : Int} {r : Bool} (H : impl_within.f a0 a1 a2 = some r) : OkF Tryz.prog 65 [vI a0, vI a1, vI a2] [] (.c (.d (.v (.bool r)))) [] := by
 unfold impl_within.f at H
 refine OkF.of (N := 15) (rs := [6]) (avs := [.c (.d (.v (.bool r)))]) Tryz.func65 rfl rfl (fun _ _ => results_tmp rfl _ _ _) (by decide) rfl rfl rfl rfl (fun w0 S => ?_)
 refine AG.seq ?_
 refine AG.region HM ?_
 refine a_move (v := vB _) ?_
 refine RA.nil nofun ?_
 refine AG.seq ?_
 refine AG.region HM ?_
 refine a_move (v := vI _) ?_
 refine a_move (v := vI _) ?_
 refine a_int (u := .bool (decide (a0 ≥ a1))) ?_
 refine a_move (v := vB _) ?_
 by_cases hc1 : a0 ≥ a1
 ·rw [if_pos hc1] at H
  refine a_move (v := vI _) ?_ (hg := Gs.yes rfl rfl rfl (decide_eq_true hc1))
  refine a_move (v := vI _) ?_ (hg := Gs.yes rfl rfl rfl (decide_eq_true hc1))
  refine a_int (u := .bool (decide (a0 ≤ a2))) ?_ (hg := Gs.yes rfl rfl rfl (decide_eq_true hc1))
  refine a_pick (b := true) (v := vB _) ?_ (decide_eq_true hc1)
  refine a_move (v := vB _) ?_
  refine RA.nil nofun ?_
  refine AG.ret ?_
  obtain rfl := Option.some.inj H
  exact RetP.mk id ⟨rfl, trivial⟩ trivial rfl
 ·rw [if_neg hc1] at H
  refine RA.skip rfl rfl rfl rfl rfl (decide_eq_false hc1) (by decide) ?_
  refine RA.skip rfl rfl rfl rfl rfl (decide_eq_false hc1) (by decide) ?_
  refine RA.skip rfl rfl rfl rfl rfl (decide_eq_false hc1) (by decide) ?_
  refine a_pick (b := false) (v := vB _) ?_ (decide_eq_false hc1)
  refine a_move (v := vB _) ?_
  refine RA.nil nofun ?_
  refine AG.ret ?_
  obtain rfl := Option.some.inj H
  exact RetP.mk id ⟨rfl, trivial⟩ trivial rfl
/-! ### slices_Index_impl_Point: function 87 -/
def slices_Index_impl_Point.l0 : Nat → List S50 → Int → Int → Int → Int → Option (Int)
 | 0, _, _, _, _, _ => none
 | k + 1, x0, y201_0, y201_1, x7, x8 => if x8 < x7 then (if 0 ≤ x8 then (if x8 < (x0.length : Int) then (if (y201_0 == ((rd50 x0 x8).f0) && (y201_1 == ((rd50 x0 x8).f1))) = true then (some x8) else (slices_Index_impl_Point.l0 k x0 y201_0 y201_1 x7 (wrap64 (x8 + 1)))) else (none)) else (none)) else (some (-1))
def slices_Index_impl_Point.f (k : Nat) (l0 : List S50) (a1_0 : Int) (a1_1 : Int) : Option (Int) := slices_Index_impl_Point.l0 k l0 a1_0 a1_1 (l0.length : Int) 0
set_option maxRecDepth 100000 in
theorem slices_Index_impl_Point.ok {k : Nat} {l0 : List S50} {a1_0 : Int} {a1_1 : Int} {r : Int} (H : slices_Index_impl_Point.f k l0 a1_0 a1_1 = some r) : OkF Tryz.prog 87 [vR 51 (l0.map c50), .agg [.d (.v (.int .i64 a1_0)), .d (.v (.int .i64 a1_1))]] [] (.c (.d (.v (.int .i64 r)))) [] := by
 unfold slices_Index_impl_Point.f at H
 refine OkF.of (N := 19) (rs := [4]) (avs := [.c (.d (.v (.int .i64 r)))]) Tryz.func87 rfl rfl (fun _ _ => results_tmp rfl _ _ _) (by decide) rfl rfl rfl rfl (fun w0 S => ?_)
 refine AG.seq ?_
 refine AG.region HM ?_
 refine a_box 200 ?_
 refine a_move (v := vI _) ?_
 refine RA.nil nofun ?_
 refine AG.seq ?_
 refine AG.seq ?_
 refine AG.region HM ?_
 refine a_move (v := vR _ _) ?_
 refine a_lenR ?_ Tryz.underlying30
 refine a_move (v := vI _) ?_
 refine RA.nil nofun ?_
 refine AG.block ?_
 refine AG.loop ?_
 obtain ⟨K0, hK0, gK0⟩ : ∃ K, k ≤ K ∧ K ≤ k := ⟨k, Nat.le_refl k, Nat.le_refl k⟩
 refine AGr.canon (fun κ => cond (Nat.beq κ 201) 200 (κ)) (AGr.loopI (n := k) (fun k s => k ≤ K0 ∧ ∃ (x0 : List S50) (y201_0 : Int) (y201_1 : Int) (x7 : Int) (x8 : Int), slices_Index_impl_Point.l0 k x0 y201_0 y201_1 x7 x8 = some r ∧ s = St.of [(0, vR 51 (x0.map c50)), (3, .c (.ptr 201 0)), (7, vI x7), (8, vI x8)] [(201, .box 51 [.d (.v (.int .i64 y201_0)), .d (.v (.int .i64 y201_1))])]) ⟨hK0, _, _, _, _, _, H, rfl⟩ ?_ ?_) ⟨rfl, rfl, rfl, rfl, trivial⟩ ⟨rfl, trivial⟩ rfl
 ·rintro _ ⟨_, _, _, _, _, _, H, _⟩
  cases H
 ·clear H hK0
  rintro k ih0 _ ⟨hK0, x0, y201_0, y201_1, x7, x8, H, rfl⟩
  unfold slices_Index_impl_Point.l0 at H
  refine AG.seq ?_
  refine AG.region HM ?_
  refine a_int (u := .bool (decide (x8 < x7))) ?_
  refine RA.nil nofun ?_
  refine AG.seq ?_
  by_cases hc1 : x8 < x7
  ·rw [if_pos hc1] at H
   refine AG.yes rfl (decide_eq_true hc1) ?_
   refine AG.skip ?_
   refine AG.seq ?_
   refine AG.block ?_
   refine AG.seq ?_
   refine AG.region HM ?_
   refine a_move (v := vI _) ?_
   refine a_move (v := vI _) ?_
   refine RA.nil nofun ?_
   refine AG.seq ?_
   refine AG.region HM ?_
   refine a_ldB (v := .agg [_, _]) ?_ T51
   refine a_move (v := vR _ _) ?_
   refine a_move (v := vI _) ?_
   by_cases hc2 : 0 ≤ x8
   ·rw [if_pos hc2] at H
    by_cases hc3 : x8 < (x0.length : Int)
    ·rw [if_pos hc3] at H
     refine a_ixR (el := c50 (rd50 x0 x8)) ?_ ⟨hc2, hc3⟩ T51 Tryz.underlying30 (hel := R50 hc2 hc3)
     refine a_ldR (v := .agg [_, _]) ?_ T51
     refine a_eqS (b := (y201_0 == ((rd50 x0 x8).f0) && (y201_1 == ((rd50 x0 x8).f1)))) ?_ (.inl ⟨rfl, rfl⟩) (Q51 y201_0 ((rd50 x0 x8).f0) y201_1 ((rd50 x0 x8).f1)).1
     refine RA.nil (fun _ => by kernel_rfl) ?_
     by_cases hc4 : (y201_0 == ((rd50 x0 x8).f0) && (y201_1 == ((rd50 x0 x8).f1))) = true
     ·rw [if_pos hc4] at H
      refine AG.yes rfl hc4 ?_
      refine AG.seq ?_
      refine AG.region HM ?_
      refine a_move (v := vI _) ?_
      refine a_move (v := vI _) ?_
      refine RA.nil nofun ?_
      refine AG.ret ?_
      obtain rfl := Option.some.inj H
      exact RetP.mk id ⟨rfl, trivial⟩ trivial rfl
     ·rw [if_neg hc4] at H
      refine AG.no rfl (Bool.eq_false_iff.2 hc4) ?_
      refine AG.skip ?_
      refine AG.region HM ?_
      refine a_int (u := .int .i64 (wrap64 (x8 + 1))) ?_
      refine a_move (v := vI _) ?_
      refine RA.nil nofun ?_
      exact AGr.canon id (ih0 _ (by omega) _ ⟨by omega, _, _, _, _, _, H, rfl⟩) ⟨rfl, rfl, rfl, rfl, trivial⟩ ⟨rfl, trivial⟩ rfl
    ·rw [if_neg hc3] at H
     cases H
   ·rw [if_neg hc2] at H
    cases H
  ·rw [if_neg hc1] at H
   refine AG.no rfl (decide_eq_false hc1) ?_
   refine AG.exit ?_
   refine AG.seq ?_
   refine AG.region HM ?_
   refine a_move (v := vI _) ?_
   refine RA.nil nofun ?_
   refine AG.ret ?_
   obtain rfl := Option.some.inj H
   exact RetP.mk id ⟨rfl, trivial⟩ trivial rfl
/-! ### slices_Contains_impl_Point: function 66 -/
def slices_Contains_impl_Point.f (k : Nat) (l0 : List S50) (a1_0 : Int) (a1_1 : Int) : Option (Bool) := (slices_Index_impl_Point.f k l0 a1_0 a1_1).bind fun t1 => (some (decide (t1 ≥ 0)))
set_option maxRecDepth 100000 in
theorem slices_Contains_impl_Point.ok {k : Nat} {l0 : List S50} {a1_0 : Int} {a1_1 : Int} {r : Bool} (H : slices_Contains_impl_Point.f k l0 a1_0 a1_1 = some r) : OkF Tryz.prog 66 [vR 51 (l0.map c50), .agg [.d (.v (.int .i64 a1_0)), .d (.v (.int .i64 a1_1))]] [] (.c (.d (.v (.bool r)))) [] := by
 unfold slices_Contains_impl_Point.f at H
 refine OkF.of (N := 9) (rs := [4]) (avs := [.c (.d (.v (.bool r)))]) Tryz.func66 rfl rfl (fun _ _ => results_tmp rfl _ _ _) (by decide) rfl rfl rfl rfl (fun w0 S => ?_)
 refine AG.seq ?_
 refine AG.region HM ?_
 refine a_box 200 ?_
 refine a_move (v := vB _) ?_
 refine RA.nil nofun ?_
 refine AG.seq ?_
 refine AG.region HM ?_
 refine a_move (v := vR _ _) ?_
 refine a_ldB (v := .agg [_, _]) ?_ T51
 obtain ⟨t1, e2, H⟩ := bindO H
 refine a_call (v := vI t1) (nk := []) (L := []) ?_ rfl (slices_Index_impl_Point.ok e2) id (qd (qg qn)) trivial trivial trivial rfl
 refine a_int (u := .bool (decide (t1 ≥ 0))) ?_
 refine a_move (v := vB _) ?_
 refine RA.nil nofun ?_
 refine AG.ret ?_
 obtain rfl := Option.some.inj H
 exact RetP.mk id ⟨rfl, trivial⟩ trivial rfl
/-! ### impl_IsName: function 67 -/
mutual
def impl_IsName.j0 : Nat → ByteArray → Bool → Option (Bool)
 | 0, _, _ => none
 | k + 1, x0, x21 => if x21 = true then (some false) else (impl_IsName.l0 k x0 0)
def impl_IsName.l0 : Nat → ByteArray → Int → Option (Bool)
 | 0, _, _ => none
 | k + 1, x0, x3 => if x3 < (x0.size : Int) then (if 0 ≤ x3 then (if (bt x0 x3) < 97 then (if (bt x0 x3) < 48 then (some false) else (if (bt x0 x3) > 57 then (some false) else (impl_IsName.l0 k x0 (wrap64 (x3 + 1))))) else (if (bt x0 x3) > 122 then (if (bt x0 x3) < 48 then (some false) else (if (bt x0 x3) > 57 then (some false) else (impl_IsName.l0 k x0 (wrap64 (x3 + 1))))) else (impl_IsName.l0 k x0 (wrap64 (x3 + 1))))) else (none)) else (some true)
end
def impl_IsName.f (k : Nat) (a0 : ByteArray) : Option (Bool) := if (a0.size : Int) < 1 then (impl_IsName.j0 k a0 true) else (if (a0.size : Int) > 10 then (impl_IsName.j0 k a0 true) else (if 0 < (a0.size : Int) then (if (bt a0 0) < 97 then (impl_IsName.j0 k a0 true) else (impl_IsName.j0 k a0 (decide ((bt a0 0) > 122)))) else (none)))
set_option maxRecDepth 100000 in
theorem impl_IsName.ok {k : Nat} {a0 : ByteArray} {r : Bool} (H : impl_IsName.f k a0 = some r) : OkF Tryz.prog 67 [vS a0] [] (.c (.d (.v (.bool r)))) [] := by
 unfold impl_IsName.f at H
 refine OkF.of (N := 50) (rs := [2]) (avs := [.c (.d (.v (.bool r)))]) Tryz.func67 rfl rfl (fun _ _ => results_tmp rfl _ _ _) (by decide) rfl rfl rfl rfl (fun w0 S => ?_)
 refine AG.seq ?_
 refine AG.region HM ?_
 refine a_move (v := vB _) ?_
 refine RA.nil nofun ?_
 refine AG.seq ?_
 refine AG.seq ?_
 refine AG.joinR (fun s => ∃ q, q ≤ k ∧ ∃ (x0 : ByteArray) (x21 : Bool), impl_IsName.j0 q x0 x21 = some r ∧ s = St.of [(0, vS x0), (21, vB x21)] []) ?_ ?_
 ·skip
  refine AG.region HM ?_
  refine a_move (v := vS _) ?_
  refine a_lenS ?_ Tryz.underlying9
  refine a_int (u := .bool (decide ((a0.size : Int) < 1))) ?_
  refine a_move (v := vB _) ?_
  by_cases hc1 : (a0.size : Int) < 1
  ·rw [if_pos hc1] at H
   refine RA.skip rfl rfl rfl rfl rfl (decide_eq_true hc1) (by decide) ?_
   refine RA.skip rfl rfl rfl rfl rfl (decide_eq_true hc1) (by decide) ?_
   refine RA.skip rfl rfl rfl rfl rfl (decide_eq_true hc1) (by decide) ?_
   refine a_pick (b := true) (v := vB _) ?_ (decide_eq_true hc1)
   refine a_move (v := vB _) ?_
   refine RA.skip rfl rfl rfl rfl rfl rfl (by decide) ?_
   refine RA.skip rfl rfl rfl rfl rfl rfl (by decide) ?_
   refine RA.skip rfl rfl rfl rfl rfl rfl (by decide) ?_
   refine a_pick (b := true) (v := vB _) ?_ rfl
   refine a_move (v := vB _) ?_
   refine RA.skip rfl rfl rfl rfl rfl rfl (by decide) ?_
   refine RA.skip rfl rfl rfl rfl rfl rfl (by decide) ?_
   refine RA.skip rfl rfl rfl rfl rfl rfl (by decide) ?_
   refine a_pick (b := true) (v := vB _) ?_ rfl
   refine RA.nil nofun ?_
   exact CanR.mk id ⟨_, (by omega), _, _, H, rfl⟩ ⟨rfl, rfl, trivial⟩ trivial rfl
  ·rw [if_neg hc1] at H
   refine a_move (v := vS _) ?_ (hg := Gs.yes rfl rfl rfl (decide_eq_false hc1))
   refine a_lenS ?_ Tryz.underlying9 (hg := Gs.yes rfl rfl rfl (decide_eq_false hc1))
   refine a_int (u := .bool (decide ((a0.size : Int) > 10))) ?_ (hg := Gs.yes rfl rfl rfl (decide_eq_false hc1))
   refine a_pick (b := false) (v := vB _) ?_ (decide_eq_false hc1)
   refine a_move (v := vB _) ?_
   by_cases hc2 : (a0.size : Int) > 10
   ·rw [if_pos hc2] at H
    refine RA.skip rfl rfl rfl rfl rfl (decide_eq_true hc2) (by decide) ?_
    refine RA.skip rfl rfl rfl rfl rfl (decide_eq_true hc2) (by decide) ?_
    refine RA.skip rfl rfl rfl rfl rfl (decide_eq_true hc2) (by decide) ?_
    refine a_pick (b := true) (v := vB _) ?_ (decide_eq_true hc2)
    refine a_move (v := vB _) ?_
    refine RA.skip rfl rfl rfl rfl rfl rfl (by decide) ?_
    refine RA.skip rfl rfl rfl rfl rfl rfl (by decide) ?_
    refine RA.skip rfl rfl rfl rfl rfl rfl (by decide) ?_
    refine a_pick (b := true) (v := vB _) ?_ rfl
    refine RA.nil nofun ?_
    exact CanR.mk id ⟨_, (by omega), _, _, H, rfl⟩ ⟨rfl, rfl, trivial⟩ trivial rfl
   ·rw [if_neg hc2] at H
    refine a_move (v := vS _) ?_ (hg := Gs.yes rfl rfl rfl (decide_eq_false hc2))
    by_cases hc3 : 0 < (a0.size : Int)
    ·rw [if_pos hc3] at H
     refine a_str ?_ ⟨(by decide), hc3⟩ Tryz.underlying9 (hg := Gs.yes rfl rfl rfl (decide_eq_false hc2))
     refine a_int (u := .bool (decide ((bt a0 0) < 97))) ?_ (hg := Gs.yes rfl rfl rfl (decide_eq_false hc2))
     refine a_pick (b := false) (v := vB _) ?_ (decide_eq_false hc2)
     refine a_move (v := vB _) ?_
     by_cases hc4 : (bt a0 0) < 97
     ·rw [if_pos hc4] at H
      refine RA.skip rfl rfl rfl rfl rfl (decide_eq_true hc4) (by decide) ?_
      refine RA.skip rfl rfl rfl rfl rfl (decide_eq_true hc4) (by decide) ?_
      refine RA.skip rfl rfl rfl rfl rfl (decide_eq_true hc4) (by decide) ?_
      refine a_pick (b := true) (v := vB _) ?_ (decide_eq_true hc4)
      refine RA.nil nofun ?_
      exact CanR.mk id ⟨_, (by omega), _, _, H, rfl⟩ ⟨rfl, rfl, trivial⟩ trivial rfl
     ·rw [if_neg hc4] at H
      refine a_move (v := vS _) ?_ (hg := Gs.yes rfl rfl rfl (decide_eq_false hc4))
      refine a_str ?_ ⟨(by decide), hc3⟩ Tryz.underlying9 (hg := Gs.yes rfl rfl rfl (decide_eq_false hc4))
      refine a_int (u := .bool (decide ((bt a0 0) > 122))) ?_ (hg := Gs.yes rfl rfl rfl (decide_eq_false hc4))
      refine a_pick (b := false) (v := vB _) ?_ (decide_eq_false hc4)
      refine RA.nil nofun ?_
      exact CanR.mk id ⟨_, (by omega), _, _, H, rfl⟩ ⟨rfl, rfl, trivial⟩ trivial rfl
    ·rw [if_neg hc3] at H
     cases H
 ·clear H
  rintro _ ⟨k, hj0, x0, x21, H, rfl⟩
  cases k with
  | zero => cases H
  | succ k =>
   rw [impl_IsName.j0] at H
   by_cases hc5 : x21 = true
   ·rw [if_pos hc5] at H
    refine AG.yes rfl hc5 ?_
    refine AG.seq ?_
    refine AG.region HM ?_
    refine a_move (v := vB _) ?_
    refine RA.nil nofun ?_
    refine AG.ret ?_
    obtain rfl := Option.some.inj H
    exact RetP.mk id ⟨rfl, trivial⟩ trivial rfl
   ·rw [if_neg hc5] at H
    refine AG.no rfl (Bool.eq_false_iff.2 hc5) ?_
    refine AG.skip ?_
    refine AG.seq ?_
    refine AG.seq ?_
    refine AG.region HM ?_
    refine a_move (v := vI _) ?_
    refine RA.nil nofun ?_
    refine AG.block ?_
    refine AG.loop ?_
    obtain ⟨K0, hK0, gK0⟩ : ∃ K, k ≤ K ∧ K ≤ k := ⟨k, Nat.le_refl k, Nat.le_refl k⟩
    refine AGr.canon id (AGr.loopI (n := k) (fun k s => k ≤ K0 ∧ ∃ (x0 : ByteArray) (x3 : Int), impl_IsName.l0 k x0 x3 = some r ∧ s = St.of [(0, vS x0), (3, vI x3)] []) ⟨hK0, _, _, H, rfl⟩ ?_ ?_) ⟨rfl, rfl, trivial⟩ trivial rfl
    ·rintro _ ⟨_, _, _, H, _⟩
     cases H
    ·clear H hK0
     rintro k ih0 _ ⟨hK0, x0, x3, H, rfl⟩
     unfold impl_IsName.l0 at H
     refine AG.seq ?_
     refine AG.seq ?_
     refine AG.region HM ?_
     refine a_move (v := vI _) ?_
     refine a_move (v := vS _) ?_
     refine a_lenS ?_ Tryz.underlying9
     refine a_int (u := .bool (decide (x3 < (x0.size : Int)))) ?_
     refine RA.nil nofun ?_
     by_cases hc6 : x3 < (x0.size : Int)
     ·rw [if_pos hc6] at H
      refine AG.yes rfl (decide_eq_true hc6) ?_
      refine AG.skip ?_
      refine AG.seq ?_
      refine AG.block ?_
      refine AG.seq ?_
      refine AG.region HM ?_
      refine a_move (v := vS _) ?_
      refine a_move (v := vI _) ?_
      by_cases hc7 : 0 ≤ x3
      ·rw [if_pos hc7] at H
       refine a_str ?_ ⟨hc7, hc6⟩ Tryz.underlying9
       refine a_int (u := .bool (decide ((bt x0 x3) < 97))) ?_
       refine a_move (v := vB _) ?_
       by_cases hc8 : (bt x0 x3) < 97
       ·rw [if_pos hc8] at H
        refine RA.skip rfl rfl rfl rfl rfl (decide_eq_true hc8) (by decide) ?_
        refine RA.skip rfl rfl rfl rfl rfl (decide_eq_true hc8) (by decide) ?_
        refine RA.skip rfl rfl rfl rfl rfl (decide_eq_true hc8) (by decide) ?_
        refine RA.skip rfl rfl rfl rfl rfl (decide_eq_true hc8) (by decide) ?_
        refine a_pick (b := true) (v := vB _) ?_ (decide_eq_true hc8)
        refine a_move (v := vB _) ?_
        refine a_move (v := vS _) ?_ (hg := Gs.yes rfl rfl rfl rfl)
        refine a_move (v := vI _) ?_ (hg := Gs.yes rfl rfl rfl rfl)
        refine a_str ?_ ⟨hc7, hc6⟩ Tryz.underlying9 (hg := Gs.yes rfl rfl rfl rfl)
        refine a_int (u := .bool (decide ((bt x0 x3) < 48))) ?_ (hg := Gs.yes rfl rfl rfl rfl)
        refine a_move (v := vB _) ?_ (hg := Gs.yes rfl rfl rfl rfl)
        by_cases hc9 : (bt x0 x3) < 48
        ·rw [if_pos hc9] at H
         refine RA.skip rfl rfl rfl rfl rfl (decide_eq_true hc9) (by decide) ?_
         refine RA.skip rfl rfl rfl rfl rfl (decide_eq_true hc9) (by decide) ?_
         refine RA.skip rfl rfl rfl rfl rfl (decide_eq_true hc9) (by decide) ?_
         refine RA.skip rfl rfl rfl rfl rfl (decide_eq_true hc9) (by decide) ?_
         refine a_pick (b := true) (v := vB _) ?_ (decide_eq_true hc9) (hg := Gs.yes rfl rfl rfl rfl)
         refine a_pick (b := true) (v := vB _) ?_ rfl
         refine RA.nil nofun ?_
         refine AG.yes rfl rfl ?_
         refine AG.seq ?_
         refine AG.region HM ?_
         refine a_move (v := vB _) ?_
         refine RA.nil nofun ?_
         refine AG.ret ?_
         obtain rfl := Option.some.inj H
         exact RetP.mk id ⟨rfl, trivial⟩ trivial rfl
        ·rw [if_neg hc9] at H
         refine a_move (v := vS _) ?_ (hg := Gs.yes rfl rfl rfl (decide_eq_false hc9))
         refine a_move (v := vI _) ?_ (hg := Gs.yes rfl rfl rfl (decide_eq_false hc9))
         refine a_str ?_ ⟨hc7, hc6⟩ Tryz.underlying9 (hg := Gs.yes rfl rfl rfl (decide_eq_false hc9))
         refine a_int (u := .bool (decide ((bt x0 x3) > 57))) ?_ (hg := Gs.yes rfl rfl rfl (decide_eq_false hc9))
         refine a_pick (b := false) (v := vB _) ?_ (decide_eq_false hc9) (hg := Gs.yes rfl rfl rfl rfl)
         refine a_pick (b := true) (v := vB _) ?_ rfl
         refine RA.nil nofun ?_
         by_cases hc10 : (bt x0 x3) > 57
         ·rw [if_pos hc10] at H
          refine AG.yes rfl (decide_eq_true hc10) ?_
          refine AG.seq ?_
          refine AG.region HM ?_
          refine a_move (v := vB _) ?_
          refine RA.nil nofun ?_
          refine AG.ret ?_
          obtain rfl := Option.some.inj H
          exact RetP.mk id ⟨rfl, trivial⟩ trivial rfl
         ·rw [if_neg hc10] at H
          refine AG.no rfl (decide_eq_false hc10) ?_
          refine AG.skip ?_
          refine AG.region HM ?_
          refine a_move (v := vI _) ?_
          refine a_int (u := .int .i64 (wrap64 (x3 + 1))) ?_
          refine a_move (v := vI _) ?_
          refine RA.nil nofun ?_
          exact AGr.canon id (ih0 _ (by omega) _ ⟨by omega, _, _, H, rfl⟩) ⟨rfl, rfl, trivial⟩ trivial rfl
       ·rw [if_neg hc8] at H
        refine a_move (v := vS _) ?_ (hg := Gs.yes rfl rfl rfl (decide_eq_false hc8))
        refine a_move (v := vI _) ?_ (hg := Gs.yes rfl rfl rfl (decide_eq_false hc8))
        refine a_str ?_ ⟨hc7, hc6⟩ Tryz.underlying9 (hg := Gs.yes rfl rfl rfl (decide_eq_false hc8))
        refine a_int (u := .bool (decide ((bt x0 x3) > 122))) ?_ (hg := Gs.yes rfl rfl rfl (decide_eq_false hc8))
        refine a_pick (b := false) (v := vB _) ?_ (decide_eq_false hc8)
        refine a_move (v := vB _) ?_
        by_cases hc11 : (bt x0 x3) > 122
        ·rw [if_pos hc11] at H
         refine a_move (v := vS _) ?_ (hg := Gs.yes rfl rfl rfl (decide_eq_true hc11))
         refine a_move (v := vI _) ?_ (hg := Gs.yes rfl rfl rfl (decide_eq_true hc11))
         refine a_str ?_ ⟨hc7, hc6⟩ Tryz.underlying9 (hg := Gs.yes rfl rfl rfl (decide_eq_true hc11))
         refine a_int (u := .bool (decide ((bt x0 x3) < 48))) ?_ (hg := Gs.yes rfl rfl rfl (decide_eq_true hc11))
         refine a_move (v := vB _) ?_ (hg := Gs.yes rfl rfl rfl (decide_eq_true hc11))
         by_cases hc12 : (bt x0 x3) < 48
         ·rw [if_pos hc12] at H
          refine RA.skip rfl rfl rfl rfl rfl (decide_eq_true hc12) (by decide) ?_
          refine RA.skip rfl rfl rfl rfl rfl (decide_eq_true hc12) (by decide) ?_
          refine RA.skip rfl rfl rfl rfl rfl (decide_eq_true hc12) (by decide) ?_
          refine RA.skip rfl rfl rfl rfl rfl (decide_eq_true hc12) (by decide) ?_
          refine a_pick (b := true) (v := vB _) ?_ (decide_eq_true hc12) (hg := Gs.yes rfl rfl rfl (decide_eq_true hc11))
          refine a_pick (b := true) (v := vB _) ?_ (decide_eq_true hc11)
          refine RA.nil nofun ?_
          refine AG.yes rfl rfl ?_
          refine AG.seq ?_
          refine AG.region HM ?_
          refine a_move (v := vB _) ?_
          refine RA.nil nofun ?_
          refine AG.ret ?_
          obtain rfl := Option.some.inj H
          exact RetP.mk id ⟨rfl, trivial⟩ trivial rfl
         ·rw [if_neg hc12] at H
          refine a_move (v := vS _) ?_ (hg := Gs.yes rfl rfl rfl (decide_eq_false hc12))
          refine a_move (v := vI _) ?_ (hg := Gs.yes rfl rfl rfl (decide_eq_false hc12))
          refine a_str ?_ ⟨hc7, hc6⟩ Tryz.underlying9 (hg := Gs.yes rfl rfl rfl (decide_eq_false hc12))
          refine a_int (u := .bool (decide ((bt x0 x3) > 57))) ?_ (hg := Gs.yes rfl rfl rfl (decide_eq_false hc12))
          refine a_pick (b := false) (v := vB _) ?_ (decide_eq_false hc12) (hg := Gs.yes rfl rfl rfl (decide_eq_true hc11))
          refine a_pick (b := true) (v := vB _) ?_ (decide_eq_true hc11)
          refine RA.nil nofun ?_
          by_cases hc13 : (bt x0 x3) > 57
          ·rw [if_pos hc13] at H
           refine AG.yes rfl (decide_eq_true hc13) ?_
           refine AG.seq ?_
           refine AG.region HM ?_
           refine a_move (v := vB _) ?_
           refine RA.nil nofun ?_
           refine AG.ret ?_
           obtain rfl := Option.some.inj H
           exact RetP.mk id ⟨rfl, trivial⟩ trivial rfl
          ·rw [if_neg hc13] at H
           refine AG.no rfl (decide_eq_false hc13) ?_
           refine AG.skip ?_
           refine AG.region HM ?_
           refine a_move (v := vI _) ?_
           refine a_int (u := .int .i64 (wrap64 (x3 + 1))) ?_
           refine a_move (v := vI _) ?_
           refine RA.nil nofun ?_
           exact AGr.canon id (ih0 _ (by omega) _ ⟨by omega, _, _, H, rfl⟩) ⟨rfl, rfl, trivial⟩ trivial rfl
        ·rw [if_neg hc11] at H
         refine RA.skip rfl rfl rfl rfl rfl (decide_eq_false hc11) (by decide) ?_
         refine RA.skip rfl rfl rfl rfl rfl (decide_eq_false hc11) (by decide) ?_
         refine RA.skip rfl rfl rfl rfl rfl (decide_eq_false hc11) (by decide) ?_
         refine RA.skip rfl rfl rfl rfl rfl (decide_eq_false hc11) (by decide) ?_
         refine RA.skip rfl rfl rfl rfl rfl (decide_eq_false hc11) (by decide) ?_
         refine RA.skip0 rfl rfl rfl rfl rfl ?_
         refine RA.skip0 rfl rfl rfl rfl rfl ?_
         refine RA.skip0 rfl rfl rfl rfl rfl ?_
         refine RA.skip0 rfl rfl rfl rfl rfl ?_
         refine RA.skip rfl rfl rfl rfl rfl (decide_eq_false hc11) (by decide) ?_
         refine a_pick (b := false) (v := vB _) ?_ (decide_eq_false hc11)
         refine RA.nil nofun ?_
         refine AG.no rfl rfl ?_
         refine AG.skip ?_
         refine AG.region HM ?_
         refine a_move (v := vI _) ?_
         refine a_int (u := .int .i64 (wrap64 (x3 + 1))) ?_
         refine a_move (v := vI _) ?_
         refine RA.nil nofun ?_
         exact AGr.canon id (ih0 _ (by omega) _ ⟨by omega, _, _, H, rfl⟩) ⟨rfl, rfl, trivial⟩ trivial rfl
      ·rw [if_neg hc7] at H
       cases H
     ·rw [if_neg hc6] at H
      refine AG.no rfl (decide_eq_false hc6) ?_
      refine AG.exit ?_
      refine AG.seq ?_
      refine AG.region HM ?_
      refine a_move (v := vB _) ?_
      refine RA.nil nofun ?_
      refine AG.ret ?_
      obtain rfl := Option.some.inj H
      exact RetP.mk id ⟨rfl, trivial⟩ trivial rfl
/-! ### impl_ringPolygon: function 68 -/
def impl_ringPolygon.l0 : Nat → List S50 → List S50 → List Int → Int → Int → Option ((List S50) × Bool)
 | 0, _, _, _, _, _ => none
 | k + 1, x0, x6, x10, x11, x12 => if x12 < x11 then (if 0 ≤ x12 then (if x12 < (x10.length : Int) then ((impl_within.f (rd2 x10 x12) 0 (wrap64 ((x0.length : Int) - 1))).bind fun t5 => (if t5 = true then (if 0 ≤ (rd2 x10 x12) then (if (rd2 x10 x12) < (x0.length : Int) then (if x6.length < 8796093022208 then (impl_ringPolygon.l0 k x0 (x6 ++ [(⟨(rd50 x0 (rd2 x10 x12)).f0, (rd50 x0 (rd2 x10 x12)).f1⟩ : S50)]) x10 x11 (wrap64 (x12 + 1))) else (none)) else (none)) else (none)) else (some (([] : List S50), false)))) else (none)) else (none)) else (some (x6, true))
def impl_ringPolygon.f (k : Nat) (l0 : List S50) (l1 : List Int) : Option ((List S50) × Bool) := impl_ringPolygon.l0 k l0 (([] : List S50) : List S50) l1 (l1.length : Int) 0
set_option maxRecDepth 100000 in
theorem impl_ringPolygon.ok {k : Nat} {l0 : List S50} {l1 : List Int} {r0 : List S50} {r1 : Bool} (H : impl_ringPolygon.f k l0 l1 = some (r0, r1)) : OkF Tryz.prog 68 [vR 51 (l0.map c50), vR 2 (l1.map c2)] [] (.tup [.c (.own 100 r0.length), .c (.d (.v (.bool r1)))]) [(100, .row 51 (r0.map c50))] := by
 unfold impl_ringPolygon.f at H
 refine OkF.of (N := 31) (rs := [4, 5]) (avs := [.c (.own 100 r0.length), .c (.d (.v (.bool r1)))]) Tryz.func68 rfl rfl (fun _ _ => results_tmp2 rfl _ _ _) (by decide) rfl rfl rfl rfl (fun w0 S => ?_)
 refine AG.seq ?_
 refine AG.region HM ?_
 refine a_nilO (e := 51) 200 ?_ T51
 refine a_move (v := vB _) ?_
 refine RA.nil nofun ?_
 refine AG.seq ?_
 refine AG.region HM ?_
 refine a_lit (cs := []) (D := []) (css := (([] : List S50) : List S50).map c50) 201 ?_ N30 T51 (hcss := by rfl)
 refine a_move (v := .c (.own _ _)) ?_
 refine RA.nil nofun ?_
 refine AG.seq ?_
 refine AG.seq ?_
 refine AG.region HM ?_
 refine a_move (v := vR _ _) ?_
 refine a_lenR ?_ Tryz.underlying27
 refine a_move (v := vI _) ?_
 refine RA.nil nofun ?_
 refine AG.block ?_
 refine AG.loop ?_
 obtain ⟨K0, hK0, gK0⟩ : ∃ K, k ≤ K ∧ K ≤ k := ⟨k, Nat.le_refl k, Nat.le_refl k⟩
 refine AGr.canon (fun κ => cond (Nat.beq κ 202) 201 (κ)) (AGr.loopI (n := k) (fun k s => k ≤ K0 ∧ ∃ (x0 : List S50) (x6 : List S50) (x10 : List Int) (x11 : Int) (x12 : Int), impl_ringPolygon.l0 k x0 x6 x10 x11 x12 = some (r0, r1) ∧ s = St.of [(0, vR 51 (x0.map c50)), (6, .c (.own 202 x6.length)), (10, vR 2 (x10.map c2)), (11, vI x11), (12, vI x12)] [(202, .row 51 (x6.map c50))]) ⟨hK0, _, _, _, _, _, H, rfl⟩ ?_ ?_) ⟨rfl, (ownE rfl (by simp)), rfl, rfl, rfl, trivial⟩ ⟨rfl, trivial⟩ rfl
 ·rintro _ ⟨_, _, _, _, _, _, H, _⟩
  cases H
 ·clear H hK0
  rintro k ih0 _ ⟨hK0, x0, x6, x10, x11, x12, H, rfl⟩
  unfold impl_ringPolygon.l0 at H
  refine AG.seq ?_
  refine AG.region HM ?_
  refine a_int (u := .bool (decide (x12 < x11))) ?_
  refine RA.nil nofun ?_
  refine AG.seq ?_
  by_cases hc2 : x12 < x11
  ·rw [if_pos hc2] at H
   refine AG.yes rfl (decide_eq_true hc2) ?_
   refine AG.skip ?_
   refine AG.seq ?_
   refine AG.block ?_
   refine AG.seq ?_
   refine AG.region HM ?_
   by_cases hc3 : 0 ≤ x12
   ·rw [if_pos hc3] at H
    by_cases hc4 : x12 < (x10.length : Int)
    ·rw [if_pos hc4] at H
     refine a_ixR (el := c2 (rd2 x10 x12)) ?_ ⟨hc3, hc4⟩ T2 Tryz.underlying27 (hel := R2 hc3 hc4)
     refine a_ldR (v := vI _) ?_ T2
     refine a_move (v := vI _) ?_
     refine RA.nil nofun ?_
     refine AG.seq ?_
     refine AG.seq ?_
     refine AG.region HM ?_
     refine a_move (v := vI _) ?_
     refine a_move (v := vR _ _) ?_
     refine a_lenR ?_ Tryz.underlying30
     refine a_int (u := .int .i64 (wrap64 ((x0.length : Int) - 1))) ?_
     obtain ⟨t5, e6, H⟩ := bindO H
     refine a_call (v := vB t5) (nk := []) (L := []) ?_ rfl (impl_within.ok e6) id (qd (qd (qd qn))) trivial trivial trivial rfl
     refine a_un (u := .bool (!t5)) ?_
     refine RA.nil nofun ?_
     by_cases hc7 : t5 = true
     ·rw [if_pos hc7] at H
      refine AG.no rfl (congrArg Bool.not hc7) ?_
      refine AG.skip ?_
      refine AG.region HM ?_
      refine a_move (v := .c (.own _ _)) ?_
      refine a_move (v := vR _ _) ?_
      refine a_move (v := vI _) ?_
      by_cases hc8 : 0 ≤ (rd2 x10 x12)
      ·rw [if_pos hc8] at H
       by_cases hc9 : (rd2 x10 x12) < (x0.length : Int)
       ·rw [if_pos hc9] at H
        refine a_ixR (el := c50 (rd50 x0 (rd2 x10 x12))) ?_ ⟨hc8, hc9⟩ T51 Tryz.underlying30 (hel := R50 hc8 hc9)
        refine a_ldR (v := .agg [_, _]) ?_ T51
        refine a_lit (cs := [_, _]) (D := []) (css := ([(⟨(rd50 x0 (rd2 x10 x12)).f0, (rd50 x0 (rd2 x10 x12)).f1⟩ : S50)]).map c50) 204 ?_ N30 T51
        by_cases hc10 : x6.length < 8796093022208
        ·rw [if_pos hc10] at H
         refine a_appO (css' := (x6 ++ [(⟨(rd50 x0 (rd2 x10 x12)).f0, (rd50 x0 (rd2 x10 x12)).f1⟩ : S50)]).map c50) (n' := (x6 ++ [(⟨(rd50 x0 (rd2 x10 x12)).f0, (rd50 x0 (rd2 x10 x12)).f1⟩ : S50)]).length) ?_ T51 (by simp [maxLen]; omega) (by simp; omega) Tryz.underlying30 (hc := by exact List.map_append.symm) (hn := by exact List.length_map _)
         refine a_move (v := .c (.own _ _)) ?_
         refine RA.nil nofun ?_
         refine AG.region HM ?_
         refine a_int (u := .int .i64 (wrap64 (x12 + 1))) ?_
         refine a_move (v := vI _) ?_
         refine RA.nil nofun ?_
         exact AGr.canon id (ih0 _ (by omega) _ ⟨by omega, _, _, _, _, _, H, rfl⟩) ⟨rfl, rfl, rfl, rfl, rfl, trivial⟩ ⟨rfl, trivial⟩ rfl
        ·rw [if_neg hc10] at H
         cases H
       ·rw [if_neg hc9] at H
        cases H
      ·rw [if_neg hc8] at H
       cases H
     ·rw [if_neg hc7] at H
      refine AG.yes rfl (congrArg Bool.not (Bool.eq_false_iff.2 hc7)) ?_
      refine AG.seq ?_
      refine AG.region HM ?_
      refine a_nilO (e := 51) 205 ?_ T51
      refine a_move (v := vB _) ?_
      refine RA.nil nofun ?_
      refine AG.ret ?_
      simp only [Option.some.injEq, Prod.mk.injEq] at H
      obtain ⟨rfl, rfl⟩ := H
      exact RetP.mk (fun κ => cond (Nat.beq κ 100) 205 (κ)) ⟨(ownE rfl (by simp)), rfl, trivial⟩ ⟨rfl, trivial⟩ rfl
    ·rw [if_neg hc4] at H
     cases H
   ·rw [if_neg hc3] at H
    cases H
  ·rw [if_neg hc2] at H
   refine AG.no rfl (decide_eq_false hc2) ?_
   refine AG.exit ?_
   refine AG.seq ?_
   refine AG.region HM ?_
   refine a_move (v := .c (.own _ _)) ?_
   refine a_move (v := .c (.own _ _)) ?_
   refine a_move (v := vB _) ?_
   refine RA.nil nofun ?_
   refine AG.ret ?_
   simp only [Option.some.injEq, Prod.mk.injEq] at H
   obtain ⟨rfl, rfl⟩ := H
   exact RetP.mk (fun κ => cond (Nat.beq κ 100) 202 (κ)) ⟨rfl, rfl, trivial⟩ ⟨rfl, trivial⟩ rfl
/-! ### impl_ValidPoint: function 86 -/
def impl_ValidPoint.f (a0_0 : Int) (a0_1 : Int) : Option (Bool) := (impl_within.f a0_0 0 20000).bind fun t1 => (if t1 = true then ((impl_within.f a0_1 0 20000).bind fun t4 => (some t4)) else (some false))
set_option maxRecDepth 100000 in
theorem impl_ValidPoint.ok {a0_0 : Int} {a0_1 : Int} {r : Bool} (H : impl_ValidPoint.f a0_0 a0_1 = some r) : OkF Tryz.prog 86 [.agg [.d (.v (.int .i64 a0_0)), .d (.v (.int .i64 a0_1))]] [] (.c (.d (.v (.bool r)))) [] := by
 unfold impl_ValidPoint.f at H
 refine OkF.of (N := 11) (rs := [2]) (avs := [.c (.d (.v (.bool r)))]) Tryz.func86 rfl rfl (fun _ _ => results_tmp rfl _ _ _) (by decide) rfl rfl rfl rfl (fun w0 S => ?_)
 refine AG.seq ?_
 refine AG.region HM ?_
 refine a_box 200 ?_
 refine a_move (v := vB _) ?_
 refine RA.nil nofun ?_
 refine AG.seq ?_
 refine AG.region HM ?_
 refine a_faB (q := 0) ?_ D51_0
 refine a_ldB (v := vI _) ?_ T2
 obtain ⟨t1, e2, H⟩ := bindO H
 refine a_call (v := vB t1) (nk := []) (L := []) ?_ rfl (impl_within.ok e2) id (qd (qd (qd qn))) trivial trivial trivial rfl
 refine a_move (v := vB _) ?_
 by_cases hc3 : t1 = true
 ·rw [if_pos hc3] at H
  refine a_faB (q := 1) ?_ D51_1 (hg := Gs.yes rfl rfl rfl hc3)
  refine a_ldB (v := vI _) ?_ T2 (hg := Gs.yes rfl rfl rfl hc3)
  obtain ⟨t4, e5, H⟩ := bindO H
  refine a_call (v := vB t4) (nk := []) (L := []) ?_ rfl (impl_within.ok e5) id (qd (qd (qd qn))) trivial trivial trivial rfl (hg := Gs.yes rfl rfl rfl hc3)
  refine a_pick (b := true) (v := vB _) ?_ hc3
  refine a_move (v := vB _) ?_
  refine RA.nil nofun ?_
  refine AG.ret ?_
  obtain rfl := Option.some.inj H
  exact RetP.mk id ⟨rfl, trivial⟩ trivial rfl
 ·rw [if_neg hc3] at H
  refine RA.skip rfl rfl rfl rfl rfl (Bool.eq_false_iff.2 hc3) (by decide) ?_
  refine RA.skip rfl rfl rfl rfl rfl (Bool.eq_false_iff.2 hc3) (by decide) ?_
  refine RA.skip rfl rfl rfl rfl rfl (Bool.eq_false_iff.2 hc3) (by decide) ?_
  refine a_pick (b := false) (v := vB _) ?_ (Bool.eq_false_iff.2 hc3)
  refine a_move (v := vB _) ?_
  refine RA.nil nofun ?_
  refine AG.ret ?_
  obtain rfl := Option.some.inj H
  exact RetP.mk id ⟨rfl, trivial⟩ trivial rfl
/-! ### impl_validPoints: function 58 -/
def impl_validPoints.l0 : Nat → List S50 → Int → Int → Option (Bool)
 | 0, _, _, _ => none
 | k + 1, x5, x6, x7 => if x7 < x6 then (if 0 ≤ x7 then (if x7 < (x5.length : Int) then ((impl_ValidPoint.f ((rd50 x5 x7).f0) ((rd50 x5 x7).f1)).bind fun t4 => (if t4 = true then (impl_validPoints.l0 k x5 x6 (wrap64 (x7 + 1))) else (some false))) else (none)) else (none)) else (some true)
def impl_validPoints.f (k : Nat) (l0 : List S50) : Option (Bool) := impl_validPoints.l0 k l0 (l0.length : Int) 0
set_option maxRecDepth 100000 in
theorem impl_validPoints.ok {k : Nat} {l0 : List S50} {r : Bool} (H : impl_validPoints.f k l0 = some r) : OkF Tryz.prog 58 [vR 51 (l0.map c50)] [] (.c (.d (.v (.bool r)))) [] := by
 unfold impl_validPoints.f at H
 refine OkF.of (N := 15) (rs := [2]) (avs := [.c (.d (.v (.bool r)))]) Tryz.func58 rfl rfl (fun _ _ => results_tmp rfl _ _ _) (by decide) rfl rfl rfl rfl (fun w0 S => ?_)
 refine AG.seq ?_
 refine AG.region HM ?_
 refine a_move (v := vB _) ?_
 refine RA.nil nofun ?_
 refine AG.seq ?_
 refine AG.seq ?_
 refine AG.region HM ?_
 refine a_move (v := vR _ _) ?_
 refine a_lenR ?_ Tryz.underlying30
 refine a_move (v := vI _) ?_
 refine RA.nil nofun ?_
 refine AG.block ?_
 refine AG.loop ?_
 obtain ⟨K0, hK0, gK0⟩ : ∃ K, k ≤ K ∧ K ≤ k := ⟨k, Nat.le_refl k, Nat.le_refl k⟩
 refine AGr.canon id (AGr.loopI (n := k) (fun k s => k ≤ K0 ∧ ∃ (x5 : List S50) (x6 : Int) (x7 : Int), impl_validPoints.l0 k x5 x6 x7 = some r ∧ s = St.of [(5, vR 51 (x5.map c50)), (6, vI x6), (7, vI x7)] []) ⟨hK0, _, _, _, H, rfl⟩ ?_ ?_) ⟨rfl, rfl, rfl, trivial⟩ trivial rfl
 ·rintro _ ⟨_, _, _, _, H, _⟩
  cases H
 ·clear H hK0
  rintro k ih0 _ ⟨hK0, x5, x6, x7, H, rfl⟩
  unfold impl_validPoints.l0 at H
  refine AG.seq ?_
  refine AG.region HM ?_
  refine a_int (u := .bool (decide (x7 < x6))) ?_
  refine RA.nil nofun ?_
  refine AG.seq ?_
  by_cases hc1 : x7 < x6
  ·rw [if_pos hc1] at H
   refine AG.yes rfl (decide_eq_true hc1) ?_
   refine AG.skip ?_
   refine AG.seq ?_
   refine AG.block ?_
   refine AG.seq ?_
   refine AG.region HM ?_
   by_cases hc2 : 0 ≤ x7
   ·rw [if_pos hc2] at H
    by_cases hc3 : x7 < (x5.length : Int)
    ·rw [if_pos hc3] at H
     refine a_ixR (el := c50 (rd50 x5 x7)) ?_ ⟨hc2, hc3⟩ T51 Tryz.underlying30 (hel := R50 hc2 hc3)
     refine a_ldR (v := .agg [_, _]) ?_ T51
     refine a_alloc (cs := [_, _]) 200 ?_ T51
     refine a_stB (cs' := [_, _]) ?_ T51
     refine RA.nil nofun ?_
     refine AG.seq ?_
     refine AG.region HM ?_
     refine a_ldB (v := .agg [_, _]) ?_ T51
     obtain ⟨t4, e5, H⟩ := bindO H
     refine a_call (v := vB t4) (nk := []) (L := []) ?_ rfl (impl_ValidPoint.ok e5) id (qg qn) trivial trivial trivial rfl
     refine a_un (u := .bool (!t4)) ?_
     refine RA.nil nofun ?_
     by_cases hc6 : t4 = true
     ·rw [if_pos hc6] at H
      refine AG.no rfl (congrArg Bool.not hc6) ?_
      refine AG.skip ?_
      refine AG.region HM ?_
      refine a_int (u := .int .i64 (wrap64 (x7 + 1))) ?_
      refine a_move (v := vI _) ?_
      refine RA.nil nofun ?_
      exact AGr.canon id (ih0 _ (by omega) _ ⟨by omega, _, _, _, H, rfl⟩) ⟨rfl, rfl, rfl, trivial⟩ trivial rfl
     ·rw [if_neg hc6] at H
      refine AG.yes rfl (congrArg Bool.not (Bool.eq_false_iff.2 hc6)) ?_
      refine AG.seq ?_
      refine AG.region HM ?_
      refine a_move (v := vB _) ?_
      refine RA.nil nofun ?_
      refine AG.ret ?_
      obtain rfl := Option.some.inj H
      exact RetP.mk id ⟨rfl, trivial⟩ trivial rfl
    ·rw [if_neg hc3] at H
     cases H
   ·rw [if_neg hc2] at H
    cases H
  ·rw [if_neg hc1] at H
   refine AG.no rfl (decide_eq_false hc1) ?_
   refine AG.exit ?_
   refine AG.seq ?_
   refine AG.region HM ?_
   refine a_move (v := vB _) ?_
   refine RA.nil nofun ?_
   refine AG.ret ?_
   obtain rfl := Option.some.inj H
   exact RetP.mk id ⟨rfl, trivial⟩ trivial rfl
/-! ### impl_side: function 110 -/
def impl_side.f (a0_0 : Int) (a0_1 : Int) (a1_0 : Int) (a1_1 : Int) (a2_0 : Int) (a2_1 : Int) : Option (Int) := if (wrap64 ((wrap64 ((wrap64 (a1_0 - a0_0)) * (wrap64 (a2_1 - a0_1)))) - (wrap64 ((wrap64 (a1_1 - a0_1)) * (wrap64 (a2_0 - a0_0)))))) > 0 then (some 1) else (if (wrap64 ((wrap64 ((wrap64 (a1_0 - a0_0)) * (wrap64 (a2_1 - a0_1)))) - (wrap64 ((wrap64 (a1_1 - a0_1)) * (wrap64 (a2_0 - a0_0)))))) < 0 then (some (-1)) else (some 0))
set_option maxRecDepth 100000 in
theorem impl_side.ok {a0_0 : Int} {a0_1 : Int} {a1_0 : Int} {a1_1 : Int} {a2_0 : Int} {a2_1 : Int} {r : Int} (H : impl_side.f a0_0 a0_1 a1_0 a1_1 a2_0 a2_1 = some r) : OkF Tryz.prog 110 [.agg [.d (.v (.int .i64 a0_0)), .d (.v (.int .i64 a0_1))], .agg [.d (.v (.int .i64 a1_0)), .d (.v (.int .i64 a1_1))], .agg [.d (.v (.int .i64 a2_0)), .d (.v (.int .i64 a2_1))]] [] (.c (.d (.v (.int .i64 r)))) [] := by
 unfold impl_side.f at H
 refine OkF.of (N := 37) (rs := [6]) (avs := [.c (.d (.v (.int .i64 r)))]) Tryz.func110 rfl rfl (fun _ _ => results_tmp rfl _ _ _) (by decide) rfl rfl rfl rfl (fun w0 S => ?_)
 refine AG.seq ?_
 refine AG.region HM ?_
 refine a_box 200 ?_
 refine a_box 201 ?_
 refine a_box 202 ?_
 refine a_move (v := vI _) ?_
 refine RA.nil nofun ?_
 refine AG.seq ?_
 refine AG.region HM ?_
 refine a_faB (q := 0) ?_ D51_0
 refine a_ldB (v := vI _) ?_ T2
 refine a_faB (q := 0) ?_ D51_0
 refine a_ldB (v := vI _) ?_ T2
 refine a_int (u := .int .i64 (wrap64 (a1_0 - a0_0))) ?_
 refine a_faB (q := 1) ?_ D51_1
 refine a_ldB (v := vI _) ?_ T2
 refine a_faB (q := 1) ?_ D51_1
 refine a_ldB (v := vI _) ?_ T2
 refine a_int (u := .int .i64 (wrap64 (a2_1 - a0_1))) ?_
 refine a_int (u := .int .i64 (wrap64 ((wrap64 (a1_0 - a0_0)) * (wrap64 (a2_1 - a0_1))))) ?_
 refine a_faB (q := 1) ?_ D51_1
 refine a_ldB (v := vI _) ?_ T2
 refine a_faB (q := 1) ?_ D51_1
 refine a_ldB (v := vI _) ?_ T2
 refine a_int (u := .int .i64 (wrap64 (a1_1 - a0_1))) ?_
 refine a_faB (q := 0) ?_ D51_0
 refine a_ldB (v := vI _) ?_ T2
 refine a_faB (q := 0) ?_ D51_0
 refine a_ldB (v := vI _) ?_ T2
 refine a_int (u := .int .i64 (wrap64 (a2_0 - a0_0))) ?_
 refine a_int (u := .int .i64 (wrap64 ((wrap64 (a1_1 - a0_1)) * (wrap64 (a2_0 - a0_0))))) ?_
 refine a_int (u := .int .i64 (wrap64 ((wrap64 ((wrap64 (a1_0 - a0_0)) * (wrap64 (a2_1 - a0_1)))) - (wrap64 ((wrap64 (a1_1 - a0_1)) * (wrap64 (a2_0 - a0_0))))))) ?_
 refine a_move (v := vI _) ?_
 refine RA.nil nofun ?_
 refine AG.seq ?_
 refine AG.block ?_
 refine AG.seq ?_
 refine AG.region HM ?_
 refine a_move (v := vI _) ?_
 refine a_int (u := .bool (decide ((wrap64 ((wrap64 ((wrap64 (a1_0 - a0_0)) * (wrap64 (a2_1 - a0_1)))) - (wrap64 ((wrap64 (a1_1 - a0_1)) * (wrap64 (a2_0 - a0_0)))))) > 0))) ?_
 refine a_move (v := vB _) ?_
 refine RA.nil nofun ?_
 by_cases hc1 : (wrap64 ((wrap64 ((wrap64 (a1_0 - a0_0)) * (wrap64 (a2_1 - a0_1)))) - (wrap64 ((wrap64 (a1_1 - a0_1)) * (wrap64 (a2_0 - a0_0)))))) > 0
 ·rw [if_pos hc1] at H
  refine AG.yes rfl (decide_eq_true hc1) ?_
  refine AG.seq ?_
  refine AG.region HM ?_
  refine a_move (v := vI _) ?_
  refine RA.nil nofun ?_
  refine AG.ret ?_
  obtain rfl := Option.some.inj H
  exact RetP.mk id ⟨rfl, trivial⟩ trivial rfl
 ·rw [if_neg hc1] at H
  refine AG.no rfl (decide_eq_false hc1) ?_
  refine AG.seq ?_
  refine AG.region HM ?_
  refine a_move (v := vI _) ?_
  refine a_int (u := .bool (decide ((wrap64 ((wrap64 ((wrap64 (a1_0 - a0_0)) * (wrap64 (a2_1 - a0_1)))) - (wrap64 ((wrap64 (a1_1 - a0_1)) * (wrap64 (a2_0 - a0_0)))))) < 0))) ?_
  refine a_move (v := vB _) ?_
  refine RA.nil nofun ?_
  by_cases hc2 : (wrap64 ((wrap64 ((wrap64 (a1_0 - a0_0)) * (wrap64 (a2_1 - a0_1)))) - (wrap64 ((wrap64 (a1_1 - a0_1)) * (wrap64 (a2_0 - a0_0)))))) < 0
  ·rw [if_pos hc2] at H
   refine AG.yes rfl (decide_eq_true hc2) ?_
   refine AG.seq ?_
   refine AG.region HM ?_
   refine a_move (v := vI _) ?_
   refine RA.nil nofun ?_
   refine AG.ret ?_
   obtain rfl := Option.some.inj H
   exact RetP.mk id ⟨rfl, trivial⟩ trivial rfl
  ·rw [if_neg hc2] at H
   refine AG.no rfl (decide_eq_false hc2) ?_
   refine AG.skip ?_
   refine AG.seq ?_
   refine AG.region HM ?_
   refine a_move (v := vI _) ?_
   refine RA.nil nofun ?_
   refine AG.ret ?_
   obtain rfl := Option.some.inj H
   exact RetP.mk id ⟨rfl, trivial⟩ trivial rfl
/-! ### impl_on: function 88 -/
def impl_on.f (a0_0 : Int) (a0_1 : Int) (a1_0 : Int) (a1_1 : Int) (a2_0 : Int) (a2_1 : Int) : Option (Bool) := (impl_side.f a0_0 a0_1 a1_0 a1_1 a2_0 a2_1).bind fun t1 => (if t1 = 0 then ((impl_within.f a2_0 (mn a0_0 a1_0) (mx a0_0 a1_0)).bind fun t4 => (if t4 = true then ((impl_within.f a2_1 (mn a0_1 a1_1) (mx a0_1 a1_1)).bind fun t7 => (some t7)) else (some false))) else (some false))
set_option maxRecDepth 100000 in
theorem impl_on.ok {a0_0 : Int} {a0_1 : Int} {a1_0 : Int} {a1_1 : Int} {a2_0 : Int} {a2_1 : Int} {r : Bool} (H : impl_on.f a0_0 a0_1 a1_0 a1_1 a2_0 a2_1 = some r) : OkF Tryz.prog 88 [.agg [.d (.v (.int .i64 a0_0)), .d (.v (.int .i64 a0_1))], .agg [.d (.v (.int .i64 a1_0)), .d (.v (.int .i64 a1_1))], .agg [.d (.v (.int .i64 a2_0)), .d (.v (.int .i64 a2_1))]] [] (.c (.d (.v (.bool r)))) [] := by
 unfold impl_on.f at H
 refine OkF.of (N := 42) (rs := [6]) (avs := [.c (.d (.v (.bool r)))]) Tryz.func88 rfl rfl (fun _ _ => results_tmp rfl _ _ _) (by decide) rfl rfl rfl rfl (fun w0 S => ?_)
 refine AG.seq ?_
 refine AG.region HM ?_
 refine a_box 200 ?_
 refine a_box 201 ?_
 refine a_box 202 ?_
 refine a_move (v := vB _) ?_
 refine RA.nil nofun ?_
 refine AG.seq ?_
 refine AG.region HM ?_
 refine a_ldB (v := .agg [_, _]) ?_ T51
 refine a_ldB (v := .agg [_, _]) ?_ T51
 refine a_ldB (v := .agg [_, _]) ?_ T51
 obtain ⟨t1, e2, H⟩ := bindO H
 refine a_call (v := vI t1) (nk := []) (L := []) ?_ rfl (impl_side.ok e2) id (qg (qg (qg qn))) trivial trivial trivial rfl
 refine a_int (u := .bool ((t1 == 0))) ?_
 refine a_move (v := vB _) ?_
 by_cases hc3 : t1 = 0
 ·rw [if_pos hc3] at H
  refine a_faB (q := 0) ?_ D51_0 (hg := Gs.yes rfl rfl rfl (beq_iff_eq.2 hc3))
  refine a_ldB (v := vI _) ?_ T2 (hg := Gs.yes rfl rfl rfl (beq_iff_eq.2 hc3))
  refine a_faB (q := 0) ?_ D51_0 (hg := Gs.yes rfl rfl rfl (beq_iff_eq.2 hc3))
  refine a_ldB (v := vI _) ?_ T2 (hg := Gs.yes rfl rfl rfl (beq_iff_eq.2 hc3))
  refine a_faB (q := 0) ?_ D51_0 (hg := Gs.yes rfl rfl rfl (beq_iff_eq.2 hc3))
  refine a_ldB (v := vI _) ?_ T2 (hg := Gs.yes rfl rfl rfl (beq_iff_eq.2 hc3))
  refine a_minmax (mx := false) (r := mn a0_0 a1_0) ?_ (hg := Gs.yes rfl rfl rfl (beq_iff_eq.2 hc3))
  refine a_faB (q := 0) ?_ D51_0 (hg := Gs.yes rfl rfl rfl (beq_iff_eq.2 hc3))
  refine a_ldB (v := vI _) ?_ T2 (hg := Gs.yes rfl rfl rfl (beq_iff_eq.2 hc3))
  refine a_faB (q := 0) ?_ D51_0 (hg := Gs.yes rfl rfl rfl (beq_iff_eq.2 hc3))
  refine a_ldB (v := vI _) ?_ T2 (hg := Gs.yes rfl rfl rfl (beq_iff_eq.2 hc3))
  refine a_minmax (mx := true) (r := mx a0_0 a1_0) ?_ (hg := Gs.yes rfl rfl rfl (beq_iff_eq.2 hc3))
  obtain ⟨t4, e5, H⟩ := bindO H
  refine a_call (v := vB t4) (nk := []) (L := []) ?_ rfl (impl_within.ok e5) id (qd (qd (qd qn))) trivial trivial trivial rfl (hg := Gs.yes rfl rfl rfl (beq_iff_eq.2 hc3))
  refine a_pick (b := true) (v := vB _) ?_ (beq_iff_eq.2 hc3)
  refine a_move (v := vB _) ?_
  by_cases hc6 : t4 = true
  ·rw [if_pos hc6] at H
   refine a_faB (q := 1) ?_ D51_1 (hg := Gs.yes rfl rfl rfl hc6)
   refine a_ldB (v := vI _) ?_ T2 (hg := Gs.yes rfl rfl rfl hc6)
   refine a_faB (q := 1) ?_ D51_1 (hg := Gs.yes rfl rfl rfl hc6)
   refine a_ldB (v := vI _) ?_ T2 (hg := Gs.yes rfl rfl rfl hc6)
   refine a_faB (q := 1) ?_ D51_1 (hg := Gs.yes rfl rfl rfl hc6)
   refine a_ldB (v := vI _) ?_ T2 (hg := Gs.yes rfl rfl rfl hc6)
   refine a_minmax (mx := false) (r := mn a0_1 a1_1) ?_ (hg := Gs.yes rfl rfl rfl hc6)
   refine a_faB (q := 1) ?_ D51_1 (hg := Gs.yes rfl rfl rfl hc6)
   refine a_ldB (v := vI _) ?_ T2 (hg := Gs.yes rfl rfl rfl hc6)
   refine a_faB (q := 1) ?_ D51_1 (hg := Gs.yes rfl rfl rfl hc6)
   refine a_ldB (v := vI _) ?_ T2 (hg := Gs.yes rfl rfl rfl hc6)
   refine a_minmax (mx := true) (r := mx a0_1 a1_1) ?_ (hg := Gs.yes rfl rfl rfl hc6)
   obtain ⟨t7, e8, H⟩ := bindO H
   refine a_call (v := vB t7) (nk := []) (L := []) ?_ rfl (impl_within.ok e8) id (qd (qd (qd qn))) trivial trivial trivial rfl (hg := Gs.yes rfl rfl rfl hc6)
   refine a_pick (b := true) (v := vB _) ?_ hc6
   refine a_move (v := vB _) ?_
   refine RA.nil nofun ?_
   refine AG.ret ?_
   obtain rfl := Option.some.inj H
   exact RetP.mk id ⟨rfl, trivial⟩ trivial rfl
  ·rw [if_neg hc6] at H
   refine RA.skip rfl rfl rfl rfl rfl (Bool.eq_false_iff.2 hc6) (by decide) ?_
   refine RA.skip rfl rfl rfl rfl rfl (Bool.eq_false_iff.2 hc6) (by decide) ?_
   refine RA.skip rfl rfl rfl rfl rfl (Bool.eq_false_iff.2 hc6) (by decide) ?_
   refine RA.skip rfl rfl rfl rfl rfl (Bool.eq_false_iff.2 hc6) (by decide) ?_
   refine RA.skip rfl rfl rfl rfl rfl (Bool.eq_false_iff.2 hc6) (by decide) ?_
   refine RA.skip rfl rfl rfl rfl rfl (Bool.eq_false_iff.2 hc6) (by decide) ?_
   refine RA.skip rfl rfl rfl rfl rfl (Bool.eq_false_iff.2 hc6) (by decide) ?_
   refine RA.skip rfl rfl rfl rfl rfl (Bool.eq_false_iff.2 hc6) (by decide) ?_
   refine RA.skip rfl rfl rfl rfl rfl (Bool.eq_false_iff.2 hc6) (by decide) ?_
   refine RA.skip rfl rfl rfl rfl rfl (Bool.eq_false_iff.2 hc6) (by decide) ?_
   refine RA.skip rfl rfl rfl rfl rfl (Bool.eq_false_iff.2 hc6) (by decide) ?_
   refine RA.skip rfl rfl rfl rfl rfl (Bool.eq_false_iff.2 hc6) (by decide) ?_
   refine RA.skip rfl rfl rfl rfl rfl (Bool.eq_false_iff.2 hc6) (by decide) ?_
   refine a_pick (b := false) (v := vB _) ?_ (Bool.eq_false_iff.2 hc6)
   refine a_move (v := vB _) ?_
   refine RA.nil nofun ?_
   refine AG.ret ?_
   obtain rfl := Option.some.inj H
   exact RetP.mk id ⟨rfl, trivial⟩ trivial rfl
 ·rw [if_neg hc3] at H
  refine RA.skip rfl rfl rfl rfl rfl (beq_eq_false_iff_ne.2 hc3) (by decide) ?_
  refine RA.skip rfl rfl rfl rfl rfl (beq_eq_false_iff_ne.2 hc3) (by decide) ?_
  refine RA.skip rfl rfl rfl rfl rfl (beq_eq_false_iff_ne.2 hc3) (by decide) ?_
  refine RA.skip rfl rfl rfl rfl rfl (beq_eq_false_iff_ne.2 hc3) (by decide) ?_
  refine RA.skip rfl rfl rfl rfl rfl (beq_eq_false_iff_ne.2 hc3) (by decide) ?_
  refine RA.skip rfl rfl rfl rfl rfl (beq_eq_false_iff_ne.2 hc3) (by decide) ?_
  refine RA.skip rfl rfl rfl rfl rfl (beq_eq_false_iff_ne.2 hc3) (by decide) ?_
  refine RA.skip rfl rfl rfl rfl rfl (beq_eq_false_iff_ne.2 hc3) (by decide) ?_
  refine RA.skip rfl rfl rfl rfl rfl (beq_eq_false_iff_ne.2 hc3) (by decide) ?_
  refine RA.skip rfl rfl rfl rfl rfl (beq_eq_false_iff_ne.2 hc3) (by decide) ?_
  refine RA.skip rfl rfl rfl rfl rfl (beq_eq_false_iff_ne.2 hc3) (by decide) ?_
  refine RA.skip rfl rfl rfl rfl rfl (beq_eq_false_iff_ne.2 hc3) (by decide) ?_
  refine RA.skip rfl rfl rfl rfl rfl (beq_eq_false_iff_ne.2 hc3) (by decide) ?_
  refine a_pick (b := false) (v := vB _) ?_ (beq_eq_false_iff_ne.2 hc3)
  refine a_move (v := vB _) ?_
  refine RA.skip rfl rfl rfl rfl rfl rfl (by decide) ?_
  refine RA.skip rfl rfl rfl rfl rfl rfl (by decide) ?_
  refine RA.skip rfl rfl rfl rfl rfl rfl (by decide) ?_
  refine RA.skip rfl rfl rfl rfl rfl rfl (by decide) ?_
  refine RA.skip rfl rfl rfl rfl rfl rfl (by decide) ?_
  refine RA.skip rfl rfl rfl rfl rfl rfl (by decide) ?_
  refine RA.skip rfl rfl rfl rfl rfl rfl (by decide) ?_
  refine RA.skip rfl rfl rfl rfl rfl rfl (by decide) ?_
  refine RA.skip rfl rfl rfl rfl rfl rfl (by decide) ?_
  refine RA.skip rfl rfl rfl rfl rfl rfl (by decide) ?_
  refine RA.skip rfl rfl rfl rfl rfl rfl (by decide) ?_
  refine RA.skip rfl rfl rfl rfl rfl rfl (by decide) ?_
  refine RA.skip rfl rfl rfl rfl rfl rfl (by decide) ?_
  refine a_pick (b := false) (v := vB _) ?_ rfl
  refine a_move (v := vB _) ?_
  refine RA.nil nofun ?_
  refine AG.ret ?_
  obtain rfl := Option.some.inj H
  exact RetP.mk id ⟨rfl, trivial⟩ trivial rfl
/-! ### impl_crossing: function 111 -/
def impl_crossing.f (a0_0 : Int) (a0_1 : Int) (a1_0 : Int) (a1_1 : Int) (a2_0 : Int) (a2_1 : Int) (a3_0 : Int) (a3_1 : Int) : Option (Bool) := (impl_side.f a0_0 a0_1 a1_0 a1_1 a2_0 a2_1).bind fun t1 => ((impl_side.f a0_0 a0_1 a1_0 a1_1 a3_0 a3_1).bind fun t3 => (if (wrap64 (t1 * t3)) < 0 then ((impl_side.f a2_0 a2_1 a3_0 a3_1 a0_0 a0_1).bind fun t6 => ((impl_side.f a2_0 a2_1 a3_0 a3_1 a1_0 a1_1).bind fun t8 => (some (decide ((wrap64 (t6 * t8)) < 0))))) else (some false)))
set_option maxRecDepth 100000 in
theorem impl_crossing.ok {a0_0 : Int} {a0_1 : Int} {a1_0 : Int} {a1_1 : Int} {a2_0 : Int} {a2_1 : Int} {a3_0 : Int} {a3_1 : Int} {r : Bool} (H : impl_crossing.f a0_0 a0_1 a1_0 a1_1 a2_0 a2_1 a3_0 a3_1 = some r) : OkF Tryz.prog 111 [.agg [.d (.v (.int .i64 a0_0)), .d (.v (.int .i64 a0_1))], .agg [.d (.v (.int .i64 a1_0)), .d (.v (.int .i64 a1_1))], .agg [.d (.v (.int .i64 a2_0)), .d (.v (.int .i64 a2_1))], .agg [.d (.v (.int .i64 a3_0)), .d (.v (.int .i64 a3_1))]] [] (.c (.d (.v (.bool r)))) [] := by
 unfold impl_crossing.f at H
 refine OkF.of (N := 31) (rs := [8]) (avs := [.c (.d (.v (.bool r)))]) Tryz.func111 rfl rfl (fun _ _ => results_tmp rfl _ _ _) (by decide) rfl rfl rfl rfl (fun w0 S => ?_)
 refine AG.seq ?_
 refine AG.region HM ?_
 refine a_box 200 ?_
 refine a_box 201 ?_
 refine a_box 202 ?_
 refine a_box 203 ?_
 refine a_move (v := vB _) ?_
 refine RA.nil nofun ?_
 refine AG.seq ?_
 refine AG.region HM ?_
 refine a_ldB (v := .agg [_, _]) ?_ T51
 refine a_ldB (v := .agg [_, _]) ?_ T51
 refine a_ldB (v := .agg [_, _]) ?_ T51
 obtain ⟨t1, e2, H⟩ := bindO H
 refine a_call (v := vI t1) (nk := []) (L := []) ?_ rfl (impl_side.ok e2) id (qg (qg (qg qn))) trivial trivial trivial rfl
 refine a_ldB (v := .agg [_, _]) ?_ T51
 refine a_ldB (v := .agg [_, _]) ?_ T51
 refine a_ldB (v := .agg [_, _]) ?_ T51
 obtain ⟨t3, e4, H⟩ := bindO H
 refine a_call (v := vI t3) (nk := []) (L := []) ?_ rfl (impl_side.ok e4) id (qg (qg (qg qn))) trivial trivial trivial rfl
 refine a_int (u := .int .i64 (wrap64 (t1 * t3))) ?_
 refine a_int (u := .bool (decide ((wrap64 (t1 * t3)) < 0))) ?_
 refine a_move (v := vB _) ?_
 by_cases hc5 : (wrap64 (t1 * t3)) < 0
 ·rw [if_pos hc5] at H
  refine a_ldB (v := .agg [_, _]) ?_ T51 (hg := Gs.yes rfl rfl rfl (decide_eq_true hc5))
  refine a_ldB (v := .agg [_, _]) ?_ T51 (hg := Gs.yes rfl rfl rfl (decide_eq_true hc5))
  refine a_ldB (v := .agg [_, _]) ?_ T51 (hg := Gs.yes rfl rfl rfl (decide_eq_true hc5))
  obtain ⟨t6, e7, H⟩ := bindO H
  refine a_call (v := vI t6) (nk := []) (L := []) ?_ rfl (impl_side.ok e7) id (qg (qg (qg qn))) trivial trivial trivial rfl (hg := Gs.yes rfl rfl rfl (decide_eq_true hc5))
  refine a_ldB (v := .agg [_, _]) ?_ T51 (hg := Gs.yes rfl rfl rfl (decide_eq_true hc5))
  refine a_ldB (v := .agg [_, _]) ?_ T51 (hg := Gs.yes rfl rfl rfl (decide_eq_true hc5))
  refine a_ldB (v := .agg [_, _]) ?_ T51 (hg := Gs.yes rfl rfl rfl (decide_eq_true hc5))
  obtain ⟨t8, e9, H⟩ := bindO H
  refine a_call (v := vI t8) (nk := []) (L := []) ?_ rfl (impl_side.ok e9) id (qg (qg (qg qn))) trivial trivial trivial rfl (hg := Gs.yes rfl rfl rfl (decide_eq_true hc5))
  refine a_int (u := .int .i64 (wrap64 (t6 * t8))) ?_ (hg := Gs.yes rfl rfl rfl (decide_eq_true hc5))
  refine a_int (u := .bool (decide ((wrap64 (t6 * t8)) < 0))) ?_ (hg := Gs.yes rfl rfl rfl (decide_eq_true hc5))
  refine a_pick (b := true) (v := vB _) ?_ (decide_eq_true hc5)
  refine a_move (v := vB _) ?_
  refine RA.nil (fun _ => by kernel_rfl) ?_
  refine AG.ret ?_
  obtain rfl := Option.some.inj H
  exact RetP.mk id ⟨rfl, trivial⟩ trivial rfl
 ·rw [if_neg hc5] at H
  refine RA.skip rfl rfl rfl rfl rfl (decide_eq_false hc5) (by decide) ?_
  refine RA.skip rfl rfl rfl rfl rfl (decide_eq_false hc5) (by decide) ?_
  refine RA.skip rfl rfl rfl rfl rfl (decide_eq_false hc5) (by decide) ?_
  refine RA.skip rfl rfl rfl rfl rfl (decide_eq_false hc5) (by decide) ?_
  refine RA.skip rfl rfl rfl rfl rfl (decide_eq_false hc5) (by decide) ?_
  refine RA.skip rfl rfl rfl rfl rfl (decide_eq_false hc5) (by decide) ?_
  refine RA.skip rfl rfl rfl rfl rfl (decide_eq_false hc5) (by decide) ?_
  refine RA.skip rfl rfl rfl rfl rfl (decide_eq_false hc5) (by decide) ?_
  refine RA.skip rfl rfl rfl rfl rfl (decide_eq_false hc5) (by decide) ?_
  refine RA.skip rfl rfl rfl rfl rfl (decide_eq_false hc5) (by decide) ?_
  refine a_pick (b := false) (v := vB _) ?_ (decide_eq_false hc5)
  refine a_move (v := vB _) ?_
  refine RA.nil (fun _ => by kernel_rfl) ?_
  refine AG.ret ?_
  obtain rfl := Option.some.inj H
  exact RetP.mk id ⟨rfl, trivial⟩ trivial rfl
/-! ### impl_touching: function 89 -/
def impl_touching.f (a0_0 : Int) (a0_1 : Int) (a1_0 : Int) (a1_1 : Int) (a2_0 : Int) (a2_1 : Int) (a3_0 : Int) (a3_1 : Int) : Option (Bool) := (impl_crossing.f a0_0 a0_1 a1_0 a1_1 a2_0 a2_1 a3_0 a3_1).bind fun t1 => (if t1 = true then (some true) else ((impl_on.f a0_0 a0_1 a1_0 a1_1 a2_0 a2_1).bind fun t4 => (if t4 = true then (some true) else ((impl_on.f a0_0 a0_1 a1_0 a1_1 a3_0 a3_1).bind fun t7 => (if t7 = true then (some true) else ((impl_on.f a2_0 a2_1 a3_0 a3_1 a0_0 a0_1).bind fun t10 => (if t10 = true then (some true) else ((impl_on.f a2_0 a2_1 a3_0 a3_1 a1_0 a1_1).bind fun t13 => (some t13)))))))))
set_option maxRecDepth 100000 in
theorem impl_touching.ok {a0_0 : Int} {a0_1 : Int} {a1_0 : Int} {a1_1 : Int} {a2_0 : Int} {a2_1 : Int} {a3_0 : Int} {a3_1 : Int} {r : Bool} (H : impl_touching.f a0_0 a0_1 a1_0 a1_1 a2_0 a2_1 a3_0 a3_1 = some r) : OkF Tryz.prog 89 [.agg [.d (.v (.int .i64 a0_0)), .d (.v (.int .i64 a0_1))], .agg [.d (.v (.int .i64 a1_0)), .d (.v (.int .i64 a1_1))], .agg [.d (.v (.int .i64 a2_0)), .d (.v (.int .i64 a2_1))], .agg [.d (.v (.int .i64 a3_0)), .d (.v (.int .i64 a3_1))]] [] (.c (.d (.v (.bool r)))) [] := by
 unfold impl_touching.f at H
 refine OkF.of (N := 38) (rs := [8]) (avs := [.c (.d (.v (.bool r)))]) Tryz.func89 rfl rfl (fun _ _ => results_tmp rfl _ _ _) (by decide) rfl rfl rfl rfl (fun w0 S => ?_)
 refine AG.seq ?_
 refine AG.region HM ?_
 refine a_box 200 ?_
 refine a_box 201 ?_
 refine a_box 202 ?_
 refine a_box 203 ?_
 refine a_move (v := vB _) ?_
 refine RA.nil nofun ?_
 refine AG.seq ?_
 refine AG.region HM ?_
 refine a_ldB (v := .agg [_, _]) ?_ T51
 refine a_ldB (v := .agg [_, _]) ?_ T51
 refine a_ldB (v := .agg [_, _]) ?_ T51
 refine a_ldB (v := .agg [_, _]) ?_ T51
 obtain ⟨t1, e2, H⟩ := bindO H
 refine a_call (v := vB t1) (nk := []) (L := []) ?_ rfl (impl_crossing.ok e2) id (qg (qg (qg (qg qn)))) trivial trivial trivial rfl
 refine a_move (v := vB _) ?_
 by_cases hc3 : t1 = true
 ·rw [if_pos hc3] at H
  refine RA.skip rfl rfl rfl rfl rfl hc3 (by decide) ?_
  refine RA.skip rfl rfl rfl rfl rfl hc3 (by decide) ?_
  refine RA.skip rfl rfl rfl rfl rfl hc3 (by decide) ?_
  refine RA.skip rfl rfl rfl rfl rfl hc3 (by decide) ?_
  refine a_pick (b := true) (v := vB _) ?_ hc3
  refine a_move (v := vB _) ?_
  refine RA.skip rfl rfl rfl rfl rfl rfl (by decide) ?_
  refine RA.skip rfl rfl rfl rfl rfl rfl (by decide) ?_
  refine RA.skip rfl rfl rfl rfl rfl rfl (by decide) ?_
  refine RA.skip rfl rfl rfl rfl rfl rfl (by decide) ?_
  refine a_pick (b := true) (v := vB _) ?_ rfl
  refine a_move (v := vB _) ?_
  refine RA.skip rfl rfl rfl rfl rfl rfl (by decide) ?_
  refine RA.skip rfl rfl rfl rfl rfl rfl (by decide) ?_
  refine RA.skip rfl rfl rfl rfl rfl rfl (by decide) ?_
  refine RA.skip rfl rfl rfl rfl rfl rfl (by decide) ?_
  refine a_pick (b := true) (v := vB _) ?_ rfl
  refine a_move (v := vB _) ?_
  refine RA.skip rfl rfl rfl rfl rfl rfl (by decide) ?_
  refine RA.skip rfl rfl rfl rfl rfl rfl (by decide) ?_
  refine RA.skip rfl rfl rfl rfl rfl rfl (by decide) ?_
  refine RA.skip rfl rfl rfl rfl rfl rfl (by decide) ?_
  refine a_pick (b := true) (v := vB _) ?_ rfl
  refine a_move (v := vB _) ?_
  refine RA.nil nofun ?_
  refine AG.ret ?_
  obtain rfl := Option.some.inj H
  exact RetP.mk id ⟨rfl, trivial⟩ trivial rfl
 ·rw [if_neg hc3] at H
  refine a_ldB (v := .agg [_, _]) ?_ T51 (hg := Gs.yes rfl rfl rfl (Bool.eq_false_iff.2 hc3))
  refine a_ldB (v := .agg [_, _]) ?_ T51 (hg := Gs.yes rfl rfl rfl (Bool.eq_false_iff.2 hc3))
  refine a_ldB (v := .agg [_, _]) ?_ T51 (hg := Gs.yes rfl rfl rfl (Bool.eq_false_iff.2 hc3))
  obtain ⟨t4, e5, H⟩ := bindO H
  refine a_call (v := vB t4) (nk := []) (L := []) ?_ rfl (impl_on.ok e5) id (qg (qg (qg qn))) trivial trivial trivial rfl (hg := Gs.yes rfl rfl rfl (Bool.eq_false_iff.2 hc3))
  refine a_pick (b := false) (v := vB _) ?_ (Bool.eq_false_iff.2 hc3)
  refine a_move (v := vB _) ?_
  by_cases hc6 : t4 = true
  ·rw [if_pos hc6] at H
   refine RA.skip rfl rfl rfl rfl rfl hc6 (by decide) ?_
   refine RA.skip rfl rfl rfl rfl rfl hc6 (by decide) ?_
   refine RA.skip rfl rfl rfl rfl rfl hc6 (by decide) ?_
   refine RA.skip rfl rfl rfl rfl rfl hc6 (by decide) ?_
   refine a_pick (b := true) (v := vB _) ?_ hc6
   refine a_move (v := vB _) ?_
   refine RA.skip rfl rfl rfl rfl rfl rfl (by decide) ?_
   refine RA.skip rfl rfl rfl rfl rfl rfl (by decide) ?_
   refine RA.skip rfl rfl rfl rfl rfl rfl (by decide) ?_
   refine RA.skip rfl rfl rfl rfl rfl rfl (by decide) ?_
   refine a_pick (b := true) (v := vB _) ?_ rfl
   refine a_move (v := vB _) ?_
   refine RA.skip rfl rfl rfl rfl rfl rfl (by decide) ?_
   refine RA.skip rfl rfl rfl rfl rfl rfl (by decide) ?_
   refine RA.skip rfl rfl rfl rfl rfl rfl (by decide) ?_
   refine RA.skip rfl rfl rfl rfl rfl rfl (by decide) ?_
   refine a_pick (b := true) (v := vB _) ?_ rfl
   refine a_move (v := vB _) ?_
   refine RA.nil nofun ?_
   refine AG.ret ?_
   obtain rfl := Option.some.inj H
   exact RetP.mk id ⟨rfl, trivial⟩ trivial rfl
  ·rw [if_neg hc6] at H
   refine a_ldB (v := .agg [_, _]) ?_ T51 (hg := Gs.yes rfl rfl rfl (Bool.eq_false_iff.2 hc6))
   refine a_ldB (v := .agg [_, _]) ?_ T51 (hg := Gs.yes rfl rfl rfl (Bool.eq_false_iff.2 hc6))
   refine a_ldB (v := .agg [_, _]) ?_ T51 (hg := Gs.yes rfl rfl rfl (Bool.eq_false_iff.2 hc6))
   obtain ⟨t7, e8, H⟩ := bindO H
   refine a_call (v := vB t7) (nk := []) (L := []) ?_ rfl (impl_on.ok e8) id (qg (qg (qg qn))) trivial trivial trivial rfl (hg := Gs.yes rfl rfl rfl (Bool.eq_false_iff.2 hc6))
   refine a_pick (b := false) (v := vB _) ?_ (Bool.eq_false_iff.2 hc6)
   refine a_move (v := vB _) ?_
   by_cases hc9 : t7 = true
   ·rw [if_pos hc9] at H
    refine RA.skip rfl rfl rfl rfl rfl hc9 (by decide) ?_
    refine RA.skip rfl rfl rfl rfl rfl hc9 (by decide) ?_
    refine RA.skip rfl rfl rfl rfl rfl hc9 (by decide) ?_
    refine RA.skip rfl rfl rfl rfl rfl hc9 (by decide) ?_
    refine a_pick (b := true) (v := vB _) ?_ hc9
    refine a_move (v := vB _) ?_
    refine RA.skip rfl rfl rfl rfl rfl rfl (by decide) ?_
    refine RA.skip rfl rfl rfl rfl rfl rfl (by decide) ?_
    refine RA.skip rfl rfl rfl rfl rfl rfl (by decide) ?_
    refine RA.skip rfl rfl rfl rfl rfl rfl (by decide) ?_
    refine a_pick (b := true) (v := vB _) ?_ rfl
    refine a_move (v := vB _) ?_
    refine RA.nil nofun ?_
    refine AG.ret ?_
    obtain rfl := Option.some.inj H
    exact RetP.mk id ⟨rfl, trivial⟩ trivial rfl
   ·rw [if_neg hc9] at H
    refine a_ldB (v := .agg [_, _]) ?_ T51 (hg := Gs.yes rfl rfl rfl (Bool.eq_false_iff.2 hc9))
    refine a_ldB (v := .agg [_, _]) ?_ T51 (hg := Gs.yes rfl rfl rfl (Bool.eq_false_iff.2 hc9))
    refine a_ldB (v := .agg [_, _]) ?_ T51 (hg := Gs.yes rfl rfl rfl (Bool.eq_false_iff.2 hc9))
    obtain ⟨t10, e11, H⟩ := bindO H
    refine a_call (v := vB t10) (nk := []) (L := []) ?_ rfl (impl_on.ok e11) id (qg (qg (qg qn))) trivial trivial trivial rfl (hg := Gs.yes rfl rfl rfl (Bool.eq_false_iff.2 hc9))
    refine a_pick (b := false) (v := vB _) ?_ (Bool.eq_false_iff.2 hc9)
    refine a_move (v := vB _) ?_
    by_cases hc12 : t10 = true
    ·rw [if_pos hc12] at H
     refine RA.skip rfl rfl rfl rfl rfl hc12 (by decide) ?_
     refine RA.skip rfl rfl rfl rfl rfl hc12 (by decide) ?_
     refine RA.skip rfl rfl rfl rfl rfl hc12 (by decide) ?_
     refine RA.skip rfl rfl rfl rfl rfl hc12 (by decide) ?_
     refine a_pick (b := true) (v := vB _) ?_ hc12
     refine a_move (v := vB _) ?_
     refine RA.nil nofun ?_
     refine AG.ret ?_
     obtain rfl := Option.some.inj H
     exact RetP.mk id ⟨rfl, trivial⟩ trivial rfl
    ·rw [if_neg hc12] at H
     refine a_ldB (v := .agg [_, _]) ?_ T51 (hg := Gs.yes rfl rfl rfl (Bool.eq_false_iff.2 hc12))
     refine a_ldB (v := .agg [_, _]) ?_ T51 (hg := Gs.yes rfl rfl rfl (Bool.eq_false_iff.2 hc12))
     refine a_ldB (v := .agg [_, _]) ?_ T51 (hg := Gs.yes rfl rfl rfl (Bool.eq_false_iff.2 hc12))
     obtain ⟨t13, e14, H⟩ := bindO H
     refine a_call (v := vB t13) (nk := []) (L := []) ?_ rfl (impl_on.ok e14) id (qg (qg (qg qn))) trivial trivial trivial rfl (hg := Gs.yes rfl rfl rfl (Bool.eq_false_iff.2 hc12))
     refine a_pick (b := false) (v := vB _) ?_ (Bool.eq_false_iff.2 hc12)
     refine a_move (v := vB _) ?_
     refine RA.nil nofun ?_
     refine AG.ret ?_
     obtain rfl := Option.some.inj H
     exact RetP.mk id ⟨rfl, trivial⟩ trivial rfl
/-! ### impl_doubled: function 90 -/
def impl_doubled.l0 : Nat → List S50 → Int → List S50 → Int → Int → Option (Int)
 | 0, _, _, _, _, _ => none
 | k + 1, x0, x3, x7, x8, x9 => if x9 < x8 then (if 0 ≤ x9 then (if x9 < (x7.length : Int) then (if (x0.length : Int) = 0 then (none) else (if 0 ≤ (Int.tmod (wrap64 (x9 + 1)) (x0.length : Int)) then (if (Int.tmod (wrap64 (x9 + 1)) (x0.length : Int)) < (x0.length : Int) then (impl_doubled.l0 k x0 (wrap64 (x3 + (wrap64 ((wrap64 (((rd50 x7 x9).f0) * ((rd50 x0 (Int.tmod (wrap64 (x9 + 1)) (x0.length : Int))).f1))) - (wrap64 (((rd50 x7 x9).f1) * ((rd50 x0 (Int.tmod (wrap64 (x9 + 1)) (x0.length : Int))).f0))))))) x7 x8 (wrap64 (x9 + 1))) else (none)) else (none))) else (none)) else (none)) else (some x3)
def impl_doubled.f (k : Nat) (l0 : List S50) : Option (Int) := impl_doubled.l0 k l0 0 l0 (l0.length : Int) 0
set_option maxRecDepth 100000 in
theorem impl_doubled.ok {k : Nat} {l0 : List S50} {r : Int} (H : impl_doubled.f k l0 = some r) : OkF Tryz.prog 90 [vR 51 (l0.map c50)] [] (.c (.d (.v (.int .i64 r)))) [] := by
 unfold impl_doubled.f at H
 refine OkF.of (N := 37) (rs := [2]) (avs := [.c (.d (.v (.int .i64 r)))]) Tryz.func90 rfl rfl (fun _ _ => results_tmp rfl _ _ _) (by decide) rfl rfl rfl rfl (fun w0 S => ?_)
 refine AG.seq ?_
 refine AG.region HM ?_
 refine a_move (v := vI _) ?_
 refine RA.nil nofun ?_
 refine AG.seq ?_
 refine AG.region HM ?_
 refine a_move (v := vI _) ?_
 refine RA.nil nofun ?_
 refine AG.seq ?_
 refine AG.seq ?_
 refine AG.region HM ?_
 refine a_move (v := vR _ _) ?_
 refine a_lenR ?_ Tryz.underlying30
 refine a_move (v := vI _) ?_
 refine RA.nil nofun ?_
 refine AG.block ?_
 refine AG.loop ?_
 obtain ⟨K0, hK0, gK0⟩ : ∃ K, k ≤ K ∧ K ≤ k := ⟨k, Nat.le_refl k, Nat.le_refl k⟩
 refine AGr.canon id (AGr.loopI (n := k) (fun k s => k ≤ K0 ∧ ∃ (x0 : List S50) (x3 : Int) (x7 : List S50) (x8 : Int) (x9 : Int), impl_doubled.l0 k x0 x3 x7 x8 x9 = some r ∧ s = St.of [(0, vR 51 (x0.map c50)), (3, vI x3), (7, vR 51 (x7.map c50)), (8, vI x8), (9, vI x9)] []) ⟨hK0, _, _, _, _, _, H, rfl⟩ ?_ ?_) ⟨rfl, rfl, rfl, rfl, rfl, trivial⟩ trivial rfl
 ·rintro _ ⟨_, _, _, _, _, _, H, _⟩
  cases H
 ·clear H hK0
  rintro k ih0 _ ⟨hK0, x0, x3, x7, x8, x9, H, rfl⟩
  unfold impl_doubled.l0 at H
  refine AG.seq ?_
  refine AG.region HM ?_
  refine a_int (u := .bool (decide (x9 < x8))) ?_
  refine RA.nil nofun ?_
  refine AG.seq ?_
  by_cases hc1 : x9 < x8
  ·rw [if_pos hc1] at H
   refine AG.yes rfl (decide_eq_true hc1) ?_
   refine AG.skip ?_
   refine AG.seq ?_
   refine AG.block ?_
   refine AG.seq ?_
   refine AG.region HM ?_
   refine a_move (v := vI _) ?_
   by_cases hc2 : 0 ≤ x9
   ·rw [if_pos hc2] at H
    by_cases hc3 : x9 < (x7.length : Int)
    ·rw [if_pos hc3] at H
     refine a_ixR (el := c50 (rd50 x7 x9)) ?_ ⟨hc2, hc3⟩ T51 Tryz.underlying30 (hel := R50 hc2 hc3)
     refine a_ldR (v := .agg [_, _]) ?_ T51
     refine a_alloc (cs := [_, _]) 200 ?_ T51
     refine a_move (v := vI _) ?_
     refine a_stB (cs' := [_, _]) ?_ T51
     refine RA.nil nofun ?_
     refine AG.seq ?_
     refine AG.region HM ?_
     refine a_move (v := vR _ _) ?_
     refine a_move (v := vI _) ?_
     refine a_int (u := .int .i64 (wrap64 (x9 + 1))) ?_
     refine a_move (v := vR _ _) ?_
     refine a_lenR ?_ Tryz.underlying30
     by_cases hc4 : (x0.length : Int) = 0
     ·rw [if_pos hc4] at H
      cases H
     ·rw [if_neg hc4] at H
      refine a_rem (r := Int.tmod (wrap64 (x9 + 1)) (x0.length : Int)) ?_ hc4
      by_cases hc5 : 0 ≤ (Int.tmod (wrap64 (x9 + 1)) (x0.length : Int))
      ·rw [if_pos hc5] at H
       by_cases hc6 : (Int.tmod (wrap64 (x9 + 1)) (x0.length : Int)) < (x0.length : Int)
       ·rw [if_pos hc6] at H
        refine a_ixR (el := c50 (rd50 x0 (Int.tmod (wrap64 (x9 + 1)) (x0.length : Int)))) ?_ ⟨hc5, hc6⟩ T51 Tryz.underlying30 (hel := R50 hc5 hc6)
        refine a_ldR (v := .agg [_, _]) ?_ T51
        refine a_alloc (cs := [_, _]) 201 ?_ T51
        refine a_stB (cs' := [_, _]) ?_ T51
        refine RA.nil nofun ?_
        refine AG.region HM ?_
        refine a_move (v := vI _) ?_
        refine a_faB (q := 0) ?_ D51_0
        refine a_ldB (v := vI _) ?_ T2
        refine a_faB (q := 1) ?_ D51_1
        refine a_ldB (v := vI _) ?_ T2
        refine a_int (u := .int .i64 (wrap64 (((rd50 x7 x9).f0) * ((rd50 x0 (Int.tmod (wrap64 (x9 + 1)) (x0.length : Int))).f1)))) ?_
        refine a_faB (q := 1) ?_ D51_1
        refine a_ldB (v := vI _) ?_ T2
        refine a_faB (q := 0) ?_ D51_0
        refine a_ldB (v := vI _) ?_ T2
        refine a_int (u := .int .i64 (wrap64 (((rd50 x7 x9).f1) * ((rd50 x0 (Int.tmod (wrap64 (x9 + 1)) (x0.length : Int))).f0)))) ?_
        refine a_int (u := .int .i64 (wrap64 ((wrap64 (((rd50 x7 x9).f0) * ((rd50 x0 (Int.tmod (wrap64 (x9 + 1)) (x0.length : Int))).f1))) - (wrap64 (((rd50 x7 x9).f1) * ((rd50 x0 (Int.tmod (wrap64 (x9 + 1)) (x0.length : Int))).f0)))))) ?_
        refine a_int (u := .int .i64 (wrap64 (x3 + (wrap64 ((wrap64 (((rd50 x7 x9).f0) * ((rd50 x0 (Int.tmod (wrap64 (x9 + 1)) (x0.length : Int))).f1))) - (wrap64 (((rd50 x7 x9).f1) * ((rd50 x0 (Int.tmod (wrap64 (x9 + 1)) (x0.length : Int))).f0)))))))) ?_
        refine a_move (v := vI _) ?_
        refine RA.nil nofun ?_
        refine AG.region HM ?_
        refine a_int (u := .int .i64 (wrap64 (x9 + 1))) ?_
        refine a_move (v := vI _) ?_
        refine RA.nil nofun ?_
        exact AGr.canon id (ih0 _ (by omega) _ ⟨by omega, _, _, _, _, _, H, rfl⟩) ⟨rfl, rfl, rfl, rfl, rfl, trivial⟩ trivial rfl
       ·rw [if_neg hc6] at H
        cases H
      ·rw [if_neg hc5] at H
       cases H
    ·rw [if_neg hc3] at H
     cases H
   ·rw [if_neg hc2] at H
    cases H
  ·rw [if_neg hc1] at H
   refine AG.no rfl (decide_eq_false hc1) ?_
   refine AG.exit ?_
   refine AG.seq ?_
   refine AG.region HM ?_
   refine a_move (v := vI _) ?_
   refine a_move (v := vI _) ?_
   refine RA.nil nofun ?_
   refine AG.ret ?_
   obtain rfl := Option.some.inj H
   exact RetP.mk id ⟨rfl, trivial⟩ trivial rfl
/-! ### impl_ValidPolygon: function 69 -/
mutual
def impl_ValidPolygon.j0 : Nat → List S50 → Int → Bool → Option (Bool)
 | 0, _, _, _ => none
 | k + 1, x0, x3, x21 => if x21 = true then (some false) else (impl_ValidPolygon.l0 k x0 x3 (x0.length : Int) 0)
def impl_ValidPolygon.l0 : Nat → List S50 → Int → Int → Int → Option (Bool)
 | 0, _, _, _, _ => none
 | k + 1, x0, x3, x23, x24 => if x24 < x23 then (if 0 ≤ x24 then (if x24 < (x0.length : Int) then (if x3 = 0 then (none) else (if 0 ≤ (Int.tmod (wrap64 (x24 + 1)) x3) then (if (Int.tmod (wrap64 (x24 + 1)) x3) < (x0.length : Int) then (if 0 ≤ (Int.tmod (wrap64 (x24 + 2)) x3) then (if (Int.tmod (wrap64 (x24 + 2)) x3) < (x0.length : Int) then (if (((rd50 x0 x24).f0) == ((rd50 x0 (Int.tmod (wrap64 (x24 + 1)) x3)).f0) && (((rd50 x0 x24).f1) == ((rd50 x0 (Int.tmod (wrap64 (x24 + 1)) x3)).f1))) = true then (impl_ValidPolygon.j1 k x0 x3 x24 ((rd50 x0 x24).f0) ((rd50 x0 x24).f1) ((rd50 x0 (Int.tmod (wrap64 (x24 + 1)) x3)).f0) ((rd50 x0 (Int.tmod (wrap64 (x24 + 1)) x3)).f1) x23 x24 true) else ((impl_on.f ((rd50 x0 x24).f0) ((rd50 x0 x24).f1) ((rd50 x0 (Int.tmod (wrap64 (x24 + 1)) x3)).f0) ((rd50 x0 (Int.tmod (wrap64 (x24 + 1)) x3)).f1) ((rd50 x0 (Int.tmod (wrap64 (x24 + 2)) x3)).f0) ((rd50 x0 (Int.tmod (wrap64 (x24 + 2)) x3)).f1)).bind fun t15 => (if t15 = true then (impl_ValidPolygon.j1 k x0 x3 x24 ((rd50 x0 x24).f0) ((rd50 x0 x24).f1) ((rd50 x0 (Int.tmod (wrap64 (x24 + 1)) x3)).f0) ((rd50 x0 (Int.tmod (wrap64 (x24 + 1)) x3)).f1) x23 x24 true) else ((impl_on.f ((rd50 x0 (Int.tmod (wrap64 (x24 + 1)) x3)).f0) ((rd50 x0 (Int.tmod (wrap64 (x24 + 1)) x3)).f1) ((rd50 x0 (Int.tmod (wrap64 (x24 + 2)) x3)).f0) ((rd50 x0 (Int.tmod (wrap64 (x24 + 2)) x3)).f1) ((rd50 x0 x24).f0) ((rd50 x0 x24).f1)).bind fun t18 => (impl_ValidPolygon.j1 k x0 x3 x24 ((rd50 x0 x24).f0) ((rd50 x0 x24).f1) ((rd50 x0 (Int.tmod (wrap64 (x24 + 1)) x3)).f0) ((rd50 x0 (Int.tmod (wrap64 (x24 + 1)) x3)).f1) x23 x24 t18))))) else (none)) else (none)) else (none)) else (none))) else (none)) else (none)) else ((impl_doubled.f k x0).bind fun t31 => (some (decide (t31 > 0))))
def impl_ValidPolygon.j1 : Nat → List S50 → Int → Int → Int → Int → Int → Int → Int → Int → Bool → Option (Bool)
 | 0, _, _, _, _, _, _, _, _, _, _ => none
 | k + 1, x0, x3, x4, y207_0, y207_1, y208_0, y208_1, x23, x24, x59 => if x59 = true then (some false) else (impl_ValidPolygon.l1 k x0 x3 x4 y207_0 y207_1 y208_0 y208_1 (wrap64 (x4 + 2)) x23 x24)
def impl_ValidPolygon.l1 : Nat → List S50 → Int → Int → Int → Int → Int → Int → Int → Int → Int → Option (Bool)
 | 0, _, _, _, _, _, _, _, _, _, _ => none
 | k + 1, x0, x3, x4, y209_0, y209_1, y210_0, y210_1, x8, x23, x24 => if x8 < x3 then (if x3 = 0 then (none) else (if (Int.tmod (wrap64 (x8 + 1)) x3) = x4 then (impl_ValidPolygon.l1 k x0 x3 x4 y209_0 y209_1 y210_0 y210_1 (wrap64 (x8 + 1)) x23 x24) else (if 0 ≤ x8 then (if x8 < (x0.length : Int) then (if 0 ≤ (Int.tmod (wrap64 (x8 + 1)) x3) then (if (Int.tmod (wrap64 (x8 + 1)) x3) < (x0.length : Int) then ((impl_touching.f y209_0 y209_1 y210_0 y210_1 ((rd50 x0 x8).f0) ((rd50 x0 x8).f1) ((rd50 x0 (Int.tmod (wrap64 (x8 + 1)) x3)).f0) ((rd50 x0 (Int.tmod (wrap64 (x8 + 1)) x3)).f1)).bind fun t28 => (if t28 = true then (some false) else (impl_ValidPolygon.l1 k x0 x3 x4 y209_0 y209_1 y210_0 y210_1 (wrap64 (x8 + 1)) x23 x24))) else (none)) else (none)) else (none)) else (none)))) else (impl_ValidPolygon.l0 k x0 x3 x23 (wrap64 (x24 + 1)))
end
def impl_ValidPolygon.f (k : Nat) (l0 : List S50) : Option (Bool) := if (l0.length : Int) < 3 then (impl_ValidPolygon.j0 k l0 (l0.length : Int) true) else (if (l0.length : Int) > 24 then (impl_ValidPolygon.j0 k l0 (l0.length : Int) true) else ((impl_validPoints.f k l0).bind fun t3 => (impl_ValidPolygon.j0 k l0 (l0.length : Int) (!t3))))
set_option maxRecDepth 100000 in
theorem impl_ValidPolygon.ok {k : Nat} {l0 : List S50} {r : Bool} (H : impl_ValidPolygon.f k l0 = some r) : OkF Tryz.prog 69 [vR 51 (l0.map c50)] [] (.c (.d (.v (.bool r)))) [] := by
 unfold impl_ValidPolygon.f at H
 refine OkF.of (N := 93) (rs := [2]) (avs := [.c (.d (.v (.bool r)))]) Tryz.func69 rfl rfl (fun _ _ => results_tmp rfl _ _ _) (by decide) rfl rfl rfl rfl (fun w0 S => ?_)
 refine AG.seq ?_
 refine AG.region HM ?_
 refine a_move (v := vB _) ?_
 refine RA.nil nofun ?_
 refine AG.seq ?_
 refine AG.region HM ?_
 refine a_move (v := vR _ _) ?_
 refine a_lenR ?_ Tryz.underlying30
 refine a_move (v := vI _) ?_
 refine RA.nil nofun ?_
 refine AG.seq ?_
 refine AG.seq ?_
 refine AG.joinR (fun s => ∃ q, q ≤ k ∧ ∃ (x0 : List S50) (x3 : Int) (x21 : Bool), impl_ValidPolygon.j0 q x0 x3 x21 = some r ∧ s = St.of [(0, vR 51 (x0.map c50)), (3, vI x3), (21, vB x21)] []) ?_ ?_
 ·skip
  refine AG.region HM ?_
  refine a_move (v := vI _) ?_
  refine a_int (u := .bool (decide ((l0.length : Int) < 3))) ?_
  refine a_move (v := vB _) ?_
  by_cases hc1 : (l0.length : Int) < 3
  ·rw [if_pos hc1] at H
   refine RA.skip rfl rfl rfl rfl rfl (decide_eq_true hc1) (by decide) ?_
   refine RA.skip rfl rfl rfl rfl rfl (decide_eq_true hc1) (by decide) ?_
   refine a_pick (b := true) (v := vB _) ?_ (decide_eq_true hc1)
   refine a_move (v := vB _) ?_
   refine RA.skip rfl rfl rfl rfl rfl rfl (by decide) ?_
   refine RA.skip rfl rfl rfl rfl rfl rfl (by decide) ?_
   refine RA.skip rfl rfl rfl rfl rfl rfl (by decide) ?_
   refine a_pick (b := true) (v := vB _) ?_ rfl
   refine RA.nil nofun ?_
   exact CanR.mk id ⟨_, (by omega), _, _, _, H, rfl⟩ ⟨rfl, rfl, rfl, trivial⟩ trivial rfl
  ·rw [if_neg hc1] at H
   refine a_move (v := vI _) ?_ (hg := Gs.yes rfl rfl rfl (decide_eq_false hc1))
   refine a_int (u := .bool (decide ((l0.length : Int) > 24))) ?_ (hg := Gs.yes rfl rfl rfl (decide_eq_false hc1))
   refine a_pick (b := false) (v := vB _) ?_ (decide_eq_false hc1)
   refine a_move (v := vB _) ?_
   by_cases hc2 : (l0.length : Int) > 24
   ·rw [if_pos hc2] at H
    refine RA.skip rfl rfl rfl rfl rfl (decide_eq_true hc2) (by decide) ?_
    refine RA.skip rfl rfl rfl rfl rfl (decide_eq_true hc2) (by decide) ?_
    refine RA.skip rfl rfl rfl rfl rfl (decide_eq_true hc2) (by decide) ?_
    refine a_pick (b := true) (v := vB _) ?_ (decide_eq_true hc2)
    refine RA.nil nofun ?_
    exact CanR.mk id ⟨_, (by omega), _, _, _, H, rfl⟩ ⟨rfl, rfl, rfl, trivial⟩ trivial rfl
   ·rw [if_neg hc2] at H
    refine a_move (v := vR _ _) ?_ (hg := Gs.yes rfl rfl rfl (decide_eq_false hc2))
    obtain ⟨t3, e4, H⟩ := bindO H
    refine a_call (v := vB t3) (nk := []) (L := []) ?_ rfl (impl_validPoints.ok e4) id (qd qn) trivial trivial trivial rfl (hg := Gs.yes rfl rfl rfl (decide_eq_false hc2))
    refine a_un (u := .bool (!t3)) ?_ (hg := Gs.yes rfl rfl rfl (decide_eq_false hc2))
    refine a_pick (b := false) (v := vB _) ?_ (decide_eq_false hc2)
    refine RA.nil nofun ?_
    exact CanR.mk id ⟨_, (by omega), _, _, _, H, rfl⟩ ⟨rfl, rfl, rfl, trivial⟩ trivial rfl
 ·clear H
  rintro _ ⟨k, hj0, x0, x3, x21, H, rfl⟩
  cases k with
  | zero => cases H
  | succ k =>
   rw [impl_ValidPolygon.j0] at H
   by_cases hc5 : x21 = true
   ·rw [if_pos hc5] at H
    refine AG.yes rfl hc5 ?_
    refine AG.seq ?_
    refine AG.region HM ?_
    refine a_move (v := vB _) ?_
    refine RA.nil nofun ?_
    refine AG.ret ?_
    obtain rfl := Option.some.inj H
    exact RetP.mk id ⟨rfl, trivial⟩ trivial rfl
   ·rw [if_neg hc5] at H
    refine AG.no rfl (Bool.eq_false_iff.2 hc5) ?_
    refine AG.skip ?_
    refine AG.seq ?_
    refine AG.seq ?_
    refine AG.region HM ?_
    refine a_move (v := vR _ _) ?_
    refine a_lenR ?_ Tryz.underlying30
    refine a_move (v := vI _) ?_
    refine RA.nil nofun ?_
    refine AG.block ?_
    refine AG.loop ?_
    obtain ⟨K0, hK0, gK0⟩ : ∃ K, k ≤ K ∧ K ≤ k := ⟨k, Nat.le_refl k, Nat.le_refl k⟩
    refine AGr.canon id (AGr.loopI (n := k) (fun k s => k ≤ K0 ∧ ∃ (x0 : List S50) (x3 : Int) (x23 : Int) (x24 : Int), impl_ValidPolygon.l0 k x0 x3 x23 x24 = some r ∧ s = St.of [(0, vR 51 (x0.map c50)), (3, vI x3), (23, vI x23), (24, vI x24)] []) ⟨hK0, _, _, _, _, H, rfl⟩ ?_ ?_) ⟨rfl, rfl, rfl, rfl, trivial⟩ trivial rfl
    ·rintro _ ⟨_, _, _, _, _, H, _⟩
     cases H
    ·clear H hK0
     rintro k ih0 _ ⟨hK0, x0, x3, x23, x24, H, rfl⟩
     unfold impl_ValidPolygon.l0 at H
     refine AG.seq ?_
     refine AG.region HM ?_
     refine a_int (u := .bool (decide (x24 < x23))) ?_
     refine RA.nil nofun ?_
     refine AG.seq ?_
     by_cases hc6 : x24 < x23
     ·rw [if_pos hc6] at H
      refine AG.yes rfl (decide_eq_true hc6) ?_
      refine AG.skip ?_
      refine AG.seq ?_
      refine AG.block ?_
      refine AG.seq ?_
      refine AG.region HM ?_
      refine a_move (v := vI _) ?_
      refine a_move (v := vI _) ?_
      refine RA.nil nofun ?_
      refine AG.seq ?_
      refine AG.region HM ?_
      refine a_move (v := vR _ _) ?_
      refine a_move (v := vI _) ?_
      by_cases hc7 : 0 ≤ x24
      ·rw [if_pos hc7] at H
       by_cases hc8 : x24 < (x0.length : Int)
       ·rw [if_pos hc8] at H
        refine a_ixR (el := c50 (rd50 x0 x24)) ?_ ⟨hc7, hc8⟩ T51 Tryz.underlying30 (hel := R50 hc7 hc8)
        refine a_ldR (v := .agg [_, _]) ?_ T51
        refine a_move (v := vR _ _) ?_
        refine a_move (v := vI _) ?_
        refine a_int (u := .int .i64 (wrap64 (x24 + 1))) ?_
        refine a_move (v := vI _) ?_
        by_cases hc9 : x3 = 0
        ·rw [if_pos hc9] at H
         cases H
        ·rw [if_neg hc9] at H
         refine a_rem (r := Int.tmod (wrap64 (x24 + 1)) x3) ?_ hc9
         by_cases hc10 : 0 ≤ (Int.tmod (wrap64 (x24 + 1)) x3)
         ·rw [if_pos hc10] at H
          by_cases hc11 : (Int.tmod (wrap64 (x24 + 1)) x3) < (x0.length : Int)
          ·rw [if_pos hc11] at H
           refine a_ixR (el := c50 (rd50 x0 (Int.tmod (wrap64 (x24 + 1)) x3))) ?_ ⟨hc10, hc11⟩ T51 Tryz.underlying30 (hel := R50 hc10 hc11)
           refine a_ldR (v := .agg [_, _]) ?_ T51
           refine a_move (v := vR _ _) ?_
           refine a_move (v := vI _) ?_
           refine a_int (u := .int .i64 (wrap64 (x24 + 2))) ?_
           refine a_move (v := vI _) ?_
           refine a_rem (r := Int.tmod (wrap64 (x24 + 2)) x3) ?_ hc9
           by_cases hc12 : 0 ≤ (Int.tmod (wrap64 (x24 + 2)) x3)
           ·rw [if_pos hc12] at H
            by_cases hc13 : (Int.tmod (wrap64 (x24 + 2)) x3) < (x0.length : Int)
            ·rw [if_pos hc13] at H
             refine a_ixR (el := c50 (rd50 x0 (Int.tmod (wrap64 (x24 + 2)) x3))) ?_ ⟨hc12, hc13⟩ T51 Tryz.underlying30 (hel := R50 hc12 hc13)
             refine a_ldR (v := .agg [_, _]) ?_ T51
             refine a_alloc (cs := [_, _]) 202 ?_ T51
             refine a_alloc (cs := [_, _]) 203 ?_ T51
             refine a_alloc (cs := [_, _]) 204 ?_ T51
             refine a_stB (cs' := [_, _]) ?_ T51
             refine a_stB (cs' := [_, _]) ?_ T51
             refine a_stB (cs' := [_, _]) ?_ T51
             refine RA.nil (fun _ => by kernel_rfl) ?_
             refine AG.seq ?_
             refine AG.seq ?_
             refine AG.joinR (fun s => ∃ q, q ≤ k ∧ ∃ (x0 : List S50) (x3 : Int) (x4 : Int) (y207_0 : Int) (y207_1 : Int) (y208_0 : Int) (y208_1 : Int) (x23 : Int) (x24 : Int) (x59 : Bool), impl_ValidPolygon.j1 q x0 x3 x4 y207_0 y207_1 y208_0 y208_1 x23 x24 x59 = some r ∧ s = St.of [(0, vR 51 (x0.map c50)), (3, vI x3), (4, vI x4), (5, .c (.ptr 207 0)), (6, .c (.ptr 208 0)), (23, vI x23), (24, vI x24), (59, vB x59)] [(207, .box 51 [.d (.v (.int .i64 y207_0)), .d (.v (.int .i64 y207_1))]), (208, .box 51 [.d (.v (.int .i64 y208_0)), .d (.v (.int .i64 y208_1))])]) ?_ ?_
             ·skip
              refine AG.region HM ?_
              refine a_ldB (v := .agg [_, _]) ?_ T51
              refine a_ldB (v := .agg [_, _]) ?_ T51
              refine a_eqS (b := (((rd50 x0 x24).f0) == ((rd50 x0 (Int.tmod (wrap64 (x24 + 1)) x3)).f0) && (((rd50 x0 x24).f1) == ((rd50 x0 (Int.tmod (wrap64 (x24 + 1)) x3)).f1)))) ?_ (.inl ⟨rfl, rfl⟩) (Q51 ((rd50 x0 x24).f0) ((rd50 x0 (Int.tmod (wrap64 (x24 + 1)) x3)).f0) ((rd50 x0 x24).f1) ((rd50 x0 (Int.tmod (wrap64 (x24 + 1)) x3)).f1)).1
              refine a_move (v := vB _) ?_
              by_cases hc14 : (((rd50 x0 x24).f0) == ((rd50 x0 (Int.tmod (wrap64 (x24 + 1)) x3)).f0) && (((rd50 x0 x24).f1) == ((rd50 x0 (Int.tmod (wrap64 (x24 + 1)) x3)).f1))) = true
              ·rw [if_pos hc14] at H
               refine RA.skip rfl rfl rfl rfl rfl hc14 (by decide) ?_
               refine RA.skip rfl rfl rfl rfl rfl hc14 (by decide) ?_
               refine RA.skip rfl rfl rfl rfl rfl hc14 (by decide) ?_
               refine RA.skip rfl rfl rfl rfl rfl hc14 (by decide) ?_
               refine a_pick (b := true) (v := vB _) ?_ hc14
               refine a_move (v := vB _) ?_
               refine RA.skip rfl rfl rfl rfl rfl rfl (by decide) ?_
               refine RA.skip rfl rfl rfl rfl rfl rfl (by decide) ?_
               refine RA.skip rfl rfl rfl rfl rfl rfl (by decide) ?_
               refine RA.skip rfl rfl rfl rfl rfl rfl (by decide) ?_
               refine a_pick (b := true) (v := vB _) ?_ rfl
               refine RA.nil nofun ?_
               exact CanR.mk (fun κ => cond (Nat.beq κ 207) 202 (cond (Nat.beq κ 208) 203 (κ))) ⟨_, (by omega), _, _, _, _, _, _, _, _, _, _, H, rfl⟩ ⟨rfl, rfl, rfl, rfl, rfl, rfl, rfl, rfl, trivial⟩ ⟨rfl, rfl, trivial⟩ rfl
              ·rw [if_neg hc14] at H
               refine a_ldB (v := .agg [_, _]) ?_ T51 (hg := Gs.yes rfl rfl rfl (Bool.eq_false_iff.2 hc14))
               refine a_ldB (v := .agg [_, _]) ?_ T51 (hg := Gs.yes rfl rfl rfl (Bool.eq_false_iff.2 hc14))
               refine a_ldB (v := .agg [_, _]) ?_ T51 (hg := Gs.yes rfl rfl rfl (Bool.eq_false_iff.2 hc14))
               obtain ⟨t15, e16, H⟩ := bindO H
               refine a_call (v := vB t15) (nk := []) (L := []) ?_ rfl (impl_on.ok e16) id (qg (qg (qg qn))) trivial trivial trivial rfl (hg := Gs.yes rfl rfl rfl (Bool.eq_false_iff.2 hc14))
               refine a_pick (b := false) (v := vB _) ?_ (Bool.eq_false_iff.2 hc14)
               refine a_move (v := vB _) ?_
               by_cases hc17 : t15 = true
               ·rw [if_pos hc17] at H
                refine RA.skip rfl rfl rfl rfl rfl hc17 (by decide) ?_
                refine RA.skip rfl rfl rfl rfl rfl hc17 (by decide) ?_
                refine RA.skip rfl rfl rfl rfl rfl hc17 (by decide) ?_
                refine RA.skip rfl rfl rfl rfl rfl hc17 (by decide) ?_
                refine a_pick (b := true) (v := vB _) ?_ hc17
                refine RA.nil nofun ?_
                exact CanR.mk (fun κ => cond (Nat.beq κ 207) 202 (cond (Nat.beq κ 208) 203 (κ))) ⟨_, (by omega), _, _, _, _, _, _, _, _, _, _, H, rfl⟩ ⟨rfl, rfl, rfl, rfl, rfl, rfl, rfl, rfl, trivial⟩ ⟨rfl, rfl, trivial⟩ rfl
               ·rw [if_neg hc17] at H
                refine a_ldB (v := .agg [_, _]) ?_ T51 (hg := Gs.yes rfl rfl rfl (Bool.eq_false_iff.2 hc17))
                refine a_ldB (v := .agg [_, _]) ?_ T51 (hg := Gs.yes rfl rfl rfl (Bool.eq_false_iff.2 hc17))
                refine a_ldB (v := .agg [_, _]) ?_ T51 (hg := Gs.yes rfl rfl rfl (Bool.eq_false_iff.2 hc17))
                obtain ⟨t18, e19, H⟩ := bindO H
                refine a_call (v := vB t18) (nk := []) (L := []) ?_ rfl (impl_on.ok e19) id (qg (qg (qg qn))) trivial trivial trivial rfl (hg := Gs.yes rfl rfl rfl (Bool.eq_false_iff.2 hc17))
                refine a_pick (b := false) (v := vB _) ?_ (Bool.eq_false_iff.2 hc17)
                refine RA.nil nofun ?_
                exact CanR.mk (fun κ => cond (Nat.beq κ 207) 202 (cond (Nat.beq κ 208) 203 (κ))) ⟨_, (by omega), _, _, _, _, _, _, _, _, _, _, H, rfl⟩ ⟨rfl, rfl, rfl, rfl, rfl, rfl, rfl, rfl, trivial⟩ ⟨rfl, rfl, trivial⟩ rfl
             ·clear H
              rintro _ ⟨k, hj1, x0, x3, x4, y207_0, y207_1, y208_0, y208_1, x23, x24, x59, H, rfl⟩
              cases k with
              | zero => cases H
              | succ k =>
               rw [impl_ValidPolygon.j1] at H
               by_cases hc20 : x59 = true
               ·rw [if_pos hc20] at H
                refine AG.yes rfl hc20 ?_
                refine AG.seq ?_
                refine AG.region HM ?_
                refine a_move (v := vB _) ?_
                refine RA.nil nofun ?_
                refine AG.ret ?_
                obtain rfl := Option.some.inj H
                exact RetP.mk id ⟨rfl, trivial⟩ trivial rfl
               ·rw [if_neg hc20] at H
                refine AG.no rfl (Bool.eq_false_iff.2 hc20) ?_
                refine AG.skip ?_
                refine AG.seq ?_
                refine AG.region HM ?_
                refine a_move (v := vI _) ?_
                refine a_int (u := .int .i64 (wrap64 (x4 + 2))) ?_
                refine a_move (v := vI _) ?_
                refine RA.nil nofun ?_
                refine AG.block ?_
                refine AG.loop ?_
                obtain ⟨K1, hK1, gK1⟩ : ∃ K, k ≤ K ∧ K ≤ k := ⟨k, Nat.le_refl k, Nat.le_refl k⟩
                refine AGr.canon (fun κ => cond (Nat.beq κ 209) 207 (cond (Nat.beq κ 210) 208 (κ))) (AGr.loopI (n := k) (fun k s => k ≤ K1 ∧ ∃ (x0 : List S50) (x3 : Int) (x4 : Int) (y209_0 : Int) (y209_1 : Int) (y210_0 : Int) (y210_1 : Int) (x8 : Int) (x23 : Int) (x24 : Int), impl_ValidPolygon.l1 k x0 x3 x4 y209_0 y209_1 y210_0 y210_1 x8 x23 x24 = some r ∧ s = St.of [(0, vR 51 (x0.map c50)), (3, vI x3), (4, vI x4), (5, .c (.ptr 209 0)), (6, .c (.ptr 210 0)), (8, vI x8), (23, vI x23), (24, vI x24)] [(209, .box 51 [.d (.v (.int .i64 y209_0)), .d (.v (.int .i64 y209_1))]), (210, .box 51 [.d (.v (.int .i64 y210_0)), .d (.v (.int .i64 y210_1))])]) ⟨hK1, _, _, _, _, _, _, _, _, _, _, H, rfl⟩ ?_ ?_) ⟨rfl, rfl, rfl, rfl, rfl, rfl, rfl, rfl, trivial⟩ ⟨rfl, rfl, trivial⟩ rfl
                ·rintro _ ⟨_, _, _, _, _, _, _, _, _, _, _, H, _⟩
                 cases H
                ·clear H hK1
                 rintro k ih1 _ ⟨hK1, x0, x3, x4, y209_0, y209_1, y210_0, y210_1, x8, x23, x24, H, rfl⟩
                 unfold impl_ValidPolygon.l1 at H
                 refine AG.seq ?_
                 refine AG.seq ?_
                 refine AG.region HM ?_
                 refine a_move (v := vI _) ?_
                 refine a_move (v := vI _) ?_
                 refine a_int (u := .bool (decide (x8 < x3))) ?_
                 refine RA.nil nofun ?_
                 by_cases hc21 : x8 < x3
                 ·rw [if_pos hc21] at H
                  refine AG.yes rfl (decide_eq_true hc21) ?_
                  refine AG.skip ?_
                  refine AG.seq ?_
                  refine AG.block ?_
                  refine AG.seq ?_
                  refine AG.region HM ?_
                  refine a_move (v := vI _) ?_
                  refine a_int (u := .int .i64 (wrap64 (x8 + 1))) ?_
                  refine a_move (v := vI _) ?_
                  by_cases hc22 : x3 = 0
                  ·rw [if_pos hc22] at H
                   cases H
                  ·rw [if_neg hc22] at H
                   refine a_rem (r := Int.tmod (wrap64 (x8 + 1)) x3) ?_ hc22
                   refine a_move (v := vI _) ?_
                   refine a_int (u := .bool (((Int.tmod (wrap64 (x8 + 1)) x3) != x4))) ?_
                   refine a_move (v := vB _) ?_
                   by_cases hc23 : (Int.tmod (wrap64 (x8 + 1)) x3) = x4
                   ·rw [if_pos hc23] at H
                    refine RA.skip rfl rfl rfl rfl rfl (bne_eq_false_iff_eq.2 hc23) (by decide) ?_
                    refine RA.skip rfl rfl rfl rfl rfl (bne_eq_false_iff_eq.2 hc23) (by decide) ?_
                    refine RA.skip rfl rfl rfl rfl rfl (bne_eq_false_iff_eq.2 hc23) (by decide) ?_
                    refine RA.skip rfl rfl rfl rfl rfl (bne_eq_false_iff_eq.2 hc23) (by decide) ?_
                    refine RA.skip rfl rfl rfl rfl rfl (bne_eq_false_iff_eq.2 hc23) (by decide) ?_
                    refine RA.skip rfl rfl rfl rfl rfl (bne_eq_false_iff_eq.2 hc23) (by decide) ?_
                    refine RA.skip rfl rfl rfl rfl rfl (bne_eq_false_iff_eq.2 hc23) (by decide) ?_
                    refine RA.skip rfl rfl rfl rfl rfl (bne_eq_false_iff_eq.2 hc23) (by decide) ?_
                    refine RA.skip rfl rfl rfl rfl rfl (bne_eq_false_iff_eq.2 hc23) (by decide) ?_
                    refine RA.skip rfl rfl rfl rfl rfl (bne_eq_false_iff_eq.2 hc23) (by decide) ?_
                    refine RA.skip rfl rfl rfl rfl rfl (bne_eq_false_iff_eq.2 hc23) (by decide) ?_
                    refine RA.skip rfl rfl rfl rfl rfl (bne_eq_false_iff_eq.2 hc23) (by decide) ?_
                    refine RA.skip rfl rfl rfl rfl rfl (bne_eq_false_iff_eq.2 hc23) (by decide) ?_
                    refine RA.skip rfl rfl rfl rfl rfl (bne_eq_false_iff_eq.2 hc23) (by decide) ?_
                    refine a_pick (b := false) (v := vB _) ?_ (bne_eq_false_iff_eq.2 hc23)
                    refine RA.nil (fun _ => by kernel_rfl) ?_
                    refine AG.no rfl rfl ?_
                    refine AG.skip ?_
                    refine AG.region HM ?_
                    refine a_move (v := vI _) ?_
                    refine a_int (u := .int .i64 (wrap64 (x8 + 1))) ?_
                    refine a_move (v := vI _) ?_
                    refine RA.nil nofun ?_
                    exact AGr.canon id (ih1 _ (by omega) _ ⟨by omega, _, _, _, _, _, _, _, _, _, _, H, rfl⟩) ⟨rfl, rfl, rfl, rfl, rfl, rfl, rfl, rfl, trivial⟩ ⟨rfl, rfl, trivial⟩ rfl
                   ·rw [if_neg hc23] at H
                    refine a_ldB (v := .agg [_, _]) ?_ T51 (hg := Gs.yes rfl rfl rfl (bne_iff_ne.2 hc23))
                    refine a_ldB (v := .agg [_, _]) ?_ T51 (hg := Gs.yes rfl rfl rfl (bne_iff_ne.2 hc23))
                    refine a_move (v := vR _ _) ?_ (hg := Gs.yes rfl rfl rfl (bne_iff_ne.2 hc23))
                    refine a_move (v := vI _) ?_ (hg := Gs.yes rfl rfl rfl (bne_iff_ne.2 hc23))
                    by_cases hc24 : 0 ≤ x8
                    ·rw [if_pos hc24] at H
                     by_cases hc25 : x8 < (x0.length : Int)
                     ·rw [if_pos hc25] at H
                      refine a_ixR (el := c50 (rd50 x0 x8)) ?_ ⟨hc24, hc25⟩ T51 Tryz.underlying30 (hel := R50 hc24 hc25) (hg := Gs.yes rfl rfl rfl (bne_iff_ne.2 hc23))
                      refine a_ldR (v := .agg [_, _]) ?_ T51 (hg := Gs.yes rfl rfl rfl (bne_iff_ne.2 hc23))
                      refine a_move (v := vR _ _) ?_ (hg := Gs.yes rfl rfl rfl (bne_iff_ne.2 hc23))
                      refine a_move (v := vI _) ?_ (hg := Gs.yes rfl rfl rfl (bne_iff_ne.2 hc23))
                      refine a_int (u := .int .i64 (wrap64 (x8 + 1))) ?_ (hg := Gs.yes rfl rfl rfl (bne_iff_ne.2 hc23))
                      refine a_move (v := vI _) ?_ (hg := Gs.yes rfl rfl rfl (bne_iff_ne.2 hc23))
                      refine a_rem (r := Int.tmod (wrap64 (x8 + 1)) x3) ?_ hc22 (hg := Gs.yes rfl rfl rfl (bne_iff_ne.2 hc23))
                      by_cases hc26 : 0 ≤ (Int.tmod (wrap64 (x8 + 1)) x3)
                      ·rw [if_pos hc26] at H
                       by_cases hc27 : (Int.tmod (wrap64 (x8 + 1)) x3) < (x0.length : Int)
                       ·rw [if_pos hc27] at H
                        refine a_ixR (el := c50 (rd50 x0 (Int.tmod (wrap64 (x8 + 1)) x3))) ?_ ⟨hc26, hc27⟩ T51 Tryz.underlying30 (hel := R50 hc26 hc27) (hg := Gs.yes rfl rfl rfl (bne_iff_ne.2 hc23))
                        refine a_ldR (v := .agg [_, _]) ?_ T51 (hg := Gs.yes rfl rfl rfl (bne_iff_ne.2 hc23))
                        obtain ⟨t28, e29, H⟩ := bindO H
                        refine a_call (v := vB t28) (nk := []) (L := []) ?_ rfl (impl_touching.ok e29) id (qg (qg (qg (qg qn)))) trivial trivial trivial rfl (hg := Gs.yes rfl rfl rfl (bne_iff_ne.2 hc23))
                        refine a_pick (b := true) (v := vB _) ?_ (bne_iff_ne.2 hc23)
                        refine RA.nil (fun _ => by kernel_rfl) ?_
                        by_cases hc30 : t28 = true
                        ·rw [if_pos hc30] at H
                         refine AG.yes rfl hc30 ?_
                         refine AG.seq ?_
                         refine AG.region HM ?_
                         refine a_move (v := vB _) ?_
                         refine RA.nil nofun ?_
                         refine AG.ret ?_
                         obtain rfl := Option.some.inj H
                         exact RetP.mk id ⟨rfl, trivial⟩ trivial rfl
                        ·rw [if_neg hc30] at H
                         refine AG.no rfl (Bool.eq_false_iff.2 hc30) ?_
                         refine AG.skip ?_
                         refine AG.region HM ?_
                         refine a_move (v := vI _) ?_
                         refine a_int (u := .int .i64 (wrap64 (x8 + 1))) ?_
                         refine a_move (v := vI _) ?_
                         refine RA.nil nofun ?_
                         exact AGr.canon id (ih1 _ (by omega) _ ⟨by omega, _, _, _, _, _, _, _, _, _, _, H, rfl⟩) ⟨rfl, rfl, rfl, rfl, rfl, rfl, rfl, rfl, trivial⟩ ⟨rfl, rfl, trivial⟩ rfl
                       ·rw [if_neg hc27] at H
                        cases H
                      ·rw [if_neg hc26] at H
                       cases H
                     ·rw [if_neg hc25] at H
                      cases H
                    ·rw [if_neg hc24] at H
                     cases H
                 ·rw [if_neg hc21] at H
                  refine AG.no rfl (decide_eq_false hc21) ?_
                  refine AG.exit ?_
                  refine AG.region HM ?_
                  refine a_int (u := .int .i64 (wrap64 (x24 + 1))) ?_
                  refine a_move (v := vI _) ?_
                  refine RA.nil nofun ?_
                  exact AGr.canon id (ih0 _ (by omega) _ ⟨by omega, _, _, _, _, H, rfl⟩) ⟨rfl, rfl, rfl, rfl, trivial⟩ trivial rfl
            ·rw [if_neg hc13] at H
             cases H
           ·rw [if_neg hc12] at H
            cases H
          ·rw [if_neg hc11] at H
           cases H
         ·rw [if_neg hc10] at H
          cases H
       ·rw [if_neg hc8] at H
        cases H
      ·rw [if_neg hc7] at H
       cases H
     ·rw [if_neg hc6] at H
      refine AG.no rfl (decide_eq_false hc6) ?_
      refine AG.exit ?_
      refine AG.seq ?_
      refine AG.region HM ?_
      refine a_move (v := vR _ _) ?_
      obtain ⟨t31, e32, H⟩ := bindO H
      refine a_call (v := vI t31) (nk := []) (L := []) ?_ rfl (impl_doubled.ok e32) id (qd qn) trivial trivial trivial rfl
      refine a_int (u := .bool (decide (t31 > 0))) ?_
      refine a_move (v := vB _) ?_
      refine RA.nil nofun ?_
      refine AG.ret ?_
      obtain rfl := Option.some.inj H
      exact RetP.mk id ⟨rfl, trivial⟩ trivial rfl
/-! ### impl_ValidDrawing: function 36 -/
mutual
def impl_ValidDrawing.j0 : Nat → Int → Int → List S50 → List S72 → Bool → Option (Bool)
 | 0, _, _, _, _, _ => none
 | k + 1, y203_0, y203_1, y203_2, y203_3, x30 => if x30 = true then (some false) else (impl_ValidDrawing.l0 k y203_0 y203_1 y203_2 y203_3 y203_2 (y203_2.length : Int) 0)
def impl_ValidDrawing.j1 : Nat → List S50 → List S72 → Option (Bool)
 | 0, _, _ => none
 | k + 1, y209_2, y209_3 => impl_ValidDrawing.l1 k y209_2 y209_3 y209_3 (y209_3.length : Int) 0
def impl_ValidDrawing.l0 : Nat → Int → Int → List S50 → List S72 → List S50 → Int → Int → Option (Bool)
 | 0, _, _, _, _, _, _, _ => none
 | k + 1, y204_0, y204_1, y204_2, y204_3, x32, x33, x34 => if x34 < x33 then (if 0 ≤ x34 then (if x34 < (x32.length : Int) then ((impl_within.f ((rd50 x32 x34).f0) 0 y204_0).bind fun t12 => (if t12 = true then ((impl_within.f ((rd50 x32 x34).f1) 0 y204_1).bind fun t15 => (if t15 = true then (if x34 ≤ (y204_2.length : Int) then ((slices_Contains_impl_Point.f k (y204_2.take ((x34 : Int).toNat)) ((rd50 x32 x34).f0) ((rd50 x32 x34).f1)).bind fun t19 => (if t19 = true then (some false) else (impl_ValidDrawing.l0 k y204_0 y204_1 y204_2 y204_3 x32 x33 (wrap64 (x34 + 1))))) else (none)) else (some false))) else (some false))) else (none)) else (none)) else (impl_ValidDrawing.j1 k y204_2 y204_3)
def impl_ValidDrawing.l1 : Nat → List S50 → List S72 → List S72 → Int → Int → Option (Bool)
 | 0, _, _, _, _, _ => none
 | k + 1, y210_2, y210_3, x63, x64, x65 => if x65 < x64 then (if 0 ≤ x65 then (if x65 < (x63.length : Int) then ((impl_IsName.f k ((rd72 x63 x65).f0)).bind fun t25 => (if t25 = true then (if x65 > 0 then (if 0 ≤ (wrap64 (x65 - 1)) then (if (wrap64 (x65 - 1)) < (y210_3.length : Int) then (impl_ValidDrawing.j2 k y210_2 y210_3 ((rd72 x63 x65).f1) x63 x64 x65 (!(Op.bytesLess (((rd72 y210_3 (wrap64 (x65 - 1))).f0).toList) (((rd72 x63 x65).f0).toList)))) else (none)) else (none)) else (impl_ValidDrawing.j2 k y210_2 y210_3 ((rd72 x63 x65).f1) x63 x64 x65 false)) else (impl_ValidDrawing.j2 k y210_2 y210_3 ((rd72 x63 x65).f1) x63 x64 x65 true))) else (none)) else (none)) else (some true)
def impl_ValidDrawing.j2 : Nat → List S50 → List S72 → List Int → List S72 → Int → Int → Bool → Option (Bool)
 | 0, _, _, _, _, _, _, _ => none
 | k + 1, y213_2, y213_3, y214_1, x63, x64, x65, x89 => if x89 = true then (some false) else ((impl_ringPolygon.f k y213_2 y214_1).bind fun bt32 => (if bt32.2 = true then ((impl_ValidPolygon.f k bt32.1).bind fun t36 => (if t36 = true then (impl_ValidDrawing.l1 k y213_2 y213_3 x63 x64 (wrap64 (x65 + 1))) else (some false))) else (some false)))
end
def impl_ValidDrawing.f (k : Nat) (a0_0 : Int) (a0_1 : Int) (l0_2 : List S50) (l0_3 : List S72) : Option (Bool) := (impl_within.f a0_0 10 20000).bind fun t1 => (if t1 = true then ((impl_within.f a0_1 10 20000).bind fun t4 => (if t4 = true then (if (l0_2.length : Int) > 48 then (impl_ValidDrawing.j0 k a0_0 a0_1 l0_2 l0_3 true) else (impl_ValidDrawing.j0 k a0_0 a0_1 l0_2 l0_3 (decide ((l0_3.length : Int) > 24)))) else (impl_ValidDrawing.j0 k a0_0 a0_1 l0_2 l0_3 true))) else (impl_ValidDrawing.j0 k a0_0 a0_1 l0_2 l0_3 true))
set_option maxRecDepth 100000 in
theorem impl_ValidDrawing.ok {k : Nat} {a0_0 : Int} {a0_1 : Int} {l0_2 : List S50} {l0_3 : List S72} {r : Bool} (H : impl_ValidDrawing.f k a0_0 a0_1 l0_2 l0_3 = some r) : OkF Tryz.prog 36 [.agg [.d (.v (.int .i64 a0_0)), .d (.v (.int .i64 a0_1)), .d (.row 51 (l0_2.map c50)), .d (.row 76 (l0_3.map c72))]] [] (.c (.d (.v (.bool r)))) [] := by
 unfold impl_ValidDrawing.f at H
 refine OkF.of (N := 106) (rs := [2]) (avs := [.c (.d (.v (.bool r)))]) Tryz.func36 rfl rfl (fun _ _ => results_tmp rfl _ _ _) (by decide) rfl rfl rfl rfl (fun w0 S => ?_)
 refine AG.seq ?_
 refine AG.region HM ?_
 refine a_box 200 ?_
 refine a_move (v := vB _) ?_
 refine RA.nil nofun ?_
 refine AG.seq ?_
 refine AG.seq ?_
 refine AG.joinR (fun s => ∃ q, q ≤ k ∧ ∃ (y203_0 : Int) (y203_1 : Int) (y203_2 : List S50) (y203_3 : List S72) (x30 : Bool), impl_ValidDrawing.j0 q y203_0 y203_1 y203_2 y203_3 x30 = some r ∧ s = St.of [(1, .c (.ptr 203 0)), (30, vB x30)] [(203, .box 33 [.d (.v (.int .i64 y203_0)), .d (.v (.int .i64 y203_1)), .d (.row 51 (y203_2.map c50)), .d (.row 76 (y203_3.map c72))])]) ?_ ?_
 ·skip
  refine AG.region HM ?_
  refine a_faB (q := 0) ?_ D33_0
  refine a_ldB (v := vI _) ?_ T2
  obtain ⟨t1, e2, H⟩ := bindO H
  refine a_call (v := vB t1) (nk := []) (L := []) ?_ rfl (impl_within.ok e2) id (qd (qd (qd qn))) trivial trivial trivial rfl
  refine a_un (u := .bool (!t1)) ?_
  refine a_move (v := vB _) ?_
  by_cases hc3 : t1 = true
  ·rw [if_pos hc3] at H
   refine a_faB (q := 1) ?_ D33_1 (hg := Gs.yes rfl rfl rfl (congrArg Bool.not hc3))
   refine a_ldB (v := vI _) ?_ T2 (hg := Gs.yes rfl rfl rfl (congrArg Bool.not hc3))
   obtain ⟨t4, e5, H⟩ := bindO H
   refine a_call (v := vB t4) (nk := []) (L := []) ?_ rfl (impl_within.ok e5) id (qd (qd (qd qn))) trivial trivial trivial rfl (hg := Gs.yes rfl rfl rfl (congrArg Bool.not hc3))
   refine a_un (u := .bool (!t4)) ?_ (hg := Gs.yes rfl rfl rfl (congrArg Bool.not hc3))
   refine a_pick (b := false) (v := vB _) ?_ (congrArg Bool.not hc3)
   refine a_move (v := vB _) ?_
   by_cases hc6 : t4 = true
   ·rw [if_pos hc6] at H
    refine a_faB (q := 2) ?_ D33_2 (hg := Gs.yes rfl rfl rfl (congrArg Bool.not hc6))
    refine a_ldB (v := vR _ _) ?_ T30 (hg := Gs.yes rfl rfl rfl (congrArg Bool.not hc6))
    refine a_lenR ?_ Tryz.underlying30 (hg := Gs.yes rfl rfl rfl (congrArg Bool.not hc6))
    refine a_int (u := .bool (decide ((l0_2.length : Int) > 48))) ?_ (hg := Gs.yes rfl rfl rfl (congrArg Bool.not hc6))
    refine a_pick (b := false) (v := vB _) ?_ (congrArg Bool.not hc6)
    refine a_move (v := vB _) ?_
    by_cases hc7 : (l0_2.length : Int) > 48
    ·rw [if_pos hc7] at H
     refine RA.skip rfl rfl rfl rfl rfl (decide_eq_true hc7) (by decide) ?_
     refine RA.skip rfl rfl rfl rfl rfl (decide_eq_true hc7) (by decide) ?_
     refine RA.skip rfl rfl rfl rfl rfl (decide_eq_true hc7) (by decide) ?_
     refine RA.skip rfl rfl rfl rfl rfl (decide_eq_true hc7) (by decide) ?_
     refine a_pick (b := true) (v := vB _) ?_ (decide_eq_true hc7)
     refine RA.nil nofun ?_
     exact CanR.mk (fun κ => cond (Nat.beq κ 203) 200 (κ)) ⟨_, (by omega), _, _, _, _, _, H, rfl⟩ ⟨rfl, rfl, trivial⟩ ⟨rfl, trivial⟩ rfl
    ·rw [if_neg hc7] at H
     refine a_faB (q := 3) ?_ D33_3 (hg := Gs.yes rfl rfl rfl (decide_eq_false hc7))
     refine a_ldB (v := vR _ _) ?_ T31 (hg := Gs.yes rfl rfl rfl (decide_eq_false hc7))
     refine a_lenR ?_ Tryz.underlying31 (hg := Gs.yes rfl rfl rfl (decide_eq_false hc7))
     refine a_int (u := .bool (decide ((l0_3.length : Int) > 24))) ?_ (hg := Gs.yes rfl rfl rfl (decide_eq_false hc7))
     refine a_pick (b := false) (v := vB _) ?_ (decide_eq_false hc7)
     refine RA.nil nofun ?_
     exact CanR.mk (fun κ => cond (Nat.beq κ 203) 200 (κ)) ⟨_, (by omega), _, _, _, _, _, H, rfl⟩ ⟨rfl, rfl, trivial⟩ ⟨rfl, trivial⟩ rfl
   ·rw [if_neg hc6] at H
    refine RA.skip rfl rfl rfl rfl rfl (congrArg Bool.not (Bool.eq_false_iff.2 hc6)) (by decide) ?_
    refine RA.skip rfl rfl rfl rfl rfl (congrArg Bool.not (Bool.eq_false_iff.2 hc6)) (by decide) ?_
    refine RA.skip rfl rfl rfl rfl rfl (congrArg Bool.not (Bool.eq_false_iff.2 hc6)) (by decide) ?_
    refine RA.skip rfl rfl rfl rfl rfl (congrArg Bool.not (Bool.eq_false_iff.2 hc6)) (by decide) ?_
    refine a_pick (b := true) (v := vB _) ?_ (congrArg Bool.not (Bool.eq_false_iff.2 hc6))
    refine a_move (v := vB _) ?_
    refine RA.skip rfl rfl rfl rfl rfl rfl (by decide) ?_
    refine RA.skip rfl rfl rfl rfl rfl rfl (by decide) ?_
    refine RA.skip rfl rfl rfl rfl rfl rfl (by decide) ?_
    refine RA.skip rfl rfl rfl rfl rfl rfl (by decide) ?_
    refine a_pick (b := true) (v := vB _) ?_ rfl
    refine RA.nil nofun ?_
    exact CanR.mk (fun κ => cond (Nat.beq κ 203) 200 (κ)) ⟨_, (by omega), _, _, _, _, _, H, rfl⟩ ⟨rfl, rfl, trivial⟩ ⟨rfl, trivial⟩ rfl
  ·rw [if_neg hc3] at H
   refine RA.skip rfl rfl rfl rfl rfl (congrArg Bool.not (Bool.eq_false_iff.2 hc3)) (by decide) ?_
   refine RA.skip rfl rfl rfl rfl rfl (congrArg Bool.not (Bool.eq_false_iff.2 hc3)) (by decide) ?_
   refine RA.skip rfl rfl rfl rfl rfl (congrArg Bool.not (Bool.eq_false_iff.2 hc3)) (by decide) ?_
   refine RA.skip rfl rfl rfl rfl rfl (congrArg Bool.not (Bool.eq_false_iff.2 hc3)) (by decide) ?_
   refine a_pick (b := true) (v := vB _) ?_ (congrArg Bool.not (Bool.eq_false_iff.2 hc3))
   refine a_move (v := vB _) ?_
   refine RA.skip rfl rfl rfl rfl rfl rfl (by decide) ?_
   refine RA.skip rfl rfl rfl rfl rfl rfl (by decide) ?_
   refine RA.skip rfl rfl rfl rfl rfl rfl (by decide) ?_
   refine RA.skip rfl rfl rfl rfl rfl rfl (by decide) ?_
   refine a_pick (b := true) (v := vB _) ?_ rfl
   refine a_move (v := vB _) ?_
   refine RA.skip rfl rfl rfl rfl rfl rfl (by decide) ?_
   refine RA.skip rfl rfl rfl rfl rfl rfl (by decide) ?_
   refine RA.skip rfl rfl rfl rfl rfl rfl (by decide) ?_
   refine RA.skip rfl rfl rfl rfl rfl rfl (by decide) ?_
   refine a_pick (b := true) (v := vB _) ?_ rfl
   refine RA.nil nofun ?_
   exact CanR.mk (fun κ => cond (Nat.beq κ 203) 200 (κ)) ⟨_, (by omega), _, _, _, _, _, H, rfl⟩ ⟨rfl, rfl, trivial⟩ ⟨rfl, trivial⟩ rfl
 ·clear H
  rintro _ ⟨k, hj0, y203_0, y203_1, y203_2, y203_3, x30, H, rfl⟩
  cases k with
  | zero => cases H
  | succ k =>
   rw [impl_ValidDrawing.j0] at H
   by_cases hc8 : x30 = true
   ·rw [if_pos hc8] at H
    refine AG.yes rfl hc8 ?_
    refine AG.seq ?_
    refine AG.region HM ?_
    refine a_move (v := vB _) ?_
    refine RA.nil nofun ?_
    refine AG.ret ?_
    obtain rfl := Option.some.inj H
    exact RetP.mk id ⟨rfl, trivial⟩ trivial rfl
   ·rw [if_neg hc8] at H
    refine AG.no rfl (Bool.eq_false_iff.2 hc8) ?_
    refine AG.skip ?_
    refine AG.seq ?_
    refine AG.seq ?_
    refine AG.region HM ?_
    refine a_faB (q := 2) ?_ D33_2
    refine a_ldB (v := vR _ _) ?_ T30
    refine a_lenR ?_ Tryz.underlying30
    refine a_move (v := vI _) ?_
    refine RA.nil nofun ?_
    refine AG.joinR (fun s => ∃ q, q ≤ k ∧ ∃ (y209_0 : Int) (y209_1 : Int) (y209_2 : List S50) (y209_3 : List S72), impl_ValidDrawing.j1 q y209_2 y209_3 = some r ∧ s = St.of [(1, .c (.ptr 209 0))] [(209, .box 33 [.d (.v (.int .i64 y209_0)), .d (.v (.int .i64 y209_1)), .d (.row 51 (y209_2.map c50)), .d (.row 76 (y209_3.map c72))])]) ?_ ?_
    ·skip
     refine AG.block ?_
     refine AG.loop ?_
     obtain ⟨K0, hK0, gK0⟩ : ∃ K, k ≤ K ∧ K ≤ k := ⟨k, Nat.le_refl k, Nat.le_refl k⟩
     refine AGr.canon (fun κ => cond (Nat.beq κ 204) 203 (κ)) (AGr.loopI (n := k) (fun k s => k ≤ K0 ∧ ∃ (y204_0 : Int) (y204_1 : Int) (y204_2 : List S50) (y204_3 : List S72) (x32 : List S50) (x33 : Int) (x34 : Int), impl_ValidDrawing.l0 k y204_0 y204_1 y204_2 y204_3 x32 x33 x34 = some r ∧ s = St.of [(1, .c (.ptr 204 0)), (32, vR 51 (x32.map c50)), (33, vI x33), (34, vI x34)] [(204, .box 33 [.d (.v (.int .i64 y204_0)), .d (.v (.int .i64 y204_1)), .d (.row 51 (y204_2.map c50)), .d (.row 76 (y204_3.map c72))])]) ⟨hK0, _, _, _, _, _, _, _, H, rfl⟩ ?_ ?_) ⟨rfl, rfl, rfl, rfl, trivial⟩ ⟨rfl, trivial⟩ rfl
     ·rintro _ ⟨_, _, _, _, _, _, _, _, H, _⟩
      cases H
     ·clear H hK0
      rintro k ih0 _ ⟨hK0, y204_0, y204_1, y204_2, y204_3, x32, x33, x34, H, rfl⟩
      unfold impl_ValidDrawing.l0 at H
      refine AG.seq ?_
      refine AG.region HM ?_
      refine a_int (u := .bool (decide (x34 < x33))) ?_
      refine RA.nil nofun ?_
      refine AG.seq ?_
      by_cases hc9 : x34 < x33
      ·rw [if_pos hc9] at H
       refine AG.yes rfl (decide_eq_true hc9) ?_
       refine AG.skip ?_
       refine AG.seq ?_
       refine AG.block ?_
       refine AG.seq ?_
       refine AG.region HM ?_
       refine a_move (v := vI _) ?_
       by_cases hc10 : 0 ≤ x34
       ·rw [if_pos hc10] at H
        by_cases hc11 : x34 < (x32.length : Int)
        ·rw [if_pos hc11] at H
         refine a_ixR (el := c50 (rd50 x32 x34)) ?_ ⟨hc10, hc11⟩ T51 Tryz.underlying30 (hel := R50 hc10 hc11)
         refine a_ldR (v := .agg [_, _]) ?_ T51
         refine a_alloc (cs := [_, _]) 205 ?_ T51
         refine a_move (v := vI _) ?_
         refine a_stB (cs' := [_, _]) ?_ T51
         refine RA.nil nofun ?_
         refine AG.seq ?_
         refine AG.region HM ?_
         refine a_faB (q := 0) ?_ D51_0
         refine a_ldB (v := vI _) ?_ T2
         refine a_faB (q := 0) ?_ D33_0
         refine a_ldB (v := vI _) ?_ T2
         obtain ⟨t12, e13, H⟩ := bindO H
         refine a_call (v := vB t12) (nk := []) (L := []) ?_ rfl (impl_within.ok e13) id (qd (qd (qd qn))) trivial trivial trivial rfl
         refine a_un (u := .bool (!t12)) ?_
         refine a_move (v := vB _) ?_
         by_cases hc14 : t12 = true
         ·rw [if_pos hc14] at H
          refine a_faB (q := 1) ?_ D51_1 (hg := Gs.yes rfl rfl rfl (congrArg Bool.not hc14))
          refine a_ldB (v := vI _) ?_ T2 (hg := Gs.yes rfl rfl rfl (congrArg Bool.not hc14))
          refine a_faB (q := 1) ?_ D33_1 (hg := Gs.yes rfl rfl rfl (congrArg Bool.not hc14))
          refine a_ldB (v := vI _) ?_ T2 (hg := Gs.yes rfl rfl rfl (congrArg Bool.not hc14))
          obtain ⟨t15, e16, H⟩ := bindO H
          refine a_call (v := vB t15) (nk := []) (L := []) ?_ rfl (impl_within.ok e16) id (qd (qd (qd qn))) trivial trivial trivial rfl (hg := Gs.yes rfl rfl rfl (congrArg Bool.not hc14))
          refine a_un (u := .bool (!t15)) ?_ (hg := Gs.yes rfl rfl rfl (congrArg Bool.not hc14))
          refine a_pick (b := false) (v := vB _) ?_ (congrArg Bool.not hc14)
          refine a_move (v := vB _) ?_
          by_cases hc17 : t15 = true
          ·rw [if_pos hc17] at H
           refine a_faB (q := 2) ?_ D33_2 (hg := Gs.yes rfl rfl rfl (congrArg Bool.not hc17))
           refine a_ldB (v := vR _ _) ?_ T30 (hg := Gs.yes rfl rfl rfl (congrArg Bool.not hc17))
           refine a_move (v := vI _) ?_ (hg := Gs.yes rfl rfl rfl (congrArg Bool.not hc17))
           by_cases hc18 : x34 ≤ (y204_2.length : Int)
           ·rw [if_pos hc18] at H
            refine a_slR (l := none) (h := some x34) (css' := (y204_2.take ((x34 : Int).toNat)).map c50) ?_ Tryz.underlying30 T51 ⟨(Int.le_refl 0), hc10, (lenM (p := fun n => x34 ≤ n) hc18)⟩ (map_take_drop _ _ _ _) (hg := Gs.yes rfl rfl rfl (congrArg Bool.not hc17))
            refine a_ldB (v := .agg [_, _]) ?_ T51 (hg := Gs.yes rfl rfl rfl (congrArg Bool.not hc17))
            obtain ⟨t19, e20, H⟩ := bindO H
            refine a_call (v := vB t19) (nk := []) (L := []) ?_ rfl (slices_Contains_impl_Point.ok e20) id (qd (qg qn)) trivial trivial trivial rfl (hg := Gs.yes rfl rfl rfl (congrArg Bool.not hc17))
            refine a_pick (b := false) (v := vB _) ?_ (congrArg Bool.not hc17)
            refine RA.nil (fun _ => by kernel_rfl) ?_
            by_cases hc21 : t19 = true
            ·rw [if_pos hc21] at H
             refine AG.yes rfl hc21 ?_
             refine AG.seq ?_
             refine AG.region HM ?_
             refine a_move (v := vB _) ?_
             refine RA.nil nofun ?_
             refine AG.ret ?_
             obtain rfl := Option.some.inj H
             exact RetP.mk id ⟨rfl, trivial⟩ trivial rfl
            ·rw [if_neg hc21] at H
             refine AG.no rfl (Bool.eq_false_iff.2 hc21) ?_
             refine AG.skip ?_
             refine AG.region HM ?_
             refine a_int (u := .int .i64 (wrap64 (x34 + 1))) ?_
             refine a_move (v := vI _) ?_
             refine RA.nil nofun ?_
             exact AGr.canon id (ih0 _ (by omega) _ ⟨by omega, _, _, _, _, _, _, _, H, rfl⟩) ⟨rfl, rfl, rfl, rfl, trivial⟩ ⟨rfl, trivial⟩ rfl
           ·rw [if_neg hc18] at H
            cases H
          ·rw [if_neg hc17] at H
           refine RA.skip rfl rfl rfl rfl rfl (congrArg Bool.not (Bool.eq_false_iff.2 hc17)) (by decide) ?_
           refine RA.skip rfl rfl rfl rfl rfl (congrArg Bool.not (Bool.eq_false_iff.2 hc17)) (by decide) ?_
           refine RA.skip rfl rfl rfl rfl rfl (congrArg Bool.not (Bool.eq_false_iff.2 hc17)) (by decide) ?_
           refine RA.skip rfl rfl rfl rfl rfl (congrArg Bool.not (Bool.eq_false_iff.2 hc17)) (by decide) ?_
           refine RA.skip rfl rfl rfl rfl rfl (congrArg Bool.not (Bool.eq_false_iff.2 hc17)) (by decide) ?_
           refine RA.skip rfl rfl rfl rfl rfl (congrArg Bool.not (Bool.eq_false_iff.2 hc17)) (by decide) ?_
           refine a_pick (b := true) (v := vB _) ?_ (congrArg Bool.not (Bool.eq_false_iff.2 hc17))
           refine RA.nil (fun _ => by kernel_rfl) ?_
           refine AG.yes rfl rfl ?_
           refine AG.seq ?_
           refine AG.region HM ?_
           refine a_move (v := vB _) ?_
           refine RA.nil nofun ?_
           refine AG.ret ?_
           obtain rfl := Option.some.inj H
           exact RetP.mk id ⟨rfl, trivial⟩ trivial rfl
         ·rw [if_neg hc14] at H
          refine RA.skip rfl rfl rfl rfl rfl (congrArg Bool.not (Bool.eq_false_iff.2 hc14)) (by decide) ?_
          refine RA.skip rfl rfl rfl rfl rfl (congrArg Bool.not (Bool.eq_false_iff.2 hc14)) (by decide) ?_
          refine RA.skip rfl rfl rfl rfl rfl (congrArg Bool.not (Bool.eq_false_iff.2 hc14)) (by decide) ?_
          refine RA.skip rfl rfl rfl rfl rfl (congrArg Bool.not (Bool.eq_false_iff.2 hc14)) (by decide) ?_
          refine RA.skip rfl rfl rfl rfl rfl (congrArg Bool.not (Bool.eq_false_iff.2 hc14)) (by decide) ?_
          refine RA.skip rfl rfl rfl rfl rfl (congrArg Bool.not (Bool.eq_false_iff.2 hc14)) (by decide) ?_
          refine a_pick (b := true) (v := vB _) ?_ (congrArg Bool.not (Bool.eq_false_iff.2 hc14))
          refine a_move (v := vB _) ?_
          refine RA.skip rfl rfl rfl rfl rfl rfl (by decide) ?_
          refine RA.skip rfl rfl rfl rfl rfl rfl (by decide) ?_
          refine RA.skip rfl rfl rfl rfl rfl rfl (by decide) ?_
          refine RA.skip rfl rfl rfl rfl rfl rfl (by decide) ?_
          refine RA.skip rfl rfl rfl rfl rfl rfl (by decide) ?_
          refine RA.skip rfl rfl rfl rfl rfl rfl (by decide) ?_
          refine a_pick (b := true) (v := vB _) ?_ rfl
          refine RA.nil (fun _ => by kernel_rfl) ?_
          refine AG.yes rfl rfl ?_
          refine AG.seq ?_
          refine AG.region HM ?_
          refine a_move (v := vB _) ?_
          refine RA.nil nofun ?_
          refine AG.ret ?_
          obtain rfl := Option.some.inj H
          exact RetP.mk id ⟨rfl, trivial⟩ trivial rfl
        ·rw [if_neg hc11] at H
         cases H
       ·rw [if_neg hc10] at H
        cases H
      ·rw [if_neg hc9] at H
       refine AG.no rfl (decide_eq_false hc9) ?_
       refine AG.exit ?_
       exact CanR.mk (fun κ => cond (Nat.beq κ 209) 204 (κ)) ⟨_, (by omega), _, _, _, _, H, rfl⟩ ⟨rfl, trivial⟩ ⟨rfl, trivial⟩ rfl
    ·clear H
     rintro _ ⟨k, hj1, y209_0, y209_1, y209_2, y209_3, H, rfl⟩
     cases k with
     | zero => cases H
     | succ k =>
      rw [impl_ValidDrawing.j1] at H
      refine AG.seq ?_
      refine AG.seq ?_
      refine AG.region HM ?_
      refine a_faB (q := 3) ?_ D33_3
      refine a_ldB (v := vR _ _) ?_ T31
      refine a_lenR ?_ Tryz.underlying31
      refine a_move (v := vI _) ?_
      refine RA.nil nofun ?_
      refine AG.block ?_
      refine AG.loop ?_
      obtain ⟨K1, hK1, gK1⟩ : ∃ K, k ≤ K ∧ K ≤ k := ⟨k, Nat.le_refl k, Nat.le_refl k⟩
      refine AGr.canon (fun κ => cond (Nat.beq κ 210) 209 (κ)) (AGr.loopI (n := k) (fun k s => k ≤ K1 ∧ ∃ (y210_0 : Int) (y210_1 : Int) (y210_2 : List S50) (y210_3 : List S72) (x63 : List S72) (x64 : Int) (x65 : Int), impl_ValidDrawing.l1 k y210_2 y210_3 x63 x64 x65 = some r ∧ s = St.of [(1, .c (.ptr 210 0)), (63, vR 76 (x63.map c72)), (64, vI x64), (65, vI x65)] [(210, .box 33 [.d (.v (.int .i64 y210_0)), .d (.v (.int .i64 y210_1)), .d (.row 51 (y210_2.map c50)), .d (.row 76 (y210_3.map c72))])]) ⟨hK1, _, _, _, _, _, _, _, H, rfl⟩ ?_ ?_) ⟨rfl, rfl, rfl, rfl, trivial⟩ ⟨rfl, trivial⟩ rfl
      ·rintro _ ⟨_, _, _, _, _, _, _, _, H, _⟩
       cases H
      ·clear H hK1
       rintro k ih1 _ ⟨hK1, y210_0, y210_1, y210_2, y210_3, x63, x64, x65, H, rfl⟩
       unfold impl_ValidDrawing.l1 at H
       refine AG.seq ?_
       refine AG.region HM ?_
       refine a_int (u := .bool (decide (x65 < x64))) ?_
       refine RA.nil nofun ?_
       refine AG.seq ?_
       by_cases hc22 : x65 < x64
       ·rw [if_pos hc22] at H
        refine AG.yes rfl (decide_eq_true hc22) ?_
        refine AG.skip ?_
        refine AG.seq ?_
        refine AG.block ?_
        refine AG.seq ?_
        refine AG.region HM ?_
        refine a_move (v := vI _) ?_
        by_cases hc23 : 0 ≤ x65
        ·rw [if_pos hc23] at H
         by_cases hc24 : x65 < (x63.length : Int)
         ·rw [if_pos hc24] at H
          refine a_ixR (el := c72 (rd72 x63 x65)) ?_ ⟨hc23, hc24⟩ T76 Tryz.underlying31 (hel := R72 hc23 hc24)
          refine a_ldR (v := .agg [_, _]) ?_ T76
          refine a_alloc (cs := [_, _]) 211 ?_ T76
          refine a_move (v := vI _) ?_
          refine a_stB (cs' := [_, _]) ?_ T76
          refine RA.nil nofun ?_
          refine AG.seq ?_
          refine AG.seq ?_
          refine AG.joinR (fun s => ∃ q, q ≤ k ∧ ∃ (y213_0 : Int) (y213_1 : Int) (y213_2 : List S50) (y213_3 : List S72) (y214_0 : ByteArray) (y214_1 : List Int) (x63 : List S72) (x64 : Int) (x65 : Int) (x89 : Bool), impl_ValidDrawing.j2 q y213_2 y213_3 y214_1 x63 x64 x65 x89 = some r ∧ s = St.of [(1, .c (.ptr 213 0)), (6, .c (.ptr 214 0)), (63, vR 76 (x63.map c72)), (64, vI x64), (65, vI x65), (89, vB x89)] [(213, .box 33 [.d (.v (.int .i64 y213_0)), .d (.v (.int .i64 y213_1)), .d (.row 51 (y213_2.map c50)), .d (.row 76 (y213_3.map c72))]), (214, .box 76 [.d (.v (.string y214_0)), .d (.row 2 (y214_1.map c2))])]) ?_ ?_
          ·skip
           refine AG.region HM ?_
           refine a_faB (q := 0) ?_ D76_0
           refine a_ldB (v := vS _) ?_ T9
           obtain ⟨t25, e26, H⟩ := bindO H
           refine a_call (v := vB t25) (nk := []) (L := []) ?_ rfl (impl_IsName.ok e26) id (qd qn) trivial trivial trivial rfl
           refine a_un (u := .bool (!t25)) ?_
           refine a_move (v := vB _) ?_
           by_cases hc27 : t25 = true
           ·rw [if_pos hc27] at H
            refine a_move (v := vI _) ?_ (hg := Gs.yes rfl rfl rfl (congrArg Bool.not hc27))
            refine a_int (u := .bool (decide (x65 > 0))) ?_ (hg := Gs.yes rfl rfl rfl (congrArg Bool.not hc27))
            refine a_move (v := vB _) ?_ (hg := Gs.yes rfl rfl rfl (congrArg Bool.not hc27))
            by_cases hc28 : x65 > 0
            ·rw [if_pos hc28] at H
             refine a_faB (q := 3) ?_ D33_3 (hg := Gs.yes rfl rfl rfl (decide_eq_true hc28))
             refine a_ldB (v := vR _ _) ?_ T31 (hg := Gs.yes rfl rfl rfl (decide_eq_true hc28))
             refine a_move (v := vI _) ?_ (hg := Gs.yes rfl rfl rfl (decide_eq_true hc28))
             refine a_int (u := .int .i64 (wrap64 (x65 - 1))) ?_ (hg := Gs.yes rfl rfl rfl (decide_eq_true hc28))
             by_cases hc29 : 0 ≤ (wrap64 (x65 - 1))
             ·rw [if_pos hc29] at H
              by_cases hc30 : (wrap64 (x65 - 1)) < (y210_3.length : Int)
              ·rw [if_pos hc30] at H
               refine a_ixR (el := c72 (rd72 y210_3 (wrap64 (x65 - 1)))) ?_ ⟨hc29, hc30⟩ T76 Tryz.underlying31 (hel := R72 hc29 hc30) (hg := Gs.yes rfl rfl rfl (decide_eq_true hc28))
               refine a_faR (cells' := [_, _]) ?_ D76_0 (hg := Gs.yes rfl rfl rfl (decide_eq_true hc28))
               refine a_ldR (v := vS _) ?_ T9 (hg := Gs.yes rfl rfl rfl (decide_eq_true hc28))
               refine a_faB (q := 0) ?_ D76_0 (hg := Gs.yes rfl rfl rfl (decide_eq_true hc28))
               refine a_ldB (v := vS _) ?_ T9 (hg := Gs.yes rfl rfl rfl (decide_eq_true hc28))
               refine a_bin (u := .bool (!(Op.bytesLess (((rd72 y210_3 (wrap64 (x65 - 1))).f0).toList) (((rd72 x63 x65).f0).toList)))) ?_ (hg := Gs.yes rfl rfl rfl (decide_eq_true hc28))
               refine a_pick (b := true) (v := vB _) ?_ (decide_eq_true hc28) (hg := Gs.yes rfl rfl rfl (congrArg Bool.not hc27))
               refine a_pick (b := false) (v := vB _) ?_ (congrArg Bool.not hc27)
               refine RA.nil (fun _ => by kernel_rfl) ?_
               exact CanR.mk (fun κ => cond (Nat.beq κ 213) 210 (cond (Nat.beq κ 214) 211 (κ))) ⟨_, (by omega), _, _, _, _, _, _, _, _, _, _, H, rfl⟩ ⟨rfl, rfl, rfl, rfl, rfl, rfl, trivial⟩ ⟨rfl, rfl, trivial⟩ rfl
              ·rw [if_neg hc30] at H
               cases H
             ·rw [if_neg hc29] at H
              cases H
            ·rw [if_neg hc28] at H
             refine RA.skip rfl rfl rfl rfl rfl (decide_eq_false hc28) (by decide) ?_
             refine RA.skip rfl rfl rfl rfl rfl (decide_eq_false hc28) (by decide) ?_
             refine RA.skip rfl rfl rfl rfl rfl (decide_eq_false hc28) (by decide) ?_
             refine RA.skip rfl rfl rfl rfl rfl (decide_eq_false hc28) (by decide) ?_
             refine RA.skip rfl rfl rfl rfl rfl (decide_eq_false hc28) (by decide) ?_
             refine RA.skip rfl rfl rfl rfl rfl (decide_eq_false hc28) (by decide) ?_
             refine RA.skip rfl rfl rfl rfl rfl (decide_eq_false hc28) (by decide) ?_
             refine RA.skip rfl rfl rfl rfl rfl (decide_eq_false hc28) (by decide) ?_
             refine RA.skip rfl rfl rfl rfl rfl (decide_eq_false hc28) (by decide) ?_
             refine RA.skip rfl rfl rfl rfl rfl (decide_eq_false hc28) (by decide) ?_
             refine a_pick (b := false) (v := vB _) ?_ (decide_eq_false hc28) (hg := Gs.yes rfl rfl rfl (congrArg Bool.not hc27))
             refine a_pick (b := false) (v := vB _) ?_ (congrArg Bool.not hc27)
             refine RA.nil (fun _ => by kernel_rfl) ?_
             exact CanR.mk (fun κ => cond (Nat.beq κ 213) 210 (cond (Nat.beq κ 214) 211 (κ))) ⟨_, (by omega), _, _, _, _, _, _, _, _, _, _, H, rfl⟩ ⟨rfl, rfl, rfl, rfl, rfl, rfl, trivial⟩ ⟨rfl, rfl, trivial⟩ rfl
           ·rw [if_neg hc27] at H
            refine RA.skip rfl rfl rfl rfl rfl (congrArg Bool.not (Bool.eq_false_iff.2 hc27)) (by decide) ?_
            refine RA.skip rfl rfl rfl rfl rfl (congrArg Bool.not (Bool.eq_false_iff.2 hc27)) (by decide) ?_
            refine RA.skip rfl rfl rfl rfl rfl (congrArg Bool.not (Bool.eq_false_iff.2 hc27)) (by decide) ?_
            refine RA.skip0 rfl rfl rfl rfl rfl ?_
            refine RA.skip0 rfl rfl rfl rfl rfl ?_
            refine RA.skip0 rfl rfl rfl rfl rfl ?_
            refine RA.skip0 rfl rfl rfl rfl rfl ?_
            refine RA.skip0 rfl rfl rfl rfl rfl ?_
            refine RA.skip0 rfl rfl rfl rfl rfl ?_
            refine RA.skip0 rfl rfl rfl rfl rfl ?_
            refine RA.skip0 rfl rfl rfl rfl rfl ?_
            refine RA.skip0 rfl rfl rfl rfl rfl ?_
            refine RA.skip0 rfl rfl rfl rfl rfl ?_
            refine RA.skip rfl rfl rfl rfl rfl (congrArg Bool.not (Bool.eq_false_iff.2 hc27)) (by decide) ?_
            refine a_pick (b := true) (v := vB _) ?_ (congrArg Bool.not (Bool.eq_false_iff.2 hc27))
            refine RA.nil (fun _ => by kernel_rfl) ?_
            exact CanR.mk (fun κ => cond (Nat.beq κ 213) 210 (cond (Nat.beq κ 214) 211 (κ))) ⟨_, (by omega), _, _, _, _, _, _, _, _, _, _, H, rfl⟩ ⟨rfl, rfl, rfl, rfl, rfl, rfl, trivial⟩ ⟨rfl, rfl, trivial⟩ rfl
          ·clear H
           rintro _ ⟨k, hj2, y213_0, y213_1, y213_2, y213_3, y214_0, y214_1, x63, x64, x65, x89, H, rfl⟩
           cases k with
           | zero => cases H
           | succ k =>
            rw [impl_ValidDrawing.j2] at H
            by_cases hc31 : x89 = true
            ·rw [if_pos hc31] at H
             refine AG.yes rfl hc31 ?_
             refine AG.seq ?_
             refine AG.region HM ?_
             refine a_move (v := vB _) ?_
             refine RA.nil nofun ?_
             refine AG.ret ?_
             obtain rfl := Option.some.inj H
             exact RetP.mk id ⟨rfl, trivial⟩ trivial rfl
            ·rw [if_neg hc31] at H
             refine AG.no rfl (Bool.eq_false_iff.2 hc31) ?_
             refine AG.skip ?_
             refine AG.seq ?_
             refine AG.region HM ?_
             refine a_faB (q := 2) ?_ D33_2
             refine a_ldB (v := vR _ _) ?_ T30
             refine a_faB (q := 1) ?_ D76_1
             refine a_ldB (v := vR _ _) ?_ T27
             obtain ⟨⟨t32, t33⟩, e34, H⟩ := bindO H
             refine a_call (v := .tup [.c (.own 215 t32.length), .c (.d (.v (.bool t33)))]) (nk := [(215, .row 51 (t32.map c50))]) (L := []) ?_ rfl (impl_ringPolygon.ok e34) (fun κ => cond (Nat.beq κ 215) 100 (κ)) (qd (qd qn)) trivial ⟨rfl, trivial⟩ ⟨rfl, trivial⟩ rfl
             refine a_move (v := .tup [_, _]) ?_
             refine a_ext (v := .c (.own _ _)) ?_
             refine a_ext (v := vB _) ?_
             refine a_move (v := .c (.own _ _)) ?_
             refine a_move (v := vB _) ?_
             refine RA.nil nofun ?_
             refine AG.seq ?_
             refine AG.region HM ?_
             refine a_move (v := vB _) ?_
             refine a_un (u := .bool (!t33)) ?_
             refine a_move (v := vB _) ?_
             by_cases hc35 : t33 = true
             ·rw [if_pos hc35] at H
              refine a_move (v := .c (.own _ _)) ?_ (hg := Gs.yes rfl rfl rfl (congrArg Bool.not hc35))
              obtain ⟨t36, e37, H⟩ := bindO H
              refine a_call (v := vB t36) (nk := []) (L := [(215, _)]) ?_ rfl (impl_ValidPolygon.ok e37) id (qc rO qn) ⟨rfl, trivial⟩ trivial trivial rfl (hg := Gs.yes rfl rfl rfl (congrArg Bool.not hc35))
              refine a_un (u := .bool (!t36)) ?_ (hg := Gs.yes rfl rfl rfl (congrArg Bool.not hc35))
              refine a_pick (b := false) (v := vB _) ?_ (congrArg Bool.not hc35)
              refine RA.nil nofun ?_
              by_cases hc38 : t36 = true
              ·rw [if_pos hc38] at H
               refine AG.no rfl (congrArg Bool.not hc38) ?_
               refine AG.skip ?_
               refine AG.region HM ?_
               refine a_int (u := .int .i64 (wrap64 (x65 + 1))) ?_
               refine a_move (v := vI _) ?_
               refine RA.nil nofun ?_
               exact AGr.canon (fun κ => cond (Nat.beq κ 210) 213 (κ)) (ih1 _ (by omega) _ ⟨by omega, _, _, _, _, _, _, _, H, rfl⟩) ⟨rfl, rfl, rfl, rfl, trivial⟩ ⟨rfl, trivial⟩ rfl
              ·rw [if_neg hc38] at H
               refine AG.yes rfl (congrArg Bool.not (Bool.eq_false_iff.2 hc38)) ?_
               refine AG.seq ?_
               refine AG.region HM ?_
               refine a_move (v := vB _) ?_
               refine RA.nil nofun ?_
               refine AG.ret ?_
               obtain rfl := Option.some.inj H
               exact RetP.mk id ⟨rfl, trivial⟩ trivial rfl
             ·rw [if_neg hc35] at H
              refine RA.skip rfl rfl rfl rfl rfl (congrArg Bool.not (Bool.eq_false_iff.2 hc35)) (by decide) ?_
              refine RA.skip rfl rfl rfl rfl rfl (congrArg Bool.not (Bool.eq_false_iff.2 hc35)) (by decide) ?_
              refine RA.skip rfl rfl rfl rfl rfl (congrArg Bool.not (Bool.eq_false_iff.2 hc35)) (by decide) ?_
              refine a_pick (b := true) (v := vB _) ?_ (congrArg Bool.not (Bool.eq_false_iff.2 hc35))
              refine RA.nil nofun ?_
              refine AG.yes rfl rfl ?_
              refine AG.seq ?_
              refine AG.region HM ?_
              refine a_move (v := vB _) ?_
              refine RA.nil nofun ?_
              refine AG.ret ?_
              obtain rfl := Option.some.inj H
              exact RetP.mk id ⟨rfl, trivial⟩ trivial rfl
         ·rw [if_neg hc24] at H
          cases H
        ·rw [if_neg hc23] at H
         cases H
       ·rw [if_neg hc22] at H
        refine AG.no rfl (decide_eq_false hc22) ?_
        refine AG.exit ?_
        refine AG.seq ?_
        refine AG.region HM ?_
        refine a_move (v := vB _) ?_
        refine RA.nil nofun ?_
        refine AG.ret ?_
        obtain rfl := Option.some.inj H
        exact RetP.mk id ⟨rfl, trivial⟩ trivial rfl
/-! ### impl_ringEdges: function 53 -/
def impl_ringEdges.l0 : Nat → List Int → List S89 → List Int → Int → Int → Option ((List S89))
 | 0, _, _, _, _, _ => none
 | k + 1, x0, x3, x8, x9, x10 => if x10 < x9 then (if 0 ≤ x10 then (if x10 < (x8.length : Int) then (if (x0.length : Int) = 0 then (none) else (if 0 ≤ (Int.tmod (wrap64 (x10 + 1)) (x0.length : Int)) then (if (Int.tmod (wrap64 (x10 + 1)) (x0.length : Int)) < (x0.length : Int) then (if x3.length < 8796093022208 then (impl_ringEdges.l0 k x0 (x3 ++ [(⟨mn (rd2 x8 x10) (rd2 x0 (Int.tmod (wrap64 (x10 + 1)) (x0.length : Int))), mx (rd2 x8 x10) (rd2 x0 (Int.tmod (wrap64 (x10 + 1)) (x0.length : Int)))⟩ : S89)]) x8 x9 (wrap64 (x10 + 1))) else (none)) else (none)) else (none))) else (none)) else (none)) else (some x3)
def impl_ringEdges.f (k : Nat) (l0 : List Int) : Option ((List S89)) := impl_ringEdges.l0 k l0 (([] : List S89) : List S89) l0 (l0.length : Int) 0
set_option maxRecDepth 100000 in
theorem impl_ringEdges.ok {k : Nat} {l0 : List Int} {r : List S89} (H : impl_ringEdges.f k l0 = some r) : OkF Tryz.prog 53 [vR 2 (l0.map c2)] [] (.c (.own 100 r.length)) [(100, .row 89 (r.map c89))] := by
 unfold impl_ringEdges.f at H
 refine OkF.of (N := 35) (rs := [2]) (avs := [.c (.own 100 r.length)]) Tryz.func53 rfl rfl (fun _ _ => results_tmp rfl _ _ _) (by decide) rfl rfl rfl rfl (fun w0 S => ?_)
 refine AG.seq ?_
 refine AG.region HM ?_
 refine a_nilO (e := 89) 200 ?_ T89
 refine RA.nil nofun ?_
 refine AG.seq ?_
 refine AG.region HM ?_
 refine a_lit (cs := []) (D := []) (css := (([] : List S89) : List S89).map c89) 201 ?_ N86 T89 (hcss := by rfl)
 refine a_move (v := .c (.own _ _)) ?_
 refine RA.nil nofun ?_
 refine AG.seq ?_
 refine AG.seq ?_
 refine AG.region HM ?_
 refine a_move (v := vR _ _) ?_
 refine a_lenR ?_ Tryz.underlying27
 refine a_move (v := vI _) ?_
 refine RA.nil nofun ?_
 refine AG.block ?_
 refine AG.loop ?_
 obtain ⟨K0, hK0, gK0⟩ : ∃ K, k ≤ K ∧ K ≤ k := ⟨k, Nat.le_refl k, Nat.le_refl k⟩
 refine AGr.canon (fun κ => cond (Nat.beq κ 202) 201 (κ)) (AGr.loopI (n := k) (fun k s => k ≤ K0 ∧ ∃ (x0 : List Int) (x3 : List S89) (x8 : List Int) (x9 : Int) (x10 : Int), impl_ringEdges.l0 k x0 x3 x8 x9 x10 = some r ∧ s = St.of [(0, vR 2 (x0.map c2)), (3, .c (.own 202 x3.length)), (8, vR 2 (x8.map c2)), (9, vI x9), (10, vI x10)] [(202, .row 89 (x3.map c89))]) ⟨hK0, _, _, _, _, _, H, rfl⟩ ?_ ?_) ⟨rfl, (ownE rfl (by simp)), rfl, rfl, rfl, trivial⟩ ⟨rfl, trivial⟩ rfl
 ·rintro _ ⟨_, _, _, _, _, _, H, _⟩
  cases H
 ·clear H hK0
  rintro k ih0 _ ⟨hK0, x0, x3, x8, x9, x10, H, rfl⟩
  unfold impl_ringEdges.l0 at H
  refine AG.seq ?_
  refine AG.region HM ?_
  refine a_int (u := .bool (decide (x10 < x9))) ?_
  refine RA.nil nofun ?_
  refine AG.seq ?_
  by_cases hc2 : x10 < x9
  ·rw [if_pos hc2] at H
   refine AG.yes rfl (decide_eq_true hc2) ?_
   refine AG.skip ?_
   refine AG.seq ?_
   refine AG.block ?_
   refine AG.seq ?_
   refine AG.region HM ?_
   refine a_move (v := vI _) ?_
   by_cases hc3 : 0 ≤ x10
   ·rw [if_pos hc3] at H
    by_cases hc4 : x10 < (x8.length : Int)
    ·rw [if_pos hc4] at H
     refine a_ixR (el := c2 (rd2 x8 x10)) ?_ ⟨hc3, hc4⟩ T2 Tryz.underlying27 (hel := R2 hc3 hc4)
     refine a_ldR (v := vI _) ?_ T2
     refine a_move (v := vI _) ?_
     refine a_move (v := vI _) ?_
     refine RA.nil nofun ?_
     refine AG.seq ?_
     refine AG.region HM ?_
     refine a_move (v := vR _ _) ?_
     refine a_move (v := vI _) ?_
     refine a_int (u := .int .i64 (wrap64 (x10 + 1))) ?_
     refine a_move (v := vR _ _) ?_
     refine a_lenR ?_ Tryz.underlying27
     by_cases hc5 : (x0.length : Int) = 0
     ·rw [if_pos hc5] at H
      cases H
     ·rw [if_neg hc5] at H
      refine a_rem (r := Int.tmod (wrap64 (x10 + 1)) (x0.length : Int)) ?_ hc5
      by_cases hc6 : 0 ≤ (Int.tmod (wrap64 (x10 + 1)) (x0.length : Int))
      ·rw [if_pos hc6] at H
       by_cases hc7 : (Int.tmod (wrap64 (x10 + 1)) (x0.length : Int)) < (x0.length : Int)
       ·rw [if_pos hc7] at H
        refine a_ixR (el := c2 (rd2 x0 (Int.tmod (wrap64 (x10 + 1)) (x0.length : Int)))) ?_ ⟨hc6, hc7⟩ T2 Tryz.underlying27 (hel := R2 hc6 hc7)
        refine a_ldR (v := vI _) ?_ T2
        refine a_move (v := vI _) ?_
        refine RA.nil nofun ?_
        refine AG.region HM ?_
        refine a_move (v := .c (.own _ _)) ?_
        refine a_move (v := vI _) ?_
        refine a_move (v := vI _) ?_
        refine a_minmax (mx := false) (r := mn (rd2 x8 x10) (rd2 x0 (Int.tmod (wrap64 (x10 + 1)) (x0.length : Int)))) ?_
        refine a_move (v := vI _) ?_
        refine a_move (v := vI _) ?_
        refine a_minmax (mx := true) (r := mx (rd2 x8 x10) (rd2 x0 (Int.tmod (wrap64 (x10 + 1)) (x0.length : Int)))) ?_
        refine a_buildA (cs := [_, _]) ?_ T89 Tryz.underlying89 T2 rfl
        refine a_lit (cs := [_, _]) (D := []) (css := ([(⟨mn (rd2 x8 x10) (rd2 x0 (Int.tmod (wrap64 (x10 + 1)) (x0.length : Int))), mx (rd2 x8 x10) (rd2 x0 (Int.tmod (wrap64 (x10 + 1)) (x0.length : Int)))⟩ : S89)]).map c89) 203 ?_ N86 T89
        by_cases hc8 : x3.length < 8796093022208
        ·rw [if_pos hc8] at H
         refine a_appO (css' := (x3 ++ [(⟨mn (rd2 x8 x10) (rd2 x0 (Int.tmod (wrap64 (x10 + 1)) (x0.length : Int))), mx (rd2 x8 x10) (rd2 x0 (Int.tmod (wrap64 (x10 + 1)) (x0.length : Int)))⟩ : S89)]).map c89) (n' := (x3 ++ [(⟨mn (rd2 x8 x10) (rd2 x0 (Int.tmod (wrap64 (x10 + 1)) (x0.length : Int))), mx (rd2 x8 x10) (rd2 x0 (Int.tmod (wrap64 (x10 + 1)) (x0.length : Int)))⟩ : S89)]).length) ?_ T89 (by simp [maxLen]; omega) (by simp; omega) Tryz.underlying86 (hc := by exact List.map_append.symm) (hn := by exact List.length_map _)
         refine a_move (v := .c (.own _ _)) ?_
         refine RA.nil nofun ?_
         refine AG.region HM ?_
         refine a_int (u := .int .i64 (wrap64 (x10 + 1))) ?_
         refine a_move (v := vI _) ?_
         refine RA.nil nofun ?_
         exact AGr.canon id (ih0 _ (by omega) _ ⟨by omega, _, _, _, _, _, H, rfl⟩) ⟨rfl, rfl, rfl, rfl, rfl, trivial⟩ ⟨rfl, trivial⟩ rfl
        ·rw [if_neg hc8] at H
         cases H
       ·rw [if_neg hc7] at H
        cases H
      ·rw [if_neg hc6] at H
       cases H
    ·rw [if_neg hc4] at H
     cases H
   ·rw [if_neg hc3] at H
    cases H
  ·rw [if_neg hc2] at H
   refine AG.no rfl (decide_eq_false hc2) ?_
   refine AG.exit ?_
   refine AG.seq ?_
   refine AG.region HM ?_
   refine a_move (v := .c (.own _ _)) ?_
   refine a_move (v := .c (.own _ _)) ?_
   refine RA.nil nofun ?_
   refine AG.ret ?_
   obtain rfl := Option.some.inj H
   exact RetP.mk (fun κ => cond (Nat.beq κ 100) 202 (κ)) ⟨rfl, trivial⟩ ⟨rfl, trivial⟩ rfl
/-! ### slices_SortFunc_pairs: function 54 -/
def slices_SortFunc_pairs.f (l0 : List S89) : Option (List S89) := if l0.length < 4611686018427387904 then some ((sortP (l0.map fun x => (x.f0, x.f1))).map fun p => (⟨p.1, p.2⟩ : S89)) else none
theorem slices_SortFunc_pairs.ok {l0 : List S89} {r : List S89} (H : slices_SortFunc_pairs.f l0 = some r) : OkF Tryz.prog 54 [.c (.own 0 l0.length), .c (.d (.fn 55 []))] [(0, .row 89 (l0.map c89))] (.tup []) [(0, .row 89 (r.map c89))] := by
 unfold slices_SortFunc_pairs.f at H
 by_cases h : l0.length < 4611686018427387904
 ·rw [if_pos h] at H
  obtain rfl := Option.some.inj H
  have := sortPairs (l0.map fun x => (x.f0, x.f1)) (by rw [List.length_map]; exact h)
  rw [List.length_map, List.map_map] at this
  rw [List.map_map]
  exact this
 ·rw [if_neg h] at H
  cases H
/-! ### impl_EdgesOf: function 27 -/
mutual
def impl_EdgesOf.l0 : Nat → List S89 → List S72 → Int → Int → Option ((List (List Int)) × Int)
 | 0, _, _, _, _ => none
 | k + 1, x4, x15, x16, x17 => if x17 < x16 then (if 0 ≤ x17 then (if x17 < (x15.length : Int) then ((impl_ringEdges.f k ((rd72 x15 x17).f1)).bind fun t8 => (if x4.length + t8.length < 8796093022208 then (impl_EdgesOf.l0 k (x4 ++ t8) x15 x16 (wrap64 (x17 + 1))) else (none))) else (none)) else (none)) else ((slices_SortFunc_pairs.f x4).bind fun t12 => (impl_EdgesOf.l1 k t12 (([] : List (List Int)) : List (List Int)) (t12.length : Int) 0))
def impl_EdgesOf.l1 : Nat → List S89 → List (List Int) → Int → Int → Option ((List (List Int)) × Int)
 | 0, _, _, _, _ => none
 | k + 1, x4, x7, x31, x32 => if x32 < x31 then (if 0 ≤ x32 then (if x32 < (x4.length : Int) then (if x32 = 0 then (if x7.length < 5864062014805 then (impl_EdgesOf.l1 k x4 (x7 ++ [[(rd89 x4 x32).f0, (rd89 x4 x32).f1]]) x31 (wrap64 (x32 + 1))) else (none)) else (if 0 ≤ (wrap64 (x32 - 1)) then (if (wrap64 (x32 - 1)) < (x4.length : Int) then (if (((rd89 x4 x32).f0) == ((rd89 x4 (wrap64 (x32 - 1))).f0) && (((rd89 x4 x32).f1) == ((rd89 x4 (wrap64 (x32 - 1))).f1))) = true then (impl_EdgesOf.l1 k x4 x7 x31 (wrap64 (x32 + 1))) else (if x7.length < 5864062014805 then (impl_EdgesOf.l1 k x4 (x7 ++ [[(rd89 x4 x32).f0, (rd89 x4 x32).f1]]) x31 (wrap64 (x32 + 1))) else (none))) else (none)) else (none))) else (none)) else (none)) else (some (x7, 0))
end
def impl_EdgesOf.f (k : Nat) (a0_0 : Int) (a0_1 : Int) (l0_2 : List S50) (l0_3 : List S72) : Option ((List (List Int)) × Int) := (impl_ValidDrawing.f k a0_0 a0_1 l0_2 l0_3).bind fun t1 => (if t1 = true then (impl_EdgesOf.l0 k (([] : List S89) : List S89) l0_3 (l0_3.length : Int) 0) else (some (([] : List (List Int)), 1)))
set_option maxRecDepth 100000 in
theorem impl_EdgesOf.ok {k : Nat} {a0_0 : Int} {a0_1 : Int} {l0_2 : List S50} {l0_3 : List S72} {r0 : List (List Int)} {r1 : Int} (H : impl_EdgesOf.f k a0_0 a0_1 l0_2 l0_3 = some (r0, r1)) : OkF Tryz.prog 27 [.agg [.d (.v (.int .i64 a0_0)), .d (.v (.int .i64 a0_1)), .d (.row 51 (l0_2.map c50)), .d (.row 76 (l0_3.map c72))]] [] (.tup [.c (.own 100 r0.length), .c (.d (.v (.int .i64 r1)))]) [(100, .row 27 (r0.map c27))] := by
 unfold impl_EdgesOf.f at H
 refine OkF.of (N := 58) (rs := [2, 3]) (avs := [.c (.own 100 r0.length), .c (.d (.v (.int .i64 r1)))]) Tryz.func27 rfl rfl (fun _ _ => results_tmp2 rfl _ _ _) (by decide) rfl rfl rfl rfl (fun w0 S => ?_)
 refine AG.seq ?_
 refine AG.region HM ?_
 refine a_box 200 ?_
 refine a_nilO (e := 27) 201 ?_ T27
 refine a_move (v := vI _) ?_
 refine RA.nil nofun ?_
 refine AG.seq ?_
 refine AG.seq ?_
 refine AG.region HM ?_
 refine a_ldB (v := .agg [_, _, _, _]) ?_ T33
 obtain ⟨t1, e2, H⟩ := bindO H
 refine a_call (v := vB t1) (nk := []) (L := []) ?_ rfl (impl_ValidDrawing.ok e2) id (qg qn) trivial trivial trivial rfl
 refine a_un (u := .bool (!t1)) ?_
 refine RA.nil nofun ?_
 by_cases hc3 : t1 = true
 ·rw [if_pos hc3] at H
  refine AG.no rfl (congrArg Bool.not hc3) ?_
  refine AG.skip ?_
  refine AG.seq ?_
  refine AG.region HM ?_
  refine a_lit (cs := []) (D := []) (css := (([] : List S89) : List S89).map c89) 204 ?_ N86 T89 (hcss := by rfl)
  refine a_move (v := .c (.own _ _)) ?_
  refine RA.nil nofun ?_
  refine AG.seq ?_
  refine AG.seq ?_
  refine AG.region HM ?_
  refine a_faB (q := 3) ?_ D33_3
  refine a_ldB (v := vR _ _) ?_ T31
  refine a_lenR ?_ Tryz.underlying31
  refine a_move (v := vI _) ?_
  refine RA.nil nofun ?_
  refine AG.block ?_
  refine AG.loop ?_
  obtain ⟨K0, hK0, gK0⟩ : ∃ K, k ≤ K ∧ K ≤ k := ⟨k, Nat.le_refl k, Nat.le_refl k⟩
  refine AGr.canon (fun κ => cond (Nat.beq κ 205) 204 (κ)) (AGr.loopI (n := k) (fun k s => k ≤ K0 ∧ ∃ (x4 : List S89) (x15 : List S72) (x16 : Int) (x17 : Int), impl_EdgesOf.l0 k x4 x15 x16 x17 = some (r0, r1) ∧ s = St.of [(4, .c (.own 205 x4.length)), (15, vR 76 (x15.map c72)), (16, vI x16), (17, vI x17)] [(205, .row 89 (x4.map c89))]) ⟨hK0, _, _, _, _, H, rfl⟩ ?_ ?_) ⟨(ownE rfl (by simp)), rfl, rfl, rfl, trivial⟩ ⟨rfl, trivial⟩ rfl
  ·rintro _ ⟨_, _, _, _, _, H, _⟩
   cases H
  ·clear H hK0
   rintro k ih0 _ ⟨hK0, x4, x15, x16, x17, H, rfl⟩
   unfold impl_EdgesOf.l0 at H
   refine AG.seq ?_
   refine AG.region HM ?_
   refine a_int (u := .bool (decide (x17 < x16))) ?_
   refine RA.nil nofun ?_
   refine AG.seq ?_
   by_cases hc5 : x17 < x16
   ·rw [if_pos hc5] at H
    refine AG.yes rfl (decide_eq_true hc5) ?_
    refine AG.skip ?_
    refine AG.seq ?_
    refine AG.block ?_
    refine AG.seq ?_
    refine AG.region HM ?_
    by_cases hc6 : 0 ≤ x17
    ·rw [if_pos hc6] at H
     by_cases hc7 : x17 < (x15.length : Int)
     ·rw [if_pos hc7] at H
      refine a_ixR (el := c72 (rd72 x15 x17)) ?_ ⟨hc6, hc7⟩ T76 Tryz.underlying31 (hel := R72 hc6 hc7)
      refine a_ldR (v := .agg [_, _]) ?_ T76
      refine a_alloc (cs := [_, _]) 206 ?_ T76
      refine a_stB (cs' := [_, _]) ?_ T76
      refine RA.nil nofun ?_
      refine AG.region HM ?_
      refine a_move (v := .c (.own _ _)) ?_
      refine a_faB (q := 1) ?_ D76_1
      refine a_ldB (v := vR _ _) ?_ T27
      obtain ⟨t8, e9, H⟩ := bindO H
      refine a_call (v := .c (.own 207 t8.length)) (nk := [(207, .row 89 (t8.map c89))]) (L := []) ?_ rfl (impl_ringEdges.ok e9) (fun κ => cond (Nat.beq κ 207) 100 (κ)) (qd qn) trivial ⟨rfl, trivial⟩ ⟨rfl, trivial⟩ rfl
      by_cases hc10 : x4.length + t8.length < 8796093022208
      ·rw [if_pos hc10] at H
       refine a_appO (css' := (x4 ++ t8).map c89) (n' := (x4 ++ t8).length) ?_ T89 (by simp [maxLen]; omega) (by simp; omega) Tryz.underlying86 (hc := by exact List.map_append.symm) (hn := by exact List.length_map _)
       refine a_move (v := .c (.own _ _)) ?_
       refine RA.nil nofun ?_
       refine AG.region HM ?_
       refine a_int (u := .int .i64 (wrap64 (x17 + 1))) ?_
       refine a_move (v := vI _) ?_
       refine RA.nil nofun ?_
       exact AGr.canon id (ih0 _ (by omega) _ ⟨by omega, _, _, _, _, H, rfl⟩) ⟨rfl, rfl, rfl, rfl, trivial⟩ ⟨rfl, trivial⟩ rfl
      ·rw [if_neg hc10] at H
       cases H
     ·rw [if_neg hc7] at H
      cases H
    ·rw [if_neg hc6] at H
     cases H
   ·rw [if_neg hc5] at H
    refine AG.no rfl (decide_eq_false hc5) ?_
    refine AG.exit ?_
    refine AG.seq ?_
    refine AG.region HM ?_
    refine a_move (v := .c (.own _ _)) ?_
    obtain ⟨t12, e13, H⟩ := bindO H
    refine a_callM (v := .tup []) (nk := []) (L := []) (Mk := [(205, _)]) (ck := [(205, .row 89 (t12.map c89))]) ?_ rfl (slices_SortFunc_pairs.ok e13) (fun κ => cond (Nat.beq κ 0) 205 (κ)) (fun κ => cond (Nat.beq κ 205) 0 (κ)) (mcO (mcD m0)) trivial ⟨rfl, trivial⟩ trivial ⟨rfl, trivial⟩ trivial ⟨rfl, trivial⟩ rfl rfl rfl
    refine RA.nil nofun ?_
    refine AG.relen 205 t12.length ?_
    refine AG.seq ?_
    refine AG.region HM ?_
    refine a_lit (cs := []) (D := []) (css := (([] : List (List Int)) : List (List Int)).map c27) 209 ?_ N46 T27 (hcss := by rfl)
    refine a_move (v := .c (.own _ _)) ?_
    refine RA.nil nofun ?_
    refine AG.seq ?_
    refine AG.seq ?_
    refine AG.region HM ?_
    refine a_move (v := .c (.own _ _)) ?_
    refine a_lenO ?_ Tryz.underlying86
    refine a_move (v := vI _) ?_
    refine RA.nil nofun ?_
    refine AG.block ?_
    refine AG.loop ?_
    obtain ⟨K1, hK1, gK1⟩ : ∃ K, k ≤ K ∧ K ≤ k := ⟨k, Nat.le_refl k, Nat.le_refl k⟩
    refine AGr.canon (fun κ => cond (Nat.beq κ 210) 205 (cond (Nat.beq κ 211) 209 (κ))) (AGr.loopI (n := k) (fun k s => k ≤ K1 ∧ ∃ (x4 : List S89) (x7 : List (List Int)) (x31 : Int) (x32 : Int), impl_EdgesOf.l1 k x4 x7 x31 x32 = some (r0, r1) ∧ s = St.of [(4, .c (.own 210 x4.length)), (7, .c (.own 211 x7.length)), (30, .c (.own 210 x4.length)), (31, vI x31), (32, vI x32)] [(210, .row 89 (x4.map c89)), (211, .row 27 (x7.map c27))]) ⟨hK1, _, _, _, _, H, rfl⟩ ?_ ?_) ⟨rfl, (ownE rfl (by simp)), rfl, rfl, rfl, trivial⟩ ⟨rfl, rfl, trivial⟩ rfl
    ·rintro _ ⟨_, _, _, _, _, H, _⟩
     cases H
    ·clear H hK1
     rintro k ih1 _ ⟨hK1, x4, x7, x31, x32, H, rfl⟩
     unfold impl_EdgesOf.l1 at H
     refine AG.seq ?_
     refine AG.region HM ?_
     refine a_int (u := .bool (decide (x32 < x31))) ?_
     refine RA.nil nofun ?_
     refine AG.seq ?_
     by_cases hc15 : x32 < x31
     ·rw [if_pos hc15] at H
      refine AG.yes rfl (decide_eq_true hc15) ?_
      refine AG.skip ?_
      refine AG.seq ?_
      refine AG.block ?_
      refine AG.seq ?_
      refine AG.region HM ?_
      refine a_move (v := vI _) ?_
      by_cases hc16 : 0 ≤ x32
      ·rw [if_pos hc16] at H
       by_cases hc17 : x32 < (x4.length : Int)
       ·rw [if_pos hc17] at H
        refine a_ixO ?_ ⟨hc16, hc17⟩ T89 Tryz.underlying86
        refine a_ldE (v := .agg [_, _]) ?_ (G89 hc16 hc17) T89
        refine a_alloc (cs := [_, _]) 212 ?_ T89
        refine a_move (v := vI _) ?_
        refine a_stB (cs' := [_, _]) ?_ T89
        refine RA.nil nofun ?_
        refine AG.seq ?_
        refine AG.region HM ?_
        refine a_move (v := vI _) ?_
        refine a_int (u := .bool ((x32 == 0))) ?_
        refine a_move (v := vB _) ?_
        by_cases hc18 : x32 = 0
        ·rw [if_pos hc18] at H
         refine RA.skip rfl rfl rfl rfl rfl (beq_iff_eq.2 hc18) (by decide) ?_
         refine RA.skip rfl rfl rfl rfl rfl (beq_iff_eq.2 hc18) (by decide) ?_
         refine RA.skip rfl rfl rfl rfl rfl (beq_iff_eq.2 hc18) (by decide) ?_
         refine RA.skip rfl rfl rfl rfl rfl (beq_iff_eq.2 hc18) (by decide) ?_
         refine RA.skip rfl rfl rfl rfl rfl (beq_iff_eq.2 hc18) (by decide) ?_
         refine RA.skip rfl rfl rfl rfl rfl (beq_iff_eq.2 hc18) (by decide) ?_
         refine RA.skip rfl rfl rfl rfl rfl (beq_iff_eq.2 hc18) (by decide) ?_
         refine a_pick (b := true) (v := vB _) ?_ (beq_iff_eq.2 hc18)
         refine RA.nil (fun _ => by kernel_rfl) ?_
         refine AG.yes rfl rfl ?_
         refine AG.region HM ?_
         refine a_move (v := .c (.own _ _)) ?_
         refine a_ixaB (q := 0) (iv := 0) ?_ (by decide) T2 Tryz.underlying89
         refine a_ldB (v := vI _) ?_ T2
         refine a_ixaB (q := 1) (iv := 1) ?_ (by decide) T2 Tryz.underlying89
         refine a_ldB (v := vI _) ?_ T2
         refine a_lit (cs := [_, _]) (D := []) (css := ([(rd89 x4 x32).f0, (rd89 x4 x32).f1]).map c2) 213 ?_ N27 T2
         refine a_lit (cs := [_]) (D := [213]) (css := ([[(rd89 x4 x32).f0, (rd89 x4 x32).f1]]).map c27) 214 ?_ N46 T27
         by_cases hc19 : x7.length < 5864062014805
         ·rw [if_pos hc19] at H
          refine a_appO (css' := (x7 ++ [[(rd89 x4 x32).f0, (rd89 x4 x32).f1]]).map c27) (n' := (x7 ++ [[(rd89 x4 x32).f0, (rd89 x4 x32).f1]]).length) ?_ T27 (by simp [maxLen]; omega) (by simp; omega) Tryz.underlying46 (hc := by exact List.map_append.symm) (hn := by exact List.length_map _)
          refine a_move (v := .c (.own _ _)) ?_
          refine RA.nil nofun ?_
          refine AG.region HM ?_
          refine a_int (u := .int .i64 (wrap64 (x32 + 1))) ?_
          refine a_move (v := vI _) ?_
          refine RA.nil nofun ?_
          exact AGr.canon id (ih1 _ (by omega) _ ⟨by omega, _, _, _, _, H, rfl⟩) ⟨rfl, rfl, rfl, rfl, rfl, trivial⟩ ⟨rfl, rfl, trivial⟩ rfl
         ·rw [if_neg hc19] at H
          cases H
        ·rw [if_neg hc18] at H
         refine a_ldB (v := .agg [_, _]) ?_ T89 (hg := Gs.yes rfl rfl rfl (beq_eq_false_iff_ne.2 hc18))
         refine a_move (v := .c (.own _ _)) ?_ (hg := Gs.yes rfl rfl rfl (beq_eq_false_iff_ne.2 hc18))
         refine a_move (v := vI _) ?_ (hg := Gs.yes rfl rfl rfl (beq_eq_false_iff_ne.2 hc18))
         refine a_int (u := .int .i64 (wrap64 (x32 - 1))) ?_ (hg := Gs.yes rfl rfl rfl (beq_eq_false_iff_ne.2 hc18))
         by_cases hc21 : 0 ≤ (wrap64 (x32 - 1))
         ·rw [if_pos hc21] at H
          by_cases hc22 : (wrap64 (x32 - 1)) < (x4.length : Int)
          ·rw [if_pos hc22] at H
           refine a_ixO ?_ ⟨hc21, hc22⟩ T89 Tryz.underlying86 (hg := Gs.yes rfl rfl rfl (beq_eq_false_iff_ne.2 hc18))
           refine a_ldE (v := .agg [_, _]) ?_ (G89 hc21 hc22) T89 (hg := Gs.yes rfl rfl rfl (beq_eq_false_iff_ne.2 hc18))
           refine a_eqS (b := (!(((rd89 x4 x32).f0) == ((rd89 x4 (wrap64 (x32 - 1))).f0) && (((rd89 x4 x32).f1) == ((rd89 x4 (wrap64 (x32 - 1))).f1))))) ?_ (.inr ⟨rfl, rfl⟩) (Q89 ((rd89 x4 x32).f0) ((rd89 x4 (wrap64 (x32 - 1))).f0) ((rd89 x4 x32).f1) ((rd89 x4 (wrap64 (x32 - 1))).f1)).2 (hg := Gs.yes rfl rfl rfl (beq_eq_false_iff_ne.2 hc18))
           refine a_pick (b := false) (v := vB _) ?_ (beq_eq_false_iff_ne.2 hc18)
           refine RA.nil (fun _ => by kernel_rfl) ?_
           by_cases hc23 : (((rd89 x4 x32).f0) == ((rd89 x4 (wrap64 (x32 - 1))).f0) && (((rd89 x4 x32).f1) == ((rd89 x4 (wrap64 (x32 - 1))).f1))) = true
           ·rw [if_pos hc23] at H
            refine AG.no rfl (by rw [show (((rd89 x4 x32).f0) == ((rd89 x4 (wrap64 (x32 - 1))).f0) && (((rd89 x4 x32).f1) == ((rd89 x4 (wrap64 (x32 - 1))).f1))) = true from hc23]; rfl) ?_
            refine AG.skip ?_
            refine AG.region HM ?_
            refine a_int (u := .int .i64 (wrap64 (x32 + 1))) ?_
            refine a_move (v := vI _) ?_
            refine RA.nil nofun ?_
            exact AGr.canon id (ih1 _ (by omega) _ ⟨by omega, _, _, _, _, H, rfl⟩) ⟨rfl, rfl, rfl, rfl, rfl, trivial⟩ ⟨rfl, rfl, trivial⟩ rfl
           ·rw [if_neg hc23] at H
            refine AG.yes rfl (by rw [Bool.eq_false_iff.2 hc23]; rfl) ?_
            refine AG.region HM ?_
            refine a_move (v := .c (.own _ _)) ?_
            refine a_ixaB (q := 0) (iv := 0) ?_ (by decide) T2 Tryz.underlying89
            refine a_ldB (v := vI _) ?_ T2
            refine a_ixaB (q := 1) (iv := 1) ?_ (by decide) T2 Tryz.underlying89
            refine a_ldB (v := vI _) ?_ T2
            refine a_lit (cs := [_, _]) (D := []) (css := ([(rd89 x4 x32).f0, (rd89 x4 x32).f1]).map c2) 213 ?_ N27 T2
            refine a_lit (cs := [_]) (D := [213]) (css := ([[(rd89 x4 x32).f0, (rd89 x4 x32).f1]]).map c27) 214 ?_ N46 T27
            by_cases hc24 : x7.length < 5864062014805
            ·rw [if_pos hc24] at H
             refine a_appO (css' := (x7 ++ [[(rd89 x4 x32).f0, (rd89 x4 x32).f1]]).map c27) (n' := (x7 ++ [[(rd89 x4 x32).f0, (rd89 x4 x32).f1]]).length) ?_ T27 (by simp [maxLen]; omega) (by simp; omega) Tryz.underlying46 (hc := by exact List.map_append.symm) (hn := by exact List.length_map _)
             refine a_move (v := .c (.own _ _)) ?_
             refine RA.nil nofun ?_
             refine AG.region HM ?_
             refine a_int (u := .int .i64 (wrap64 (x32 + 1))) ?_
             refine a_move (v := vI _) ?_
             refine RA.nil nofun ?_
             exact AGr.canon id (ih1 _ (by omega) _ ⟨by omega, _, _, _, _, H, rfl⟩) ⟨rfl, rfl, rfl, rfl, rfl, trivial⟩ ⟨rfl, rfl, trivial⟩ rfl
            ·rw [if_neg hc24] at H
             cases H
          ·rw [if_neg hc22] at H
           cases H
         ·rw [if_neg hc21] at H
          cases H
       ·rw [if_neg hc17] at H
        cases H
      ·rw [if_neg hc16] at H
       cases H
     ·rw [if_neg hc15] at H
      refine AG.no rfl (decide_eq_false hc15) ?_
      refine AG.exit ?_
      refine AG.seq ?_
      refine AG.region HM ?_
      refine a_move (v := .c (.own _ _)) ?_
      refine a_move (v := .c (.own _ _)) ?_
      refine a_move (v := vI _) ?_
      refine RA.nil nofun ?_
      refine AG.ret ?_
      simp only [Option.some.injEq, Prod.mk.injEq] at H
      obtain ⟨rfl, rfl⟩ := H
      exact RetP.mk (fun κ => cond (Nat.beq κ 100) 211 (κ)) ⟨rfl, rfl, trivial⟩ ⟨rfl, trivial⟩ rfl
 ·rw [if_neg hc3] at H
  refine AG.yes rfl (congrArg Bool.not (Bool.eq_false_iff.2 hc3)) ?_
  refine AG.seq ?_
  refine AG.region HM ?_
  refine a_nilO (e := 27) 203 ?_ T27
  refine a_move (v := vI _) ?_
  refine RA.nil nofun ?_
  refine AG.ret ?_
  simp only [Option.some.injEq, Prod.mk.injEq] at H
  obtain ⟨rfl, rfl⟩ := H
  exact RetP.mk (fun κ => cond (Nat.beq κ 100) 203 (κ)) ⟨(ownE rfl (by simp)), rfl, trivial⟩ ⟨rfl, trivial⟩ rfl
/-! ### slices_Index_2_int64_2_int64: function 121 -/
def slices_Index_2_int64_2_int64.l0 : Nat → List S89 → Int → Int → Int → Int → Option (Int)
 | 0, _, _, _, _, _ => none
 | k + 1, x0, y201_0, y201_1, x7, x8 => if x8 < x7 then (if 0 ≤ x8 then (if x8 < (x0.length : Int) then (if (y201_0 == ((rd89 x0 x8).f0) && (y201_1 == ((rd89 x0 x8).f1))) = true then (some x8) else (slices_Index_2_int64_2_int64.l0 k x0 y201_0 y201_1 x7 (wrap64 (x8 + 1)))) else (none)) else (none)) else (some (-1))
def slices_Index_2_int64_2_int64.f (k : Nat) (l0 : List S89) (a1_0 : Int) (a1_1 : Int) : Option (Int) := slices_Index_2_int64_2_int64.l0 k l0 a1_0 a1_1 (l0.length : Int) 0
set_option maxRecDepth 100000 in
theorem slices_Index_2_int64_2_int64.ok {k : Nat} {l0 : List S89} {a1_0 : Int} {a1_1 : Int} {r : Int} (H : slices_Index_2_int64_2_int64.f k l0 a1_0 a1_1 = some r) : OkF Tryz.prog 121 [vR 89 (l0.map c89), .agg [.d (.v (.int .i64 a1_0)), .d (.v (.int .i64 a1_1))]] [] (.c (.d (.v (.int .i64 r)))) [] := by
 unfold slices_Index_2_int64_2_int64.f at H
 refine OkF.of (N := 19) (rs := [4]) (avs := [.c (.d (.v (.int .i64 r)))]) Tryz.func121 rfl rfl (fun _ _ => results_tmp rfl _ _ _) (by decide) rfl rfl rfl rfl (fun w0 S => ?_)
 refine AG.seq ?_
 refine AG.region HM ?_
 refine a_box 200 ?_
 refine a_move (v := vI _) ?_
 refine RA.nil nofun ?_
 refine AG.seq ?_
 refine AG.seq ?_
 refine AG.region HM ?_
 refine a_move (v := vR _ _) ?_
 refine a_lenR ?_ Tryz.underlying86
 refine a_move (v := vI _) ?_
 refine RA.nil nofun ?_
 refine AG.block ?_
 refine AG.loop ?_
 obtain ⟨K0, hK0, gK0⟩ : ∃ K, k ≤ K ∧ K ≤ k := ⟨k, Nat.le_refl k, Nat.le_refl k⟩
 refine AGr.canon (fun κ => cond (Nat.beq κ 201) 200 (κ)) (AGr.loopI (n := k) (fun k s => k ≤ K0 ∧ ∃ (x0 : List S89) (y201_0 : Int) (y201_1 : Int) (x7 : Int) (x8 : Int), slices_Index_2_int64_2_int64.l0 k x0 y201_0 y201_1 x7 x8 = some r ∧ s = St.of [(0, vR 89 (x0.map c89)), (3, .c (.ptr 201 0)), (7, vI x7), (8, vI x8)] [(201, .box 89 [.d (.v (.int .i64 y201_0)), .d (.v (.int .i64 y201_1))])]) ⟨hK0, _, _, _, _, _, H, rfl⟩ ?_ ?_) ⟨rfl, rfl, rfl, rfl, trivial⟩ ⟨rfl, trivial⟩ rfl
 ·rintro _ ⟨_, _, _, _, _, _, H, _⟩
  cases H
 ·clear H hK0
  rintro k ih0 _ ⟨hK0, x0, y201_0, y201_1, x7, x8, H, rfl⟩
  unfold slices_Index_2_int64_2_int64.l0 at H
  refine AG.seq ?_
  refine AG.region HM ?_
  refine a_int (u := .bool (decide (x8 < x7))) ?_
  refine RA.nil nofun ?_
  refine AG.seq ?_
  by_cases hc1 : x8 < x7
  ·rw [if_pos hc1] at H
   refine AG.yes rfl (decide_eq_true hc1) ?_
   refine AG.skip ?_
   refine AG.seq ?_
   refine AG.block ?_
   refine AG.seq ?_
   refine AG.region HM ?_
   refine a_move (v := vI _) ?_
   refine a_move (v := vI _) ?_
   refine RA.nil nofun ?_
   refine AG.seq ?_
   refine AG.region HM ?_
   refine a_ldB (v := .agg [_, _]) ?_ T89
   refine a_move (v := vR _ _) ?_
   refine a_move (v := vI _) ?_
   by_cases hc2 : 0 ≤ x8
   ·rw [if_pos hc2] at H
    by_cases hc3 : x8 < (x0.length : Int)
    ·rw [if_pos hc3] at H
     refine a_ixR (el := c89 (rd89 x0 x8)) ?_ ⟨hc2, hc3⟩ T89 Tryz.underlying86 (hel := R89 hc2 hc3)
     refine a_ldR (v := .agg [_, _]) ?_ T89
     refine a_eqS (b := (y201_0 == ((rd89 x0 x8).f0) && (y201_1 == ((rd89 x0 x8).f1)))) ?_ (.inl ⟨rfl, rfl⟩) (Q89 y201_0 ((rd89 x0 x8).f0) y201_1 ((rd89 x0 x8).f1)).1
     refine RA.nil (fun _ => by kernel_rfl) ?_
     by_cases hc4 : (y201_0 == ((rd89 x0 x8).f0) && (y201_1 == ((rd89 x0 x8).f1))) = true
     ·rw [if_pos hc4] at H
      refine AG.yes rfl hc4 ?_
      refine AG.seq ?_
      refine AG.region HM ?_
      refine a_move (v := vI _) ?_
      refine a_move (v := vI _) ?_
      refine RA.nil nofun ?_
      refine AG.ret ?_
      obtain rfl := Option.some.inj H
      exact RetP.mk id ⟨rfl, trivial⟩ trivial rfl
     ·rw [if_neg hc4] at H
      refine AG.no rfl (Bool.eq_false_iff.2 hc4) ?_
      refine AG.skip ?_
      refine AG.region HM ?_
      refine a_int (u := .int .i64 (wrap64 (x8 + 1))) ?_
      refine a_move (v := vI _) ?_
      refine RA.nil nofun ?_
      exact AGr.canon id (ih0 _ (by omega) _ ⟨by omega, _, _, _, _, _, H, rfl⟩) ⟨rfl, rfl, rfl, rfl, trivial⟩ ⟨rfl, trivial⟩ rfl
    ·rw [if_neg hc3] at H
     cases H
   ·rw [if_neg hc2] at H
    cases H
  ·rw [if_neg hc1] at H
   refine AG.no rfl (decide_eq_false hc1) ?_
   refine AG.exit ?_
   refine AG.seq ?_
   refine AG.region HM ?_
   refine a_move (v := vI _) ?_
   refine RA.nil nofun ?_
   refine AG.ret ?_
   obtain rfl := Option.some.inj H
   exact RetP.mk id ⟨rfl, trivial⟩ trivial rfl
/-! ### slices_Contains_2_int64_2_int64: function 109 -/
def slices_Contains_2_int64_2_int64.f (k : Nat) (l0 : List S89) (a1_0 : Int) (a1_1 : Int) : Option (Bool) := (slices_Index_2_int64_2_int64.f k l0 a1_0 a1_1).bind fun t1 => (some (decide (t1 ≥ 0)))
set_option maxRecDepth 100000 in
theorem slices_Contains_2_int64_2_int64.ok {k : Nat} {l0 : List S89} {a1_0 : Int} {a1_1 : Int} {r : Bool} (H : slices_Contains_2_int64_2_int64.f k l0 a1_0 a1_1 = some r) : OkF Tryz.prog 109 [vR 89 (l0.map c89), .agg [.d (.v (.int .i64 a1_0)), .d (.v (.int .i64 a1_1))]] [] (.c (.d (.v (.bool r)))) [] := by
 unfold slices_Contains_2_int64_2_int64.f at H
 refine OkF.of (N := 9) (rs := [4]) (avs := [.c (.d (.v (.bool r)))]) Tryz.func109 rfl rfl (fun _ _ => results_tmp rfl _ _ _) (by decide) rfl rfl rfl rfl (fun w0 S => ?_)
 refine AG.seq ?_
 refine AG.region HM ?_
 refine a_box 200 ?_
 refine a_move (v := vB _) ?_
 refine RA.nil nofun ?_
 refine AG.seq ?_
 refine AG.region HM ?_
 refine a_move (v := vR _ _) ?_
 refine a_ldB (v := .agg [_, _]) ?_ T89
 obtain ⟨t1, e2, H⟩ := bindO H
 refine a_call (v := vI t1) (nk := []) (L := []) ?_ rfl (slices_Index_2_int64_2_int64.ok e2) id (qd (qg qn)) trivial trivial trivial rfl
 refine a_int (u := .bool (decide (t1 ≥ 0))) ?_
 refine a_move (v := vB _) ?_
 refine RA.nil nofun ?_
 refine AG.ret ?_
 obtain rfl := Option.some.inj H
 exact RetP.mk id ⟨rfl, trivial⟩ trivial rfl
/-! ### impl_FacesOfEdge: function 85 -/
mutual
def impl_FacesOfEdge.j0 : Nat → Int → Int → List S72 → Bool → Option ((List Int) × Int)
 | 0, _, _, _, _ => none
 | k + 1, x1, x2, y206_3, x29 => if x29 = true then (some (([] : List Int), 2)) else (impl_FacesOfEdge.l0 k x1 x2 (([] : List Int) : List Int) y206_3 (y206_3.length : Int) 0)
def impl_FacesOfEdge.l0 : Nat → Int → Int → List Int → List S72 → Int → Int → Option ((List Int) × Int)
 | 0, _, _, _, _, _, _ => none
 | k + 1, x1, x2, x8, x32, x33, x34 => if x34 < x33 then (if 0 ≤ x34 then (if x34 < (x32.length : Int) then ((impl_ringEdges.f k ((rd72 x32 x34).f1)).bind fun t14 => ((slices_Contains_2_int64_2_int64.f k t14 (mn x1 x2) (mx x1 x2)).bind fun t16 => (if t16 = true then (if x8.length < 17592186044416 then (impl_FacesOfEdge.l0 k x1 x2 (x8 ++ [x34]) x32 x33 (wrap64 (x34 + 1))) else (none)) else (impl_FacesOfEdge.l0 k x1 x2 x8 x32 x33 (wrap64 (x34 + 1)))))) else (none)) else (none)) else (some (x8, 0))
end
def impl_FacesOfEdge.f (k : Nat) (a0_0 : Int) (a0_1 : Int) (l0_2 : List S50) (l0_3 : List S72) (a1 : Int) (a2 : Int) : Option ((List Int) × Int) := (impl_ValidDrawing.f k a0_0 a0_1 l0_2 l0_3).bind fun t1 => (if t1 = true then ((impl_within.f a1 0 (wrap64 ((l0_2.length : Int) - 1))).bind fun t4 => (if t4 = true then ((impl_within.f a2 0 (wrap64 ((l0_2.length : Int) - 1))).bind fun t7 => (impl_FacesOfEdge.j0 k a1 a2 l0_3 (!t7))) else (impl_FacesOfEdge.j0 k a1 a2 l0_3 true))) else (some (([] : List Int), 1)))
set_option maxRecDepth 100000 in
theorem impl_FacesOfEdge.ok {k : Nat} {a0_0 : Int} {a0_1 : Int} {l0_2 : List S50} {l0_3 : List S72} {a1 : Int} {a2 : Int} {r0 : List Int} {r1 : Int} (H : impl_FacesOfEdge.f k a0_0 a0_1 l0_2 l0_3 a1 a2 = some (r0, r1)) : OkF Tryz.prog 85 [.agg [.d (.v (.int .i64 a0_0)), .d (.v (.int .i64 a0_1)), .d (.row 51 (l0_2.map c50)), .d (.row 76 (l0_3.map c72))], vI a1, vI a2] [] (.tup [.c (.own 100 r0.length), .c (.d (.v (.int .i64 r1)))]) [(100, .row 2 (r0.map c2))] := by
 unfold impl_FacesOfEdge.f at H
 refine OkF.of (N := 56) (rs := [6, 7]) (avs := [.c (.own 100 r0.length), .c (.d (.v (.int .i64 r1)))]) Tryz.func85 rfl rfl (fun _ _ => results_tmp2 rfl _ _ _) (by decide) rfl rfl rfl rfl (fun w0 S => ?_)
 refine AG.seq ?_
 refine AG.region HM ?_
 refine a_box 200 ?_
 refine a_nilO (e := 2) 201 ?_ T2
 refine a_move (v := vI _) ?_
 refine RA.nil nofun ?_
 refine AG.seq ?_
 refine AG.seq ?_
 refine AG.region HM ?_
 refine a_ldB (v := .agg [_, _, _, _]) ?_ T33
 obtain ⟨t1, e2, H⟩ := bindO H
 refine a_call (v := vB t1) (nk := []) (L := []) ?_ rfl (impl_ValidDrawing.ok e2) id (qg qn) trivial trivial trivial rfl
 refine a_un (u := .bool (!t1)) ?_
 refine RA.nil nofun ?_
 by_cases hc3 : t1 = true
 ·rw [if_pos hc3] at H
  refine AG.no rfl (congrArg Bool.not hc3) ?_
  refine AG.skip ?_
  refine AG.seq ?_
  refine AG.seq ?_
  refine AG.joinR (fun s => ∃ q, q ≤ k ∧ ∃ (x1 : Int) (x2 : Int) (y206_0 : Int) (y206_1 : Int) (y206_2 : List S50) (y206_3 : List S72) (x29 : Bool), impl_FacesOfEdge.j0 q x1 x2 y206_3 x29 = some (r0, r1) ∧ s = St.of [(1, vI x1), (2, vI x2), (3, .c (.ptr 206 0)), (29, vB x29)] [(206, .box 33 [.d (.v (.int .i64 y206_0)), .d (.v (.int .i64 y206_1)), .d (.row 51 (y206_2.map c50)), .d (.row 76 (y206_3.map c72))])]) ?_ ?_
  ·skip
   refine AG.region HM ?_
   refine a_move (v := vI _) ?_
   refine a_faB (q := 2) ?_ D33_2
   refine a_ldB (v := vR _ _) ?_ T30
   refine a_lenR ?_ Tryz.underlying30
   refine a_int (u := .int .i64 (wrap64 ((l0_2.length : Int) - 1))) ?_
   obtain ⟨t4, e5, H⟩ := bindO H
   refine a_call (v := vB t4) (nk := []) (L := []) ?_ rfl (impl_within.ok e5) id (qd (qd (qd qn))) trivial trivial trivial rfl
   refine a_un (u := .bool (!t4)) ?_
   refine a_move (v := vB _) ?_
   by_cases hc6 : t4 = true
   ·rw [if_pos hc6] at H
    refine a_move (v := vI _) ?_ (hg := Gs.yes rfl rfl rfl (congrArg Bool.not hc6))
    refine a_faB (q := 2) ?_ D33_2 (hg := Gs.yes rfl rfl rfl (congrArg Bool.not hc6))
    refine a_ldB (v := vR _ _) ?_ T30 (hg := Gs.yes rfl rfl rfl (congrArg Bool.not hc6))
    refine a_lenR ?_ Tryz.underlying30 (hg := Gs.yes rfl rfl rfl (congrArg Bool.not hc6))
    refine a_int (u := .int .i64 (wrap64 ((l0_2.length : Int) - 1))) ?_ (hg := Gs.yes rfl rfl rfl (congrArg Bool.not hc6))
    obtain ⟨t7, e8, H⟩ := bindO H
    refine a_call (v := vB t7) (nk := []) (L := []) ?_ rfl (impl_within.ok e8) id (qd (qd (qd qn))) trivial trivial trivial rfl (hg := Gs.yes rfl rfl rfl (congrArg Bool.not hc6))
    refine a_un (u := .bool (!t7)) ?_ (hg := Gs.yes rfl rfl rfl (congrArg Bool.not hc6))
    refine a_pick (b := false) (v := vB _) ?_ (congrArg Bool.not hc6)
    refine RA.nil nofun ?_
    exact CanR.mk (fun κ => cond (Nat.beq κ 206) 200 (κ)) ⟨_, (by omega), _, _, _, _, _, _, _, H, rfl⟩ ⟨rfl, rfl, rfl, rfl, trivial⟩ ⟨rfl, trivial⟩ rfl
   ·rw [if_neg hc6] at H
    refine RA.skip rfl rfl rfl rfl rfl (congrArg Bool.not (Bool.eq_false_iff.2 hc6)) (by decide) ?_
    refine RA.skip rfl rfl rfl rfl rfl (congrArg Bool.not (Bool.eq_false_iff.2 hc6)) (by decide) ?_
    refine RA.skip rfl rfl rfl rfl rfl (congrArg Bool.not (Bool.eq_false_iff.2 hc6)) (by decide) ?_
    refine RA.skip rfl rfl rfl rfl rfl (congrArg Bool.not (Bool.eq_false_iff.2 hc6)) (by decide) ?_
    refine RA.skip rfl rfl rfl rfl rfl (congrArg Bool.not (Bool.eq_false_iff.2 hc6)) (by decide) ?_
    refine RA.skip rfl rfl rfl rfl rfl (congrArg Bool.not (Bool.eq_false_iff.2 hc6)) (by decide) ?_
    refine RA.skip rfl rfl rfl rfl rfl (congrArg Bool.not (Bool.eq_false_iff.2 hc6)) (by decide) ?_
    refine a_pick (b := true) (v := vB _) ?_ (congrArg Bool.not (Bool.eq_false_iff.2 hc6))
    refine RA.nil nofun ?_
    exact CanR.mk (fun κ => cond (Nat.beq κ 206) 200 (κ)) ⟨_, (by omega), _, _, _, _, _, _, _, H, rfl⟩ ⟨rfl, rfl, rfl, rfl, trivial⟩ ⟨rfl, trivial⟩ rfl
  ·clear H
   rintro _ ⟨k, hj0, x1, x2, y206_0, y206_1, y206_2, y206_3, x29, H, rfl⟩
   cases k with
   | zero => cases H
   | succ k =>
    rw [impl_FacesOfEdge.j0] at H
    by_cases hc9 : x29 = true
    ·rw [if_pos hc9] at H
     refine AG.yes rfl hc9 ?_
     refine AG.seq ?_
     refine AG.region HM ?_
     refine a_nilO (e := 2) 207 ?_ T2
     refine a_move (v := vI _) ?_
     refine RA.nil nofun ?_
     refine AG.ret ?_
     simp only [Option.some.injEq, Prod.mk.injEq] at H
     obtain ⟨rfl, rfl⟩ := H
     exact RetP.mk (fun κ => cond (Nat.beq κ 100) 207 (κ)) ⟨(ownE rfl (by simp)), rfl, trivial⟩ ⟨rfl, trivial⟩ rfl
    ·rw [if_neg hc9] at H
     refine AG.no rfl (Bool.eq_false_iff.2 hc9) ?_
     refine AG.skip ?_
     refine AG.seq ?_
     refine AG.region HM ?_
     refine a_lit (cs := []) (D := []) (css := (([] : List Int) : List Int).map c2) 208 ?_ N27 T2 (hcss := by rfl)
     refine a_move (v := .c (.own _ _)) ?_
     refine RA.nil nofun ?_
     refine AG.seq ?_
     refine AG.seq ?_
     refine AG.region HM ?_
     refine a_faB (q := 3) ?_ D33_3
     refine a_ldB (v := vR _ _) ?_ T31
     refine a_lenR ?_ Tryz.underlying31
     refine a_move (v := vI _) ?_
     refine RA.nil nofun ?_
     refine AG.block ?_
     refine AG.loop ?_
     obtain ⟨K0, hK0, gK0⟩ : ∃ K, k ≤ K ∧ K ≤ k := ⟨k, Nat.le_refl k, Nat.le_refl k⟩
     refine AGr.canon (fun κ => cond (Nat.beq κ 209) 208 (κ)) (AGr.loopI (n := k) (fun k s => k ≤ K0 ∧ ∃ (x1 : Int) (x2 : Int) (x8 : List Int) (x32 : List S72) (x33 : Int) (x34 : Int), impl_FacesOfEdge.l0 k x1 x2 x8 x32 x33 x34 = some (r0, r1) ∧ s = St.of [(1, vI x1), (2, vI x2), (8, .c (.own 209 x8.length)), (32, vR 76 (x32.map c72)), (33, vI x33), (34, vI x34)] [(209, .row 2 (x8.map c2))]) ⟨hK0, _, _, _, _, _, _, H, rfl⟩ ?_ ?_) ⟨rfl, rfl, (ownE rfl (by simp)), rfl, rfl, rfl, trivial⟩ ⟨rfl, trivial⟩ rfl
     ·rintro _ ⟨_, _, _, _, _, _, _, H, _⟩
      cases H
     ·clear H hK0
      rintro k ih0 _ ⟨hK0, x1, x2, x8, x32, x33, x34, H, rfl⟩
      unfold impl_FacesOfEdge.l0 at H
      refine AG.seq ?_
      refine AG.region HM ?_
      refine a_int (u := .bool (decide (x34 < x33))) ?_
      refine RA.nil nofun ?_
      refine AG.seq ?_
      by_cases hc11 : x34 < x33
      ·rw [if_pos hc11] at H
       refine AG.yes rfl (decide_eq_true hc11) ?_
       refine AG.skip ?_
       refine AG.seq ?_
       refine AG.block ?_
       refine AG.seq ?_
       refine AG.region HM ?_
       refine a_move (v := vI _) ?_
       by_cases hc12 : 0 ≤ x34
       ·rw [if_pos hc12] at H
        by_cases hc13 : x34 < (x32.length : Int)
        ·rw [if_pos hc13] at H
         refine a_ixR (el := c72 (rd72 x32 x34)) ?_ ⟨hc12, hc13⟩ T76 Tryz.underlying31 (hel := R72 hc12 hc13)
         refine a_ldR (v := .agg [_, _]) ?_ T76
         refine a_alloc (cs := [_, _]) 210 ?_ T76
         refine a_move (v := vI _) ?_
         refine a_stB (cs' := [_, _]) ?_ T76
         refine RA.nil nofun ?_
         refine AG.seq ?_
         refine AG.region HM ?_
         refine a_faB (q := 1) ?_ D76_1
         refine a_ldB (v := vR _ _) ?_ T27
         obtain ⟨t14, e15, H⟩ := bindO H
         refine a_call (v := .c (.own 211 t14.length)) (nk := [(211, .row 89 (t14.map c89))]) (L := []) ?_ rfl (impl_ringEdges.ok e15) (fun κ => cond (Nat.beq κ 211) 100 (κ)) (qd qn) trivial ⟨rfl, trivial⟩ ⟨rfl, trivial⟩ rfl
         refine a_move (v := vI _) ?_
         refine a_move (v := vI _) ?_
         refine a_minmax (mx := false) (r := mn x1 x2) ?_
         refine a_move (v := vI _) ?_
         refine a_move (v := vI _) ?_
         refine a_minmax (mx := true) (r := mx x1 x2) ?_
         refine a_buildA (cs := [_, _]) ?_ T89 Tryz.underlying89 T2 rfl
         obtain ⟨t16, e17, H⟩ := bindO H
         refine a_call (v := vB t16) (nk := []) (L := [(211, _)]) ?_ rfl (slices_Contains_2_int64_2_int64.ok e17) id (qc rO (qg qn)) ⟨rfl, trivial⟩ trivial trivial rfl
         refine RA.nil nofun ?_
         by_cases hc18 : t16 = true
         ·rw [if_pos hc18] at H
          refine AG.yes rfl hc18 ?_
          refine AG.region HM ?_
          refine a_move (v := .c (.own _ _)) ?_
          refine a_move (v := vI _) ?_
          refine a_lit (cs := [_]) (D := []) (css := ([x34]).map c2) 213 ?_ N27 T2
          by_cases hc19 : x8.length < 17592186044416
          ·rw [if_pos hc19] at H
           refine a_appO (css' := (x8 ++ [x34]).map c2) (n' := (x8 ++ [x34]).length) ?_ T2 (by simp [maxLen]; omega) (by simp; omega) Tryz.underlying27 (hc := by exact List.map_append.symm) (hn := by exact List.length_map _)
           refine a_move (v := .c (.own _ _)) ?_
           refine RA.nil nofun ?_
           refine AG.region HM ?_
           refine a_int (u := .int .i64 (wrap64 (x34 + 1))) ?_
           refine a_move (v := vI _) ?_
           refine RA.nil nofun ?_
           exact AGr.canon id (ih0 _ (by omega) _ ⟨by omega, _, _, _, _, _, _, H, rfl⟩) ⟨rfl, rfl, rfl, rfl, rfl, rfl, trivial⟩ ⟨rfl, trivial⟩ rfl
          ·rw [if_neg hc19] at H
           cases H
         ·rw [if_neg hc18] at H
          refine AG.no rfl (Bool.eq_false_iff.2 hc18) ?_
          refine AG.skip ?_
          refine AG.region HM ?_
          refine a_int (u := .int .i64 (wrap64 (x34 + 1))) ?_
          refine a_move (v := vI _) ?_
          refine RA.nil nofun ?_
          exact AGr.canon id (ih0 _ (by omega) _ ⟨by omega, _, _, _, _, _, _, H, rfl⟩) ⟨rfl, rfl, rfl, rfl, rfl, rfl, trivial⟩ ⟨rfl, trivial⟩ rfl
        ·rw [if_neg hc13] at H
         cases H
       ·rw [if_neg hc12] at H
        cases H
      ·rw [if_neg hc11] at H
       refine AG.no rfl (decide_eq_false hc11) ?_
       refine AG.exit ?_
       refine AG.seq ?_
       refine AG.region HM ?_
       refine a_move (v := .c (.own _ _)) ?_
       refine a_move (v := .c (.own _ _)) ?_
       refine a_move (v := vI _) ?_
       refine RA.nil nofun ?_
       refine AG.ret ?_
       simp only [Option.some.injEq, Prod.mk.injEq] at H
       obtain ⟨rfl, rfl⟩ := H
       exact RetP.mk (fun κ => cond (Nat.beq κ 100) 209 (κ)) ⟨rfl, rfl, trivial⟩ ⟨rfl, trivial⟩ rfl
 ·rw [if_neg hc3] at H
  refine AG.yes rfl (congrArg Bool.not (Bool.eq_false_iff.2 hc3)) ?_
  refine AG.seq ?_
  refine AG.region HM ?_
  refine a_nilO (e := 2) 203 ?_ T2
  refine a_move (v := vI _) ?_
  refine RA.nil nofun ?_
  refine AG.ret ?_
  simp only [Option.some.injEq, Prod.mk.injEq] at H
  obtain ⟨rfl, rfl⟩ := H
  exact RetP.mk (fun κ => cond (Nat.beq κ 100) 203 (κ)) ⟨(ownE rfl (by simp)), rfl, trivial⟩ ⟨rfl, trivial⟩ rfl
/-! ### impl_edgeFaces: function 57 -/
def impl_edgeFaces.l0 : Nat → Int → Int → List S50 → List S72 → List (List Int) → List (List Int) → Int → Int → Option ((List (List Int)) × (List (List Int)))
 | 0, _, _, _, _, _, _, _, _ => none
 | k + 1, y205_0, y205_1, y205_2, y205_3, x4, x6, x18, x19 => if x19 < x18 then (if 0 ≤ x19 then (if x19 < (x4.length : Int) then (if 0 < ((rd27 x4 x19).length : Int) then (if 1 < ((rd27 x4 x19).length : Int) then ((impl_FacesOfEdge.f k y205_0 y205_1 y205_2 y205_3 (rd2 (rd27 x4 x19) 0) (rd2 (rd27 x4 x19) 1)).bind fun bt10 => (if x6.length < 5864062014805 then (impl_edgeFaces.l0 k y205_0 y205_1 y205_2 y205_3 x4 (x6 ++ [bt10.1]) x18 (wrap64 (x19 + 1))) else (none))) else (none)) else (none)) else (none)) else (none)) else (some (x4, x6))
def impl_edgeFaces.f (k : Nat) (a0_0 : Int) (a0_1 : Int) (l0_2 : List S50) (l0_3 : List S72) : Option ((List (List Int)) × (List (List Int))) := (impl_EdgesOf.f k a0_0 a0_1 l0_2 l0_3).bind fun bt1 => (impl_edgeFaces.l0 k a0_0 a0_1 l0_2 l0_3 bt1.1 (([] : List (List Int)) : List (List Int)) (bt1.1.length : Int) 0)
set_option maxRecDepth 100000 in
theorem impl_edgeFaces.ok {k : Nat} {a0_0 : Int} {a0_1 : Int} {l0_2 : List S50} {l0_3 : List S72} {r0 : List (List Int)} {r1 : List (List Int)} (H : impl_edgeFaces.f k a0_0 a0_1 l0_2 l0_3 = some (r0, r1)) : OkF Tryz.prog 57 [.agg [.d (.v (.int .i64 a0_0)), .d (.v (.int .i64 a0_1)), .d (.row 51 (l0_2.map c50)), .d (.row 76 (l0_3.map c72))]] [] (.tup [.c (.own 100 r0.length), .c (.own 101 r1.length)]) [(100, .row 27 (r0.map c27)), (101, .row 27 (r1.map c27))] := by
 unfold impl_edgeFaces.f at H
 refine OkF.of (N := 41) (rs := [2, 3]) (avs := [.c (.own 100 r0.length), .c (.own 101 r1.length)]) Tryz.func57 rfl rfl (fun _ _ => results_tmp2 rfl _ _ _) (by decide) rfl rfl rfl rfl (fun w0 S => ?_)
 refine AG.seq ?_
 refine AG.region HM ?_
 refine a_box 200 ?_
 refine a_nilO (e := 27) 201 ?_ T27
 refine a_nilO (e := 27) 202 ?_ T27
 refine RA.nil nofun ?_
 refine AG.seq ?_
 refine AG.region HM ?_
 refine a_ldB (v := .agg [_, _, _, _]) ?_ T33
 obtain ⟨⟨t1, t2⟩, e3, H⟩ := bindO H
 refine a_call (v := .tup [.c (.own 203 t1.length), .c (.d (.v (.int .i64 t2)))]) (nk := [(203, .row 27 (t1.map c27))]) (L := []) ?_ rfl (impl_EdgesOf.ok e3) (fun κ => cond (Nat.beq κ 203) 100 (κ)) (qg qn) trivial ⟨rfl, trivial⟩ ⟨rfl, trivial⟩ rfl
 refine a_move (v := .tup [_, _]) ?_
 refine a_ext (v := .c (.own _ _)) ?_
 refine a_ext (v := vI _) ?_
 refine a_move (v := .c (.own _ _)) ?_
 refine a_move (v := vI _) ?_
 refine RA.nil nofun ?_
 refine AG.seq ?_
 refine AG.region HM ?_
 refine a_lit (cs := []) (D := []) (css := (([] : List (List Int)) : List (List Int)).map c27) 204 ?_ N46 T27 (hcss := by rfl)
 refine a_move (v := .c (.own _ _)) ?_
 refine RA.nil nofun ?_
 refine AG.seq ?_
 refine AG.seq ?_
 refine AG.region HM ?_
 refine a_move (v := .c (.own _ _)) ?_
 refine a_lenO ?_ Tryz.underlying46
 refine a_move (v := vI _) ?_
 refine RA.nil nofun ?_
 refine AG.block ?_
 refine AG.loop ?_
 obtain ⟨K0, hK0, gK0⟩ : ∃ K, k ≤ K ∧ K ≤ k := ⟨k, Nat.le_refl k, Nat.le_refl k⟩
 refine AGr.canon (fun κ => cond (Nat.beq κ 205) 200 (cond (Nat.beq κ 206) 203 (cond (Nat.beq κ 207) 204 (κ)))) (AGr.loopI (n := k) (fun k s => k ≤ K0 ∧ ∃ (y205_0 : Int) (y205_1 : Int) (y205_2 : List S50) (y205_3 : List S72) (x4 : List (List Int)) (x6 : List (List Int)) (x18 : Int) (x19 : Int), impl_edgeFaces.l0 k y205_0 y205_1 y205_2 y205_3 x4 x6 x18 x19 = some (r0, r1) ∧ s = St.of [(1, .c (.ptr 205 0)), (4, .c (.own 206 x4.length)), (6, .c (.own 207 x6.length)), (17, .c (.own 206 x4.length)), (18, vI x18), (19, vI x19)] [(205, .box 33 [.d (.v (.int .i64 y205_0)), .d (.v (.int .i64 y205_1)), .d (.row 51 (y205_2.map c50)), .d (.row 76 (y205_3.map c72))]), (206, .row 27 (x4.map c27)), (207, .row 27 (x6.map c27))]) ⟨hK0, _, _, _, _, _, _, _, _, H, rfl⟩ ?_ ?_) ⟨rfl, rfl, (ownE rfl (by simp)), rfl, rfl, rfl, trivial⟩ ⟨rfl, rfl, rfl, trivial⟩ rfl
 ·rintro _ ⟨_, _, _, _, _, _, _, _, _, H, _⟩
  cases H
 ·clear H hK0
  rintro k ih0 _ ⟨hK0, y205_0, y205_1, y205_2, y205_3, x4, x6, x18, x19, H, rfl⟩
  unfold impl_edgeFaces.l0 at H
  refine AG.seq ?_
  refine AG.region HM ?_
  refine a_int (u := .bool (decide (x19 < x18))) ?_
  refine RA.nil nofun ?_
  refine AG.seq ?_
  by_cases hc5 : x19 < x18
  ·rw [if_pos hc5] at H
   refine AG.yes rfl (decide_eq_true hc5) ?_
   refine AG.skip ?_
   refine AG.seq ?_
   refine AG.block ?_
   refine AG.seq ?_
   refine AG.region HM ?_
   by_cases hc6 : 0 ≤ x19
   ·rw [if_pos hc6] at H
    by_cases hc7 : x19 < (x4.length : Int)
    ·rw [if_pos hc7] at H
     refine a_ixO ?_ ⟨hc6, hc7⟩ T27 Tryz.underlying46
     refine a_ldE (v := .c (.sub _ _ _ _)) ?_ (G27 hc6 hc7) T27
     refine a_move (v := .c (.sub _ _ _ _)) ?_
     refine RA.nil nofun ?_
     refine AG.seq ?_
     refine AG.region HM ?_
     refine a_ldB (v := .agg [_, _, _, _]) ?_ T33
     refine a_move (v := .c (.sub _ _ _ _)) ?_
     by_cases hc8 : 0 < ((rd27 x4 x19).length : Int)
     ·rw [if_pos hc8] at H
      refine a_ixS (iv := 0) (css1 := (rd27 x4 x19).map c2) ?_ ⟨(by decide), by rw [List.length_map]; exact hc8⟩ (G27 hc6 hc7) T2 Tryz.underlying27
      refine a_ldS (l := (0 : Int).toNat) (off := 0) (v := vI _) ?_ (G27 hc6 hc7) (G2 (by decide) hc8) T2 T2 rfl
      refine a_move (v := .c (.sub _ _ _ _)) ?_
      by_cases hc9 : 1 < ((rd27 x4 x19).length : Int)
      ·rw [if_pos hc9] at H
       refine a_ixS (iv := 1) (css1 := (rd27 x4 x19).map c2) ?_ ⟨(by decide), by rw [List.length_map]; exact hc9⟩ (G27 hc6 hc7) T2 Tryz.underlying27
       refine a_ldS (l := (1 : Int).toNat) (off := 0) (v := vI _) ?_ (G27 hc6 hc7) (G2 (by decide) hc9) T2 T2 rfl
       obtain ⟨⟨t10, t11⟩, e12, H⟩ := bindO H
       refine a_call (v := .tup [.c (.own 208 t10.length), .c (.d (.v (.int .i64 t11)))]) (nk := [(208, .row 2 (t10.map c2))]) (L := []) ?_ rfl (impl_FacesOfEdge.ok e12) (fun κ => cond (Nat.beq κ 208) 100 (κ)) (qg (qd (qd qn))) trivial ⟨rfl, trivial⟩ ⟨rfl, trivial⟩ rfl
       refine a_move (v := .tup [_, _]) ?_
       refine a_ext (v := .c (.own _ _)) ?_
       refine a_ext (v := vI _) ?_
       refine a_move (v := .c (.own _ _)) ?_
       refine a_move (v := vI _) ?_
       refine RA.nil (fun _ => by kernel_rfl) ?_
       refine AG.region HM ?_
       refine a_move (v := .c (.own _ _)) ?_
       refine a_move (v := .c (.own _ _)) ?_
       refine a_lit (cs := [_]) (D := [208]) (css := ([t10]).map c27) 209 ?_ N46 T27
       by_cases hc13 : x6.length < 5864062014805
       ·rw [if_pos hc13] at H
        refine a_appO (css' := (x6 ++ [t10]).map c27) (n' := (x6 ++ [t10]).length) ?_ T27 (by simp [maxLen]; omega) (by simp; omega) Tryz.underlying46 (hc := by exact List.map_append.symm) (hn := by exact List.length_map _)
        refine a_move (v := .c (.own _ _)) ?_
        refine RA.nil nofun ?_
        refine AG.region HM ?_
        refine a_int (u := .int .i64 (wrap64 (x19 + 1))) ?_
        refine a_move (v := vI _) ?_
        refine RA.nil nofun ?_
        exact AGr.canon id (ih0 _ (by omega) _ ⟨by omega, _, _, _, _, _, _, _, _, H, rfl⟩) ⟨rfl, rfl, rfl, rfl, rfl, rfl, trivial⟩ ⟨rfl, rfl, rfl, trivial⟩ rfl
       ·rw [if_neg hc13] at H
        cases H
      ·rw [if_neg hc9] at H
       cases H
     ·rw [if_neg hc8] at H
      cases H
    ·rw [if_neg hc7] at H
     cases H
   ·rw [if_neg hc6] at H
    cases H
  ·rw [if_neg hc5] at H
   refine AG.no rfl (decide_eq_false hc5) ?_
   refine AG.exit ?_
   refine AG.seq ?_
   refine AG.region HM ?_
   refine a_move (v := .c (.own _ _)) ?_
   refine a_move (v := .c (.own _ _)) ?_
   refine a_move (v := .c (.own _ _)) ?_
   refine a_move (v := .c (.own _ _)) ?_
   refine RA.nil nofun ?_
   refine AG.ret ?_
   simp only [Option.some.injEq, Prod.mk.injEq] at H
   obtain ⟨rfl, rfl⟩ := H
   exact RetP.mk (fun κ => cond (Nat.beq κ 100) 206 (cond (Nat.beq κ 101) 207 (κ))) ⟨rfl, rfl, trivial⟩ ⟨rfl, rfl, trivial⟩ rfl
/-! ### impl_neighbours_1: function 108 -/
def impl_neighbours_1.f (k : Nat) (a0_0 : Int) (a0_1 : Int) (v_0_0 : List (List S89)) (v_1_0 : Int) : Option (Bool) := if 0 ≤ v_1_0 then (if v_1_0 < (v_0_0.length : Int) then ((slices_Contains_2_int64_2_int64.f k (rd86 v_0_0 v_1_0) a0_0 a0_1).bind fun t3 => (some t3)) else (none)) else (none)
set_option maxRecDepth 100000 in
theorem impl_neighbours_1.ok {k : Nat} {a0_0 : Int} {a0_1 : Int} {v_0_0 : List (List S89)} {v_1_0 : Int} {r : Bool} (H : impl_neighbours_1.f k a0_0 a0_1 v_0_0 v_1_0 = some r) : OkF Tryz.prog 108 [.agg [.d (.v (.int .i64 a0_0)), .d (.v (.int .i64 a0_1))], .c (.d (.ro [.row 86 (v_0_0.map c86)])), .c (.d (.ro [.v (.int .i64 v_1_0)]))] [] (.c (.d (.v (.bool r)))) [] := by
 unfold impl_neighbours_1.f at H
 refine OkF.of (N := 11) (rs := [4]) (avs := [.c (.d (.v (.bool r)))]) Tryz.func108 rfl rfl (fun _ _ => results_tmp rfl _ _ _) (by decide) rfl rfl rfl rfl (fun w0 S => ?_)
 refine AG.seq ?_
 refine AG.region HM ?_
 refine a_box 200 ?_
 refine a_move (v := vB _) ?_
 refine RA.nil nofun ?_
 refine AG.seq ?_
 refine AG.region HM ?_
 refine a_ldR (v := vR _ _) ?_ T130
 refine a_ldR (v := vI _) ?_ T3
 by_cases hc1 : 0 ≤ v_1_0
 ·rw [if_pos hc1] at H
  by_cases hc2 : v_1_0 < (v_0_0.length : Int)
  ·rw [if_pos hc2] at H
   refine a_ixR (el := c86 (rd86 v_0_0 v_1_0)) ?_ ⟨hc1, hc2⟩ T86 Tryz.underlying130 (hel := R86 hc1 hc2)
   refine a_ldR (v := vR _ _) ?_ T86
   refine a_ldB (v := .agg [_, _]) ?_ T89
   obtain ⟨t3, e4, H⟩ := bindO H
   refine a_call (v := vB t3) (nk := []) (L := []) ?_ rfl (slices_Contains_2_int64_2_int64.ok e4) id (qd (qg qn)) trivial trivial trivial rfl
   refine a_move (v := vB _) ?_
   refine RA.nil (fun _ => by kernel_rfl) ?_
   refine AG.ret ?_
   obtain rfl := Option.some.inj H
   exact RetP.mk id ⟨rfl, trivial⟩ trivial rfl
  ·rw [if_neg hc2] at H
   cases H
 ·rw [if_neg hc1] at H
  cases H
end Go.Proofs.YtanbgmnhbncapaaGreat.PFnExactCutOrder

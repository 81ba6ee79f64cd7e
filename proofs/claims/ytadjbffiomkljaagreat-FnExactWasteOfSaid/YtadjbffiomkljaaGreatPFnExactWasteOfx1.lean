/- What each function that the law FnExactWasteOf reaches comes to, and the proof that its walk comes to it; laid by a program of this session. No condition. -/
import Derived.Test.YtadjbffiomkljaaGreatPFnExactWasteOfx0
import Derived.KernelRfl
import Derived.OwnWalk
import Derived.Test.YtadjbffiomkljaaGreatProg
set_option linter.unusedVariables false
set_option linter.unusedSimpArgs false
namespace Go.Proofs.YtadjbffiomkljaaGreat.PFnExactWasteOf
open Go Go.RowKit Go.Proofs.YtadjbffiomkljaaGreatM Go.Proofs Go.Proofs.YtadjbffiomkljaaGreat.SortI Go.Proofs.YtadjbffiomkljaaGreat.CompactI
/-! ### spec_l03Ok: function 103 -/
mutual
def spec_l03Ok.j0 : Nat → List S159 → Int → Bool → Option (Bool)
 | 0, _, _, _ => none
 | k + 1, x0, x3, x17 => if x17 = true then (some false) else (spec_l03Ok.l0 k x0 x3 0)
def spec_l03Ok.l0 : Nat → List S159 → Int → Int → Option (Bool)
 | 0, _, _, _ => none
 | k + 1, x0, x3, x4 => if x4 < x3 then (if 0 ≤ x4 then (if x4 < (x0.length : Int) then ((spec_l02Ok.f ((rd159 x0 x4).f0) ((rd159 x0 x4).f1)).bind fun t6 => (if t6 = true then (spec_l03Ok.l0 k x0 x3 (wrap64 (x4 + 1))) else (some false))) else (none)) else (none)) else (spec_l03Ok.l1 k x0 x3 0)
def spec_l03Ok.l1 : Nat → List S159 → Int → Int → Option (Bool)
 | 0, _, _, _ => none
 | k + 1, x0, x3, x5 => if x5 < x3 then (if 0 ≤ x5 then (if x5 < (x0.length : Int) then (if x3 = 0 then (none) else (if 0 ≤ (Int.tmod (wrap64 (x5 + 1)) x3) then (if (Int.tmod (wrap64 (x5 + 1)) x3) < (x0.length : Int) then (if 0 ≤ (Int.tmod (wrap64 (x5 + 2)) x3) then (if (Int.tmod (wrap64 (x5 + 2)) x3) < (x0.length : Int) then (if (((rd159 x0 x5).f0) == ((rd159 x0 (Int.tmod (wrap64 (x5 + 1)) x3)).f0) && (((rd159 x0 x5).f1) == ((rd159 x0 (Int.tmod (wrap64 (x5 + 1)) x3)).f1))) = true then (spec_l03Ok.j1 k x0 x3 x5 ((rd159 x0 x5).f0) ((rd159 x0 x5).f1) ((rd159 x0 (Int.tmod (wrap64 (x5 + 1)) x3)).f0) ((rd159 x0 (Int.tmod (wrap64 (x5 + 1)) x3)).f1) true) else ((spec_l02On.f ((rd159 x0 x5).f0) ((rd159 x0 x5).f1) ((rd159 x0 (Int.tmod (wrap64 (x5 + 1)) x3)).f0) ((rd159 x0 (Int.tmod (wrap64 (x5 + 1)) x3)).f1) ((rd159 x0 (Int.tmod (wrap64 (x5 + 2)) x3)).f0) ((rd159 x0 (Int.tmod (wrap64 (x5 + 2)) x3)).f1)).bind fun t18 => (if t18 = true then (spec_l03Ok.j1 k x0 x3 x5 ((rd159 x0 x5).f0) ((rd159 x0 x5).f1) ((rd159 x0 (Int.tmod (wrap64 (x5 + 1)) x3)).f0) ((rd159 x0 (Int.tmod (wrap64 (x5 + 1)) x3)).f1) true) else ((spec_l02On.f ((rd159 x0 (Int.tmod (wrap64 (x5 + 1)) x3)).f0) ((rd159 x0 (Int.tmod (wrap64 (x5 + 1)) x3)).f1) ((rd159 x0 (Int.tmod (wrap64 (x5 + 2)) x3)).f0) ((rd159 x0 (Int.tmod (wrap64 (x5 + 2)) x3)).f1) ((rd159 x0 x5).f0) ((rd159 x0 x5).f1)).bind fun t21 => (spec_l03Ok.j1 k x0 x3 x5 ((rd159 x0 x5).f0) ((rd159 x0 x5).f1) ((rd159 x0 (Int.tmod (wrap64 (x5 + 1)) x3)).f0) ((rd159 x0 (Int.tmod (wrap64 (x5 + 1)) x3)).f1) t21))))) else (none)) else (none)) else (none)) else (none))) else (none)) else (none)) else ((spec_l03Area.f k x0).bind fun t34 => (some (decide (t34 > 0))))
def spec_l03Ok.j1 : Nat → List S159 → Int → Int → Int → Int → Int → Int → Bool → Option (Bool)
 | 0, _, _, _, _, _, _, _, _ => none
 | k + 1, x0, x3, x5, y207_0, y207_1, y208_0, y208_1, x66 => if x66 = true then (some false) else (spec_l03Ok.l2 k x0 x3 x5 y207_0 y207_1 y208_0 y208_1 (wrap64 (x5 + 2)))
def spec_l03Ok.l2 : Nat → List S159 → Int → Int → Int → Int → Int → Int → Int → Option (Bool)
 | 0, _, _, _, _, _, _, _, _ => none
 | k + 1, x0, x3, x5, y209_0, y209_1, y210_0, y210_1, x9 => if x9 < x3 then (if x3 = 0 then (none) else (if (Int.tmod (wrap64 (x9 + 1)) x3) = x5 then (spec_l03Ok.l2 k x0 x3 x5 y209_0 y209_1 y210_0 y210_1 (wrap64 (x9 + 1))) else (if 0 ≤ x9 then (if x9 < (x0.length : Int) then (if 0 ≤ (Int.tmod (wrap64 (x9 + 1)) x3) then (if (Int.tmod (wrap64 (x9 + 1)) x3) < (x0.length : Int) then ((spec_l03Meet.f y209_0 y209_1 y210_0 y210_1 ((rd159 x0 x9).f0) ((rd159 x0 x9).f1) ((rd159 x0 (Int.tmod (wrap64 (x9 + 1)) x3)).f0) ((rd159 x0 (Int.tmod (wrap64 (x9 + 1)) x3)).f1)).bind fun t31 => (if t31 = true then (some false) else (spec_l03Ok.l2 k x0 x3 x5 y209_0 y209_1 y210_0 y210_1 (wrap64 (x9 + 1))))) else (none)) else (none)) else (none)) else (none)))) else (spec_l03Ok.l1 k x0 x3 (wrap64 (x5 + 1)))
end
def spec_l03Ok.f (k : Nat) (l0 : List S159) : Option (Bool) := if (l0.length : Int) < 3 then (spec_l03Ok.j0 k l0 (l0.length : Int) true) else (spec_l03Ok.j0 k l0 (l0.length : Int) (decide ((l0.length : Int) > 24)))
set_option maxRecDepth 100000 in
theorem spec_l03Ok.ok {k : Nat} {l0 : List S159} {r : Bool} (H : spec_l03Ok.f k l0 = some r) : OkF Tryz.prog 103 [vR 160 (l0.map c159)] [] (.c (.d (.v (.bool r)))) [] := by
 unfold spec_l03Ok.f at H
 refine OkF.of (N := 99) (rs := [2]) (avs := [.c (.d (.v (.bool r)))]) Tryz.func103 rfl rfl (fun _ _ => results_tmp rfl _ _ _) (by decide) rfl rfl rfl rfl (fun w0 S => ?_)
 refine AG.seq ?_
 refine AG.region HM ?_
 refine a_move (v := vB _) ?_
 refine RA.nil nofun ?_
 refine AG.seq ?_
 refine AG.region HM ?_
 refine a_move (v := vR _ _) ?_
 refine a_lenR ?_ Tryz.underlying32
 refine a_move (v := vI _) ?_
 refine RA.nil nofun ?_
 refine AG.seq ?_
 refine AG.seq ?_
 refine AG.joinR (fun s => ∃ q, q ≤ k ∧ ∃ (x0 : List S159) (x3 : Int) (x17 : Bool), spec_l03Ok.j0 q x0 x3 x17 = some r ∧ s = St.of [(0, vR 160 (x0.map c159)), (3, vI x3), (17, vB x17)] []) ?_ ?_
 ·skip
  refine AG.region HM ?_
  refine a_move (v := vI _) ?_
  refine a_int (u := .bool (decide ((l0.length : Int) < 3))) ?_
  refine a_move (v := vB _) ?_
  by_cases hc1 : (l0.length : Int) < 3
  ·rw [if_pos hc1] at H
   refine RA.skip rfl rfl rfl rfl rfl (decide_eq_true hc1) (by decide) ?_
   refine RA.skip rfl rfl rfl rfl rfl (decide_eq_true hc1) (by decide) ?_
   refine a_pick (b := true) (v := vB _) ?_ (decide_eq_true hc1)
   refine RA.nil nofun ?_
   exact CanR.mk id ⟨_, (by omega), _, _, _, H, rfl⟩ ⟨rfl, rfl, rfl, trivial⟩ trivial rfl
  ·rw [if_neg hc1] at H
   refine a_move (v := vI _) ?_ (hg := Gs.yes rfl rfl rfl (decide_eq_false hc1))
   refine a_int (u := .bool (decide ((l0.length : Int) > 24))) ?_ (hg := Gs.yes rfl rfl rfl (decide_eq_false hc1))
   refine a_pick (b := false) (v := vB _) ?_ (decide_eq_false hc1)
   refine RA.nil nofun ?_
   exact CanR.mk id ⟨_, (by omega), _, _, _, H, rfl⟩ ⟨rfl, rfl, rfl, trivial⟩ trivial rfl
 ·clear H
  rintro _ ⟨k, hj0, x0, x3, x17, H, rfl⟩
  cases k with
  | zero => cases H
  | succ k =>
   rw [spec_l03Ok.j0] at H
   by_cases hc2 : x17 = true
   ·rw [if_pos hc2] at H
    refine AG.yes rfl hc2 ?_
    refine AG.seq ?_
    refine AG.region HM ?_
    refine a_move (v := vB _) ?_
    refine RA.nil nofun ?_
    refine AG.ret ?_
    obtain rfl := Option.some.inj H
    exact RetP.mk id ⟨rfl, trivial⟩ trivial rfl
   ·rw [if_neg hc2] at H
    refine AG.no rfl (Bool.eq_false_iff.2 hc2) ?_
    refine AG.skip ?_
    refine AG.seq ?_
    refine AG.seq ?_
    refine AG.region HM ?_
    refine a_move (v := vI _) ?_
    refine RA.nil nofun ?_
    refine AG.block ?_
    refine AG.loop ?_
    obtain ⟨K0, hK0, gK0⟩ : ∃ K, k ≤ K ∧ K ≤ k := ⟨k, Nat.le_refl k, Nat.le_refl k⟩
    refine AGr.canon id (AGr.loopI (n := k) (fun k s => k ≤ K0 ∧ ∃ (x0 : List S159) (x3 : Int) (x4 : Int), spec_l03Ok.l0 k x0 x3 x4 = some r ∧ s = St.of [(0, vR 160 (x0.map c159)), (3, vI x3), (4, vI x4)] []) ⟨hK0, _, _, _, H, rfl⟩ ?_ ?_) ⟨rfl, rfl, rfl, trivial⟩ trivial rfl
    ·rintro _ ⟨_, _, _, _, H, _⟩
     cases H
    ·clear H hK0
     rintro k ih0 _ ⟨hK0, x0, x3, x4, H, rfl⟩
     unfold spec_l03Ok.l0 at H
     refine AG.seq ?_
     refine AG.seq ?_
     refine AG.region HM ?_
     refine a_move (v := vI _) ?_
     refine a_move (v := vI _) ?_
     refine a_int (u := .bool (decide (x4 < x3))) ?_
     refine RA.nil nofun ?_
     by_cases hc3 : x4 < x3
     ·rw [if_pos hc3] at H
      refine AG.yes rfl (decide_eq_true hc3) ?_
      refine AG.skip ?_
      refine AG.seq ?_
      refine AG.block ?_
      refine AG.seq ?_
      refine AG.region HM ?_
      refine a_move (v := vR _ _) ?_
      refine a_move (v := vI _) ?_
      by_cases hc4 : 0 ≤ x4
      ·rw [if_pos hc4] at H
       by_cases hc5 : x4 < (x0.length : Int)
       ·rw [if_pos hc5] at H
        refine a_ixR (el := c159 (rd159 x0 x4)) ?_ ⟨hc4, hc5⟩ T160 Tryz.underlying32 (hel := R159 hc4 hc5)
        refine a_ldR (v := .agg [_, _]) ?_ T160
        obtain ⟨t6, e7, H⟩ := bindO H
        refine a_call (v := vB t6) (nk := []) (L := []) ?_ rfl (spec_l02Ok.ok e7) id (qg qn) trivial trivial trivial rfl
        refine a_un (u := .bool (!t6)) ?_
        refine RA.nil nofun ?_
        by_cases hc8 : t6 = true
        ·rw [if_pos hc8] at H
         refine AG.no rfl (congrArg Bool.not hc8) ?_
         refine AG.skip ?_
         refine AG.region HM ?_
         refine a_move (v := vI _) ?_
         refine a_int (u := .int .i64 (wrap64 (x4 + 1))) ?_
         refine a_move (v := vI _) ?_
         refine RA.nil nofun ?_
         exact AGr.canon id (ih0 _ (by omega) _ ⟨by omega, _, _, _, H, rfl⟩) ⟨rfl, rfl, rfl, trivial⟩ trivial rfl
        ·rw [if_neg hc8] at H
         refine AG.yes rfl (congrArg Bool.not (Bool.eq_false_iff.2 hc8)) ?_
         refine AG.seq ?_
         refine AG.region HM ?_
         refine a_move (v := vB _) ?_
         refine RA.nil nofun ?_
         refine AG.ret ?_
         obtain rfl := Option.some.inj H
         exact RetP.mk id ⟨rfl, trivial⟩ trivial rfl
       ·rw [if_neg hc5] at H
        cases H
      ·rw [if_neg hc4] at H
       cases H
     ·rw [if_neg hc3] at H
      refine AG.no rfl (decide_eq_false hc3) ?_
      refine AG.exit ?_
      refine AG.seq ?_
      refine AG.seq ?_
      refine AG.region HM ?_
      refine a_move (v := vI _) ?_
      refine RA.nil nofun ?_
      refine AG.block ?_
      refine AG.loop ?_
      obtain ⟨K1, hK1, gK1⟩ : ∃ K, k ≤ K ∧ K ≤ k := ⟨k, Nat.le_refl k, Nat.le_refl k⟩
      refine AGr.canon id (AGr.loopI (n := k) (fun k s => k ≤ K1 ∧ ∃ (x0 : List S159) (x3 : Int) (x5 : Int), spec_l03Ok.l1 k x0 x3 x5 = some r ∧ s = St.of [(0, vR 160 (x0.map c159)), (3, vI x3), (5, vI x5)] []) ⟨hK1, _, _, _, H, rfl⟩ ?_ ?_) ⟨rfl, rfl, rfl, trivial⟩ trivial rfl
      ·rintro _ ⟨_, _, _, _, H, _⟩
       cases H
      ·clear H hK1
       rintro k ih1 _ ⟨hK1, x0, x3, x5, H, rfl⟩
       unfold spec_l03Ok.l1 at H
       refine AG.seq ?_
       refine AG.seq ?_
       refine AG.region HM ?_
       refine a_move (v := vI _) ?_
       refine a_move (v := vI _) ?_
       refine a_int (u := .bool (decide (x5 < x3))) ?_
       refine RA.nil nofun ?_
       by_cases hc9 : x5 < x3
       ·rw [if_pos hc9] at H
        refine AG.yes rfl (decide_eq_true hc9) ?_
        refine AG.skip ?_
        refine AG.seq ?_
        refine AG.block ?_
        refine AG.seq ?_
        refine AG.region HM ?_
        refine a_move (v := vR _ _) ?_
        refine a_move (v := vI _) ?_
        by_cases hc10 : 0 ≤ x5
        ·rw [if_pos hc10] at H
         by_cases hc11 : x5 < (x0.length : Int)
         ·rw [if_pos hc11] at H
          refine a_ixR (el := c159 (rd159 x0 x5)) ?_ ⟨hc10, hc11⟩ T160 Tryz.underlying32 (hel := R159 hc10 hc11)
          refine a_ldR (v := .agg [_, _]) ?_ T160
          refine a_alloc (cs := [_, _]) 202 ?_ T160
          refine a_stB (cs' := [_, _]) ?_ T160
          refine RA.nil nofun ?_
          refine AG.seq ?_
          refine AG.region HM ?_
          refine a_move (v := vR _ _) ?_
          refine a_move (v := vI _) ?_
          refine a_int (u := .int .i64 (wrap64 (x5 + 1))) ?_
          refine a_move (v := vI _) ?_
          by_cases hc12 : x3 = 0
          ·rw [if_pos hc12] at H
           cases H
          ·rw [if_neg hc12] at H
           refine a_rem (r := Int.tmod (wrap64 (x5 + 1)) x3) ?_ hc12
           by_cases hc13 : 0 ≤ (Int.tmod (wrap64 (x5 + 1)) x3)
           ·rw [if_pos hc13] at H
            by_cases hc14 : (Int.tmod (wrap64 (x5 + 1)) x3) < (x0.length : Int)
            ·rw [if_pos hc14] at H
             refine a_ixR (el := c159 (rd159 x0 (Int.tmod (wrap64 (x5 + 1)) x3))) ?_ ⟨hc13, hc14⟩ T160 Tryz.underlying32 (hel := R159 hc13 hc14)
             refine a_ldR (v := .agg [_, _]) ?_ T160
             refine a_alloc (cs := [_, _]) 203 ?_ T160
             refine a_stB (cs' := [_, _]) ?_ T160
             refine RA.nil nofun ?_
             refine AG.seq ?_
             refine AG.region HM ?_
             refine a_move (v := vR _ _) ?_
             refine a_move (v := vI _) ?_
             refine a_int (u := .int .i64 (wrap64 (x5 + 2))) ?_
             refine a_move (v := vI _) ?_
             refine a_rem (r := Int.tmod (wrap64 (x5 + 2)) x3) ?_ hc12
             by_cases hc15 : 0 ≤ (Int.tmod (wrap64 (x5 + 2)) x3)
             ·rw [if_pos hc15] at H
              by_cases hc16 : (Int.tmod (wrap64 (x5 + 2)) x3) < (x0.length : Int)
              ·rw [if_pos hc16] at H
               refine a_ixR (el := c159 (rd159 x0 (Int.tmod (wrap64 (x5 + 2)) x3))) ?_ ⟨hc15, hc16⟩ T160 Tryz.underlying32 (hel := R159 hc15 hc16)
               refine a_ldR (v := .agg [_, _]) ?_ T160
               refine a_alloc (cs := [_, _]) 204 ?_ T160
               refine a_stB (cs' := [_, _]) ?_ T160
               refine RA.nil nofun ?_
               refine AG.seq ?_
               refine AG.seq ?_
               refine AG.joinR (fun s => ∃ q, q ≤ k ∧ ∃ (x0 : List S159) (x3 : Int) (x5 : Int) (y207_0 : Int) (y207_1 : Int) (y208_0 : Int) (y208_1 : Int) (x66 : Bool), spec_l03Ok.j1 q x0 x3 x5 y207_0 y207_1 y208_0 y208_1 x66 = some r ∧ s = St.of [(0, vR 160 (x0.map c159)), (3, vI x3), (5, vI x5), (6, .c (.ptr 207 0)), (7, .c (.ptr 208 0)), (66, vB x66)] [(207, .box 160 [.d (.v (.int .i64 y207_0)), .d (.v (.int .i64 y207_1))]), (208, .box 160 [.d (.v (.int .i64 y208_0)), .d (.v (.int .i64 y208_1))])]) ?_ ?_
               ·skip
                refine AG.region HM ?_
                refine a_ldB (v := .agg [_, _]) ?_ T160
                refine a_ldB (v := .agg [_, _]) ?_ T160
                refine a_eqS (b := (((rd159 x0 x5).f0) == ((rd159 x0 (Int.tmod (wrap64 (x5 + 1)) x3)).f0) && (((rd159 x0 x5).f1) == ((rd159 x0 (Int.tmod (wrap64 (x5 + 1)) x3)).f1)))) ?_ (.inl ⟨rfl, rfl⟩) (Q160 ((rd159 x0 x5).f0) ((rd159 x0 (Int.tmod (wrap64 (x5 + 1)) x3)).f0) ((rd159 x0 x5).f1) ((rd159 x0 (Int.tmod (wrap64 (x5 + 1)) x3)).f1)).1
                refine a_move (v := vB _) ?_
                by_cases hc17 : (((rd159 x0 x5).f0) == ((rd159 x0 (Int.tmod (wrap64 (x5 + 1)) x3)).f0) && (((rd159 x0 x5).f1) == ((rd159 x0 (Int.tmod (wrap64 (x5 + 1)) x3)).f1))) = true
                ·rw [if_pos hc17] at H
                 refine RA.skip rfl rfl rfl rfl rfl hc17 (by decide) ?_
                 refine RA.skip rfl rfl rfl rfl rfl hc17 (by decide) ?_
                 refine RA.skip rfl rfl rfl rfl rfl hc17 (by decide) ?_
                 refine RA.skip rfl rfl rfl rfl rfl hc17 (by decide) ?_
                 refine a_pick (b := true) (v := vB _) ?_ hc17
                 refine a_move (v := vB _) ?_
                 refine RA.skip rfl rfl rfl rfl rfl rfl (by decide) ?_
                 refine RA.skip rfl rfl rfl rfl rfl rfl (by decide) ?_
                 refine RA.skip rfl rfl rfl rfl rfl rfl (by decide) ?_
                 refine RA.skip rfl rfl rfl rfl rfl rfl (by decide) ?_
                 refine a_pick (b := true) (v := vB _) ?_ rfl
                 refine RA.nil nofun ?_
                 exact CanR.mk (fun κ => cond (Nat.beq κ 207) 202 (cond (Nat.beq κ 208) 203 (κ))) ⟨_, (by omega), _, _, _, _, _, _, _, _, H, rfl⟩ ⟨rfl, rfl, rfl, rfl, rfl, rfl, trivial⟩ ⟨rfl, rfl, trivial⟩ rfl
                ·rw [if_neg hc17] at H
                 refine a_ldB (v := .agg [_, _]) ?_ T160 (hg := Gs.yes rfl rfl rfl (Bool.eq_false_iff.2 hc17))
                 refine a_ldB (v := .agg [_, _]) ?_ T160 (hg := Gs.yes rfl rfl rfl (Bool.eq_false_iff.2 hc17))
                 refine a_ldB (v := .agg [_, _]) ?_ T160 (hg := Gs.yes rfl rfl rfl (Bool.eq_false_iff.2 hc17))
                 obtain ⟨t18, e19, H⟩ := bindO H
                 refine a_call (v := vB t18) (nk := []) (L := []) ?_ rfl (spec_l02On.ok e19) id (qg (qg (qg qn))) trivial trivial trivial rfl (hg := Gs.yes rfl rfl rfl (Bool.eq_false_iff.2 hc17))
                 refine a_pick (b := false) (v := vB _) ?_ (Bool.eq_false_iff.2 hc17)
                 refine a_move (v := vB _) ?_
                 by_cases hc20 : t18 = true
                 ·rw [if_pos hc20] at H
                  refine RA.skip rfl rfl rfl rfl rfl hc20 (by decide) ?_
                  refine RA.skip rfl rfl rfl rfl rfl hc20 (by decide) ?_
                  refine RA.skip rfl rfl rfl rfl rfl hc20 (by decide) ?_
                  refine RA.skip rfl rfl rfl rfl rfl hc20 (by decide) ?_
                  refine a_pick (b := true) (v := vB _) ?_ hc20
                  refine RA.nil nofun ?_
                  exact CanR.mk (fun κ => cond (Nat.beq κ 207) 202 (cond (Nat.beq κ 208) 203 (κ))) ⟨_, (by omega), _, _, _, _, _, _, _, _, H, rfl⟩ ⟨rfl, rfl, rfl, rfl, rfl, rfl, trivial⟩ ⟨rfl, rfl, trivial⟩ rfl
                 ·rw [if_neg hc20] at H
                  refine a_ldB (v := .agg [_, _]) ?_ T160 (hg := Gs.yes rfl rfl rfl (Bool.eq_false_iff.2 hc20))
                  refine a_ldB (v := .agg [_, _]) ?_ T160 (hg := Gs.yes rfl rfl rfl (Bool.eq_false_iff.2 hc20))
                  refine a_ldB (v := .agg [_, _]) ?_ T160 (hg := Gs.yes rfl rfl rfl (Bool.eq_false_iff.2 hc20))
                  obtain ⟨t21, e22, H⟩ := bindO H
                  refine a_call (v := vB t21) (nk := []) (L := []) ?_ rfl (spec_l02On.ok e22) id (qg (qg (qg qn))) trivial trivial trivial rfl (hg := Gs.yes rfl rfl rfl (Bool.eq_false_iff.2 hc20))
                  refine a_pick (b := false) (v := vB _) ?_ (Bool.eq_false_iff.2 hc20)
                  refine RA.nil nofun ?_
                  exact CanR.mk (fun κ => cond (Nat.beq κ 207) 202 (cond (Nat.beq κ 208) 203 (κ))) ⟨_, (by omega), _, _, _, _, _, _, _, _, H, rfl⟩ ⟨rfl, rfl, rfl, rfl, rfl, rfl, trivial⟩ ⟨rfl, rfl, trivial⟩ rfl
               ·clear H
                rintro _ ⟨k, hj1, x0, x3, x5, y207_0, y207_1, y208_0, y208_1, x66, H, rfl⟩
                cases k with
                | zero => cases H
                | succ k =>
                 rw [spec_l03Ok.j1] at H
                 by_cases hc23 : x66 = true
                 ·rw [if_pos hc23] at H
                  refine AG.yes rfl hc23 ?_
                  refine AG.seq ?_
                  refine AG.region HM ?_
                  refine a_move (v := vB _) ?_
                  refine RA.nil nofun ?_
                  refine AG.ret ?_
                  obtain rfl := Option.some.inj H
                  exact RetP.mk id ⟨rfl, trivial⟩ trivial rfl
                 ·rw [if_neg hc23] at H
                  refine AG.no rfl (Bool.eq_false_iff.2 hc23) ?_
                  refine AG.skip ?_
                  refine AG.seq ?_
                  refine AG.region HM ?_
                  refine a_move (v := vI _) ?_
                  refine a_int (u := .int .i64 (wrap64 (x5 + 2))) ?_
                  refine a_move (v := vI _) ?_
                  refine RA.nil nofun ?_
                  refine AG.block ?_
                  refine AG.loop ?_
                  obtain ⟨K2, hK2, gK2⟩ : ∃ K, k ≤ K ∧ K ≤ k := ⟨k, Nat.le_refl k, Nat.le_refl k⟩
                  refine AGr.canon (fun κ => cond (Nat.beq κ 209) 207 (cond (Nat.beq κ 210) 208 (κ))) (AGr.loopI (n := k) (fun k s => k ≤ K2 ∧ ∃ (x0 : List S159) (x3 : Int) (x5 : Int) (y209_0 : Int) (y209_1 : Int) (y210_0 : Int) (y210_1 : Int) (x9 : Int), spec_l03Ok.l2 k x0 x3 x5 y209_0 y209_1 y210_0 y210_1 x9 = some r ∧ s = St.of [(0, vR 160 (x0.map c159)), (3, vI x3), (5, vI x5), (6, .c (.ptr 209 0)), (7, .c (.ptr 210 0)), (9, vI x9)] [(209, .box 160 [.d (.v (.int .i64 y209_0)), .d (.v (.int .i64 y209_1))]), (210, .box 160 [.d (.v (.int .i64 y210_0)), .d (.v (.int .i64 y210_1))])]) ⟨hK2, _, _, _, _, _, _, _, _, H, rfl⟩ ?_ ?_) ⟨rfl, rfl, rfl, rfl, rfl, rfl, trivial⟩ ⟨rfl, rfl, trivial⟩ rfl
                  ·rintro _ ⟨_, _, _, _, _, _, _, _, _, H, _⟩
                   cases H
                  ·clear H hK2
                   rintro k ih2 _ ⟨hK2, x0, x3, x5, y209_0, y209_1, y210_0, y210_1, x9, H, rfl⟩
                   unfold spec_l03Ok.l2 at H
                   refine AG.seq ?_
                   refine AG.seq ?_
                   refine AG.region HM ?_
                   refine a_move (v := vI _) ?_
                   refine a_move (v := vI _) ?_
                   refine a_int (u := .bool (decide (x9 < x3))) ?_
                   refine RA.nil nofun ?_
                   by_cases hc24 : x9 < x3
                   ·rw [if_pos hc24] at H
                    refine AG.yes rfl (decide_eq_true hc24) ?_
                    refine AG.skip ?_
                    refine AG.seq ?_
                    refine AG.block ?_
                    refine AG.seq ?_
                    refine AG.region HM ?_
                    refine a_move (v := vI _) ?_
                    refine a_int (u := .int .i64 (wrap64 (x9 + 1))) ?_
                    refine a_move (v := vI _) ?_
                    by_cases hc25 : x3 = 0
                    ·rw [if_pos hc25] at H
                     cases H
                    ·rw [if_neg hc25] at H
                     refine a_rem (r := Int.tmod (wrap64 (x9 + 1)) x3) ?_ hc25
                     refine a_move (v := vI _) ?_
                     refine a_int (u := .bool (((Int.tmod (wrap64 (x9 + 1)) x3) != x5))) ?_
                     refine a_move (v := vB _) ?_
                     by_cases hc26 : (Int.tmod (wrap64 (x9 + 1)) x3) = x5
                     ·rw [if_pos hc26] at H
                      refine RA.skip rfl rfl rfl rfl rfl (bne_eq_false_iff_eq.2 hc26) (by decide) ?_
                      refine RA.skip rfl rfl rfl rfl rfl (bne_eq_false_iff_eq.2 hc26) (by decide) ?_
                      refine RA.skip rfl rfl rfl rfl rfl (bne_eq_false_iff_eq.2 hc26) (by decide) ?_
                      refine RA.skip rfl rfl rfl rfl rfl (bne_eq_false_iff_eq.2 hc26) (by decide) ?_
                      refine RA.skip rfl rfl rfl rfl rfl (bne_eq_false_iff_eq.2 hc26) (by decide) ?_
                      refine RA.skip rfl rfl rfl rfl rfl (bne_eq_false_iff_eq.2 hc26) (by decide) ?_
                      refine RA.skip rfl rfl rfl rfl rfl (bne_eq_false_iff_eq.2 hc26) (by decide) ?_
                      refine RA.skip rfl rfl rfl rfl rfl (bne_eq_false_iff_eq.2 hc26) (by decide) ?_
                      refine RA.skip rfl rfl rfl rfl rfl (bne_eq_false_iff_eq.2 hc26) (by decide) ?_
                      refine RA.skip rfl rfl rfl rfl rfl (bne_eq_false_iff_eq.2 hc26) (by decide) ?_
                      refine RA.skip rfl rfl rfl rfl rfl (bne_eq_false_iff_eq.2 hc26) (by decide) ?_
                      refine RA.skip rfl rfl rfl rfl rfl (bne_eq_false_iff_eq.2 hc26) (by decide) ?_
                      refine RA.skip rfl rfl rfl rfl rfl (bne_eq_false_iff_eq.2 hc26) (by decide) ?_
                      refine RA.skip rfl rfl rfl rfl rfl (bne_eq_false_iff_eq.2 hc26) (by decide) ?_
                      refine a_pick (b := false) (v := vB _) ?_ (bne_eq_false_iff_eq.2 hc26)
                      refine RA.nil (fun _ => by kernel_rfl) ?_
                      refine AG.no rfl rfl ?_
                      refine AG.skip ?_
                      refine AG.region HM ?_
                      refine a_move (v := vI _) ?_
                      refine a_int (u := .int .i64 (wrap64 (x9 + 1))) ?_
                      refine a_move (v := vI _) ?_
                      refine RA.nil nofun ?_
                      exact AGr.canon id (ih2 _ (by omega) _ ⟨by omega, _, _, _, _, _, _, _, _, H, rfl⟩) ⟨rfl, rfl, rfl, rfl, rfl, rfl, trivial⟩ ⟨rfl, rfl, trivial⟩ rfl
                     ·rw [if_neg hc26] at H
                      refine a_ldB (v := .agg [_, _]) ?_ T160 (hg := Gs.yes rfl rfl rfl (bne_iff_ne.2 hc26))
                      refine a_ldB (v := .agg [_, _]) ?_ T160 (hg := Gs.yes rfl rfl rfl (bne_iff_ne.2 hc26))
                      refine a_move (v := vR _ _) ?_ (hg := Gs.yes rfl rfl rfl (bne_iff_ne.2 hc26))
                      refine a_move (v := vI _) ?_ (hg := Gs.yes rfl rfl rfl (bne_iff_ne.2 hc26))
                      by_cases hc27 : 0 ≤ x9
                      ·rw [if_pos hc27] at H
                       by_cases hc28 : x9 < (x0.length : Int)
                       ·rw [if_pos hc28] at H
                        refine a_ixR (el := c159 (rd159 x0 x9)) ?_ ⟨hc27, hc28⟩ T160 Tryz.underlying32 (hel := R159 hc27 hc28) (hg := Gs.yes rfl rfl rfl (bne_iff_ne.2 hc26))
                        refine a_ldR (v := .agg [_, _]) ?_ T160 (hg := Gs.yes rfl rfl rfl (bne_iff_ne.2 hc26))
                        refine a_move (v := vR _ _) ?_ (hg := Gs.yes rfl rfl rfl (bne_iff_ne.2 hc26))
                        refine a_move (v := vI _) ?_ (hg := Gs.yes rfl rfl rfl (bne_iff_ne.2 hc26))
                        refine a_int (u := .int .i64 (wrap64 (x9 + 1))) ?_ (hg := Gs.yes rfl rfl rfl (bne_iff_ne.2 hc26))
                        refine a_move (v := vI _) ?_ (hg := Gs.yes rfl rfl rfl (bne_iff_ne.2 hc26))
                        refine a_rem (r := Int.tmod (wrap64 (x9 + 1)) x3) ?_ hc25 (hg := Gs.yes rfl rfl rfl (bne_iff_ne.2 hc26))
                        by_cases hc29 : 0 ≤ (Int.tmod (wrap64 (x9 + 1)) x3)
                        ·rw [if_pos hc29] at H
                         by_cases hc30 : (Int.tmod (wrap64 (x9 + 1)) x3) < (x0.length : Int)
                         ·rw [if_pos hc30] at H
                          refine a_ixR (el := c159 (rd159 x0 (Int.tmod (wrap64 (x9 + 1)) x3))) ?_ ⟨hc29, hc30⟩ T160 Tryz.underlying32 (hel := R159 hc29 hc30) (hg := Gs.yes rfl rfl rfl (bne_iff_ne.2 hc26))
                          refine a_ldR (v := .agg [_, _]) ?_ T160 (hg := Gs.yes rfl rfl rfl (bne_iff_ne.2 hc26))
                          obtain ⟨t31, e32, H⟩ := bindO H
                          refine a_call (v := vB t31) (nk := []) (L := []) ?_ rfl (spec_l03Meet.ok e32) id (qg (qg (qg (qg qn)))) trivial trivial trivial rfl (hg := Gs.yes rfl rfl rfl (bne_iff_ne.2 hc26))
                          refine a_pick (b := true) (v := vB _) ?_ (bne_iff_ne.2 hc26)
                          refine RA.nil (fun _ => by kernel_rfl) ?_
                          by_cases hc33 : t31 = true
                          ·rw [if_pos hc33] at H
                           refine AG.yes rfl hc33 ?_
                           refine AG.seq ?_
                           refine AG.region HM ?_
                           refine a_move (v := vB _) ?_
                           refine RA.nil nofun ?_
                           refine AG.ret ?_
                           obtain rfl := Option.some.inj H
                           exact RetP.mk id ⟨rfl, trivial⟩ trivial rfl
                          ·rw [if_neg hc33] at H
                           refine AG.no rfl (Bool.eq_false_iff.2 hc33) ?_
                           refine AG.skip ?_
                           refine AG.region HM ?_
                           refine a_move (v := vI _) ?_
                           refine a_int (u := .int .i64 (wrap64 (x9 + 1))) ?_
                           refine a_move (v := vI _) ?_
                           refine RA.nil nofun ?_
                           exact AGr.canon id (ih2 _ (by omega) _ ⟨by omega, _, _, _, _, _, _, _, _, H, rfl⟩) ⟨rfl, rfl, rfl, rfl, rfl, rfl, trivial⟩ ⟨rfl, rfl, trivial⟩ rfl
                         ·rw [if_neg hc30] at H
                          cases H
                        ·rw [if_neg hc29] at H
                         cases H
                       ·rw [if_neg hc28] at H
                        cases H
                      ·rw [if_neg hc27] at H
                       cases H
                   ·rw [if_neg hc24] at H
                    refine AG.no rfl (decide_eq_false hc24) ?_
                    refine AG.exit ?_
                    refine AG.region HM ?_
                    refine a_move (v := vI _) ?_
                    refine a_int (u := .int .i64 (wrap64 (x5 + 1))) ?_
                    refine a_move (v := vI _) ?_
                    refine RA.nil nofun ?_
                    exact AGr.canon id (ih1 _ (by omega) _ ⟨by omega, _, _, _, H, rfl⟩) ⟨rfl, rfl, rfl, trivial⟩ trivial rfl
              ·rw [if_neg hc16] at H
               cases H
             ·rw [if_neg hc15] at H
              cases H
            ·rw [if_neg hc14] at H
             cases H
           ·rw [if_neg hc13] at H
            cases H
         ·rw [if_neg hc11] at H
          cases H
        ·rw [if_neg hc10] at H
         cases H
       ·rw [if_neg hc9] at H
        refine AG.no rfl (decide_eq_false hc9) ?_
        refine AG.exit ?_
        refine AG.seq ?_
        refine AG.region HM ?_
        refine a_move (v := vR _ _) ?_
        obtain ⟨t34, e35, H⟩ := bindO H
        refine a_call (v := vI t34) (nk := []) (L := []) ?_ rfl (spec_l03Area.ok e35) id (qd qn) trivial trivial trivial rfl
        refine a_int (u := .bool (decide (t34 > 0))) ?_
        refine a_move (v := vB _) ?_
        refine RA.nil nofun ?_
        refine AG.ret ?_
        obtain rfl := Option.some.inj H
        exact RetP.mk id ⟨rfl, trivial⟩ trivial rfl
/-! ### spec_l05Ok: function 47 -/
mutual
def spec_l05Ok.j0 : Nat → Int → Int → List S159 → List S146 → Bool → Option (Bool)
 | 0, _, _, _, _, _ => none
 | k + 1, x0_0, x0_1, x0_2, x0_3, x32 => if x32 = true then (some false) else (spec_l05Ok.l0 k x0_0 x0_1 x0_2 x0_3 0)
def spec_l05Ok.l0 : Nat → Int → Int → List S159 → List S146 → Int → Option (Bool)
 | 0, _, _, _, _, _ => none
 | k + 1, x0_0, x0_1, x0_2, x0_3, x3 => if x3 < (x0_3.length : Int) then (if 0 ≤ x3 then ((spec_l01Name.f k ((rd146 x0_3 x3).f0)).bind fun t13 => (if t13 = true then (if x3 > 0 then (if 0 ≤ (wrap64 (x3 - 1)) then (if (wrap64 (x3 - 1)) < (x0_3.length : Int) then (spec_l05Ok.j1 k x0_0 x0_1 x0_2 x0_3 x3 (!(Op.bytesLess (((rd146 x0_3 (wrap64 (x3 - 1))).f0).toList) (((rd146 x0_3 x3).f0).toList)))) else (none)) else (none)) else (spec_l05Ok.j1 k x0_0 x0_1 x0_2 x0_3 x3 false)) else (spec_l05Ok.j1 k x0_0 x0_1 x0_2 x0_3 x3 true))) else (none)) else (some true)
def spec_l05Ok.j1 : Nat → Int → Int → List S159 → List S146 → Int → Bool → Option (Bool)
 | 0, _, _, _, _, _, _ => none
 | k + 1, x0_0, x0_1, x0_2, x0_3, x3, x75 => if x75 = true then (some false) else (if 0 ≤ x3 then (if x3 < (x0_3.length : Int) then ((spec_l05Ring.f k x0_0 x0_1 x0_2 x0_3 ((rd146 x0_3 x3).f1)).bind fun bt22 => (if bt22.2 = true then ((spec_l03Ok.f k bt22.1).bind fun t26 => (if t26 = true then (spec_l05Ok.l0 k x0_0 x0_1 x0_2 x0_3 (wrap64 (x3 + 1))) else (some false))) else (some false))) else (none)) else (none))
end
def spec_l05Ok.f (k : Nat) (a0_0 : Int) (a0_1 : Int) (l0_2 : List S159) (l0_3 : List S146) : Option (Bool) := (spec_l00In.f a0_0 10 20000).bind fun t1 => (if t1 = true then ((spec_l00In.f a0_1 10 20000).bind fun t4 => (if t4 = true then ((spec_l05Points.f k a0_0 a0_1 l0_2 l0_3).bind fun t7 => (if t7 = true then (spec_l05Ok.j0 k a0_0 a0_1 l0_2 l0_3 (decide ((l0_3.length : Int) > 24))) else (spec_l05Ok.j0 k a0_0 a0_1 l0_2 l0_3 true))) else (spec_l05Ok.j0 k a0_0 a0_1 l0_2 l0_3 true))) else (spec_l05Ok.j0 k a0_0 a0_1 l0_2 l0_3 true))
set_option maxRecDepth 100000 in
theorem spec_l05Ok.ok {k : Nat} {a0_0 : Int} {a0_1 : Int} {l0_2 : List S159} {l0_3 : List S146} {r : Bool} (H : spec_l05Ok.f k a0_0 a0_1 l0_2 l0_3 = some r) : OkF Tryz.prog 47 [.c (.d (.ro [.v (.int .i64 a0_0), .v (.int .i64 a0_1), .row 160 (l0_2.map c159), .row 152 (l0_3.map c146)]))] [] (.c (.d (.v (.bool r)))) [] := by
 unfold spec_l05Ok.f at H
 refine OkF.of (N := 96) (rs := [2]) (avs := [.c (.d (.v (.bool r)))]) Tryz.func47 rfl rfl (fun _ _ => results_tmp rfl _ _ _) (by decide) rfl rfl rfl rfl (fun w0 S => ?_)
 refine AG.seq ?_
 refine AG.region HM ?_
 refine a_move (v := vB _) ?_
 refine RA.nil nofun ?_
 refine AG.seq ?_
 refine AG.seq ?_
 refine AG.joinR (fun s => ∃ q, q ≤ k ∧ ∃ (x0_0 : Int) (x0_1 : Int) (x0_2 : List S159) (x0_3 : List S146) (x32 : Bool), spec_l05Ok.j0 q x0_0 x0_1 x0_2 x0_3 x32 = some r ∧ s = St.of [(0, .c (.d (.ro [.v (.int .i64 x0_0), .v (.int .i64 x0_1), .row 160 (x0_2.map c159), .row 152 (x0_3.map c146)]))), (32, vB x32)] []) ?_ ?_
 ·skip
  refine AG.region HM ?_
  refine a_move (v := vO [_, _, _, _]) ?_
  refine a_nil (v := vO [_, _, _, _]) ?_
  refine a_faR (cells' := [_, _, _, _]) ?_ D35_0
  refine a_ldR (v := vI _) ?_ T2
  obtain ⟨t1, e2, H⟩ := bindO H
  refine a_call (v := vB t1) (nk := []) (L := []) ?_ rfl (spec_l00In.ok e2) id (qd (qd (qd qn))) trivial trivial trivial rfl
  refine a_un (u := .bool (!t1)) ?_
  refine a_move (v := vB _) ?_
  by_cases hc3 : t1 = true
  ·rw [if_pos hc3] at H
   refine a_move (v := vO [_, _, _, _]) ?_ (hg := Gs.yes rfl rfl rfl (congrArg Bool.not hc3))
   refine a_nil (v := vO [_, _, _, _]) ?_ (hg := Gs.yes rfl rfl rfl (congrArg Bool.not hc3))
   refine a_faR (cells' := [_, _, _]) ?_ D35_1 (hg := Gs.yes rfl rfl rfl (congrArg Bool.not hc3))
   refine a_ldR (v := vI _) ?_ T2 (hg := Gs.yes rfl rfl rfl (congrArg Bool.not hc3))
   obtain ⟨t4, e5, H⟩ := bindO H
   refine a_call (v := vB t4) (nk := []) (L := []) ?_ rfl (spec_l00In.ok e5) id (qd (qd (qd qn))) trivial trivial trivial rfl (hg := Gs.yes rfl rfl rfl (congrArg Bool.not hc3))
   refine a_un (u := .bool (!t4)) ?_ (hg := Gs.yes rfl rfl rfl (congrArg Bool.not hc3))
   refine a_pick (b := false) (v := vB _) ?_ (congrArg Bool.not hc3)
   refine a_move (v := vB _) ?_
   by_cases hc6 : t4 = true
   ·rw [if_pos hc6] at H
    refine a_move (v := vO [_, _, _, _]) ?_ (hg := Gs.yes rfl rfl rfl (congrArg Bool.not hc6))
    obtain ⟨t7, e8, H⟩ := bindO H
    refine a_call (v := vB t7) (nk := []) (L := []) ?_ rfl (spec_l05Points.ok e8) id (qd qn) trivial trivial trivial rfl (hg := Gs.yes rfl rfl rfl (congrArg Bool.not hc6))
    refine a_un (u := .bool (!t7)) ?_ (hg := Gs.yes rfl rfl rfl (congrArg Bool.not hc6))
    refine a_pick (b := false) (v := vB _) ?_ (congrArg Bool.not hc6)
    refine a_move (v := vB _) ?_
    by_cases hc9 : t7 = true
    ·rw [if_pos hc9] at H
     refine a_move (v := vO [_, _, _, _]) ?_ (hg := Gs.yes rfl rfl rfl (congrArg Bool.not hc9))
     refine a_nil (v := vO [_, _, _, _]) ?_ (hg := Gs.yes rfl rfl rfl (congrArg Bool.not hc9))
     refine a_faR (cells' := [_]) ?_ D35_3 (hg := Gs.yes rfl rfl rfl (congrArg Bool.not hc9))
     refine a_ldR (v := vR _ _) ?_ T33 (hg := Gs.yes rfl rfl rfl (congrArg Bool.not hc9))
     refine a_lenR ?_ Tryz.underlying33 (hg := Gs.yes rfl rfl rfl (congrArg Bool.not hc9))
     refine a_int (u := .bool (decide ((l0_3.length : Int) > 24))) ?_ (hg := Gs.yes rfl rfl rfl (congrArg Bool.not hc9))
     refine a_pick (b := false) (v := vB _) ?_ (congrArg Bool.not hc9)
     refine RA.nil nofun ?_
     exact CanR.mk id ⟨_, (by omega), _, _, _, _, _, H, rfl⟩ ⟨rfl, rfl, trivial⟩ trivial rfl
    ·rw [if_neg hc9] at H
     refine RA.skip rfl rfl rfl rfl rfl (congrArg Bool.not (Bool.eq_false_iff.2 hc9)) (by decide) ?_
     refine RA.skip rfl rfl rfl rfl rfl (congrArg Bool.not (Bool.eq_false_iff.2 hc9)) (by decide) ?_
     refine RA.skip rfl rfl rfl rfl rfl (congrArg Bool.not (Bool.eq_false_iff.2 hc9)) (by decide) ?_
     refine RA.skip rfl rfl rfl rfl rfl (congrArg Bool.not (Bool.eq_false_iff.2 hc9)) (by decide) ?_
     refine RA.skip rfl rfl rfl rfl rfl (congrArg Bool.not (Bool.eq_false_iff.2 hc9)) (by decide) ?_
     refine RA.skip rfl rfl rfl rfl rfl (congrArg Bool.not (Bool.eq_false_iff.2 hc9)) (by decide) ?_
     refine a_pick (b := true) (v := vB _) ?_ (congrArg Bool.not (Bool.eq_false_iff.2 hc9))
     refine RA.nil nofun ?_
     exact CanR.mk id ⟨_, (by omega), _, _, _, _, _, H, rfl⟩ ⟨rfl, rfl, trivial⟩ trivial rfl
   ·rw [if_neg hc6] at H
    refine RA.skip rfl rfl rfl rfl rfl (congrArg Bool.not (Bool.eq_false_iff.2 hc6)) (by decide) ?_
    refine RA.skip rfl rfl rfl rfl rfl (congrArg Bool.not (Bool.eq_false_iff.2 hc6)) (by decide) ?_
    refine RA.skip rfl rfl rfl rfl rfl (congrArg Bool.not (Bool.eq_false_iff.2 hc6)) (by decide) ?_
    refine a_pick (b := true) (v := vB _) ?_ (congrArg Bool.not (Bool.eq_false_iff.2 hc6))
    refine a_move (v := vB _) ?_
    refine RA.skip rfl rfl rfl rfl rfl rfl (by decide) ?_
    refine RA.skip rfl rfl rfl rfl rfl rfl (by decide) ?_
    refine RA.skip rfl rfl rfl rfl rfl rfl (by decide) ?_
    refine RA.skip rfl rfl rfl rfl rfl rfl (by decide) ?_
    refine RA.skip rfl rfl rfl rfl rfl rfl (by decide) ?_
    refine RA.skip rfl rfl rfl rfl rfl rfl (by decide) ?_
    refine a_pick (b := true) (v := vB _) ?_ rfl
    refine RA.nil nofun ?_
    exact CanR.mk id ⟨_, (by omega), _, _, _, _, _, H, rfl⟩ ⟨rfl, rfl, trivial⟩ trivial rfl
  ·rw [if_neg hc3] at H
   refine RA.skip rfl rfl rfl rfl rfl (congrArg Bool.not (Bool.eq_false_iff.2 hc3)) (by decide) ?_
   refine RA.skip rfl rfl rfl rfl rfl (congrArg Bool.not (Bool.eq_false_iff.2 hc3)) (by decide) ?_
   refine RA.skip rfl rfl rfl rfl rfl (congrArg Bool.not (Bool.eq_false_iff.2 hc3)) (by decide) ?_
   refine RA.skip rfl rfl rfl rfl rfl (congrArg Bool.not (Bool.eq_false_iff.2 hc3)) (by decide) ?_
   refine RA.skip rfl rfl rfl rfl rfl (congrArg Bool.not (Bool.eq_false_iff.2 hc3)) (by decide) ?_
   refine RA.skip rfl rfl rfl rfl rfl (congrArg Bool.not (Bool.eq_false_iff.2 hc3)) (by decide) ?_
   refine a_pick (b := true) (v := vB _) ?_ (congrArg Bool.not (Bool.eq_false_iff.2 hc3))
   refine a_move (v := vB _) ?_
   refine RA.skip rfl rfl rfl rfl rfl rfl (by decide) ?_
   refine RA.skip rfl rfl rfl rfl rfl rfl (by decide) ?_
   refine RA.skip rfl rfl rfl rfl rfl rfl (by decide) ?_
   refine a_pick (b := true) (v := vB _) ?_ rfl
   refine a_move (v := vB _) ?_
   refine RA.skip rfl rfl rfl rfl rfl rfl (by decide) ?_
   refine RA.skip rfl rfl rfl rfl rfl rfl (by decide) ?_
   refine RA.skip rfl rfl rfl rfl rfl rfl (by decide) ?_
   refine RA.skip rfl rfl rfl rfl rfl rfl (by decide) ?_
   refine RA.skip rfl rfl rfl rfl rfl rfl (by decide) ?_
   refine RA.skip rfl rfl rfl rfl rfl rfl (by decide) ?_
   refine a_pick (b := true) (v := vB _) ?_ rfl
   refine RA.nil nofun ?_
   exact CanR.mk id ⟨_, (by omega), _, _, _, _, _, H, rfl⟩ ⟨rfl, rfl, trivial⟩ trivial rfl
 ·clear H
  rintro _ ⟨k, hj0, x0_0, x0_1, x0_2, x0_3, x32, H, rfl⟩
  cases k with
  | zero => cases H
  | succ k =>
   rw [spec_l05Ok.j0] at H
   by_cases hc10 : x32 = true
   ·rw [if_pos hc10] at H
    refine AG.yes rfl hc10 ?_
    refine AG.seq ?_
    refine AG.region HM ?_
    refine a_move (v := vB _) ?_
    refine RA.nil nofun ?_
    refine AG.ret ?_
    obtain rfl := Option.some.inj H
    exact RetP.mk id ⟨rfl, trivial⟩ trivial rfl
   ·rw [if_neg hc10] at H
    refine AG.no rfl (Bool.eq_false_iff.2 hc10) ?_
    refine AG.skip ?_
    refine AG.seq ?_
    refine AG.seq ?_
    refine AG.region HM ?_
    refine a_move (v := vI _) ?_
    refine RA.nil nofun ?_
    refine AG.block ?_
    refine AG.loop ?_
    obtain ⟨K0, hK0, gK0⟩ : ∃ K, k ≤ K ∧ K ≤ k := ⟨k, Nat.le_refl k, Nat.le_refl k⟩
    refine AGr.canon id (AGr.loopI (n := k) (fun k s => k ≤ K0 ∧ ∃ (x0_0 : Int) (x0_1 : Int) (x0_2 : List S159) (x0_3 : List S146) (x3 : Int), spec_l05Ok.l0 k x0_0 x0_1 x0_2 x0_3 x3 = some r ∧ s = St.of [(0, .c (.d (.ro [.v (.int .i64 x0_0), .v (.int .i64 x0_1), .row 160 (x0_2.map c159), .row 152 (x0_3.map c146)]))), (3, vI x3)] []) ⟨hK0, _, _, _, _, _, H, rfl⟩ ?_ ?_) ⟨rfl, rfl, trivial⟩ trivial rfl
    ·rintro _ ⟨_, _, _, _, _, _, H, _⟩
     cases H
    ·clear H hK0
     rintro k ih0 _ ⟨hK0, x0_0, x0_1, x0_2, x0_3, x3, H, rfl⟩
     unfold spec_l05Ok.l0 at H
     refine AG.seq ?_
     refine AG.seq ?_
     refine AG.region HM ?_
     refine a_move (v := vI _) ?_
     refine a_move (v := vO [_, _, _, _]) ?_
     refine a_nil (v := vO [_, _, _, _]) ?_
     refine a_faR (cells' := [_]) ?_ D35_3
     refine a_ldR (v := vR _ _) ?_ T33
     refine a_lenR ?_ Tryz.underlying33
     refine a_int (u := .bool (decide (x3 < (x0_3.length : Int)))) ?_
     refine RA.nil nofun ?_
     by_cases hc11 : x3 < (x0_3.length : Int)
     ·rw [if_pos hc11] at H
      refine AG.yes rfl (decide_eq_true hc11) ?_
      refine AG.skip ?_
      refine AG.seq ?_
      refine AG.block ?_
      refine AG.seq ?_
      refine AG.seq ?_
      refine AG.joinR (fun s => ∃ q, q ≤ k ∧ ∃ (x0_0 : Int) (x0_1 : Int) (x0_2 : List S159) (x0_3 : List S146) (x3 : Int) (x75 : Bool), spec_l05Ok.j1 q x0_0 x0_1 x0_2 x0_3 x3 x75 = some r ∧ s = St.of [(0, .c (.d (.ro [.v (.int .i64 x0_0), .v (.int .i64 x0_1), .row 160 (x0_2.map c159), .row 152 (x0_3.map c146)]))), (3, vI x3), (75, vB x75)] []) ?_ ?_
      ·skip
       refine AG.region HM ?_
       refine a_move (v := vO [_, _, _, _]) ?_
       refine a_nil (v := vO [_, _, _, _]) ?_
       refine a_faR (cells' := [_]) ?_ D35_3
       refine a_ldR (v := vR _ _) ?_ T33
       refine a_move (v := vI _) ?_
       by_cases hc12 : 0 ≤ x3
       ·rw [if_pos hc12] at H
        refine a_ixR (el := c146 (rd146 x0_3 x3)) ?_ ⟨hc12, hc11⟩ T152 Tryz.underlying33 (hel := R146 hc12 hc11)
        refine a_faR (cells' := [_, _]) ?_ D152_0
        refine a_ldR (v := vS _) ?_ T9
        obtain ⟨t13, e14, H⟩ := bindO H
        refine a_call (v := vB t13) (nk := []) (L := []) ?_ rfl (spec_l01Name.ok e14) id (qd qn) trivial trivial trivial rfl
        refine a_un (u := .bool (!t13)) ?_
        refine a_move (v := vB _) ?_
        by_cases hc15 : t13 = true
        ·rw [if_pos hc15] at H
         refine a_move (v := vI _) ?_ (hg := Gs.yes rfl rfl rfl (congrArg Bool.not hc15))
         refine a_int (u := .bool (decide (x3 > 0))) ?_ (hg := Gs.yes rfl rfl rfl (congrArg Bool.not hc15))
         refine a_move (v := vB _) ?_ (hg := Gs.yes rfl rfl rfl (congrArg Bool.not hc15))
         by_cases hc16 : x3 > 0
         ·rw [if_pos hc16] at H
          refine a_move (v := vO [_, _, _, _]) ?_ (hg := Gs.yes rfl rfl rfl (decide_eq_true hc16))
          refine a_nil (v := vO [_, _, _, _]) ?_ (hg := Gs.yes rfl rfl rfl (decide_eq_true hc16))
          refine a_faR (cells' := [_]) ?_ D35_3 (hg := Gs.yes rfl rfl rfl (decide_eq_true hc16))
          refine a_ldR (v := vR _ _) ?_ T33 (hg := Gs.yes rfl rfl rfl (decide_eq_true hc16))
          refine a_move (v := vI _) ?_ (hg := Gs.yes rfl rfl rfl (decide_eq_true hc16))
          refine a_int (u := .int .i64 (wrap64 (x3 - 1))) ?_ (hg := Gs.yes rfl rfl rfl (decide_eq_true hc16))
          by_cases hc17 : 0 ≤ (wrap64 (x3 - 1))
          ·rw [if_pos hc17] at H
           by_cases hc18 : (wrap64 (x3 - 1)) < (x0_3.length : Int)
           ·rw [if_pos hc18] at H
            refine a_ixR (el := c146 (rd146 x0_3 (wrap64 (x3 - 1)))) ?_ ⟨hc17, hc18⟩ T152 Tryz.underlying33 (hel := R146 hc17 hc18) (hg := Gs.yes rfl rfl rfl (decide_eq_true hc16))
            refine a_faR (cells' := [_, _]) ?_ D152_0 (hg := Gs.yes rfl rfl rfl (decide_eq_true hc16))
            refine a_ldR (v := vS _) ?_ T9 (hg := Gs.yes rfl rfl rfl (decide_eq_true hc16))
            refine a_move (v := vO [_, _, _, _]) ?_ (hg := Gs.yes rfl rfl rfl (decide_eq_true hc16))
            refine a_nil (v := vO [_, _, _, _]) ?_ (hg := Gs.yes rfl rfl rfl (decide_eq_true hc16))
            refine a_faR (cells' := [_]) ?_ D35_3 (hg := Gs.yes rfl rfl rfl (decide_eq_true hc16))
            refine a_ldR (v := vR _ _) ?_ T33 (hg := Gs.yes rfl rfl rfl (decide_eq_true hc16))
            refine a_move (v := vI _) ?_ (hg := Gs.yes rfl rfl rfl (decide_eq_true hc16))
            refine a_ixR (el := c146 (rd146 x0_3 x3)) ?_ ⟨hc12, hc11⟩ T152 Tryz.underlying33 (hel := R146 hc12 hc11) (hg := Gs.yes rfl rfl rfl (decide_eq_true hc16))
            refine a_faR (cells' := [_, _]) ?_ D152_0 (hg := Gs.yes rfl rfl rfl (decide_eq_true hc16))
            refine a_ldR (v := vS _) ?_ T9 (hg := Gs.yes rfl rfl rfl (decide_eq_true hc16))
            refine a_bin (u := .bool (!(Op.bytesLess (((rd146 x0_3 (wrap64 (x3 - 1))).f0).toList) (((rd146 x0_3 x3).f0).toList)))) ?_ (hg := Gs.yes rfl rfl rfl (decide_eq_true hc16))
            refine a_pick (b := true) (v := vB _) ?_ (decide_eq_true hc16) (hg := Gs.yes rfl rfl rfl (congrArg Bool.not hc15))
            refine a_pick (b := false) (v := vB _) ?_ (congrArg Bool.not hc15)
            refine RA.nil (fun _ => by kernel_rfl) ?_
            exact CanR.mk id ⟨_, (by omega), _, _, _, _, _, _, H, rfl⟩ ⟨rfl, rfl, rfl, trivial⟩ trivial rfl
           ·rw [if_neg hc18] at H
            cases H
          ·rw [if_neg hc17] at H
           cases H
         ·rw [if_neg hc16] at H
          refine RA.skip rfl rfl rfl rfl rfl (decide_eq_false hc16) (by decide) ?_
          refine RA.skip rfl rfl rfl rfl rfl (decide_eq_false hc16) (by decide) ?_
          refine RA.skip rfl rfl rfl rfl rfl (decide_eq_false hc16) (by decide) ?_
          refine RA.skip rfl rfl rfl rfl rfl (decide_eq_false hc16) (by decide) ?_
          refine RA.skip rfl rfl rfl rfl rfl (decide_eq_false hc16) (by decide) ?_
          refine RA.skip rfl rfl rfl rfl rfl (decide_eq_false hc16) (by decide) ?_
          refine RA.skip rfl rfl rfl rfl rfl (decide_eq_false hc16) (by decide) ?_
          refine RA.skip rfl rfl rfl rfl rfl (decide_eq_false hc16) (by decide) ?_
          refine RA.skip rfl rfl rfl rfl rfl (decide_eq_false hc16) (by decide) ?_
          refine RA.skip rfl rfl rfl rfl rfl (decide_eq_false hc16) (by decide) ?_
          refine RA.skip rfl rfl rfl rfl rfl (decide_eq_false hc16) (by decide) ?_
          refine RA.skip rfl rfl rfl rfl rfl (decide_eq_false hc16) (by decide) ?_
          refine RA.skip rfl rfl rfl rfl rfl (decide_eq_false hc16) (by decide) ?_
          refine RA.skip rfl rfl rfl rfl rfl (decide_eq_false hc16) (by decide) ?_
          refine RA.skip rfl rfl rfl rfl rfl (decide_eq_false hc16) (by decide) ?_
          refine RA.skip rfl rfl rfl rfl rfl (decide_eq_false hc16) (by decide) ?_
          refine RA.skip rfl rfl rfl rfl rfl (decide_eq_false hc16) (by decide) ?_
          refine RA.skip rfl rfl rfl rfl rfl (decide_eq_false hc16) (by decide) ?_
          refine a_pick (b := false) (v := vB _) ?_ (decide_eq_false hc16) (hg := Gs.yes rfl rfl rfl (congrArg Bool.not hc15))
          refine a_pick (b := false) (v := vB _) ?_ (congrArg Bool.not hc15)
          refine RA.nil (fun _ => by kernel_rfl) ?_
          exact CanR.mk id ⟨_, (by omega), _, _, _, _, _, _, H, rfl⟩ ⟨rfl, rfl, rfl, trivial⟩ trivial rfl
        ·rw [if_neg hc15] at H
         refine RA.skip rfl rfl rfl rfl rfl (congrArg Bool.not (Bool.eq_false_iff.2 hc15)) (by decide) ?_
         refine RA.skip rfl rfl rfl rfl rfl (congrArg Bool.not (Bool.eq_false_iff.2 hc15)) (by decide) ?_
         refine RA.skip rfl rfl rfl rfl rfl (congrArg Bool.not (Bool.eq_false_iff.2 hc15)) (by decide) ?_
         refine RA.skip0 rfl rfl rfl rfl rfl ?_
         refine RA.skip0 rfl rfl rfl rfl rfl ?_
         refine RA.skip0 rfl rfl rfl rfl rfl ?_
         refine RA.skip0 rfl rfl rfl rfl rfl ?_
         refine RA.skip0 rfl rfl rfl rfl rfl ?_
         refine RA.skip0 rfl rfl rfl rfl rfl ?_
         refine RA.skip0 rfl rfl rfl rfl rfl ?_
         refine RA.skip0 rfl rfl rfl rfl rfl ?_
         refine RA.skip0 rfl rfl rfl rfl rfl ?_
         refine RA.skip0 rfl rfl rfl rfl rfl ?_
         refine RA.skip0 rfl rfl rfl rfl rfl ?_
         refine RA.skip0 rfl rfl rfl rfl rfl ?_
         refine RA.skip0 rfl rfl rfl rfl rfl ?_
         refine RA.skip0 rfl rfl rfl rfl rfl ?_
         refine RA.skip0 rfl rfl rfl rfl rfl ?_
         refine RA.skip0 rfl rfl rfl rfl rfl ?_
         refine RA.skip0 rfl rfl rfl rfl rfl ?_
         refine RA.skip0 rfl rfl rfl rfl rfl ?_
         refine RA.skip rfl rfl rfl rfl rfl (congrArg Bool.not (Bool.eq_false_iff.2 hc15)) (by decide) ?_
         refine a_pick (b := true) (v := vB _) ?_ (congrArg Bool.not (Bool.eq_false_iff.2 hc15))
         refine RA.nil (fun _ => by kernel_rfl) ?_
         exact CanR.mk id ⟨_, (by omega), _, _, _, _, _, _, H, rfl⟩ ⟨rfl, rfl, rfl, trivial⟩ trivial rfl
       ·rw [if_neg hc12] at H
        cases H
      ·clear H
       rintro _ ⟨k, hj1, x0_0, x0_1, x0_2, x0_3, x3, x75, H, rfl⟩
       cases k with
       | zero => cases H
       | succ k =>
        rw [spec_l05Ok.j1] at H
        by_cases hc19 : x75 = true
        ·rw [if_pos hc19] at H
         refine AG.yes rfl hc19 ?_
         refine AG.seq ?_
         refine AG.region HM ?_
         refine a_move (v := vB _) ?_
         refine RA.nil nofun ?_
         refine AG.ret ?_
         obtain rfl := Option.some.inj H
         exact RetP.mk id ⟨rfl, trivial⟩ trivial rfl
        ·rw [if_neg hc19] at H
         refine AG.no rfl (Bool.eq_false_iff.2 hc19) ?_
         refine AG.skip ?_
         refine AG.seq ?_
         refine AG.region HM ?_
         refine a_move (v := vO [_, _, _, _]) ?_
         refine a_move (v := vO [_, _, _, _]) ?_
         refine a_nil (v := vO [_, _, _, _]) ?_
         refine a_faR (cells' := [_]) ?_ D35_3
         refine a_ldR (v := vR _ _) ?_ T33
         refine a_move (v := vI _) ?_
         by_cases hc20 : 0 ≤ x3
         ·rw [if_pos hc20] at H
          by_cases hc21 : x3 < (x0_3.length : Int)
          ·rw [if_pos hc21] at H
           refine a_ixR (el := c146 (rd146 x0_3 x3)) ?_ ⟨hc20, hc21⟩ T152 Tryz.underlying33 (hel := R146 hc20 hc21)
           refine a_faR (cells' := [_]) ?_ D152_1
           refine a_ldR (v := vR _ _) ?_ T29
           obtain ⟨⟨t22, t23⟩, e24, H⟩ := bindO H
           refine a_call (v := .tup [.c (.own 204 t22.length), .c (.d (.v (.bool t23)))]) (nk := [(204, .row 160 (t22.map c159))]) (L := []) ?_ rfl (spec_l05Ring.ok e24) (fun κ => cond (Nat.beq κ 204) 100 (κ)) (qd (qd qn)) trivial ⟨rfl, trivial⟩ ⟨rfl, trivial⟩ rfl
           refine a_move (v := .tup [_, _]) ?_
           refine a_ext (v := .c (.own _ _)) ?_
           refine a_ext (v := vB _) ?_
           refine a_move (v := .c (.own _ _)) ?_
           refine a_move (v := vB _) ?_
           refine RA.nil nofun ?_
           refine AG.seq ?_
           refine AG.region HM ?_
           refine a_move (v := vB _) ?_
           refine a_un (u := .bool (!t23)) ?_
           refine a_move (v := vB _) ?_
           by_cases hc25 : t23 = true
           ·rw [if_pos hc25] at H
            refine a_move (v := .c (.own _ _)) ?_ (hg := Gs.yes rfl rfl rfl (congrArg Bool.not hc25))
            obtain ⟨t26, e27, H⟩ := bindO H
            refine a_call (v := vB t26) (nk := []) (L := [(204, _)]) ?_ rfl (spec_l03Ok.ok e27) id (qc rO qn) ⟨rfl, trivial⟩ trivial trivial rfl (hg := Gs.yes rfl rfl rfl (congrArg Bool.not hc25))
            refine a_un (u := .bool (!t26)) ?_ (hg := Gs.yes rfl rfl rfl (congrArg Bool.not hc25))
            refine a_pick (b := false) (v := vB _) ?_ (congrArg Bool.not hc25)
            refine RA.nil nofun ?_
            by_cases hc28 : t26 = true
            ·rw [if_pos hc28] at H
             refine AG.no rfl (congrArg Bool.not hc28) ?_
             refine AG.skip ?_
             refine AG.region HM ?_
             refine a_move (v := vI _) ?_
             refine a_int (u := .int .i64 (wrap64 (x3 + 1))) ?_
             refine a_move (v := vI _) ?_
             refine RA.nil nofun ?_
             exact AGr.canon id (ih0 _ (by omega) _ ⟨by omega, _, _, _, _, _, H, rfl⟩) ⟨rfl, rfl, trivial⟩ trivial rfl
            ·rw [if_neg hc28] at H
             refine AG.yes rfl (congrArg Bool.not (Bool.eq_false_iff.2 hc28)) ?_
             refine AG.seq ?_
             refine AG.region HM ?_
             refine a_move (v := vB _) ?_
             refine RA.nil nofun ?_
             refine AG.ret ?_
             obtain rfl := Option.some.inj H
             exact RetP.mk id ⟨rfl, trivial⟩ trivial rfl
           ·rw [if_neg hc25] at H
            refine RA.skip rfl rfl rfl rfl rfl (congrArg Bool.not (Bool.eq_false_iff.2 hc25)) (by decide) ?_
            refine RA.skip rfl rfl rfl rfl rfl (congrArg Bool.not (Bool.eq_false_iff.2 hc25)) (by decide) ?_
            refine RA.skip rfl rfl rfl rfl rfl (congrArg Bool.not (Bool.eq_false_iff.2 hc25)) (by decide) ?_
            refine a_pick (b := true) (v := vB _) ?_ (congrArg Bool.not (Bool.eq_false_iff.2 hc25))
            refine RA.nil nofun ?_
            refine AG.yes rfl rfl ?_
            refine AG.seq ?_
            refine AG.region HM ?_
            refine a_move (v := vB _) ?_
            refine RA.nil nofun ?_
            refine AG.ret ?_
            obtain rfl := Option.some.inj H
            exact RetP.mk id ⟨rfl, trivial⟩ trivial rfl
          ·rw [if_neg hc21] at H
           cases H
         ·rw [if_neg hc20] at H
          cases H
     ·rw [if_neg hc11] at H
      refine AG.no rfl (decide_eq_false hc11) ?_
      refine AG.exit ?_
      refine AG.seq ?_
      refine AG.region HM ?_
      refine a_move (v := vB _) ?_
      refine RA.nil nofun ?_
      refine AG.ret ?_
      obtain rfl := Option.some.inj H
      exact RetP.mk id ⟨rfl, trivial⟩ trivial rfl
/-! ### spec_l08Veneers: function 132 -/
def spec_l08Veneers.l0 : Nat → List S81 → Int → Option (Bool)
 | 0, _, _ => none
 | k + 1, x0, x3 => if x3 < (x0.length : Int) then (if 0 ≤ x3 then ((spec_l07Ok.f k ((rd81 x0 x3).f0) ((rd81 x0 x3).f1) ((rd81 x0 x3).f2)).bind fun t3 => (if t3 = true then (spec_l08Veneers.l0 k x0 (wrap64 (x3 + 1))) else (some false))) else (none)) else (some true)
def spec_l08Veneers.f (k : Nat) (l0 : List S81) : Option (Bool) := spec_l08Veneers.l0 k l0 0
set_option maxRecDepth 100000 in
theorem spec_l08Veneers.ok {k : Nat} {l0 : List S81} {r : Bool} (H : spec_l08Veneers.f k l0 = some r) : OkF Tryz.prog 132 [vR 92 (l0.map c81)] [] (.c (.d (.v (.bool r)))) [] := by
 unfold spec_l08Veneers.f at H
 refine OkF.of (N := 15) (rs := [2]) (avs := [.c (.d (.v (.bool r)))]) Tryz.func132 rfl rfl (fun _ _ => results_tmp rfl _ _ _) (by decide) rfl rfl rfl rfl (fun w0 S => ?_)
 refine AG.seq ?_
 refine AG.region HM ?_
 refine a_move (v := vB _) ?_
 refine RA.nil nofun ?_
 refine AG.seq ?_
 refine AG.seq ?_
 refine AG.region HM ?_
 refine a_move (v := vI _) ?_
 refine RA.nil nofun ?_
 refine AG.block ?_
 refine AG.loop ?_
 obtain ⟨K0, hK0, gK0⟩ : ∃ K, k ≤ K ∧ K ≤ k := ⟨k, Nat.le_refl k, Nat.le_refl k⟩
 refine AGr.canon id (AGr.loopI (n := k) (fun k s => k ≤ K0 ∧ ∃ (x0 : List S81) (x3 : Int), spec_l08Veneers.l0 k x0 x3 = some r ∧ s = St.of [(0, vR 92 (x0.map c81)), (3, vI x3)] []) ⟨hK0, _, _, H, rfl⟩ ?_ ?_) ⟨rfl, rfl, trivial⟩ trivial rfl
 ·rintro _ ⟨_, _, _, H, _⟩
  cases H
 ·clear H hK0
  rintro k ih0 _ ⟨hK0, x0, x3, H, rfl⟩
  unfold spec_l08Veneers.l0 at H
  refine AG.seq ?_
  refine AG.seq ?_
  refine AG.region HM ?_
  refine a_move (v := vI _) ?_
  refine a_move (v := vR _ _) ?_
  refine a_lenR ?_ Tryz.underlying56
  refine a_int (u := .bool (decide (x3 < (x0.length : Int)))) ?_
  refine RA.nil nofun ?_
  by_cases hc1 : x3 < (x0.length : Int)
  ·rw [if_pos hc1] at H
   refine AG.yes rfl (decide_eq_true hc1) ?_
   refine AG.skip ?_
   refine AG.seq ?_
   refine AG.block ?_
   refine AG.seq ?_
   refine AG.region HM ?_
   refine a_move (v := vR _ _) ?_
   refine a_move (v := vI _) ?_
   by_cases hc2 : 0 ≤ x3
   ·rw [if_pos hc2] at H
    refine a_ixR (el := c81 (rd81 x0 x3)) ?_ ⟨hc2, hc1⟩ T92 Tryz.underlying56 (hel := R81 hc2 hc1)
    obtain ⟨t3, e4, H⟩ := bindO H
    refine a_call (v := vB t3) (nk := []) (L := []) ?_ rfl (spec_l07Ok.ok e4) id (qd qn) trivial trivial trivial rfl
    refine a_un (u := .bool (!t3)) ?_
    refine RA.nil nofun ?_
    by_cases hc5 : t3 = true
    ·rw [if_pos hc5] at H
     refine AG.no rfl (congrArg Bool.not hc5) ?_
     refine AG.skip ?_
     refine AG.region HM ?_
     refine a_move (v := vI _) ?_
     refine a_int (u := .int .i64 (wrap64 (x3 + 1))) ?_
     refine a_move (v := vI _) ?_
     refine RA.nil nofun ?_
     exact AGr.canon id (ih0 _ (by omega) _ ⟨by omega, _, _, H, rfl⟩) ⟨rfl, rfl, trivial⟩ trivial rfl
    ·rw [if_neg hc5] at H
     refine AG.yes rfl (congrArg Bool.not (Bool.eq_false_iff.2 hc5)) ?_
     refine AG.seq ?_
     refine AG.region HM ?_
     refine a_move (v := vB _) ?_
     refine RA.nil nofun ?_
     refine AG.ret ?_
     obtain rfl := Option.some.inj H
     exact RetP.mk id ⟨rfl, trivial⟩ trivial rfl
   ·rw [if_neg hc2] at H
    cases H
  ·rw [if_neg hc1] at H
   refine AG.no rfl (decide_eq_false hc1) ?_
   refine AG.exit ?_
   refine AG.seq ?_
   refine AG.region HM ?_
   refine a_move (v := vB _) ?_
   refine RA.nil nofun ?_
   refine AG.ret ?_
   obtain rfl := Option.some.inj H
   exact RetP.mk id ⟨rfl, trivial⟩ trivial rfl
/-! ### spec_l08Ok: function 68 -/
def spec_l08Ok.f (k : Nat) (a0_0 : Int) (a0_1 : Int) (l0_2 : List S159) (l0_3 : List S146) (l0_4 : List S81) : Option (Bool) := (spec_l05Ok.f k a0_0 a0_1 l0_2 l0_3).bind fun t1 => (if t1 = true then ((spec_l08Veneers.f k l0_4).bind fun t4 => (if t4 = true then (some ((l0_4.length : Int) == (l0_3.length : Int))) else (some false))) else (some false))
set_option maxRecDepth 100000 in
theorem spec_l08Ok.ok {k : Nat} {a0_0 : Int} {a0_1 : Int} {l0_2 : List S159} {l0_3 : List S146} {l0_4 : List S81} {r : Bool} (H : spec_l08Ok.f k a0_0 a0_1 l0_2 l0_3 l0_4 = some r) : OkF Tryz.prog 68 [.c (.d (.ro [.v (.int .i64 a0_0), .v (.int .i64 a0_1), .row 160 (l0_2.map c159), .row 152 (l0_3.map c146), .row 92 (l0_4.map c81)]))] [] (.c (.d (.v (.bool r)))) [] := by
 unfold spec_l08Ok.f at H
 refine OkF.of (N := 28) (rs := [2]) (avs := [.c (.d (.v (.bool r)))]) Tryz.func68 rfl rfl (fun _ _ => results_tmp rfl _ _ _) (by decide) rfl rfl rfl rfl (fun w0 S => ?_)
 refine AG.seq ?_
 refine AG.region HM ?_
 refine a_move (v := vB _) ?_
 refine RA.nil nofun ?_
 refine AG.seq ?_
 refine AG.region HM ?_
 refine a_move (v := vO [_, _, _, _, _]) ?_
 refine a_nil (v := vO [_, _, _, _, _]) ?_
 refine a_faR (cells' := [_, _, _, _, _]) ?_ D58_0
 obtain ⟨t1, e2, H⟩ := bindO H
 refine a_call (v := vB t1) (nk := []) (L := []) ?_ rfl (spec_l05Ok.ok e2) id (qc (rT [.v (.int .i64 a0_0), .v (.int .i64 a0_1), .row 160 (l0_2.map c159), .row 152 (l0_3.map c146)] [.row 92 (l0_4.map c81)] rQ) qn) trivial trivial trivial rfl
 refine a_move (v := vB _) ?_
 by_cases hc3 : t1 = true
 ·rw [if_pos hc3] at H
  refine a_move (v := vO [_, _, _, _, _]) ?_ (hg := Gs.yes rfl rfl rfl hc3)
  refine a_nil (v := vO [_, _, _, _, _]) ?_ (hg := Gs.yes rfl rfl rfl hc3)
  refine a_faR (cells' := [_]) ?_ D58_1 (hg := Gs.yes rfl rfl rfl hc3)
  refine a_ldR (v := vR _ _) ?_ T56 (hg := Gs.yes rfl rfl rfl hc3)
  obtain ⟨t4, e5, H⟩ := bindO H
  refine a_call (v := vB t4) (nk := []) (L := []) ?_ rfl (spec_l08Veneers.ok e5) id (qd qn) trivial trivial trivial rfl (hg := Gs.yes rfl rfl rfl hc3)
  refine a_pick (b := true) (v := vB _) ?_ hc3
  refine a_move (v := vB _) ?_
  by_cases hc6 : t4 = true
  ·rw [if_pos hc6] at H
   refine a_move (v := vO [_, _, _, _, _]) ?_ (hg := Gs.yes rfl rfl rfl hc6)
   refine a_nil (v := vO [_, _, _, _, _]) ?_ (hg := Gs.yes rfl rfl rfl hc6)
   refine a_faR (cells' := [_]) ?_ D58_1 (hg := Gs.yes rfl rfl rfl hc6)
   refine a_ldR (v := vR _ _) ?_ T56 (hg := Gs.yes rfl rfl rfl hc6)
   refine a_lenR ?_ Tryz.underlying56 (hg := Gs.yes rfl rfl rfl hc6)
   refine a_move (v := vO [_, _, _, _, _]) ?_ (hg := Gs.yes rfl rfl rfl hc6)
   refine a_nil (v := vO [_, _, _, _, _]) ?_ (hg := Gs.yes rfl rfl rfl hc6)
   refine a_faR (cells' := [_, _, _, _, _]) ?_ D58_0 (hg := Gs.yes rfl rfl rfl hc6)
   refine a_faR (cells' := [_, _]) ?_ D35_3 (hg := Gs.yes rfl rfl rfl hc6)
   refine a_ldR (v := vR _ _) ?_ T33 (hg := Gs.yes rfl rfl rfl hc6)
   refine a_lenR ?_ Tryz.underlying33 (hg := Gs.yes rfl rfl rfl hc6)
   refine a_int (u := .bool (((l0_4.length : Int) == (l0_3.length : Int)))) ?_ (hg := Gs.yes rfl rfl rfl hc6)
   refine a_pick (b := true) (v := vB _) ?_ hc6
   refine a_move (v := vB _) ?_
   refine RA.nil (fun _ => by kernel_rfl) ?_
   refine AG.ret ?_
   obtain rfl := Option.some.inj H
   exact RetP.mk id ⟨rfl, trivial⟩ trivial rfl
  ·rw [if_neg hc6] at H
   refine RA.skip rfl rfl rfl rfl rfl (Bool.eq_false_iff.2 hc6) (by decide) ?_
   refine RA.skip rfl rfl rfl rfl rfl (Bool.eq_false_iff.2 hc6) (by decide) ?_
   refine RA.skip rfl rfl rfl rfl rfl (Bool.eq_false_iff.2 hc6) (by decide) ?_
   refine RA.skip rfl rfl rfl rfl rfl (Bool.eq_false_iff.2 hc6) (by decide) ?_
   refine RA.skip rfl rfl rfl rfl rfl (Bool.eq_false_iff.2 hc6) (by decide) ?_
   refine RA.skip rfl rfl rfl rfl rfl (Bool.eq_false_iff.2 hc6) (by decide) ?_
   refine RA.skip rfl rfl rfl rfl rfl (Bool.eq_false_iff.2 hc6) (by decide) ?_
   refine RA.skip rfl rfl rfl rfl rfl (Bool.eq_false_iff.2 hc6) (by decide) ?_
   refine RA.skip rfl rfl rfl rfl rfl (Bool.eq_false_iff.2 hc6) (by decide) ?_
   refine RA.skip rfl rfl rfl rfl rfl (Bool.eq_false_iff.2 hc6) (by decide) ?_
   refine RA.skip rfl rfl rfl rfl rfl (Bool.eq_false_iff.2 hc6) (by decide) ?_
   refine RA.skip rfl rfl rfl rfl rfl (Bool.eq_false_iff.2 hc6) (by decide) ?_
   refine a_pick (b := false) (v := vB _) ?_ (Bool.eq_false_iff.2 hc6)
   refine a_move (v := vB _) ?_
   refine RA.nil (fun _ => by kernel_rfl) ?_
   refine AG.ret ?_
   obtain rfl := Option.some.inj H
   exact RetP.mk id ⟨rfl, trivial⟩ trivial rfl
 ·rw [if_neg hc3] at H
  refine RA.skip rfl rfl rfl rfl rfl (Bool.eq_false_iff.2 hc3) (by decide) ?_
  refine RA.skip rfl rfl rfl rfl rfl (Bool.eq_false_iff.2 hc3) (by decide) ?_
  refine RA.skip rfl rfl rfl rfl rfl (Bool.eq_false_iff.2 hc3) (by decide) ?_
  refine RA.skip rfl rfl rfl rfl rfl (Bool.eq_false_iff.2 hc3) (by decide) ?_
  refine RA.skip rfl rfl rfl rfl rfl (Bool.eq_false_iff.2 hc3) (by decide) ?_
  refine a_pick (b := false) (v := vB _) ?_ (Bool.eq_false_iff.2 hc3)
  refine a_move (v := vB _) ?_
  refine RA.skip rfl rfl rfl rfl rfl rfl (by decide) ?_
  refine RA.skip rfl rfl rfl rfl rfl rfl (by decide) ?_
  refine RA.skip rfl rfl rfl rfl rfl rfl (by decide) ?_
  refine RA.skip rfl rfl rfl rfl rfl rfl (by decide) ?_
  refine RA.skip rfl rfl rfl rfl rfl rfl (by decide) ?_
  refine RA.skip rfl rfl rfl rfl rfl rfl (by decide) ?_
  refine RA.skip rfl rfl rfl rfl rfl rfl (by decide) ?_
  refine RA.skip rfl rfl rfl rfl rfl rfl (by decide) ?_
  refine RA.skip rfl rfl rfl rfl rfl rfl (by decide) ?_
  refine RA.skip rfl rfl rfl rfl rfl rfl (by decide) ?_
  refine RA.skip rfl rfl rfl rfl rfl rfl (by decide) ?_
  refine RA.skip rfl rfl rfl rfl rfl rfl (by decide) ?_
  refine a_pick (b := false) (v := vB _) ?_ rfl
  refine a_move (v := vB _) ?_
  refine RA.nil (fun _ => by kernel_rfl) ?_
  refine AG.ret ?_
  obtain rfl := Option.some.inj H
  exact RetP.mk id ⟨rfl, trivial⟩ trivial rfl
/-! ### spec_l03Turn: function 178 -/
def spec_l03Turn.f (a0 : Int) : Option (Bool) := (spec_l00In.f a0 0 7).bind fun t1 => (some t1)
set_option maxRecDepth 100000 in
theorem spec_l03Turn.ok {a0 : Int} {r : Bool} (H : spec_l03Turn.f a0 = some r) : OkF Tryz.prog 178 [vI a0] [] (.c (.d (.v (.bool r)))) [] := by
 unfold spec_l03Turn.f at H
 refine OkF.of (N := 5) (rs := [2]) (avs := [.c (.d (.v (.bool r)))]) Tryz.func178 rfl rfl (fun _ _ => results_tmp rfl _ _ _) (by decide) rfl rfl rfl rfl (fun w0 S => ?_)
 refine AG.seq ?_
 refine AG.region HM ?_
 refine a_move (v := vB _) ?_
 refine RA.nil nofun ?_
 refine AG.seq ?_
 refine AG.region HM ?_
 refine a_move (v := vI _) ?_
 obtain ⟨t1, e2, H⟩ := bindO H
 refine a_call (v := vB t1) (nk := []) (L := []) ?_ rfl (spec_l00In.ok e2) id (qd (qd (qd qn))) trivial trivial trivial rfl
 refine a_move (v := vB _) ?_
 refine RA.nil nofun ?_
 refine AG.ret ?_
 obtain rfl := Option.some.inj H
 exact RetP.mk id ⟨rfl, trivial⟩ trivial rfl
/-! ### spec_l11One: function 133 -/
def spec_l11One.f (a0_0 : Int) (a0_1 : Int) (a0_2 : Int) (a0_3 : Int) (a0_4 : Int) : Option (Bool) := (spec_l00In.f a0_0 0 23).bind fun t1 => (if t1 = true then ((spec_l00In.f a0_1 0 15).bind fun t4 => (if t4 = true then ((spec_l00In.f a0_2 0 20000).bind fun t7 => (if t7 = true then ((spec_l00In.f a0_3 0 20000).bind fun t10 => (if t10 = true then ((spec_l03Turn.f a0_4).bind fun t13 => (some t13)) else (some false))) else (some false))) else (some false))) else (some false))
set_option maxRecDepth 100000 in
theorem spec_l11One.ok {a0_0 : Int} {a0_1 : Int} {a0_2 : Int} {a0_3 : Int} {a0_4 : Int} {r : Bool} (H : spec_l11One.f a0_0 a0_1 a0_2 a0_3 a0_4 = some r) : OkF Tryz.prog 133 [.c (.d (.ro [.v (.int .i64 a0_0), .v (.int .i64 a0_1), .v (.int .i64 a0_2), .v (.int .i64 a0_3), .v (.int .i64 a0_4)]))] [] (.c (.d (.v (.bool r)))) [] := by
 unfold spec_l11One.f at H
 refine OkF.of (N := 36) (rs := [2]) (avs := [.c (.d (.v (.bool r)))]) Tryz.func133 rfl rfl (fun _ _ => results_tmp rfl _ _ _) (by decide) rfl rfl rfl rfl (fun w0 S => ?_)
 refine AG.seq ?_
 refine AG.region HM ?_
 refine a_move (v := vB _) ?_
 refine RA.nil nofun ?_
 refine AG.seq ?_
 refine AG.region HM ?_
 refine a_move (v := vO [_, _, _, _, _]) ?_
 refine a_nil (v := vO [_, _, _, _, _]) ?_
 refine a_faR (cells' := [_, _, _, _, _]) ?_ D116_0
 refine a_ldR (v := vI _) ?_ T2
 obtain ⟨t1, e2, H⟩ := bindO H
 refine a_call (v := vB t1) (nk := []) (L := []) ?_ rfl (spec_l00In.ok e2) id (qd (qd (qd qn))) trivial trivial trivial rfl
 refine a_move (v := vB _) ?_
 by_cases hc3 : t1 = true
 ·rw [if_pos hc3] at H
  refine a_move (v := vO [_, _, _, _, _]) ?_ (hg := Gs.yes rfl rfl rfl hc3)
  refine a_nil (v := vO [_, _, _, _, _]) ?_ (hg := Gs.yes rfl rfl rfl hc3)
  refine a_faR (cells' := [_, _, _, _]) ?_ D116_1 (hg := Gs.yes rfl rfl rfl hc3)
  refine a_ldR (v := vI _) ?_ T2 (hg := Gs.yes rfl rfl rfl hc3)
  obtain ⟨t4, e5, H⟩ := bindO H
  refine a_call (v := vB t4) (nk := []) (L := []) ?_ rfl (spec_l00In.ok e5) id (qd (qd (qd qn))) trivial trivial trivial rfl (hg := Gs.yes rfl rfl rfl hc3)
  refine a_pick (b := true) (v := vB _) ?_ hc3
  refine a_move (v := vB _) ?_
  by_cases hc6 : t4 = true
  ·rw [if_pos hc6] at H
   refine a_move (v := vO [_, _, _, _, _]) ?_ (hg := Gs.yes rfl rfl rfl hc6)
   refine a_nil (v := vO [_, _, _, _, _]) ?_ (hg := Gs.yes rfl rfl rfl hc6)
   refine a_faR (cells' := [_, _, _]) ?_ D116_2 (hg := Gs.yes rfl rfl rfl hc6)
   refine a_ldR (v := vI _) ?_ T2 (hg := Gs.yes rfl rfl rfl hc6)
   obtain ⟨t7, e8, H⟩ := bindO H
   refine a_call (v := vB t7) (nk := []) (L := []) ?_ rfl (spec_l00In.ok e8) id (qd (qd (qd qn))) trivial trivial trivial rfl (hg := Gs.yes rfl rfl rfl hc6)
   refine a_pick (b := true) (v := vB _) ?_ hc6
   refine a_move (v := vB _) ?_
   by_cases hc9 : t7 = true
   ·rw [if_pos hc9] at H
    refine a_move (v := vO [_, _, _, _, _]) ?_ (hg := Gs.yes rfl rfl rfl hc9)
    refine a_nil (v := vO [_, _, _, _, _]) ?_ (hg := Gs.yes rfl rfl rfl hc9)
    refine a_faR (cells' := [_, _]) ?_ D116_3 (hg := Gs.yes rfl rfl rfl hc9)
    refine a_ldR (v := vI _) ?_ T2 (hg := Gs.yes rfl rfl rfl hc9)
    obtain ⟨t10, e11, H⟩ := bindO H
    refine a_call (v := vB t10) (nk := []) (L := []) ?_ rfl (spec_l00In.ok e11) id (qd (qd (qd qn))) trivial trivial trivial rfl (hg := Gs.yes rfl rfl rfl hc9)
    refine a_pick (b := true) (v := vB _) ?_ hc9
    refine a_move (v := vB _) ?_
    by_cases hc12 : t10 = true
    ·rw [if_pos hc12] at H
     refine a_move (v := vO [_, _, _, _, _]) ?_ (hg := Gs.yes rfl rfl rfl hc12)
     refine a_nil (v := vO [_, _, _, _, _]) ?_ (hg := Gs.yes rfl rfl rfl hc12)
     refine a_faR (cells' := [_]) ?_ D116_4 (hg := Gs.yes rfl rfl rfl hc12)
     refine a_ldR (v := vI _) ?_ T2 (hg := Gs.yes rfl rfl rfl hc12)
     obtain ⟨t13, e14, H⟩ := bindO H
     refine a_call (v := vB t13) (nk := []) (L := []) ?_ rfl (spec_l03Turn.ok e14) id (qd qn) trivial trivial trivial rfl (hg := Gs.yes rfl rfl rfl hc12)
     refine a_pick (b := true) (v := vB _) ?_ hc12
     refine a_move (v := vB _) ?_
     refine RA.nil nofun ?_
     refine AG.ret ?_
     obtain rfl := Option.some.inj H
     exact RetP.mk id ⟨rfl, trivial⟩ trivial rfl
    ·rw [if_neg hc12] at H
     refine RA.skip rfl rfl rfl rfl rfl (Bool.eq_false_iff.2 hc12) (by decide) ?_
     refine RA.skip rfl rfl rfl rfl rfl (Bool.eq_false_iff.2 hc12) (by decide) ?_
     refine RA.skip rfl rfl rfl rfl rfl (Bool.eq_false_iff.2 hc12) (by decide) ?_
     refine RA.skip rfl rfl rfl rfl rfl (Bool.eq_false_iff.2 hc12) (by decide) ?_
     refine RA.skip rfl rfl rfl rfl rfl (Bool.eq_false_iff.2 hc12) (by decide) ?_
     refine a_pick (b := false) (v := vB _) ?_ (Bool.eq_false_iff.2 hc12)
     refine a_move (v := vB _) ?_
     refine RA.nil nofun ?_
     refine AG.ret ?_
     obtain rfl := Option.some.inj H
     exact RetP.mk id ⟨rfl, trivial⟩ trivial rfl
   ·rw [if_neg hc9] at H
    refine RA.skip rfl rfl rfl rfl rfl (Bool.eq_false_iff.2 hc9) (by decide) ?_
    refine RA.skip rfl rfl rfl rfl rfl (Bool.eq_false_iff.2 hc9) (by decide) ?_
    refine RA.skip rfl rfl rfl rfl rfl (Bool.eq_false_iff.2 hc9) (by decide) ?_
    refine RA.skip rfl rfl rfl rfl rfl (Bool.eq_false_iff.2 hc9) (by decide) ?_
    refine RA.skip rfl rfl rfl rfl rfl (Bool.eq_false_iff.2 hc9) (by decide) ?_
    refine a_pick (b := false) (v := vB _) ?_ (Bool.eq_false_iff.2 hc9)
    refine a_move (v := vB _) ?_
    refine RA.skip rfl rfl rfl rfl rfl rfl (by decide) ?_
    refine RA.skip rfl rfl rfl rfl rfl rfl (by decide) ?_
    refine RA.skip rfl rfl rfl rfl rfl rfl (by decide) ?_
    refine RA.skip rfl rfl rfl rfl rfl rfl (by decide) ?_
    refine RA.skip rfl rfl rfl rfl rfl rfl (by decide) ?_
    refine a_pick (b := false) (v := vB _) ?_ rfl
    refine a_move (v := vB _) ?_
    refine RA.nil nofun ?_
    refine AG.ret ?_
    obtain rfl := Option.some.inj H
    exact RetP.mk id ⟨rfl, trivial⟩ trivial rfl
  ·rw [if_neg hc6] at H
   refine RA.skip rfl rfl rfl rfl rfl (Bool.eq_false_iff.2 hc6) (by decide) ?_
   refine RA.skip rfl rfl rfl rfl rfl (Bool.eq_false_iff.2 hc6) (by decide) ?_
   refine RA.skip rfl rfl rfl rfl rfl (Bool.eq_false_iff.2 hc6) (by decide) ?_
   refine RA.skip rfl rfl rfl rfl rfl (Bool.eq_false_iff.2 hc6) (by decide) ?_
   refine RA.skip rfl rfl rfl rfl rfl (Bool.eq_false_iff.2 hc6) (by decide) ?_
   refine a_pick (b := false) (v := vB _) ?_ (Bool.eq_false_iff.2 hc6)
   refine a_move (v := vB _) ?_
   refine RA.skip rfl rfl rfl rfl rfl rfl (by decide) ?_
   refine RA.skip rfl rfl rfl rfl rfl rfl (by decide) ?_
   refine RA.skip rfl rfl rfl rfl rfl rfl (by decide) ?_
   refine RA.skip rfl rfl rfl rfl rfl rfl (by decide) ?_
   refine RA.skip rfl rfl rfl rfl rfl rfl (by decide) ?_
   refine a_pick (b := false) (v := vB _) ?_ rfl
   refine a_move (v := vB _) ?_
   refine RA.skip rfl rfl rfl rfl rfl rfl (by decide) ?_
   refine RA.skip rfl rfl rfl rfl rfl rfl (by decide) ?_
   refine RA.skip rfl rfl rfl rfl rfl rfl (by decide) ?_
   refine RA.skip rfl rfl rfl rfl rfl rfl (by decide) ?_
   refine RA.skip rfl rfl rfl rfl rfl rfl (by decide) ?_
   refine a_pick (b := false) (v := vB _) ?_ rfl
   refine a_move (v := vB _) ?_
   refine RA.nil nofun ?_
   refine AG.ret ?_
   obtain rfl := Option.some.inj H
   exact RetP.mk id ⟨rfl, trivial⟩ trivial rfl
 ·rw [if_neg hc3] at H
  refine RA.skip rfl rfl rfl rfl rfl (Bool.eq_false_iff.2 hc3) (by decide) ?_
  refine RA.skip rfl rfl rfl rfl rfl (Bool.eq_false_iff.2 hc3) (by decide) ?_
  refine RA.skip rfl rfl rfl rfl rfl (Bool.eq_false_iff.2 hc3) (by decide) ?_
  refine RA.skip rfl rfl rfl rfl rfl (Bool.eq_false_iff.2 hc3) (by decide) ?_
  refine RA.skip rfl rfl rfl rfl rfl (Bool.eq_false_iff.2 hc3) (by decide) ?_
  refine a_pick (b := false) (v := vB _) ?_ (Bool.eq_false_iff.2 hc3)
  refine a_move (v := vB _) ?_
  refine RA.skip rfl rfl rfl rfl rfl rfl (by decide) ?_
  refine RA.skip rfl rfl rfl rfl rfl rfl (by decide) ?_
  refine RA.skip rfl rfl rfl rfl rfl rfl (by decide) ?_
  refine RA.skip rfl rfl rfl rfl rfl rfl (by decide) ?_
  refine RA.skip rfl rfl rfl rfl rfl rfl (by decide) ?_
  refine a_pick (b := false) (v := vB _) ?_ rfl
  refine a_move (v := vB _) ?_
  refine RA.skip rfl rfl rfl rfl rfl rfl (by decide) ?_
  refine RA.skip rfl rfl rfl rfl rfl rfl (by decide) ?_
  refine RA.skip rfl rfl rfl rfl rfl rfl (by decide) ?_
  refine RA.skip rfl rfl rfl rfl rfl rfl (by decide) ?_
  refine RA.skip rfl rfl rfl rfl rfl rfl (by decide) ?_
  refine a_pick (b := false) (v := vB _) ?_ rfl
  refine a_move (v := vB _) ?_
  refine RA.skip rfl rfl rfl rfl rfl rfl (by decide) ?_
  refine RA.skip rfl rfl rfl rfl rfl rfl (by decide) ?_
  refine RA.skip rfl rfl rfl rfl rfl rfl (by decide) ?_
  refine RA.skip rfl rfl rfl rfl rfl rfl (by decide) ?_
  refine RA.skip rfl rfl rfl rfl rfl rfl (by decide) ?_
  refine a_pick (b := false) (v := vB _) ?_ rfl
  refine a_move (v := vB _) ?_
  refine RA.nil nofun ?_
  refine AG.ret ?_
  obtain rfl := Option.some.inj H
  exact RetP.mk id ⟨rfl, trivial⟩ trivial rfl
/-! ### spec_l11Ok: function 69 -/
def spec_l11Ok.l0 : Nat → List S115 → Int → Option (Bool)
 | 0, _, _ => none
 | k + 1, x0, x3 => if x3 < (x0.length : Int) then (if 0 ≤ x3 then ((spec_l11One.f ((rd115 x0 x3).f0) ((rd115 x0 x3).f1) ((rd115 x0 x3).f2) ((rd115 x0 x3).f3) ((rd115 x0 x3).f4)).bind fun t3 => (if t3 = true then (if x3 > 0 then (if 0 ≤ (wrap64 (x3 - 1)) then (if (wrap64 (x3 - 1)) < (x0.length : Int) then (if ((rd115 x0 (wrap64 (x3 - 1))).f0) ≥ ((rd115 x0 x3).f0) then (some false) else (spec_l11Ok.l0 k x0 (wrap64 (x3 + 1)))) else (none)) else (none)) else (spec_l11Ok.l0 k x0 (wrap64 (x3 + 1)))) else (some false))) else (none)) else (some (decide ((x0.length : Int) ≤ 24)))
def spec_l11Ok.f (k : Nat) (l0 : List S115) : Option (Bool) := spec_l11Ok.l0 k l0 0
set_option maxRecDepth 100000 in
theorem spec_l11Ok.ok {k : Nat} {l0 : List S115} {r : Bool} (H : spec_l11Ok.f k l0 = some r) : OkF Tryz.prog 69 [vR 116 (l0.map c115)] [] (.c (.d (.v (.bool r)))) [] := by
 unfold spec_l11Ok.f at H
 refine OkF.of (N := 36) (rs := [2]) (avs := [.c (.d (.v (.bool r)))]) Tryz.func69 rfl rfl (fun _ _ => results_tmp rfl _ _ _) (by decide) rfl rfl rfl rfl (fun w0 S => ?_)
 refine AG.seq ?_
 refine AG.region HM ?_
 refine a_move (v := vB _) ?_
 refine RA.nil nofun ?_
 refine AG.seq ?_
 refine AG.seq ?_
 refine AG.region HM ?_
 refine a_move (v := vI _) ?_
 refine RA.nil nofun ?_
 refine AG.block ?_
 refine AG.loop ?_
 obtain ⟨K0, hK0, gK0⟩ : ∃ K, k ≤ K ∧ K ≤ k := ⟨k, Nat.le_refl k, Nat.le_refl k⟩
 refine AGr.canon id (AGr.loopI (n := k) (fun k s => k ≤ K0 ∧ ∃ (x0 : List S115) (x3 : Int), spec_l11Ok.l0 k x0 x3 = some r ∧ s = St.of [(0, vR 116 (x0.map c115)), (3, vI x3)] []) ⟨hK0, _, _, H, rfl⟩ ?_ ?_) ⟨rfl, rfl, trivial⟩ trivial rfl
 ·rintro _ ⟨_, _, _, H, _⟩
  cases H
 ·clear H hK0
  rintro k ih0 _ ⟨hK0, x0, x3, H, rfl⟩
  unfold spec_l11Ok.l0 at H
  refine AG.seq ?_
  refine AG.seq ?_
  refine AG.region HM ?_
  refine a_move (v := vI _) ?_
  refine a_move (v := vR _ _) ?_
  refine a_lenR ?_ Tryz.underlying60
  refine a_int (u := .bool (decide (x3 < (x0.length : Int)))) ?_
  refine RA.nil nofun ?_
  by_cases hc1 : x3 < (x0.length : Int)
  ·rw [if_pos hc1] at H
   refine AG.yes rfl (decide_eq_true hc1) ?_
   refine AG.skip ?_
   refine AG.seq ?_
   refine AG.block ?_
   refine AG.seq ?_
   refine AG.region HM ?_
   refine a_move (v := vR _ _) ?_
   refine a_move (v := vI _) ?_
   by_cases hc2 : 0 ≤ x3
   ·rw [if_pos hc2] at H
    refine a_ixR (el := c115 (rd115 x0 x3)) ?_ ⟨hc2, hc1⟩ T116 Tryz.underlying60 (hel := R115 hc2 hc1)
    obtain ⟨t3, e4, H⟩ := bindO H
    refine a_call (v := vB t3) (nk := []) (L := []) ?_ rfl (spec_l11One.ok e4) id (qd qn) trivial trivial trivial rfl
    refine a_un (u := .bool (!t3)) ?_
    refine a_move (v := vB _) ?_
    by_cases hc5 : t3 = true
    ·rw [if_pos hc5] at H
     refine a_move (v := vI _) ?_ (hg := Gs.yes rfl rfl rfl (congrArg Bool.not hc5))
     refine a_int (u := .bool (decide (x3 > 0))) ?_ (hg := Gs.yes rfl rfl rfl (congrArg Bool.not hc5))
     refine a_move (v := vB _) ?_ (hg := Gs.yes rfl rfl rfl (congrArg Bool.not hc5))
     by_cases hc6 : x3 > 0
     ·rw [if_pos hc6] at H
      refine a_move (v := vR _ _) ?_ (hg := Gs.yes rfl rfl rfl (decide_eq_true hc6))
      refine a_move (v := vI _) ?_ (hg := Gs.yes rfl rfl rfl (decide_eq_true hc6))
      refine a_int (u := .int .i64 (wrap64 (x3 - 1))) ?_ (hg := Gs.yes rfl rfl rfl (decide_eq_true hc6))
      by_cases hc7 : 0 ≤ (wrap64 (x3 - 1))
      ·rw [if_pos hc7] at H
       by_cases hc8 : (wrap64 (x3 - 1)) < (x0.length : Int)
       ·rw [if_pos hc8] at H
        refine a_ixR (el := c115 (rd115 x0 (wrap64 (x3 - 1)))) ?_ ⟨hc7, hc8⟩ T116 Tryz.underlying60 (hel := R115 hc7 hc8) (hg := Gs.yes rfl rfl rfl (decide_eq_true hc6))
        refine a_faR (cells' := [_, _, _, _, _]) ?_ D116_0 (hg := Gs.yes rfl rfl rfl (decide_eq_true hc6))
        refine a_ldR (v := vI _) ?_ T2 (hg := Gs.yes rfl rfl rfl (decide_eq_true hc6))
        refine a_move (v := vR _ _) ?_ (hg := Gs.yes rfl rfl rfl (decide_eq_true hc6))
        refine a_move (v := vI _) ?_ (hg := Gs.yes rfl rfl rfl (decide_eq_true hc6))
        refine a_ixR (el := c115 (rd115 x0 x3)) ?_ ⟨hc2, hc1⟩ T116 Tryz.underlying60 (hel := R115 hc2 hc1) (hg := Gs.yes rfl rfl rfl (decide_eq_true hc6))
        refine a_faR (cells' := [_, _, _, _, _]) ?_ D116_0 (hg := Gs.yes rfl rfl rfl (decide_eq_true hc6))
        refine a_ldR (v := vI _) ?_ T2 (hg := Gs.yes rfl rfl rfl (decide_eq_true hc6))
        refine a_int (u := .bool (decide (((rd115 x0 (wrap64 (x3 - 1))).f0) ≥ ((rd115 x0 x3).f0)))) ?_ (hg := Gs.yes rfl rfl rfl (decide_eq_true hc6))
        refine a_pick (b := true) (v := vB _) ?_ (decide_eq_true hc6) (hg := Gs.yes rfl rfl rfl (congrArg Bool.not hc5))
        refine a_pick (b := false) (v := vB _) ?_ (congrArg Bool.not hc5)
        refine RA.nil (fun _ => by kernel_rfl) ?_
        by_cases hc9 : ((rd115 x0 (wrap64 (x3 - 1))).f0) ≥ ((rd115 x0 x3).f0)
        ·rw [if_pos hc9] at H
         refine AG.yes rfl (decide_eq_true hc9) ?_
         refine AG.seq ?_
         refine AG.region HM ?_
         refine a_move (v := vB _) ?_
         refine RA.nil nofun ?_
         refine AG.ret ?_
         obtain rfl := Option.some.inj H
         exact RetP.mk id ⟨rfl, trivial⟩ trivial rfl
        ·rw [if_neg hc9] at H
         refine AG.no rfl (decide_eq_false hc9) ?_
         refine AG.skip ?_
         refine AG.region HM ?_
         refine a_move (v := vI _) ?_
         refine a_int (u := .int .i64 (wrap64 (x3 + 1))) ?_
         refine a_move (v := vI _) ?_
         refine RA.nil nofun ?_
         exact AGr.canon id (ih0 _ (by omega) _ ⟨by omega, _, _, H, rfl⟩) ⟨rfl, rfl, trivial⟩ trivial rfl
       ·rw [if_neg hc8] at H
        cases H
      ·rw [if_neg hc7] at H
       cases H
     ·rw [if_neg hc6] at H
      refine RA.skip rfl rfl rfl rfl rfl (decide_eq_false hc6) (by decide) ?_
      refine RA.skip rfl rfl rfl rfl rfl (decide_eq_false hc6) (by decide) ?_
      refine RA.skip rfl rfl rfl rfl rfl (decide_eq_false hc6) (by decide) ?_
      refine RA.skip rfl rfl rfl rfl rfl (decide_eq_false hc6) (by decide) ?_
      refine RA.skip rfl rfl rfl rfl rfl (decide_eq_false hc6) (by decide) ?_
      refine RA.skip rfl rfl rfl rfl rfl (decide_eq_false hc6) (by decide) ?_
      refine RA.skip rfl rfl rfl rfl rfl (decide_eq_false hc6) (by decide) ?_
      refine RA.skip rfl rfl rfl rfl rfl (decide_eq_false hc6) (by decide) ?_
      refine RA.skip rfl rfl rfl rfl rfl (decide_eq_false hc6) (by decide) ?_
      refine RA.skip rfl rfl rfl rfl rfl (decide_eq_false hc6) (by decide) ?_
      refine RA.skip rfl rfl rfl rfl rfl (decide_eq_false hc6) (by decide) ?_
      refine RA.skip rfl rfl rfl rfl rfl (decide_eq_false hc6) (by decide) ?_
      refine a_pick (b := false) (v := vB _) ?_ (decide_eq_false hc6) (hg := Gs.yes rfl rfl rfl (congrArg Bool.not hc5))
      refine a_pick (b := false) (v := vB _) ?_ (congrArg Bool.not hc5)
      refine RA.nil (fun _ => by kernel_rfl) ?_
      refine AG.no rfl rfl ?_
      refine AG.skip ?_
      refine AG.region HM ?_
      refine a_move (v := vI _) ?_
      refine a_int (u := .int .i64 (wrap64 (x3 + 1))) ?_
      refine a_move (v := vI _) ?_
      refine RA.nil nofun ?_
      exact AGr.canon id (ih0 _ (by omega) _ ⟨by omega, _, _, H, rfl⟩) ⟨rfl, rfl, trivial⟩ trivial rfl
    ·rw [if_neg hc5] at H
     refine RA.skip rfl rfl rfl rfl rfl (congrArg Bool.not (Bool.eq_false_iff.2 hc5)) (by decide) ?_
     refine RA.skip rfl rfl rfl rfl rfl (congrArg Bool.not (Bool.eq_false_iff.2 hc5)) (by decide) ?_
     refine RA.skip rfl rfl rfl rfl rfl (congrArg Bool.not (Bool.eq_false_iff.2 hc5)) (by decide) ?_
     refine RA.skip0 rfl rfl rfl rfl rfl ?_
     refine RA.skip0 rfl rfl rfl rfl rfl ?_
     refine RA.skip0 rfl rfl rfl rfl rfl ?_
     refine RA.skip0 rfl rfl rfl rfl rfl ?_
     refine RA.skip0 rfl rfl rfl rfl rfl ?_
     refine RA.skip0 rfl rfl rfl rfl rfl ?_
     refine RA.skip0 rfl rfl rfl rfl rfl ?_
     refine RA.skip0 rfl rfl rfl rfl rfl ?_
     refine RA.skip0 rfl rfl rfl rfl rfl ?_
     refine RA.skip0 rfl rfl rfl rfl rfl ?_
     refine RA.skip0 rfl rfl rfl rfl rfl ?_
     refine RA.skip0 rfl rfl rfl rfl rfl ?_
     refine RA.skip rfl rfl rfl rfl rfl (congrArg Bool.not (Bool.eq_false_iff.2 hc5)) (by decide) ?_
     refine a_pick (b := true) (v := vB _) ?_ (congrArg Bool.not (Bool.eq_false_iff.2 hc5))
     refine RA.nil (fun _ => by kernel_rfl) ?_
     refine AG.yes rfl rfl ?_
     refine AG.seq ?_
     refine AG.region HM ?_
     refine a_move (v := vB _) ?_
     refine RA.nil nofun ?_
     refine AG.ret ?_
     obtain rfl := Option.some.inj H
     exact RetP.mk id ⟨rfl, trivial⟩ trivial rfl
   ·rw [if_neg hc2] at H
    cases H
  ·rw [if_neg hc1] at H
   refine AG.no rfl (decide_eq_false hc1) ?_
   refine AG.exit ?_
   refine AG.seq ?_
   refine AG.region HM ?_
   refine a_move (v := vR _ _) ?_
   refine a_lenR ?_ Tryz.underlying60
   refine a_int (u := .bool (decide ((x0.length : Int) ≤ 24))) ?_
   refine a_move (v := vB _) ?_
   refine RA.nil nofun ?_
   refine AG.ret ?_
   obtain rfl := Option.some.inj H
   exact RetP.mk id ⟨rfl, trivial⟩ trivial rfl
/-! ### spec_l05Face: function 70 -/
def spec_l05Face.f (a0_0 : Int) (a0_1 : Int) (l0_2 : List S159) (l0_3 : List S146) (a1 : Int) : Option (Bool) := (spec_l00In.f a1 0 (wrap64 ((l0_3.length : Int) - 1))).bind fun t1 => (some t1)
set_option maxRecDepth 100000 in
theorem spec_l05Face.ok {a0_0 : Int} {a0_1 : Int} {l0_2 : List S159} {l0_3 : List S146} {a1 : Int} {r : Bool} (H : spec_l05Face.f a0_0 a0_1 l0_2 l0_3 a1 = some r) : OkF Tryz.prog 70 [.c (.d (.ro [.v (.int .i64 a0_0), .v (.int .i64 a0_1), .row 160 (l0_2.map c159), .row 152 (l0_3.map c146)])), vI a1] [] (.c (.d (.v (.bool r)))) [] := by
 unfold spec_l05Face.f at H
 refine OkF.of (N := 13) (rs := [4]) (avs := [.c (.d (.v (.bool r)))]) Tryz.func70 rfl rfl (fun _ _ => results_tmp rfl _ _ _) (by decide) rfl rfl rfl rfl (fun w0 S => ?_)
 refine AG.seq ?_
 refine AG.region HM ?_
 refine a_move (v := vB _) ?_
 refine RA.nil nofun ?_
 refine AG.seq ?_
 refine AG.region HM ?_
 refine a_move (v := vI _) ?_
 refine a_move (v := vO [_, _, _, _]) ?_
 refine a_nil (v := vO [_, _, _, _]) ?_
 refine a_faR (cells' := [_]) ?_ D35_3
 refine a_ldR (v := vR _ _) ?_ T33
 refine a_lenR ?_ Tryz.underlying33
 refine a_int (u := .int .i64 (wrap64 ((l0_3.length : Int) - 1))) ?_
 obtain ⟨t1, e2, H⟩ := bindO H
 refine a_call (v := vB t1) (nk := []) (L := []) ?_ rfl (spec_l00In.ok e2) id (qd (qd (qd qn))) trivial trivial trivial rfl
 refine a_move (v := vB _) ?_
 refine RA.nil nofun ?_
 refine AG.ret ?_
 obtain rfl := Option.some.inj H
 exact RetP.mk id ⟨rfl, trivial⟩ trivial rfl
/-! ### spec_l00Put: function 71 -/
mutual
def spec_l00Put.l0 : Nat → List Int → Int → List Int → Bool → Int → Option ((List Int))
 | 0, _, _, _, _, _ => none
 | k + 1, x0, x1, x5, x6, x7 => if x7 < (x0.length : Int) then (if x6 = true then (spec_l00Put.j0 k x0 x1 x5 x6 x7 false) else (if 0 ≤ x7 then (spec_l00Put.j0 k x0 x1 x5 x6 x7 (decide ((rd2 x0 x7) ≥ x1))) else (none))) else (if x6 = true then (some x5) else (if x5.length < 17592186044416 then (some (x5 ++ [x1])) else (none)))
def spec_l00Put.j0 : Nat → List Int → Int → List Int → Bool → Int → Bool → Option ((List Int))
 | 0, _, _, _, _, _, _ => none
 | k + 1, x0, x1, x5, x6, x7, x24 => if x24 = true then (if 0 ≤ x7 then (if x7 < (x0.length : Int) then (if (rd2 x0 x7) > x1 then (if x5.length < 17592186044416 then ((some (x5 ++ [x1] : List Int)).bind fun y10 => (if y10.length < 17592186044416 then (spec_l00Put.l0 k x0 x1 (y10 ++ [(rd2 x0 x7)]) true (wrap64 (x7 + 1))) else (none))) else (none)) else (if x5.length < 17592186044416 then (spec_l00Put.l0 k x0 x1 (x5 ++ [(rd2 x0 x7)]) true (wrap64 (x7 + 1))) else (none))) else (none)) else (none)) else (if 0 ≤ x7 then (if x7 < (x0.length : Int) then (if x5.length < 17592186044416 then (spec_l00Put.l0 k x0 x1 (x5 ++ [(rd2 x0 x7)]) x6 (wrap64 (x7 + 1))) else (none)) else (none)) else (none))
end
def spec_l00Put.f (k : Nat) (l0 : List Int) (a1 : Int) : Option ((List Int)) := spec_l00Put.l0 k l0 a1 (([] : List Int) : List Int) false 0
set_option maxRecDepth 100000 in
theorem spec_l00Put.ok {k : Nat} {l0 : List Int} {a1 : Int} {r : List Int} (H : spec_l00Put.f k l0 a1 = some r) : OkF Tryz.prog 71 [vR 2 (l0.map c2), vI a1] [] (.c (.own 100 r.length)) [(100, .row 2 (r.map c2))] := by
 unfold spec_l00Put.f at H
 refine OkF.of (N := 49) (rs := [4]) (avs := [.c (.own 100 r.length)]) Tryz.func71 rfl rfl (fun _ _ => results_tmp rfl _ _ _) (by decide) rfl rfl rfl rfl (fun w0 S => ?_)
 refine AG.seq ?_
 refine AG.region HM ?_
 refine a_nilO (e := 2) 200 ?_ T2
 refine RA.nil nofun ?_
 refine AG.seq ?_
 refine AG.region HM ?_
 refine a_lit (cs := []) (D := []) (css := (([] : List Int) : List Int).map c2) 201 ?_ N29 T2 (hcss := by rfl)
 refine a_move (v := .c (.own _ _)) ?_
 refine RA.nil nofun ?_
 refine AG.seq ?_
 refine AG.region HM ?_
 refine a_move (v := vB _) ?_
 refine RA.nil nofun ?_
 refine AG.seq ?_
 refine AG.seq ?_
 refine AG.region HM ?_
 refine a_move (v := vI _) ?_
 refine RA.nil nofun ?_
 refine AG.block ?_
 refine AG.loop ?_
 obtain ⟨K0, hK0, gK0⟩ : ∃ K, k ≤ K ∧ K ≤ k := ⟨k, Nat.le_refl k, Nat.le_refl k⟩
 refine AGr.canon (fun κ => cond (Nat.beq κ 202) 201 (κ)) (AGr.loopI (n := k) (fun k s => k ≤ K0 ∧ ∃ (x0 : List Int) (x1 : Int) (x5 : List Int) (x6 : Bool) (x7 : Int), spec_l00Put.l0 k x0 x1 x5 x6 x7 = some r ∧ s = St.of [(0, vR 2 (x0.map c2)), (1, vI x1), (5, .c (.own 202 x5.length)), (6, vB x6), (7, vI x7)] [(202, .row 2 (x5.map c2))]) ⟨hK0, _, _, _, _, _, H, rfl⟩ ?_ ?_) ⟨rfl, rfl, (ownE rfl (by simp)), rfl, rfl, trivial⟩ ⟨rfl, trivial⟩ rfl
 ·rintro _ ⟨_, _, _, _, _, _, H, _⟩
  cases H
 ·clear H hK0
  rintro k ih0 _ ⟨hK0, x0, x1, x5, x6, x7, H, rfl⟩
  unfold spec_l00Put.l0 at H
  refine AG.seq ?_
  refine AG.seq ?_
  refine AG.region HM ?_
  refine a_move (v := vI _) ?_
  refine a_move (v := vR _ _) ?_
  refine a_lenR ?_ Tryz.underlying29
  refine a_int (u := .bool (decide (x7 < (x0.length : Int)))) ?_
  refine RA.nil nofun ?_
  by_cases hc2 : x7 < (x0.length : Int)
  ·rw [if_pos hc2] at H
   refine AG.yes rfl (decide_eq_true hc2) ?_
   refine AG.skip ?_
   refine AG.seq ?_
   refine AG.block ?_
   refine AG.seq ?_
   refine AG.seq ?_
   refine AG.joinR (fun s => ∃ q, q ≤ k ∧ ∃ (x0 : List Int) (x1 : Int) (x5 : List Int) (x6 : Bool) (x7 : Int) (x24 : Bool), spec_l00Put.j0 q x0 x1 x5 x6 x7 x24 = some r ∧ s = St.of [(0, vR 2 (x0.map c2)), (1, vI x1), (5, .c (.own 204 x5.length)), (6, vB x6), (7, vI x7), (24, vB x24)] [(204, .row 2 (x5.map c2))]) ?_ ?_
   ·skip
    refine AG.region HM ?_
    refine a_move (v := vB _) ?_
    refine a_un (u := .bool (!x6)) ?_
    refine a_move (v := vB _) ?_
    by_cases hc3 : x6 = true
    ·rw [if_pos hc3] at H
     refine RA.skip rfl rfl rfl rfl rfl (congrArg Bool.not hc3) (by decide) ?_
     refine RA.skip rfl rfl rfl rfl rfl (congrArg Bool.not hc3) (by decide) ?_
     refine RA.skip rfl rfl rfl rfl rfl (congrArg Bool.not hc3) (by decide) ?_
     refine RA.skip rfl rfl rfl rfl rfl (congrArg Bool.not hc3) (by decide) ?_
     refine RA.skip rfl rfl rfl rfl rfl (congrArg Bool.not hc3) (by decide) ?_
     refine RA.skip rfl rfl rfl rfl rfl (congrArg Bool.not hc3) (by decide) ?_
     refine a_pick (b := false) (v := vB _) ?_ (congrArg Bool.not hc3)
     refine RA.nil nofun ?_
     exact CanR.mk (fun κ => cond (Nat.beq κ 204) 202 (κ)) ⟨_, (by omega), _, _, _, _, _, _, H, rfl⟩ ⟨rfl, rfl, rfl, rfl, rfl, rfl, trivial⟩ ⟨rfl, trivial⟩ rfl
    ·rw [if_neg hc3] at H
     refine a_move (v := vR _ _) ?_ (hg := Gs.yes rfl rfl rfl (congrArg Bool.not (Bool.eq_false_iff.2 hc3)))
     refine a_move (v := vI _) ?_ (hg := Gs.yes rfl rfl rfl (congrArg Bool.not (Bool.eq_false_iff.2 hc3)))
     by_cases hc4 : 0 ≤ x7
     ·rw [if_pos hc4] at H
      refine a_ixR (el := c2 (rd2 x0 x7)) ?_ ⟨hc4, hc2⟩ T2 Tryz.underlying29 (hel := R2 hc4 hc2) (hg := Gs.yes rfl rfl rfl (congrArg Bool.not (Bool.eq_false_iff.2 hc3)))
      refine a_ldR (v := vI _) ?_ T2 (hg := Gs.yes rfl rfl rfl (congrArg Bool.not (Bool.eq_false_iff.2 hc3)))
      refine a_move (v := vI _) ?_ (hg := Gs.yes rfl rfl rfl (congrArg Bool.not (Bool.eq_false_iff.2 hc3)))
      refine a_int (u := .bool (decide ((rd2 x0 x7) ≥ x1))) ?_ (hg := Gs.yes rfl rfl rfl (congrArg Bool.not (Bool.eq_false_iff.2 hc3)))
      refine a_pick (b := true) (v := vB _) ?_ (congrArg Bool.not (Bool.eq_false_iff.2 hc3))
      refine RA.nil nofun ?_
      exact CanR.mk (fun κ => cond (Nat.beq κ 204) 202 (κ)) ⟨_, (by omega), _, _, _, _, _, _, H, rfl⟩ ⟨rfl, rfl, rfl, rfl, rfl, rfl, trivial⟩ ⟨rfl, trivial⟩ rfl
     ·rw [if_neg hc4] at H
      cases H
   ·clear H
    rintro _ ⟨k, hj0, x0, x1, x5, x6, x7, x24, H, rfl⟩
    cases k with
    | zero => cases H
    | succ k =>
     rw [spec_l00Put.j0] at H
     by_cases hc5 : x24 = true
     ·rw [if_pos hc5] at H
      refine AG.yes rfl hc5 ?_
      refine AG.seq ?_
      refine AG.region HM ?_
      refine a_move (v := vB _) ?_
      refine RA.nil nofun ?_
      refine AG.seq ?_
      refine AG.region HM ?_
      refine a_move (v := vR _ _) ?_
      refine a_move (v := vI _) ?_
      by_cases hc6 : 0 ≤ x7
      ·rw [if_pos hc6] at H
       by_cases hc7 : x7 < (x0.length : Int)
       ·rw [if_pos hc7] at H
        refine a_ixR (el := c2 (rd2 x0 x7)) ?_ ⟨hc6, hc7⟩ T2 Tryz.underlying29 (hel := R2 hc6 hc7)
        refine a_ldR (v := vI _) ?_ T2
        refine a_move (v := vI _) ?_
        refine a_int (u := .bool (decide ((rd2 x0 x7) > x1))) ?_
        refine RA.nil nofun ?_
        by_cases hc8 : (rd2 x0 x7) > x1
        ·rw [if_pos hc8] at H
         refine AG.yes rfl (decide_eq_true hc8) ?_
         refine AG.region HM ?_
         refine a_move (v := .c (.own _ _)) ?_
         refine a_move (v := vI _) ?_
         refine a_lit (cs := [_]) (D := []) (css := ([x1]).map c2) 205 ?_ N29 T2
         by_cases hc9 : x5.length < 17592186044416
         ·rw [if_pos hc9] at H
          obtain ⟨y10, ey10, H⟩ := bindO H
          have ey10 := Option.some.inj ey10
          refine a_appO (css' := y10.map c2) (n' := y10.length) ?_ T2 (by rw [← ey10]; simp [maxLen]; omega) (by rw [← ey10]; simp; omega) Tryz.underlying29 (hc := by rw [← ey10]; exact List.map_append.symm) (hn := by exact List.length_map _)
          refine a_move (v := .c (.own _ _)) ?_
          refine RA.nil nofun ?_
          refine AG.region HM ?_
          refine a_move (v := .c (.own _ _)) ?_
          refine a_move (v := vR _ _) ?_
          refine a_move (v := vI _) ?_
          refine a_ixR (el := c2 (rd2 x0 x7)) ?_ ⟨hc6, hc7⟩ T2 Tryz.underlying29 (hel := R2 hc6 hc7)
          refine a_ldR (v := vI _) ?_ T2
          refine a_lit (cs := [_]) (D := []) (css := ([(rd2 x0 x7)]).map c2) 206 ?_ N29 T2
          by_cases hc11 : y10.length < 17592186044416
          ·rw [if_pos hc11] at H
           refine a_appO (css' := (y10 ++ [(rd2 x0 x7)]).map c2) (n' := (y10 ++ [(rd2 x0 x7)]).length) ?_ T2 (by simp [maxLen]; omega) (by simp; omega) Tryz.underlying29 (hc := by exact List.map_append.symm) (hn := by exact List.length_map _)
           refine a_move (v := .c (.own _ _)) ?_
           refine RA.nil nofun ?_
           refine AG.region HM ?_
           refine a_move (v := vI _) ?_
           refine a_int (u := .int .i64 (wrap64 (x7 + 1))) ?_
           refine a_move (v := vI _) ?_
           refine RA.nil nofun ?_
           exact AGr.canon (fun κ => cond (Nat.beq κ 202) 204 (κ)) (ih0 _ (by omega) _ ⟨by omega, _, _, _, _, _, H, rfl⟩) ⟨rfl, rfl, rfl, rfl, rfl, trivial⟩ ⟨rfl, trivial⟩ rfl
          ·rw [if_neg hc11] at H
           cases H
         ·rw [if_neg hc9] at H
          cases H
        ·rw [if_neg hc8] at H
         refine AG.no rfl (decide_eq_false hc8) ?_
         refine AG.skip ?_
         refine AG.region HM ?_
         refine a_move (v := .c (.own _ _)) ?_
         refine a_move (v := vR _ _) ?_
         refine a_move (v := vI _) ?_
         refine a_ixR (el := c2 (rd2 x0 x7)) ?_ ⟨hc6, hc7⟩ T2 Tryz.underlying29 (hel := R2 hc6 hc7)
         refine a_ldR (v := vI _) ?_ T2
         refine a_lit (cs := [_]) (D := []) (css := ([(rd2 x0 x7)]).map c2) 206 ?_ N29 T2
         by_cases hc13 : x5.length < 17592186044416
         ·rw [if_pos hc13] at H
          refine a_appO (css' := (x5 ++ [(rd2 x0 x7)]).map c2) (n' := (x5 ++ [(rd2 x0 x7)]).length) ?_ T2 (by simp [maxLen]; omega) (by simp; omega) Tryz.underlying29 (hc := by exact List.map_append.symm) (hn := by exact List.length_map _)
          refine a_move (v := .c (.own _ _)) ?_
          refine RA.nil nofun ?_
          refine AG.region HM ?_
          refine a_move (v := vI _) ?_
          refine a_int (u := .int .i64 (wrap64 (x7 + 1))) ?_
          refine a_move (v := vI _) ?_
          refine RA.nil nofun ?_
          exact AGr.canon (fun κ => cond (Nat.beq κ 202) 204 (κ)) (ih0 _ (by omega) _ ⟨by omega, _, _, _, _, _, H, rfl⟩) ⟨rfl, rfl, rfl, rfl, rfl, trivial⟩ ⟨rfl, trivial⟩ rfl
         ·rw [if_neg hc13] at H
          cases H
       ·rw [if_neg hc7] at H
        cases H
      ·rw [if_neg hc6] at H
       cases H
     ·rw [if_neg hc5] at H
      refine AG.no rfl (Bool.eq_false_iff.2 hc5) ?_
      refine AG.skip ?_
      refine AG.region HM ?_
      refine a_move (v := .c (.own _ _)) ?_
      refine a_move (v := vR _ _) ?_
      refine a_move (v := vI _) ?_
      by_cases hc15 : 0 ≤ x7
      ·rw [if_pos hc15] at H
       by_cases hc16 : x7 < (x0.length : Int)
       ·rw [if_pos hc16] at H
        refine a_ixR (el := c2 (rd2 x0 x7)) ?_ ⟨hc15, hc16⟩ T2 Tryz.underlying29 (hel := R2 hc15 hc16)
        refine a_ldR (v := vI _) ?_ T2
        refine a_lit (cs := [_]) (D := []) (css := ([(rd2 x0 x7)]).map c2) 206 ?_ N29 T2
        by_cases hc17 : x5.length < 17592186044416
        ·rw [if_pos hc17] at H
         refine a_appO (css' := (x5 ++ [(rd2 x0 x7)]).map c2) (n' := (x5 ++ [(rd2 x0 x7)]).length) ?_ T2 (by simp [maxLen]; omega) (by simp; omega) Tryz.underlying29 (hc := by exact List.map_append.symm) (hn := by exact List.length_map _)
         refine a_move (v := .c (.own _ _)) ?_
         refine RA.nil nofun ?_
         refine AG.region HM ?_
         refine a_move (v := vI _) ?_
         refine a_int (u := .int .i64 (wrap64 (x7 + 1))) ?_
         refine a_move (v := vI _) ?_
         refine RA.nil nofun ?_
         exact AGr.canon (fun κ => cond (Nat.beq κ 202) 204 (κ)) (ih0 _ (by omega) _ ⟨by omega, _, _, _, _, _, H, rfl⟩) ⟨rfl, rfl, rfl, rfl, rfl, trivial⟩ ⟨rfl, trivial⟩ rfl
        ·rw [if_neg hc17] at H
         cases H
       ·rw [if_neg hc16] at H
        cases H
      ·rw [if_neg hc15] at H
       cases H
  ·rw [if_neg hc2] at H
   refine AG.no rfl (decide_eq_false hc2) ?_
   refine AG.exit ?_
   refine AG.seq ?_
   refine AG.seq ?_
   refine AG.region HM ?_
   refine a_move (v := vB _) ?_
   refine a_un (u := .bool (!x6)) ?_
   refine RA.nil nofun ?_
   by_cases hc19 : x6 = true
   ·rw [if_pos hc19] at H
    refine AG.no rfl (congrArg Bool.not hc19) ?_
    refine AG.skip ?_
    refine AG.seq ?_
    refine AG.region HM ?_
    refine a_move (v := .c (.own _ _)) ?_
    refine a_move (v := .c (.own _ _)) ?_
    refine RA.nil nofun ?_
    refine AG.ret ?_
    obtain rfl := Option.some.inj H
    exact RetP.mk (fun κ => cond (Nat.beq κ 100) 202 (κ)) ⟨rfl, trivial⟩ ⟨rfl, trivial⟩ rfl
   ·rw [if_neg hc19] at H
    refine AG.yes rfl (congrArg Bool.not (Bool.eq_false_iff.2 hc19)) ?_
    refine AG.region HM ?_
    refine a_move (v := .c (.own _ _)) ?_
    refine a_move (v := vI _) ?_
    refine a_lit (cs := [_]) (D := []) (css := ([x1]).map c2) 203 ?_ N29 T2
    by_cases hc20 : x5.length < 17592186044416
    ·rw [if_pos hc20] at H
     refine a_appO (css' := (x5 ++ [x1]).map c2) (n' := (x5 ++ [x1]).length) ?_ T2 (by simp [maxLen]; omega) (by simp; omega) Tryz.underlying29 (hc := by exact List.map_append.symm) (hn := by exact List.length_map _)
     refine a_move (v := .c (.own _ _)) ?_
     refine RA.nil nofun ?_
     refine AG.seq ?_
     refine AG.region HM ?_
     refine a_move (v := .c (.own _ _)) ?_
     refine a_move (v := .c (.own _ _)) ?_
     refine RA.nil nofun ?_
     refine AG.ret ?_
     obtain rfl := Option.some.inj H
     exact RetP.mk (fun κ => cond (Nat.beq κ 100) 202 (κ)) ⟨rfl, trivial⟩ ⟨rfl, trivial⟩ rfl
    ·rw [if_neg hc20] at H
     cases H
/-! ### spec_l05Polygon: function 73 -/
def spec_l05Polygon.f (k : Nat) (a0_0 : Int) (a0_1 : Int) (l0_2 : List S159) (l0_3 : List S146) (a1 : Int) : Option ((List S159)) := if 0 ≤ a1 then (if a1 < (l0_3.length : Int) then ((spec_l05Ring.f k a0_0 a0_1 l0_2 l0_3 ((rd146 l0_3 a1).f1)).bind fun bt3 => (some bt3.1)) else (none)) else (none)
set_option maxRecDepth 100000 in
theorem spec_l05Polygon.ok {k : Nat} {a0_0 : Int} {a0_1 : Int} {l0_2 : List S159} {l0_3 : List S146} {a1 : Int} {r : List S159} (H : spec_l05Polygon.f k a0_0 a0_1 l0_2 l0_3 a1 = some r) : OkF Tryz.prog 73 [.c (.d (.ro [.v (.int .i64 a0_0), .v (.int .i64 a0_1), .row 160 (l0_2.map c159), .row 152 (l0_3.map c146)])), vI a1] [] (.c (.own 100 r.length)) [(100, .row 160 (r.map c159))] := by
 unfold spec_l05Polygon.f at H
 refine OkF.of (N := 21) (rs := [4]) (avs := [.c (.own 100 r.length)]) Tryz.func73 rfl rfl (fun _ _ => results_tmp rfl _ _ _) (by decide) rfl rfl rfl rfl (fun w0 S => ?_)
 refine AG.seq ?_
 refine AG.region HM ?_
 refine a_nilO (e := 160) 200 ?_ T160
 refine RA.nil nofun ?_
 refine AG.seq ?_
 refine AG.region HM ?_
 refine a_move (v := vO [_, _, _, _]) ?_
 refine a_move (v := vO [_, _, _, _]) ?_
 refine a_nil (v := vO [_, _, _, _]) ?_
 refine a_faR (cells' := [_]) ?_ D35_3
 refine a_ldR (v := vR _ _) ?_ T33
 refine a_move (v := vI _) ?_
 by_cases hc1 : 0 ≤ a1
 ·rw [if_pos hc1] at H
  by_cases hc2 : a1 < (l0_3.length : Int)
  ·rw [if_pos hc2] at H
   refine a_ixR (el := c146 (rd146 l0_3 a1)) ?_ ⟨hc1, hc2⟩ T152 Tryz.underlying33 (hel := R146 hc1 hc2)
   refine a_faR (cells' := [_]) ?_ D152_1
   refine a_ldR (v := vR _ _) ?_ T29
   obtain ⟨⟨t3, t4⟩, e5, H⟩ := bindO H
   refine a_call (v := .tup [.c (.own 201 t3.length), .c (.d (.v (.bool t4)))]) (nk := [(201, .row 160 (t3.map c159))]) (L := []) ?_ rfl (spec_l05Ring.ok e5) (fun κ => cond (Nat.beq κ 201) 100 (κ)) (qd (qd qn)) trivial ⟨rfl, trivial⟩ ⟨rfl, trivial⟩ rfl
   refine a_move (v := .tup [_, _]) ?_
   refine a_ext (v := .c (.own _ _)) ?_
   refine a_ext (v := vB _) ?_
   refine a_move (v := .c (.own _ _)) ?_
   refine a_move (v := vB _) ?_
   refine RA.nil nofun ?_
   refine AG.seq ?_
   refine AG.region HM ?_
   refine a_move (v := .c (.own _ _)) ?_
   refine a_move (v := .c (.own _ _)) ?_
   refine RA.nil nofun ?_
   refine AG.ret ?_
   obtain rfl := Option.some.inj H
   exact RetP.mk (fun κ => cond (Nat.beq κ 100) 201 (κ)) ⟨rfl, trivial⟩ ⟨rfl, trivial⟩ rfl
  ·rw [if_neg hc2] at H
   cases H
 ·rw [if_neg hc1] at H
  cases H
/-! ### spec_WasteOf: function 28 -/
mutual
def spec_WasteOf.j0 : Nat → List S94 → List S115 → Int → Int → List S159 → List S146 → Bool → Option (Int × Int)
 | 0, _, _, _, _, _, _, _ => none
 | k + 1, x1, x2, y204_0, y204_1, y204_2, y204_3, x23 => if x23 = true then (some (0, 1)) else (spec_WasteOf.l0 k x1 x2 y204_0 y204_1 y204_2 y204_3 (([] : List Int) : List Int) 0 0)
def spec_WasteOf.j1 : Nat → List S94 → List Int → Int → Option (Int × Int)
 | 0, _, _, _ => none
 | k + 1, x1, x8, x9 => spec_WasteOf.l1 k x1 x8 x9 0
def spec_WasteOf.l0 : Nat → List S94 → List S115 → Int → Int → List S159 → List S146 → List Int → Int → Int → Option (Int × Int)
 | 0, _, _, _, _, _, _, _, _, _ => none
 | k + 1, x1, x2, y206_0, y206_1, y206_2, y206_3, x8, x9, x10 => if x10 < (x2.length : Int) then (if 0 ≤ x10 then ((spec_l05Face.f y206_0 y206_1 y206_2 y206_3 ((rd115 x2 x10).f0)).bind fun t13 => (if t13 = true then (spec_WasteOf.j2 k x1 x2 y206_0 y206_1 y206_2 y206_3 x8 x9 x10 (decide (((rd115 x2 x10).f1) ≥ (x1.length : Int)))) else (spec_WasteOf.j2 k x1 x2 y206_0 y206_1 y206_2 y206_3 x8 x9 x10 true))) else (none)) else (spec_WasteOf.j1 k x1 x8 x9)
def spec_WasteOf.j2 : Nat → List S94 → List S115 → Int → Int → List S159 → List S146 → List Int → Int → Int → Bool → Option (Int × Int)
 | 0, _, _, _, _, _, _, _, _, _, _ => none
 | k + 1, x1, x2, y214_0, y214_1, y214_2, y214_3, x8, x9, x10, x48 => if x48 = true then (some (0, 2)) else (if 0 ≤ x10 then (if x10 < (x2.length : Int) then ((spec_l00Put.f k x8 ((rd115 x2 x10).f1)).bind fun t19 => ((spec_l05Polygon.f k y214_0 y214_1 y214_2 y214_3 ((rd115 x2 x10).f0)).bind fun t21 => ((spec_l03Area.f k t21).bind fun t23 => (spec_WasteOf.l0 k x1 x2 y214_0 y214_1 y214_2 y214_3 t19 (wrap64 (x9 - t23)) (wrap64 (x10 + 1)))))) else (none)) else (none))
def spec_WasteOf.l1 : Nat → List S94 → List Int → Int → Int → Option (Int × Int)
 | 0, _, _, _, _ => none
 | k + 1, x1, x8, x9, x11 => if x11 < (x8.length : Int) then (if 0 ≤ x11 then (if 0 ≤ (rd2 x8 x11) then (if (rd2 x8 x11) < (x1.length : Int) then (spec_WasteOf.l1 k x1 x8 (wrap64 (x9 + (wrap64 ((wrap64 (2 * ((rd94 x1 (rd2 x8 x11)).f4))) * ((rd94 x1 (rd2 x8 x11)).f5))))) (wrap64 (x11 + 1))) else (none)) else (none)) else (none)) else (some (x9, 0))
end
def spec_WasteOf.f (k : Nat) (a0_0 : Int) (a0_1 : Int) (l0_2 : List S159) (l0_3 : List S146) (l0_4 : List S81) (l1 : List S94) (l2 : List S115) : Option (Int × Int) := (spec_l08Ok.f k a0_0 a0_1 l0_2 l0_3 l0_4).bind fun t1 => (if t1 = true then ((spec_l09Ok.f k l1).bind fun t4 => (if t4 = true then ((spec_l11Ok.f k l2).bind fun t7 => (spec_WasteOf.j0 k l1 l2 a0_0 a0_1 l0_2 l0_3 (!t7))) else (spec_WasteOf.j0 k l1 l2 a0_0 a0_1 l0_2 l0_3 true))) else (spec_WasteOf.j0 k l1 l2 a0_0 a0_1 l0_2 l0_3 true))
set_option maxRecDepth 100000 in
theorem spec_WasteOf.ok {k : Nat} {a0_0 : Int} {a0_1 : Int} {l0_2 : List S159} {l0_3 : List S146} {l0_4 : List S81} {l1 : List S94} {l2 : List S115} {r0 : Int} {r1 : Int} (H : spec_WasteOf.f k a0_0 a0_1 l0_2 l0_3 l0_4 l1 l2 = some (r0, r1)) : OkF Tryz.prog 28 [.agg [.d (.v (.int .i64 a0_0)), .d (.v (.int .i64 a0_1)), .d (.row 160 (l0_2.map c159)), .d (.row 152 (l0_3.map c146)), .d (.row 92 (l0_4.map c81))], vR 95 (l1.map c94), vR 116 (l2.map c115)] [] (.tup [.c (.d (.v (.int .i64 r0))), .c (.d (.v (.int .i64 r1)))]) [] := by
 unfold spec_WasteOf.f at H
 refine OkF.of (N := 93) (rs := [6, 7]) (avs := [.c (.d (.v (.int .i64 r0))), .c (.d (.v (.int .i64 r1)))]) Tryz.func28 rfl rfl (fun _ _ => results_tmp2 rfl _ _ _) (by decide) rfl rfl rfl rfl (fun w0 S => ?_)
 refine AG.seq ?_
 refine AG.region HM ?_
 refine a_box 200 ?_
 refine a_move (v := vI _) ?_
 refine a_move (v := vI _) ?_
 refine RA.nil nofun ?_
 refine AG.seq ?_
 refine AG.seq ?_
 refine AG.joinR (fun s => ∃ q, q ≤ k ∧ ∃ (x1 : List S94) (x2 : List S115) (y204_0 : Int) (y204_1 : Int) (y204_2 : List S159) (y204_3 : List S146) (y204_4 : List S81) (x23 : Bool), spec_WasteOf.j0 q x1 x2 y204_0 y204_1 y204_2 y204_3 x23 = some (r0, r1) ∧ s = St.of [(1, vR 95 (x1.map c94)), (2, vR 116 (x2.map c115)), (3, .c (.ptr 204 0)), (23, vB x23)] [(204, .box 58 [.d (.v (.int .i64 y204_0)), .d (.v (.int .i64 y204_1)), .d (.row 160 (y204_2.map c159)), .d (.row 152 (y204_3.map c146)), .d (.row 92 (y204_4.map c81))])]) ?_ ?_
 ·skip
  refine AG.region HM ?_
  obtain ⟨t1, e2, H⟩ := bindO H
  refine a_call (v := vB t1) (nk := []) (L := [(200, _)]) ?_ rfl (spec_l08Ok.ok e2) id (qc (rP (pD (pD (pD (pD (pD p0)))))) qn) ⟨rfl, trivial⟩ trivial trivial rfl
  refine a_un (u := .bool (!t1)) ?_
  refine a_move (v := vB _) ?_
  by_cases hc3 : t1 = true
  ·rw [if_pos hc3] at H
   refine a_move (v := vR _ _) ?_ (hg := Gs.yes rfl rfl rfl (congrArg Bool.not hc3))
   obtain ⟨t4, e5, H⟩ := bindO H
   refine a_call (v := vB t4) (nk := []) (L := []) ?_ rfl (spec_l09Ok.ok e5) id (qd qn) trivial trivial trivial rfl (hg := Gs.yes rfl rfl rfl (congrArg Bool.not hc3))
   refine a_un (u := .bool (!t4)) ?_ (hg := Gs.yes rfl rfl rfl (congrArg Bool.not hc3))
   refine a_pick (b := false) (v := vB _) ?_ (congrArg Bool.not hc3)
   refine a_move (v := vB _) ?_
   by_cases hc6 : t4 = true
   ·rw [if_pos hc6] at H
    refine a_move (v := vR _ _) ?_ (hg := Gs.yes rfl rfl rfl (congrArg Bool.not hc6))
    obtain ⟨t7, e8, H⟩ := bindO H
    refine a_call (v := vB t7) (nk := []) (L := []) ?_ rfl (spec_l11Ok.ok e8) id (qd qn) trivial trivial trivial rfl (hg := Gs.yes rfl rfl rfl (congrArg Bool.not hc6))
    refine a_un (u := .bool (!t7)) ?_ (hg := Gs.yes rfl rfl rfl (congrArg Bool.not hc6))
    refine a_pick (b := false) (v := vB _) ?_ (congrArg Bool.not hc6)
    refine RA.nil nofun ?_
    exact CanR.mk (fun κ => cond (Nat.beq κ 204) 200 (κ)) ⟨_, (by omega), _, _, _, _, _, _, _, _, H, rfl⟩ ⟨rfl, rfl, rfl, rfl, trivial⟩ ⟨rfl, trivial⟩ rfl
   ·rw [if_neg hc6] at H
    refine RA.skip rfl rfl rfl rfl rfl (congrArg Bool.not (Bool.eq_false_iff.2 hc6)) (by decide) ?_
    refine RA.skip rfl rfl rfl rfl rfl (congrArg Bool.not (Bool.eq_false_iff.2 hc6)) (by decide) ?_
    refine RA.skip rfl rfl rfl rfl rfl (congrArg Bool.not (Bool.eq_false_iff.2 hc6)) (by decide) ?_
    refine a_pick (b := true) (v := vB _) ?_ (congrArg Bool.not (Bool.eq_false_iff.2 hc6))
    refine RA.nil nofun ?_
    exact CanR.mk (fun κ => cond (Nat.beq κ 204) 200 (κ)) ⟨_, (by omega), _, _, _, _, _, _, _, _, H, rfl⟩ ⟨rfl, rfl, rfl, rfl, trivial⟩ ⟨rfl, trivial⟩ rfl
  ·rw [if_neg hc3] at H
   refine RA.skip rfl rfl rfl rfl rfl (congrArg Bool.not (Bool.eq_false_iff.2 hc3)) (by decide) ?_
   refine RA.skip rfl rfl rfl rfl rfl (congrArg Bool.not (Bool.eq_false_iff.2 hc3)) (by decide) ?_
   refine RA.skip rfl rfl rfl rfl rfl (congrArg Bool.not (Bool.eq_false_iff.2 hc3)) (by decide) ?_
   refine a_pick (b := true) (v := vB _) ?_ (congrArg Bool.not (Bool.eq_false_iff.2 hc3))
   refine a_move (v := vB _) ?_
   refine RA.skip rfl rfl rfl rfl rfl rfl (by decide) ?_
   refine RA.skip rfl rfl rfl rfl rfl rfl (by decide) ?_
   refine RA.skip rfl rfl rfl rfl rfl rfl (by decide) ?_
   refine a_pick (b := true) (v := vB _) ?_ rfl
   refine RA.nil nofun ?_
   exact CanR.mk (fun κ => cond (Nat.beq κ 204) 200 (κ)) ⟨_, (by omega), _, _, _, _, _, _, _, _, H, rfl⟩ ⟨rfl, rfl, rfl, rfl, trivial⟩ ⟨rfl, trivial⟩ rfl
 ·clear H
  rintro _ ⟨k, hj0, x1, x2, y204_0, y204_1, y204_2, y204_3, y204_4, x23, H, rfl⟩
  cases k with
  | zero => cases H
  | succ k =>
   rw [spec_WasteOf.j0] at H
   by_cases hc9 : x23 = true
   ·rw [if_pos hc9] at H
    refine AG.yes rfl hc9 ?_
    refine AG.seq ?_
    refine AG.region HM ?_
    refine a_move (v := vI _) ?_
    refine a_move (v := vI _) ?_
    refine RA.nil nofun ?_
    refine AG.ret ?_
    simp only [Option.some.injEq, Prod.mk.injEq] at H
    obtain ⟨rfl, rfl⟩ := H
    exact RetP.mk id ⟨rfl, rfl, trivial⟩ trivial rfl
   ·rw [if_neg hc9] at H
    refine AG.no rfl (Bool.eq_false_iff.2 hc9) ?_
    refine AG.skip ?_
    refine AG.seq ?_
    refine AG.region HM ?_
    refine a_lit (cs := []) (D := []) (css := (([] : List Int) : List Int).map c2) 205 ?_ N29 T2 (hcss := by rfl)
    refine a_move (v := .c (.own _ _)) ?_
    refine RA.nil nofun ?_
    refine AG.seq ?_
    refine AG.region HM ?_
    refine a_move (v := vI _) ?_
    refine RA.nil nofun ?_
    refine AG.seq ?_
    refine AG.seq ?_
    refine AG.region HM ?_
    refine a_move (v := vI _) ?_
    refine RA.nil nofun ?_
    refine AG.joinR (fun s => ∃ q, q ≤ k ∧ ∃ (x1 : List S94) (x8 : List Int) (x9 : Int), spec_WasteOf.j1 q x1 x8 x9 = some (r0, r1) ∧ s = St.of [(1, vR 95 (x1.map c94)), (8, .c (.own 210 x8.length)), (9, vI x9)] [(210, .row 2 (x8.map c2))]) ?_ ?_
    ·skip
     refine AG.block ?_
     refine AG.loop ?_
     obtain ⟨K0, hK0, gK0⟩ : ∃ K, k ≤ K ∧ K ≤ k := ⟨k, Nat.le_refl k, Nat.le_refl k⟩
     refine AGr.canon (fun κ => cond (Nat.beq κ 206) 204 (cond (Nat.beq κ 207) 205 (κ))) (AGr.loopI (n := k) (fun k s => k ≤ K0 ∧ ∃ (x1 : List S94) (x2 : List S115) (y206_0 : Int) (y206_1 : Int) (y206_2 : List S159) (y206_3 : List S146) (y206_4 : List S81) (x8 : List Int) (x9 : Int) (x10 : Int), spec_WasteOf.l0 k x1 x2 y206_0 y206_1 y206_2 y206_3 x8 x9 x10 = some (r0, r1) ∧ s = St.of [(1, vR 95 (x1.map c94)), (2, vR 116 (x2.map c115)), (3, .c (.ptr 206 0)), (8, .c (.own 207 x8.length)), (9, vI x9), (10, vI x10)] [(206, .box 58 [.d (.v (.int .i64 y206_0)), .d (.v (.int .i64 y206_1)), .d (.row 160 (y206_2.map c159)), .d (.row 152 (y206_3.map c146)), .d (.row 92 (y206_4.map c81))]), (207, .row 2 (x8.map c2))]) ⟨hK0, _, _, _, _, _, _, _, _, _, _, H, rfl⟩ ?_ ?_) ⟨rfl, rfl, rfl, (ownE rfl (by simp)), rfl, rfl, trivial⟩ ⟨rfl, rfl, trivial⟩ rfl
     ·rintro _ ⟨_, _, _, _, _, _, _, _, _, _, _, H, _⟩
      cases H
     ·clear H hK0
      rintro k ih0 _ ⟨hK0, x1, x2, y206_0, y206_1, y206_2, y206_3, y206_4, x8, x9, x10, H, rfl⟩
      unfold spec_WasteOf.l0 at H
      refine AG.seq ?_
      refine AG.seq ?_
      refine AG.region HM ?_
      refine a_move (v := vI _) ?_
      refine a_move (v := vR _ _) ?_
      refine a_lenR ?_ Tryz.underlying60
      refine a_int (u := .bool (decide (x10 < (x2.length : Int)))) ?_
      refine RA.nil nofun ?_
      by_cases hc11 : x10 < (x2.length : Int)
      ·rw [if_pos hc11] at H
       refine AG.yes rfl (decide_eq_true hc11) ?_
       refine AG.skip ?_
       refine AG.seq ?_
       refine AG.block ?_
       refine AG.seq ?_
       refine AG.seq ?_
       refine AG.joinR (fun s => ∃ q, q ≤ k ∧ ∃ (x1 : List S94) (x2 : List S115) (y214_0 : Int) (y214_1 : Int) (y214_2 : List S159) (y214_3 : List S146) (y214_4 : List S81) (x8 : List Int) (x9 : Int) (x10 : Int) (x48 : Bool), spec_WasteOf.j2 q x1 x2 y214_0 y214_1 y214_2 y214_3 x8 x9 x10 x48 = some (r0, r1) ∧ s = St.of [(1, vR 95 (x1.map c94)), (2, vR 116 (x2.map c115)), (3, .c (.ptr 214 0)), (8, .c (.own 215 x8.length)), (9, vI x9), (10, vI x10), (48, vB x48)] [(214, .box 58 [.d (.v (.int .i64 y214_0)), .d (.v (.int .i64 y214_1)), .d (.row 160 (y214_2.map c159)), .d (.row 152 (y214_3.map c146)), .d (.row 92 (y214_4.map c81))]), (215, .row 2 (x8.map c2))]) ?_ ?_
       ·skip
        refine AG.region HM ?_
        refine a_faB (q := 0) ?_ D58_0
        refine a_move (v := vR _ _) ?_
        refine a_move (v := vI _) ?_
        by_cases hc12 : 0 ≤ x10
        ·rw [if_pos hc12] at H
         refine a_ixR (el := c115 (rd115 x2 x10)) ?_ ⟨hc12, hc11⟩ T116 Tryz.underlying60 (hel := R115 hc12 hc11)
         refine a_faR (cells' := [_, _, _, _, _]) ?_ D116_0
         refine a_ldR (v := vI _) ?_ T2
         obtain ⟨t13, e14, H⟩ := bindO H
         refine a_call (v := vB t13) (nk := []) (L := [(206, _)]) ?_ rfl (spec_l05Face.ok e14) id (qc (rP (pD (pD (pD (pD p0))))) (qd qn)) ⟨rfl, trivial⟩ trivial trivial rfl
         refine a_un (u := .bool (!t13)) ?_
         refine a_move (v := vB _) ?_
         by_cases hc15 : t13 = true
         ·rw [if_pos hc15] at H
          refine a_move (v := vR _ _) ?_ (hg := Gs.yes rfl rfl rfl (congrArg Bool.not hc15))
          refine a_move (v := vI _) ?_ (hg := Gs.yes rfl rfl rfl (congrArg Bool.not hc15))
          refine a_ixR (el := c115 (rd115 x2 x10)) ?_ ⟨hc12, hc11⟩ T116 Tryz.underlying60 (hel := R115 hc12 hc11) (hg := Gs.yes rfl rfl rfl (congrArg Bool.not hc15))
          refine a_faR (cells' := [_, _, _, _]) ?_ D116_1 (hg := Gs.yes rfl rfl rfl (congrArg Bool.not hc15))
          refine a_ldR (v := vI _) ?_ T2 (hg := Gs.yes rfl rfl rfl (congrArg Bool.not hc15))
          refine a_move (v := vR _ _) ?_ (hg := Gs.yes rfl rfl rfl (congrArg Bool.not hc15))
          refine a_lenR ?_ Tryz.underlying37 (hg := Gs.yes rfl rfl rfl (congrArg Bool.not hc15))
          refine a_int (u := .bool (decide (((rd115 x2 x10).f1) ≥ (x1.length : Int)))) ?_ (hg := Gs.yes rfl rfl rfl (congrArg Bool.not hc15))
          refine a_pick (b := false) (v := vB _) ?_ (congrArg Bool.not hc15)
          refine RA.nil nofun ?_
          exact CanR.mk (fun κ => cond (Nat.beq κ 214) 206 (cond (Nat.beq κ 215) 207 (κ))) ⟨_, (by omega), _, _, _, _, _, _, _, _, _, _, _, H, rfl⟩ ⟨rfl, rfl, rfl, rfl, rfl, rfl, rfl, trivial⟩ ⟨rfl, rfl, trivial⟩ rfl
         ·rw [if_neg hc15] at H
          refine RA.skip rfl rfl rfl rfl rfl (congrArg Bool.not (Bool.eq_false_iff.2 hc15)) (by decide) ?_
          refine RA.skip rfl rfl rfl rfl rfl (congrArg Bool.not (Bool.eq_false_iff.2 hc15)) (by decide) ?_
          refine RA.skip rfl rfl rfl rfl rfl (congrArg Bool.not (Bool.eq_false_iff.2 hc15)) (by decide) ?_
          refine RA.skip rfl rfl rfl rfl rfl (congrArg Bool.not (Bool.eq_false_iff.2 hc15)) (by decide) ?_
          refine RA.skip rfl rfl rfl rfl rfl (congrArg Bool.not (Bool.eq_false_iff.2 hc15)) (by decide) ?_
          refine RA.skip rfl rfl rfl rfl rfl (congrArg Bool.not (Bool.eq_false_iff.2 hc15)) (by decide) ?_
          refine RA.skip rfl rfl rfl rfl rfl (congrArg Bool.not (Bool.eq_false_iff.2 hc15)) (by decide) ?_
          refine RA.skip rfl rfl rfl rfl rfl (congrArg Bool.not (Bool.eq_false_iff.2 hc15)) (by decide) ?_
          refine a_pick (b := true) (v := vB _) ?_ (congrArg Bool.not (Bool.eq_false_iff.2 hc15))
          refine RA.nil nofun ?_
          exact CanR.mk (fun κ => cond (Nat.beq κ 214) 206 (cond (Nat.beq κ 215) 207 (κ))) ⟨_, (by omega), _, _, _, _, _, _, _, _, _, _, _, H, rfl⟩ ⟨rfl, rfl, rfl, rfl, rfl, rfl, rfl, trivial⟩ ⟨rfl, rfl, trivial⟩ rfl
        ·rw [if_neg hc12] at H
         cases H
       ·clear H
        rintro _ ⟨k, hj2, x1, x2, y214_0, y214_1, y214_2, y214_3, y214_4, x8, x9, x10, x48, H, rfl⟩
        cases k with
        | zero => cases H
        | succ k =>
         rw [spec_WasteOf.j2] at H
         by_cases hc16 : x48 = true
         ·rw [if_pos hc16] at H
          refine AG.yes rfl hc16 ?_
          refine AG.seq ?_
          refine AG.region HM ?_
          refine a_move (v := vI _) ?_
          refine a_move (v := vI _) ?_
          refine RA.nil nofun ?_
          refine AG.ret ?_
          simp only [Option.some.injEq, Prod.mk.injEq] at H
          obtain ⟨rfl, rfl⟩ := H
          exact RetP.mk id ⟨rfl, rfl, trivial⟩ trivial rfl
         ·rw [if_neg hc16] at H
          refine AG.no rfl (Bool.eq_false_iff.2 hc16) ?_
          refine AG.skip ?_
          refine AG.seq ?_
          refine AG.region HM ?_
          refine a_move (v := .c (.own _ _)) ?_
          refine a_move (v := vR _ _) ?_
          refine a_move (v := vI _) ?_
          by_cases hc17 : 0 ≤ x10
          ·rw [if_pos hc17] at H
           by_cases hc18 : x10 < (x2.length : Int)
           ·rw [if_pos hc18] at H
            refine a_ixR (el := c115 (rd115 x2 x10)) ?_ ⟨hc17, hc18⟩ T116 Tryz.underlying60 (hel := R115 hc17 hc18)
            refine a_faR (cells' := [_, _, _, _]) ?_ D116_1
            refine a_ldR (v := vI _) ?_ T2
            obtain ⟨t19, e20, H⟩ := bindO H
            refine a_call (v := .c (.own 211 t19.length)) (nk := [(211, .row 2 (t19.map c2))]) (L := [(215, _)]) ?_ rfl (spec_l00Put.ok e20) (fun κ => cond (Nat.beq κ 211) 100 (κ)) (qc rO (qd qn)) ⟨rfl, trivial⟩ ⟨rfl, trivial⟩ ⟨rfl, trivial⟩ rfl
            refine a_move (v := .c (.own _ _)) ?_
            refine RA.nil nofun ?_
            refine AG.region HM ?_
            refine a_move (v := vI _) ?_
            refine a_faB (q := 0) ?_ D58_0
            refine a_move (v := vR _ _) ?_
            refine a_move (v := vI _) ?_
            refine a_ixR (el := c115 (rd115 x2 x10)) ?_ ⟨hc17, hc18⟩ T116 Tryz.underlying60 (hel := R115 hc17 hc18)
            refine a_faR (cells' := [_, _, _, _, _]) ?_ D116_0
            refine a_ldR (v := vI _) ?_ T2
            obtain ⟨t21, e22, H⟩ := bindO H
            refine a_call (v := .c (.own 212 t21.length)) (nk := [(212, .row 160 (t21.map c159))]) (L := [(214, _)]) ?_ rfl (spec_l05Polygon.ok e22) (fun κ => cond (Nat.beq κ 212) 100 (κ)) (qc (rP (pD (pD (pD (pD p0))))) (qd qn)) ⟨rfl, trivial⟩ ⟨rfl, trivial⟩ ⟨rfl, trivial⟩ rfl
            obtain ⟨t23, e24, H⟩ := bindO H
            refine a_call (v := vI t23) (nk := []) (L := [(212, _)]) ?_ rfl (spec_l03Area.ok e24) id (qc rO qn) ⟨rfl, trivial⟩ trivial trivial rfl
            refine a_int (u := .int .i64 (wrap64 (x9 - t23))) ?_
            refine a_move (v := vI _) ?_
            refine RA.nil nofun ?_
            refine AG.region HM ?_
            refine a_move (v := vI _) ?_
            refine a_int (u := .int .i64 (wrap64 (x10 + 1))) ?_
            refine a_move (v := vI _) ?_
            refine RA.nil nofun ?_
            exact AGr.canon (fun κ => cond (Nat.beq κ 206) 214 (cond (Nat.beq κ 207) 211 (κ))) (ih0 _ (by omega) _ ⟨by omega, _, _, _, _, _, _, _, _, _, _, H, rfl⟩) ⟨rfl, rfl, rfl, rfl, rfl, rfl, trivial⟩ ⟨rfl, rfl, trivial⟩ rfl
           ·rw [if_neg hc18] at H
            cases H
          ·rw [if_neg hc17] at H
           cases H
      ·rw [if_neg hc11] at H
       refine AG.no rfl (decide_eq_false hc11) ?_
       refine AG.exit ?_
       exact CanR.mk (fun κ => cond (Nat.beq κ 210) 207 (κ)) ⟨_, (by omega), _, _, _, H, rfl⟩ ⟨rfl, rfl, rfl, trivial⟩ ⟨rfl, trivial⟩ rfl
    ·clear H
     rintro _ ⟨k, hj1, x1, x8, x9, H, rfl⟩
     cases k with
     | zero => cases H
     | succ k =>
      rw [spec_WasteOf.j1] at H
      refine AG.seq ?_
      refine AG.seq ?_
      refine AG.region HM ?_
      refine a_move (v := vI _) ?_
      refine RA.nil nofun ?_
      refine AG.block ?_
      refine AG.loop ?_
      obtain ⟨K1, hK1, gK1⟩ : ∃ K, k ≤ K ∧ K ≤ k := ⟨k, Nat.le_refl k, Nat.le_refl k⟩
      refine AGr.canon (fun κ => cond (Nat.beq κ 216) 210 (κ)) (AGr.loopI (n := k) (fun k s => k ≤ K1 ∧ ∃ (x1 : List S94) (x8 : List Int) (x9 : Int) (x11 : Int), spec_WasteOf.l1 k x1 x8 x9 x11 = some (r0, r1) ∧ s = St.of [(1, vR 95 (x1.map c94)), (8, .c (.own 216 x8.length)), (9, vI x9), (11, vI x11)] [(216, .row 2 (x8.map c2))]) ⟨hK1, _, _, _, _, H, rfl⟩ ?_ ?_) ⟨rfl, rfl, rfl, rfl, trivial⟩ ⟨rfl, trivial⟩ rfl
      ·rintro _ ⟨_, _, _, _, _, H, _⟩
       cases H
      ·clear H hK1
       rintro k ih1 _ ⟨hK1, x1, x8, x9, x11, H, rfl⟩
       unfold spec_WasteOf.l1 at H
       refine AG.seq ?_
       refine AG.seq ?_
       refine AG.region HM ?_
       refine a_move (v := vI _) ?_
       refine a_move (v := .c (.own _ _)) ?_
       refine a_lenO ?_ Tryz.underlying29
       refine a_int (u := .bool (decide (x11 < (x8.length : Int)))) ?_
       refine RA.nil nofun ?_
       by_cases hc25 : x11 < (x8.length : Int)
       ·rw [if_pos hc25] at H
        refine AG.yes rfl (decide_eq_true hc25) ?_
        refine AG.skip ?_
        refine AG.seq ?_
        refine AG.block ?_
        refine AG.region HM ?_
        refine a_move (v := vI _) ?_
        refine a_move (v := vR _ _) ?_
        refine a_move (v := .c (.own _ _)) ?_
        refine a_move (v := vI _) ?_
        by_cases hc26 : 0 ≤ x11
        ·rw [if_pos hc26] at H
         refine a_ixO ?_ ⟨hc26, hc25⟩ T2 Tryz.underlying29
         refine a_ldE (v := vI _) ?_ (G2 hc26 hc25) T2
         by_cases hc27 : 0 ≤ (rd2 x8 x11)
         ·rw [if_pos hc27] at H
          by_cases hc28 : (rd2 x8 x11) < (x1.length : Int)
          ·rw [if_pos hc28] at H
           refine a_ixR (el := c94 (rd94 x1 (rd2 x8 x11))) ?_ ⟨hc27, hc28⟩ T95 Tryz.underlying37 (hel := R94 hc27 hc28)
           refine a_faR (cells' := [_, _, _]) ?_ D95_4
           refine a_ldR (v := vI _) ?_ T2
           refine a_int (u := .int .i64 (wrap64 (2 * ((rd94 x1 (rd2 x8 x11)).f4)))) ?_
           refine a_move (v := vR _ _) ?_
           refine a_move (v := .c (.own _ _)) ?_
           refine a_move (v := vI _) ?_
           refine a_ixO ?_ ⟨hc26, hc25⟩ T2 Tryz.underlying29
           refine a_ldE (v := vI _) ?_ (G2 hc26 hc25) T2
           refine a_ixR (el := c94 (rd94 x1 (rd2 x8 x11))) ?_ ⟨hc27, hc28⟩ T95 Tryz.underlying37 (hel := R94 hc27 hc28)
           refine a_faR (cells' := [_, _]) ?_ D95_5
           refine a_ldR (v := vI _) ?_ T2
           refine a_int (u := .int .i64 (wrap64 ((wrap64 (2 * ((rd94 x1 (rd2 x8 x11)).f4))) * ((rd94 x1 (rd2 x8 x11)).f5)))) ?_
           refine a_int (u := .int .i64 (wrap64 (x9 + (wrap64 ((wrap64 (2 * ((rd94 x1 (rd2 x8 x11)).f4))) * ((rd94 x1 (rd2 x8 x11)).f5)))))) ?_
           refine a_move (v := vI _) ?_
           refine RA.nil (fun _ => by kernel_rfl) ?_
           refine AG.region HM ?_
           refine a_move (v := vI _) ?_
           refine a_int (u := .int .i64 (wrap64 (x11 + 1))) ?_
           refine a_move (v := vI _) ?_
           refine RA.nil nofun ?_
           exact AGr.canon id (ih1 _ (by omega) _ ⟨by omega, _, _, _, _, H, rfl⟩) ⟨rfl, rfl, rfl, rfl, trivial⟩ ⟨rfl, trivial⟩ rfl
          ·rw [if_neg hc28] at H
           cases H
         ·rw [if_neg hc27] at H
          cases H
        ·rw [if_neg hc26] at H
         cases H
       ·rw [if_neg hc25] at H
        refine AG.no rfl (decide_eq_false hc25) ?_
        refine AG.exit ?_
        refine AG.seq ?_
        refine AG.region HM ?_
        refine a_move (v := vI _) ?_
        refine a_move (v := vI _) ?_
        refine a_move (v := vI _) ?_
        refine RA.nil nofun ?_
        refine AG.ret ?_
        simp only [Option.some.injEq, Prod.mk.injEq] at H
        obtain ⟨rfl, rfl⟩ := H
        exact RetP.mk id ⟨rfl, rfl, trivial⟩ trivial rfl
/-! ### laws_toPoint: function 106 -/
def laws_toPoint.f (a0_0 : Int) (a0_1 : Int) : Option (Int × Int) := some (a0_0, a0_1)
set_option maxRecDepth 100000 in
theorem laws_toPoint.ok {a0_0 : Int} {a0_1 : Int} {r0 : Int} {r1 : Int} (H : laws_toPoint.f a0_0 a0_1 = some (r0, r1)) : OkF Tryz.prog 106 [.agg [.d (.v (.int .i64 a0_0)), .d (.v (.int .i64 a0_1))]] [] (.agg [.d (.v (.int .i64 r0)), .d (.v (.int .i64 r1))]) [] := by
 unfold laws_toPoint.f at H
 refine OkF.ofB (N := 11) (t := 2) (ty := 160) (av := .agg [.d (.v (.int .i64 r0)), .d (.v (.int .i64 r1))]) Tryz.func106 rfl rfl rfl rfl (by decide) rfl rfl (fun w0 S => ?_)
 refine AG.seq ?_
 refine AG.region HM ?_
 refine a_box 200 ?_
 refine a_alloc (cs := [_, _]) 201 ?_ T160
 refine RA.nil nofun ?_
 refine AG.seq ?_
 refine AG.region HM ?_
 refine a_alloc (cs := [_, _]) 202 ?_ T160
 refine RA.nil nofun ?_
 refine AG.seq ?_
 refine AG.region HM ?_
 refine a_faB (q := 0) ?_ D162_0
 refine a_ldB (v := vI _) ?_ T2
 refine a_faB (q := 0) ?_ D160_0
 refine a_stB (cs' := [_, _]) ?_ T2
 refine RA.nil nofun ?_
 refine AG.seq ?_
 refine AG.region HM ?_
 refine a_faB (q := 1) ?_ D162_1
 refine a_ldB (v := vI _) ?_ T2
 refine a_faB (q := 1) ?_ D160_1
 refine a_stB (cs' := [_, _]) ?_ T2
 refine RA.nil nofun ?_
 refine AG.seq ?_
 refine AG.region HM ?_
 refine a_ldB (v := .agg [_, _]) ?_ T160
 refine a_stB (cs' := [_, _]) ?_ T160
 refine RA.nil nofun ?_
 refine AG.ret ?_
 simp only [Option.some.injEq, Prod.mk.injEq] at H
 obtain ⟨rfl, rfl⟩ := H
 exact RetB.mk T160 rfl rfl rfl (RetP.mk id ⟨rfl, trivial⟩ trivial rfl)
/-! ### laws_toPointS: function 50 -/
def laws_toPointS.l0 : Nat → List S159 → List S159 → Int → Option ((List S159))
 | 0, _, _, _ => none
 | k + 1, x0, x3, x4 => if x4 < (x0.length : Int) then (if 0 ≤ x4 then ((laws_toPoint.f ((rd159 x0 x4).f0) ((rd159 x0 x4).f1)).bind fun bt6 => (if x4 < (x3.length : Int) then (laws_toPointS.l0 k x0 (x3.set (x4 : Int).toNat (⟨bt6.1, bt6.2⟩ : S159)) (wrap64 (x4 + 1))) else (none))) else (none)) else (some x3)
def laws_toPointS.f (k : Nat) (l0 : List S159) : Option ((List S159)) := if 0 ≤ (l0.length : Int) then (if ((l0.length : Int) : Int).toNat ≤ 17592186044416 then (laws_toPointS.l0 k l0 (List.replicate (((l0.length : Int) : Int).toNat) z159) 0) else (none)) else (none)
set_option maxRecDepth 100000 in
theorem laws_toPointS.ok {k : Nat} {l0 : List S159} {r : List S159} (H : laws_toPointS.f k l0 = some r) : OkF Tryz.prog 50 [vR 162 (l0.map c159)] [] (.c (.own 100 r.length)) [(100, .row 160 (r.map c159))] := by
 unfold laws_toPointS.f at H
 refine OkF.of (N := 23) (rs := [2]) (avs := [.c (.own 100 r.length)]) Tryz.func50 rfl rfl (fun _ _ => results_tmp rfl _ _ _) (by decide) rfl rfl rfl rfl (fun w0 S => ?_)
 refine AG.seq ?_
 refine AG.region HM ?_
 refine a_nilO (e := 160) 200 ?_ T160
 refine RA.nil nofun ?_
 refine AG.seq ?_
 refine AG.region HM ?_
 refine a_move (v := vR _ _) ?_
 refine a_lenR ?_ Tryz.underlying22
 by_cases hc1 : 0 ≤ (l0.length : Int)
 ·rw [if_pos hc1] at H
  by_cases hc2 : ((l0.length : Int) : Int).toNat ≤ 17592186044416
  ·rw [if_pos hc2] at H
   refine a_make (n := (l0.length : Int)) (css := (List.replicate (((l0.length : Int) : Int).toNat) z159).map c159) 201 ?_ N32 T160 (zV (zV zN)) hc1 (by omega) (by omega) (hcss := by exact rep_map rfl)
   refine a_move (v := .c (.own _ _)) ?_
   refine RA.nil nofun ?_
   refine AG.seq ?_
   refine AG.seq ?_
   refine AG.region HM ?_
   refine a_move (v := vI _) ?_
   refine RA.nil nofun ?_
   refine AG.block ?_
   refine AG.loop ?_
   obtain ⟨K0, hK0, gK0⟩ : ∃ K, k ≤ K ∧ K ≤ k := ⟨k, Nat.le_refl k, Nat.le_refl k⟩
   refine AGr.canon (fun κ => cond (Nat.beq κ 202) 201 (κ)) (AGr.loopI (n := k) (fun k s => k ≤ K0 ∧ ∃ (x0 : List S159) (x3 : List S159) (x4 : Int), laws_toPointS.l0 k x0 x3 x4 = some r ∧ s = St.of [(0, vR 162 (x0.map c159)), (3, .c (.own 202 x3.length)), (4, vI x4)] [(202, .row 160 (x3.map c159))]) ⟨hK0, _, _, _, H, rfl⟩ ?_ ?_) ⟨rfl, (ownE rfl (by simp)), rfl, trivial⟩ ⟨rfl, trivial⟩ rfl
   ·rintro _ ⟨_, _, _, _, H, _⟩
    cases H
   ·clear H hK0
    rintro k ih0 _ ⟨hK0, x0, x3, x4, H, rfl⟩
    unfold laws_toPointS.l0 at H
    refine AG.seq ?_
    refine AG.seq ?_
    refine AG.region HM ?_
    refine a_move (v := vI _) ?_
    refine a_move (v := vR _ _) ?_
    refine a_lenR ?_ Tryz.underlying22
    refine a_int (u := .bool (decide (x4 < (x0.length : Int)))) ?_
    refine RA.nil nofun ?_
    by_cases hc4 : x4 < (x0.length : Int)
    ·rw [if_pos hc4] at H
     refine AG.yes rfl (decide_eq_true hc4) ?_
     refine AG.skip ?_
     refine AG.seq ?_
     refine AG.block ?_
     refine AG.region HM ?_
     refine a_move (v := .c (.own _ _)) ?_
     refine a_move (v := vI _) ?_
     refine a_move (v := vR _ _) ?_
     refine a_move (v := vI _) ?_
     by_cases hc5 : 0 ≤ x4
     ·rw [if_pos hc5] at H
      refine a_ixR (el := c159 (rd159 x0 x4)) ?_ ⟨hc5, hc4⟩ T162 Tryz.underlying22 (hel := R159 hc5 hc4)
      refine a_ldR (v := .agg [_, _]) ?_ T162
      obtain ⟨⟨t6, t7⟩, e8, H⟩ := bindO H
      refine a_call (v := .agg [.d (.v (.int .i64 t6)), .d (.v (.int .i64 t7))]) (nk := []) (L := []) ?_ rfl (laws_toPoint.ok e8) id (qg qn) trivial trivial trivial rfl
      by_cases hc9 : x4 < (x3.length : Int)
      ·rw [if_pos hc9] at H
       refine a_ixO ?_ ⟨hc5, hc9⟩ T160 Tryz.underlying32
       refine a_stF (css' := (x3.set (x4 : Int).toNat (⟨t6, t7⟩ : S159)).map c159) ?_ (flat_map (fun _ => rfl)) (G159 hc5 hc9) T160 (hcss := by exact set_map rfl)
       refine RA.nil nofun ?_
       refine AG.region HM ?_
       refine a_move (v := vI _) ?_
       refine a_int (u := .int .i64 (wrap64 (x4 + 1))) ?_
       refine a_move (v := vI _) ?_
       refine RA.nil nofun ?_
       exact AGr.canon id (ih0 _ (by omega) _ ⟨by omega, _, _, _, H, rfl⟩) ⟨rfl, (ownE rfl (by simp)), rfl, trivial⟩ ⟨rfl, trivial⟩ rfl
      ·rw [if_neg hc9] at H
       cases H
     ·rw [if_neg hc5] at H
      cases H
    ·rw [if_neg hc4] at H
     refine AG.no rfl (decide_eq_false hc4) ?_
     refine AG.exit ?_
     refine AG.seq ?_
     refine AG.region HM ?_
     refine a_move (v := .c (.own _ _)) ?_
     refine a_move (v := .c (.own _ _)) ?_
     refine RA.nil nofun ?_
     refine AG.ret ?_
     obtain rfl := Option.some.inj H
     exact RetP.mk (fun κ => cond (Nat.beq κ 100) 202 (κ)) ⟨rfl, trivial⟩ ⟨rfl, trivial⟩ rfl
  ·rw [if_neg hc2] at H
   cases H
 ·rw [if_neg hc1] at H
  cases H
/-! ### laws_toInt64S: function 159 -/
def laws_toInt64S.l0 : Nat → List Int → List Int → Int → Option ((List Int))
 | 0, _, _, _ => none
 | k + 1, x0, x3, x4 => if x4 < (x0.length : Int) then (if 0 ≤ x4 then (if x4 < (x3.length : Int) then (laws_toInt64S.l0 k x0 (x3.set (x4 : Int).toNat (rd2 x0 x4)) (wrap64 (x4 + 1))) else (none)) else (none)) else (some x3)
def laws_toInt64S.f (k : Nat) (l0 : List Int) : Option ((List Int)) := if 0 ≤ (l0.length : Int) then (if ((l0.length : Int) : Int).toNat ≤ 35184372088832 then (laws_toInt64S.l0 k l0 (List.replicate (((l0.length : Int) : Int).toNat) 0) 0) else (none)) else (none)
set_option maxRecDepth 100000 in
theorem laws_toInt64S.ok {k : Nat} {l0 : List Int} {r : List Int} (H : laws_toInt64S.f k l0 = some r) : OkF Tryz.prog 159 [vR 2 (l0.map c2)] [] (.c (.own 100 r.length)) [(100, .row 2 (r.map c2))] := by
 unfold laws_toInt64S.f at H
 refine OkF.of (N := 22) (rs := [2]) (avs := [.c (.own 100 r.length)]) Tryz.func159 rfl rfl (fun _ _ => results_tmp rfl _ _ _) (by decide) rfl rfl rfl rfl (fun w0 S => ?_)
 refine AG.seq ?_
 refine AG.region HM ?_
 refine a_nilO (e := 2) 200 ?_ T2
 refine RA.nil nofun ?_
 refine AG.seq ?_
 refine AG.region HM ?_
 refine a_move (v := vR _ _) ?_
 refine a_lenR ?_ Tryz.underlying29
 by_cases hc1 : 0 ≤ (l0.length : Int)
 ·rw [if_pos hc1] at H
  by_cases hc2 : ((l0.length : Int) : Int).toNat ≤ 35184372088832
  ·rw [if_pos hc2] at H
   refine a_make (n := (l0.length : Int)) (css := (List.replicate (((l0.length : Int) : Int).toNat) 0).map c2) 201 ?_ N29 T2 (zV zN) hc1 (by omega) (by omega) (hcss := by exact rep_map rfl)
   refine a_move (v := .c (.own _ _)) ?_
   refine RA.nil nofun ?_
   refine AG.seq ?_
   refine AG.seq ?_
   refine AG.region HM ?_
   refine a_move (v := vI _) ?_
   refine RA.nil nofun ?_
   refine AG.block ?_
   refine AG.loop ?_
   obtain ⟨K0, hK0, gK0⟩ : ∃ K, k ≤ K ∧ K ≤ k := ⟨k, Nat.le_refl k, Nat.le_refl k⟩
   refine AGr.canon (fun κ => cond (Nat.beq κ 202) 201 (κ)) (AGr.loopI (n := k) (fun k s => k ≤ K0 ∧ ∃ (x0 : List Int) (x3 : List Int) (x4 : Int), laws_toInt64S.l0 k x0 x3 x4 = some r ∧ s = St.of [(0, vR 2 (x0.map c2)), (3, .c (.own 202 x3.length)), (4, vI x4)] [(202, .row 2 (x3.map c2))]) ⟨hK0, _, _, _, H, rfl⟩ ?_ ?_) ⟨rfl, (ownE rfl (by simp)), rfl, trivial⟩ ⟨rfl, trivial⟩ rfl
   ·rintro _ ⟨_, _, _, _, H, _⟩
    cases H
   ·clear H hK0
    rintro k ih0 _ ⟨hK0, x0, x3, x4, H, rfl⟩
    unfold laws_toInt64S.l0 at H
    refine AG.seq ?_
    refine AG.seq ?_
    refine AG.region HM ?_
    refine a_move (v := vI _) ?_
    refine a_move (v := vR _ _) ?_
    refine a_lenR ?_ Tryz.underlying29
    refine a_int (u := .bool (decide (x4 < (x0.length : Int)))) ?_
    refine RA.nil nofun ?_
    by_cases hc4 : x4 < (x0.length : Int)
    ·rw [if_pos hc4] at H
     refine AG.yes rfl (decide_eq_true hc4) ?_
     refine AG.skip ?_
     refine AG.seq ?_
     refine AG.block ?_
     refine AG.region HM ?_
     refine a_move (v := .c (.own _ _)) ?_
     refine a_move (v := vI _) ?_
     refine a_move (v := vR _ _) ?_
     refine a_move (v := vI _) ?_
     by_cases hc5 : 0 ≤ x4
     ·rw [if_pos hc5] at H
      refine a_ixR (el := c2 (rd2 x0 x4)) ?_ ⟨hc5, hc4⟩ T2 Tryz.underlying29 (hel := R2 hc5 hc4)
      refine a_ldR (v := vI _) ?_ T2
      by_cases hc6 : x4 < (x3.length : Int)
      ·rw [if_pos hc6] at H
       refine a_ixO ?_ ⟨hc5, hc6⟩ T2 Tryz.underlying29
       refine a_stF (css' := (x3.set (x4 : Int).toNat (rd2 x0 x4)).map c2) ?_ (flat_map (fun _ => rfl)) (G2 hc5 hc6) T2 (hcss := by exact set_map rfl)
       refine RA.nil nofun ?_
       refine AG.region HM ?_
       refine a_move (v := vI _) ?_
       refine a_int (u := .int .i64 (wrap64 (x4 + 1))) ?_
       refine a_move (v := vI _) ?_
       refine RA.nil nofun ?_
       exact AGr.canon id (ih0 _ (by omega) _ ⟨by omega, _, _, _, H, rfl⟩) ⟨rfl, (ownE rfl (by simp)), rfl, trivial⟩ ⟨rfl, trivial⟩ rfl
      ·rw [if_neg hc6] at H
       cases H
     ·rw [if_neg hc5] at H
      cases H
    ·rw [if_neg hc4] at H
     refine AG.no rfl (decide_eq_false hc4) ?_
     refine AG.exit ?_
     refine AG.seq ?_
     refine AG.region HM ?_
     refine a_move (v := .c (.own _ _)) ?_
     refine a_move (v := .c (.own _ _)) ?_
     refine RA.nil nofun ?_
     refine AG.ret ?_
     obtain rfl := Option.some.inj H
     exact RetP.mk (fun κ => cond (Nat.beq κ 100) 202 (κ)) ⟨rfl, trivial⟩ ⟨rfl, trivial⟩ rfl
  ·rw [if_neg hc2] at H
   cases H
 ·rw [if_neg hc1] at H
  cases H
/-! ### laws_toFace: function 107 -/
def laws_toFace.f (k : Nat) (a0_0 : ByteArray) (l0_1 : List Int) : Option (ByteArray × (List Int)) := (laws_toInt64S.f k l0_1).bind fun t1 => (some (a0_0, t1))
set_option maxRecDepth 100000 in
theorem laws_toFace.ok {k : Nat} {a0_0 : ByteArray} {l0_1 : List Int} {r0 : ByteArray} {r1 : List Int} (H : laws_toFace.f k a0_0 l0_1 = some (r0, r1)) : OkF Tryz.prog 107 [.agg [.d (.v (.string a0_0)), .d (.row 2 (l0_1.map c2))]] [] (.agg [.d (.v (.string r0)), .own 100 r1.length]) [(100, .row 2 (r1.map c2))] := by
 unfold laws_toFace.f at H
 refine OkF.ofB (N := 12) (t := 2) (ty := 152) (av := .agg [.d (.v (.string r0)), .own 100 r1.length]) Tryz.func107 rfl rfl rfl rfl (by decide) rfl rfl (fun w0 S => ?_)
 refine AG.seq ?_
 refine AG.region HM ?_
 refine a_box 200 ?_
 refine a_alloc (cs := [_, _]) 201 ?_ T152
 refine RA.nil nofun ?_
 refine AG.seq ?_
 refine AG.region HM ?_
 refine a_alloc (cs := [_, _]) 202 ?_ T152
 refine RA.nil nofun ?_
 refine AG.seq ?_
 refine AG.region HM ?_
 refine a_faB (q := 0) ?_ D147_0
 refine a_ldB (v := vS _) ?_ T9
 refine a_faB (q := 0) ?_ D152_0
 refine a_stB (cs' := [_, _]) ?_ T9
 refine RA.nil nofun ?_
 refine AG.seq ?_
 refine AG.region HM ?_
 refine a_faB (q := 1) ?_ D147_1
 refine a_ldB (v := vR _ _) ?_ T29
 obtain ⟨t1, e2, H⟩ := bindO H
 refine a_call (v := .c (.own 203 t1.length)) (nk := [(203, .row 2 (t1.map c2))]) (L := []) ?_ rfl (laws_toInt64S.ok e2) (fun κ => cond (Nat.beq κ 203) 100 (κ)) (qd qn) trivial ⟨rfl, trivial⟩ ⟨rfl, trivial⟩ rfl
 refine a_faB (q := 1) ?_ D152_1
 refine a_stB (cs' := [_, _]) ?_ T29
 refine RA.nil nofun ?_
 refine AG.seq ?_
 refine AG.region HM ?_
 refine a_ldB (v := .agg [_, _]) ?_ T152
 refine a_stB (cs' := [_, _]) ?_ T152
 refine RA.nil nofun ?_
 refine AG.ret ?_
 simp only [Option.some.injEq, Prod.mk.injEq] at H
 obtain ⟨rfl, rfl⟩ := H
 exact RetB.mk T152 rfl rfl rfl (RetP.mk (fun κ => cond (Nat.beq κ 100) 203 (κ)) ⟨rfl, trivial⟩ ⟨rfl, trivial⟩ rfl)
/-! ### laws_toFaceS: function 51 -/
def laws_toFaceS.l0 : Nat → List S146 → List S146 → Int → Option ((List S146))
 | 0, _, _, _ => none
 | k + 1, x0, x3, x4 => if x4 < (x0.length : Int) then (if 0 ≤ x4 then ((laws_toFace.f k ((rd146 x0 x4).f0) ((rd146 x0 x4).f1)).bind fun bt6 => (if x4 < (x3.length : Int) then (laws_toFaceS.l0 k x0 (x3.set (x4 : Int).toNat (⟨bt6.1, bt6.2⟩ : S146)) (wrap64 (x4 + 1))) else (none))) else (none)) else (some x3)
def laws_toFaceS.f (k : Nat) (l0 : List S146) : Option ((List S146)) := if 0 ≤ (l0.length : Int) then (if ((l0.length : Int) : Int).toNat ≤ 7036874417766 then (laws_toFaceS.l0 k l0 (List.replicate (((l0.length : Int) : Int).toNat) z146) 0) else (none)) else (none)
set_option maxRecDepth 100000 in
theorem laws_toFaceS.ok {k : Nat} {l0 : List S146} {r : List S146} (H : laws_toFaceS.f k l0 = some r) : OkF Tryz.prog 51 [vR 147 (l0.map c146)] [] (.c (.own 100 r.length)) [(100, .row 152 (r.map c146))] := by
 unfold laws_toFaceS.f at H
 refine OkF.of (N := 23) (rs := [2]) (avs := [.c (.own 100 r.length)]) Tryz.func51 rfl rfl (fun _ _ => results_tmp rfl _ _ _) (by decide) rfl rfl rfl rfl (fun w0 S => ?_)
 refine AG.seq ?_
 refine AG.region HM ?_
 refine a_nilO (e := 152) 200 ?_ T152
 refine RA.nil nofun ?_
 refine AG.seq ?_
 refine AG.region HM ?_
 refine a_move (v := vR _ _) ?_
 refine a_lenR ?_ Tryz.underlying23
 by_cases hc1 : 0 ≤ (l0.length : Int)
 ·rw [if_pos hc1] at H
  by_cases hc2 : ((l0.length : Int) : Int).toNat ≤ 7036874417766
  ·rw [if_pos hc2] at H
   refine a_make (n := (l0.length : Int)) (css := (List.replicate (((l0.length : Int) : Int).toNat) z146).map c146) 201 ?_ N33 T152 (zV (zR T2 zN)) hc1 (by omega) (by omega) (hcss := by exact rep_map rfl)
   refine a_move (v := .c (.own _ _)) ?_
   refine RA.nil nofun ?_
   refine AG.seq ?_
   refine AG.seq ?_
   refine AG.region HM ?_
   refine a_move (v := vI _) ?_
   refine RA.nil nofun ?_
   refine AG.block ?_
   refine AG.loop ?_
   obtain ⟨K0, hK0, gK0⟩ : ∃ K, k ≤ K ∧ K ≤ k := ⟨k, Nat.le_refl k, Nat.le_refl k⟩
   refine AGr.canon (fun κ => cond (Nat.beq κ 202) 201 (κ)) (AGr.loopI (n := k) (fun k s => k ≤ K0 ∧ ∃ (x0 : List S146) (x3 : List S146) (x4 : Int), laws_toFaceS.l0 k x0 x3 x4 = some r ∧ s = St.of [(0, vR 147 (x0.map c146)), (3, .c (.own 202 x3.length)), (4, vI x4)] [(202, .row 152 (x3.map c146))]) ⟨hK0, _, _, _, H, rfl⟩ ?_ ?_) ⟨rfl, (ownE rfl (by simp)), rfl, trivial⟩ ⟨rfl, trivial⟩ rfl
   ·rintro _ ⟨_, _, _, _, H, _⟩
    cases H
   ·clear H hK0
    rintro k ih0 _ ⟨hK0, x0, x3, x4, H, rfl⟩
    unfold laws_toFaceS.l0 at H
    refine AG.seq ?_
    refine AG.seq ?_
    refine AG.region HM ?_
    refine a_move (v := vI _) ?_
    refine a_move (v := vR _ _) ?_
    refine a_lenR ?_ Tryz.underlying23
    refine a_int (u := .bool (decide (x4 < (x0.length : Int)))) ?_
    refine RA.nil nofun ?_
    by_cases hc4 : x4 < (x0.length : Int)
    ·rw [if_pos hc4] at H
     refine AG.yes rfl (decide_eq_true hc4) ?_
     refine AG.skip ?_
     refine AG.seq ?_
     refine AG.block ?_
     refine AG.region HM ?_
     refine a_move (v := .c (.own _ _)) ?_
     refine a_move (v := vI _) ?_
     refine a_move (v := vR _ _) ?_
     refine a_move (v := vI _) ?_
     by_cases hc5 : 0 ≤ x4
     ·rw [if_pos hc5] at H
      refine a_ixR (el := c146 (rd146 x0 x4)) ?_ ⟨hc5, hc4⟩ T147 Tryz.underlying23 (hel := R146 hc5 hc4)
      refine a_ldR (v := .agg [_, _]) ?_ T147
      obtain ⟨⟨t6, t7⟩, e8, H⟩ := bindO H
      refine a_call (v := .agg [.d (.v (.string t6)), .own 203 t7.length]) (nk := [(203, .row 2 (t7.map c2))]) (L := []) ?_ rfl (laws_toFace.ok e8) (fun κ => cond (Nat.beq κ 203) 100 (κ)) (qg qn) trivial ⟨rfl, trivial⟩ ⟨rfl, trivial⟩ rfl
      by_cases hc9 : x4 < (x3.length : Int)
      ·rw [if_pos hc9] at H
       refine a_ixO ?_ ⟨hc5, hc9⟩ T152 Tryz.underlying33
       refine a_stE (D := [203]) (css' := (x3.set (x4 : Int).toNat (⟨t6, t7⟩ : S146)).map c146) ?_ (G146 hc5 hc9) T152 (hcss := by exact set_map rfl)
       refine RA.nil nofun ?_
       refine AG.region HM ?_
       refine a_move (v := vI _) ?_
       refine a_int (u := .int .i64 (wrap64 (x4 + 1))) ?_
       refine a_move (v := vI _) ?_
       refine RA.nil nofun ?_
       exact AGr.canon id (ih0 _ (by omega) _ ⟨by omega, _, _, _, H, rfl⟩) ⟨rfl, (ownE rfl (by simp)), rfl, trivial⟩ ⟨rfl, trivial⟩ rfl
      ·rw [if_neg hc9] at H
       cases H
     ·rw [if_neg hc5] at H
      cases H
    ·rw [if_neg hc4] at H
     refine AG.no rfl (decide_eq_false hc4) ?_
     refine AG.exit ?_
     refine AG.seq ?_
     refine AG.region HM ?_
     refine a_move (v := .c (.own _ _)) ?_
     refine a_move (v := .c (.own _ _)) ?_
     refine RA.nil nofun ?_
     refine AG.ret ?_
     obtain rfl := Option.some.inj H
     exact RetP.mk (fun κ => cond (Nat.beq κ 100) 202 (κ)) ⟨rfl, trivial⟩ ⟨rfl, trivial⟩ rfl
  ·rw [if_neg hc2] at H
   cases H
 ·rw [if_neg hc1] at H
  cases H
/-! ### laws_toDrawing: function 12 -/
def laws_toDrawing.f (k : Nat) (a0_0 : Int) (a0_1 : Int) (l0_2 : List S159) (l0_3 : List S146) : Option (Int × Int × (List S159) × (List S146)) := (laws_toPointS.f k l0_2).bind fun t1 => ((laws_toFaceS.f k l0_3).bind fun t3 => (some (a0_0, a0_1, t1, t3)))
set_option maxRecDepth 100000 in
theorem laws_toDrawing.ok {k : Nat} {a0_0 : Int} {a0_1 : Int} {l0_2 : List S159} {l0_3 : List S146} {r0 : Int} {r1 : Int} {r2 : List S159} {r3 : List S146} (H : laws_toDrawing.f k a0_0 a0_1 l0_2 l0_3 = some (r0, r1, r2, r3)) : OkF Tryz.prog 12 [.agg [.d (.v (.int .i64 a0_0)), .d (.v (.int .i64 a0_1)), .d (.row 162 (l0_2.map c159)), .d (.row 147 (l0_3.map c146))]] [] (.agg [.d (.v (.int .i64 r0)), .d (.v (.int .i64 r1)), .own 100 r2.length, .own 101 r3.length]) [(100, .row 160 (r2.map c159)), (101, .row 152 (r3.map c146))] := by
 unfold laws_toDrawing.f at H
 refine OkF.ofB (N := 19) (t := 2) (ty := 35) (av := .agg [.d (.v (.int .i64 r0)), .d (.v (.int .i64 r1)), .own 100 r2.length, .own 101 r3.length]) Tryz.func12 rfl rfl rfl rfl (by decide) rfl rfl (fun w0 S => ?_)
 refine AG.seq ?_
 refine AG.region HM ?_
 refine a_box 200 ?_
 refine a_alloc (cs := [_, _, _, _]) 201 ?_ T35
 refine RA.nil nofun ?_
 refine AG.seq ?_
 refine AG.region HM ?_
 refine a_alloc (cs := [_, _, _, _]) 202 ?_ T35
 refine RA.nil nofun ?_
 refine AG.seq ?_
 refine AG.region HM ?_
 refine a_faB (q := 0) ?_ D25_0
 refine a_ldB (v := vI _) ?_ T2
 refine a_faB (q := 0) ?_ D35_0
 refine a_stB (cs' := [_, _, _, _]) ?_ T2
 refine RA.nil nofun ?_
 refine AG.seq ?_
 refine AG.region HM ?_
 refine a_faB (q := 1) ?_ D25_1
 refine a_ldB (v := vI _) ?_ T2
 refine a_faB (q := 1) ?_ D35_1
 refine a_stB (cs' := [_, _, _, _]) ?_ T2
 refine RA.nil nofun ?_
 refine AG.seq ?_
 refine AG.region HM ?_
 refine a_faB (q := 2) ?_ D25_2
 refine a_ldB (v := vR _ _) ?_ T22
 obtain ⟨t1, e2, H⟩ := bindO H
 refine a_call (v := .c (.own 203 t1.length)) (nk := [(203, .row 160 (t1.map c159))]) (L := []) ?_ rfl (laws_toPointS.ok e2) (fun κ => cond (Nat.beq κ 203) 100 (κ)) (qd qn) trivial ⟨rfl, trivial⟩ ⟨rfl, trivial⟩ rfl
 refine a_faB (q := 2) ?_ D35_2
 refine a_stB (cs' := [_, _, _, _]) ?_ T32
 refine RA.nil nofun ?_
 refine AG.seq ?_
 refine AG.region HM ?_
 refine a_faB (q := 3) ?_ D25_3
 refine a_ldB (v := vR _ _) ?_ T23
 obtain ⟨t3, e4, H⟩ := bindO H
 refine a_call (v := .c (.own 204 t3.length)) (nk := [(204, .row 152 (t3.map c146))]) (L := []) ?_ rfl (laws_toFaceS.ok e4) (fun κ => cond (Nat.beq κ 204) 100 (κ)) (qd qn) trivial ⟨rfl, trivial⟩ ⟨rfl, trivial⟩ rfl
 refine a_faB (q := 3) ?_ D35_3
 refine a_stB (cs' := [_, _, _, _]) ?_ T33
 refine RA.nil nofun ?_
 refine AG.seq ?_
 refine AG.region HM ?_
 refine a_ldB (v := .agg [_, _, _, _]) ?_ T35
 refine a_stB (cs' := [_, _, _, _]) ?_ T35
 refine RA.nil nofun ?_
 refine AG.ret ?_
 simp only [Option.some.injEq, Prod.mk.injEq] at H
 obtain ⟨rfl, rfl, rfl, rfl⟩ := H
 exact RetB.mk T35 rfl rfl rfl (RetP.mk (fun κ => cond (Nat.beq κ 100) 203 (cond (Nat.beq κ 101) 204 (κ))) ⟨rfl, trivial⟩ ⟨rfl, rfl, trivial⟩ rfl)
/-! ### laws_toVeneerS: function 74 -/
def laws_toVeneerS.l0 : Nat → List S81 → List S81 → Int → Option ((List S81))
 | 0, _, _, _ => none
 | k + 1, x0, x3, x4 => if x4 < (x0.length : Int) then (if 0 ≤ x4 then ((laws_toVeneer.f ((rd81 x0 x4).f0) ((rd81 x0 x4).f1) ((rd81 x0 x4).f2)).bind fun bt6 => (if x4 < (x3.length : Int) then (laws_toVeneerS.l0 k x0 (x3.set (x4 : Int).toNat (⟨bt6.1, bt6.2.1, bt6.2.2⟩ : S81)) (wrap64 (x4 + 1))) else (none))) else (none)) else (some x3)
def laws_toVeneerS.f (k : Nat) (l0 : List S81) : Option ((List S81)) := if 0 ≤ (l0.length : Int) then (if ((l0.length : Int) : Int).toNat ≤ 8796093022208 then (laws_toVeneerS.l0 k l0 (List.replicate (((l0.length : Int) : Int).toNat) z81) 0) else (none)) else (none)
set_option maxRecDepth 100000 in
theorem laws_toVeneerS.ok {k : Nat} {l0 : List S81} {r : List S81} (H : laws_toVeneerS.f k l0 = some r) : OkF Tryz.prog 74 [vR 82 (l0.map c81)] [] (.c (.own 100 r.length)) [(100, .row 92 (r.map c81))] := by
 unfold laws_toVeneerS.f at H
 refine OkF.of (N := 23) (rs := [2]) (avs := [.c (.own 100 r.length)]) Tryz.func74 rfl rfl (fun _ _ => results_tmp rfl _ _ _) (by decide) rfl rfl rfl rfl (fun w0 S => ?_)
 refine AG.seq ?_
 refine AG.region HM ?_
 refine a_nilO (e := 92) 200 ?_ T92
 refine RA.nil nofun ?_
 refine AG.seq ?_
 refine AG.region HM ?_
 refine a_move (v := vR _ _) ?_
 refine a_lenR ?_ Tryz.underlying49
 by_cases hc1 : 0 ≤ (l0.length : Int)
 ·rw [if_pos hc1] at H
  by_cases hc2 : ((l0.length : Int) : Int).toNat ≤ 8796093022208
  ·rw [if_pos hc2] at H
   refine a_make (n := (l0.length : Int)) (css := (List.replicate (((l0.length : Int) : Int).toNat) z81).map c81) 201 ?_ N56 T92 (zV (zV (zV zN))) hc1 (by omega) (by omega) (hcss := by exact rep_map rfl)
   refine a_move (v := .c (.own _ _)) ?_
   refine RA.nil nofun ?_
   refine AG.seq ?_
   refine AG.seq ?_
   refine AG.region HM ?_
   refine a_move (v := vI _) ?_
   refine RA.nil nofun ?_
   refine AG.block ?_
   refine AG.loop ?_
   obtain ⟨K0, hK0, gK0⟩ : ∃ K, k ≤ K ∧ K ≤ k := ⟨k, Nat.le_refl k, Nat.le_refl k⟩
   refine AGr.canon (fun κ => cond (Nat.beq κ 202) 201 (κ)) (AGr.loopI (n := k) (fun k s => k ≤ K0 ∧ ∃ (x0 : List S81) (x3 : List S81) (x4 : Int), laws_toVeneerS.l0 k x0 x3 x4 = some r ∧ s = St.of [(0, vR 82 (x0.map c81)), (3, .c (.own 202 x3.length)), (4, vI x4)] [(202, .row 92 (x3.map c81))]) ⟨hK0, _, _, _, H, rfl⟩ ?_ ?_) ⟨rfl, (ownE rfl (by simp)), rfl, trivial⟩ ⟨rfl, trivial⟩ rfl
   ·rintro _ ⟨_, _, _, _, H, _⟩
    cases H
   ·clear H hK0
    rintro k ih0 _ ⟨hK0, x0, x3, x4, H, rfl⟩
    unfold laws_toVeneerS.l0 at H
    refine AG.seq ?_
    refine AG.seq ?_
    refine AG.region HM ?_
    refine a_move (v := vI _) ?_
    refine a_move (v := vR _ _) ?_
    refine a_lenR ?_ Tryz.underlying49
    refine a_int (u := .bool (decide (x4 < (x0.length : Int)))) ?_
    refine RA.nil nofun ?_
    by_cases hc4 : x4 < (x0.length : Int)
    ·rw [if_pos hc4] at H
     refine AG.yes rfl (decide_eq_true hc4) ?_
     refine AG.skip ?_
     refine AG.seq ?_
     refine AG.block ?_
     refine AG.region HM ?_
     refine a_move (v := .c (.own _ _)) ?_
     refine a_move (v := vI _) ?_
     refine a_move (v := vR _ _) ?_
     refine a_move (v := vI _) ?_
     by_cases hc5 : 0 ≤ x4
     ·rw [if_pos hc5] at H
      refine a_ixR (el := c81 (rd81 x0 x4)) ?_ ⟨hc5, hc4⟩ T82 Tryz.underlying49 (hel := R81 hc5 hc4)
      refine a_ldR (v := .agg [_, _, _]) ?_ T82
      obtain ⟨⟨t6, t7, t8⟩, e9, H⟩ := bindO H
      refine a_call (v := .agg [.d (.v (.string t6)), .d (.v (.int .i64 t7)), .d (.v (.int .i64 t8))]) (nk := []) (L := []) ?_ rfl (laws_toVeneer.ok e9) id (qg qn) trivial trivial trivial rfl
      by_cases hc10 : x4 < (x3.length : Int)
      ·rw [if_pos hc10] at H
       refine a_ixO ?_ ⟨hc5, hc10⟩ T92 Tryz.underlying56
       refine a_stF (css' := (x3.set (x4 : Int).toNat (⟨t6, t7, t8⟩ : S81)).map c81) ?_ (flat_map (fun _ => rfl)) (G81 hc5 hc10) T92 (hcss := by exact set_map rfl)
       refine RA.nil nofun ?_
       refine AG.region HM ?_
       refine a_move (v := vI _) ?_
       refine a_int (u := .int .i64 (wrap64 (x4 + 1))) ?_
       refine a_move (v := vI _) ?_
       refine RA.nil nofun ?_
       exact AGr.canon id (ih0 _ (by omega) _ ⟨by omega, _, _, _, H, rfl⟩) ⟨rfl, (ownE rfl (by simp)), rfl, trivial⟩ ⟨rfl, trivial⟩ rfl
      ·rw [if_neg hc10] at H
       cases H
     ·rw [if_neg hc5] at H
      cases H
    ·rw [if_neg hc4] at H
     refine AG.no rfl (decide_eq_false hc4) ?_
     refine AG.exit ?_
     refine AG.seq ?_
     refine AG.region HM ?_
     refine a_move (v := .c (.own _ _)) ?_
     refine a_move (v := .c (.own _ _)) ?_
     refine RA.nil nofun ?_
     refine AG.ret ?_
     obtain rfl := Option.some.inj H
     exact RetP.mk (fun κ => cond (Nat.beq κ 100) 202 (κ)) ⟨rfl, trivial⟩ ⟨rfl, trivial⟩ rfl
  ·rw [if_neg hc2] at H
   cases H
 ·rw [if_neg hc1] at H
  cases H
/-! ### laws_toPicture: function 29 -/
def laws_toPicture.f (k : Nat) (a0_0 : Int) (a0_1 : Int) (l0_2 : List S159) (l0_3 : List S146) (l0_4 : List S81) : Option (Int × Int × (List S159) × (List S146) × (List S81)) := (laws_toDrawing.f k a0_0 a0_1 l0_2 l0_3).bind fun bt1 => ((laws_toVeneerS.f k l0_4).bind fun t6 => (some (bt1.1, bt1.2.1, bt1.2.2.1, bt1.2.2.2, t6)))
set_option maxRecDepth 100000 in
theorem laws_toPicture.ok {k : Nat} {a0_0 : Int} {a0_1 : Int} {l0_2 : List S159} {l0_3 : List S146} {l0_4 : List S81} {r0 : Int} {r1 : Int} {r2 : List S159} {r3 : List S146} {r4 : List S81} (H : laws_toPicture.f k a0_0 a0_1 l0_2 l0_3 l0_4 = some (r0, r1, r2, r3, r4)) : OkF Tryz.prog 29 [.agg [.d (.v (.int .i64 a0_0)), .d (.v (.int .i64 a0_1)), .d (.row 162 (l0_2.map c159)), .d (.row 147 (l0_3.map c146)), .d (.row 82 (l0_4.map c81))]] [] (.agg [.d (.v (.int .i64 r0)), .d (.v (.int .i64 r1)), .own 100 r2.length, .own 101 r3.length, .own 102 r4.length]) [(100, .row 160 (r2.map c159)), (101, .row 152 (r3.map c146)), (102, .row 92 (r4.map c81))] := by
 unfold laws_toPicture.f at H
 refine OkF.ofB (N := 13) (t := 2) (ty := 58) (av := .agg [.d (.v (.int .i64 r0)), .d (.v (.int .i64 r1)), .own 100 r2.length, .own 101 r3.length, .own 102 r4.length]) Tryz.func29 rfl rfl rfl rfl (by decide) rfl rfl (fun w0 S => ?_)
 refine AG.seq ?_
 refine AG.region HM ?_
 refine a_box 200 ?_
 refine a_alloc (cs := [_, _, _, _, _]) 201 ?_ T58
 refine RA.nil nofun ?_
 refine AG.seq ?_
 refine AG.region HM ?_
 refine a_alloc (cs := [_, _, _, _, _]) 202 ?_ T58
 refine RA.nil nofun ?_
 refine AG.seq ?_
 refine AG.region HM ?_
 refine a_faB (q := 0) ?_ D51_0
 refine a_ldB (v := .agg [_, _, _, _]) ?_ T25
 obtain ⟨⟨t1, t2, t3, t4⟩, e5, H⟩ := bindO H
 refine a_call (v := .agg [.d (.v (.int .i64 t1)), .d (.v (.int .i64 t2)), .own 203 t3.length, .own 204 t4.length]) (nk := [(203, .row 160 (t3.map c159)), (204, .row 152 (t4.map c146))]) (L := []) ?_ rfl (laws_toDrawing.ok e5) (fun κ => cond (Nat.beq κ 203) 100 (cond (Nat.beq κ 204) 101 (κ))) (qg qn) trivial ⟨rfl, rfl, trivial⟩ ⟨rfl, rfl, trivial⟩ rfl
 refine a_faB (q := 0) ?_ D58_0
 refine a_stB (cs' := [_, _, _, _, _]) ?_ T35
 refine RA.nil nofun ?_
 refine AG.seq ?_
 refine AG.region HM ?_
 refine a_faB (q := 4) ?_ D51_1
 refine a_ldB (v := vR _ _) ?_ T49
 obtain ⟨t6, e7, H⟩ := bindO H
 refine a_call (v := .c (.own 205 t6.length)) (nk := [(205, .row 92 (t6.map c81))]) (L := []) ?_ rfl (laws_toVeneerS.ok e7) (fun κ => cond (Nat.beq κ 205) 100 (κ)) (qd qn) trivial ⟨rfl, trivial⟩ ⟨rfl, trivial⟩ rfl
 refine a_faB (q := 4) ?_ D58_1
 refine a_stB (cs' := [_, _, _, _, _]) ?_ T56
 refine RA.nil nofun ?_
 refine AG.seq ?_
 refine AG.region HM ?_
 refine a_ldB (v := .agg [_, _, _, _, _]) ?_ T58
 refine a_stB (cs' := [_, _, _, _, _]) ?_ T58
 refine RA.nil nofun ?_
 refine AG.ret ?_
 simp only [Option.some.injEq, Prod.mk.injEq] at H
 obtain ⟨rfl, rfl, rfl, rfl, rfl⟩ := H
 exact RetB.mk T58 rfl rfl rfl (RetP.mk (fun κ => cond (Nat.beq κ 100) 203 (cond (Nat.beq κ 101) 204 (cond (Nat.beq κ 102) 205 (κ)))) ⟨rfl, trivial⟩ ⟨rfl, rfl, rfl, trivial⟩ rfl)
/-! ### laws_toPlacement: function 75 -/
def laws_toPlacement.f (a0_0 : Int) (a0_1 : Int) (a0_2 : Int) (a0_3 : Int) (a0_4 : Int) : Option (Int × Int × Int × Int × Int) := some (a0_0, a0_1, a0_2, a0_3, a0_4)
set_option maxRecDepth 100000 in
theorem laws_toPlacement.ok {a0_0 : Int} {a0_1 : Int} {a0_2 : Int} {a0_3 : Int} {a0_4 : Int} {r0 : Int} {r1 : Int} {r2 : Int} {r3 : Int} {r4 : Int} (H : laws_toPlacement.f a0_0 a0_1 a0_2 a0_3 a0_4 = some (r0, r1, r2, r3, r4)) : OkF Tryz.prog 75 [.agg [.d (.v (.int .i64 a0_0)), .d (.v (.int .i64 a0_1)), .d (.v (.int .i64 a0_2)), .d (.v (.int .i64 a0_3)), .d (.v (.int .i64 a0_4))]] [] (.agg [.d (.v (.int .i64 r0)), .d (.v (.int .i64 r1)), .d (.v (.int .i64 r2)), .d (.v (.int .i64 r3)), .d (.v (.int .i64 r4))]) [] := by
 unfold laws_toPlacement.f at H
 refine OkF.ofB (N := 20) (t := 2) (ty := 116) (av := .agg [.d (.v (.int .i64 r0)), .d (.v (.int .i64 r1)), .d (.v (.int .i64 r2)), .d (.v (.int .i64 r3)), .d (.v (.int .i64 r4))]) Tryz.func75 rfl rfl rfl rfl (by decide) rfl rfl (fun w0 S => ?_)
 refine AG.seq ?_
 refine AG.region HM ?_
 refine a_box 200 ?_
 refine a_alloc (cs := [_, _, _, _, _]) 201 ?_ T116
 refine RA.nil nofun ?_
 refine AG.seq ?_
 refine AG.region HM ?_
 refine a_alloc (cs := [_, _, _, _, _]) 202 ?_ T116
 refine RA.nil nofun ?_
 refine AG.seq ?_
 refine AG.region HM ?_
 refine a_faB (q := 0) ?_ D122_0
 refine a_ldB (v := vI _) ?_ T2
 refine a_faB (q := 0) ?_ D116_0
 refine a_stB (cs' := [_, _, _, _, _]) ?_ T2
 refine RA.nil nofun ?_
 refine AG.seq ?_
 refine AG.region HM ?_
 refine a_faB (q := 1) ?_ D122_1
 refine a_ldB (v := vI _) ?_ T2
 refine a_faB (q := 1) ?_ D116_1
 refine a_stB (cs' := [_, _, _, _, _]) ?_ T2
 refine RA.nil nofun ?_
 refine AG.seq ?_
 refine AG.region HM ?_
 refine a_faB (q := 2) ?_ D122_2
 refine a_ldB (v := vI _) ?_ T2
 refine a_faB (q := 2) ?_ D116_2
 refine a_stB (cs' := [_, _, _, _, _]) ?_ T2
 refine RA.nil nofun ?_
 refine AG.seq ?_
 refine AG.region HM ?_
 refine a_faB (q := 3) ?_ D122_3
 refine a_ldB (v := vI _) ?_ T2
 refine a_faB (q := 3) ?_ D116_3
 refine a_stB (cs' := [_, _, _, _, _]) ?_ T2
 refine RA.nil nofun ?_
 refine AG.seq ?_
 refine AG.region HM ?_
 refine a_faB (q := 4) ?_ D122_4
 refine a_ldB (v := vI _) ?_ T2
 refine a_faB (q := 4) ?_ D116_4
 refine a_stB (cs' := [_, _, _, _, _]) ?_ T2
 refine RA.nil nofun ?_
 refine AG.seq ?_
 refine AG.region HM ?_
 refine a_ldB (v := .agg [_, _, _, _, _]) ?_ T116
 refine a_stB (cs' := [_, _, _, _, _]) ?_ T116
 refine RA.nil nofun ?_
 refine AG.ret ?_
 simp only [Option.some.injEq, Prod.mk.injEq] at H
 obtain ⟨rfl, rfl, rfl, rfl, rfl⟩ := H
 exact RetB.mk T116 rfl rfl rfl (RetP.mk id ⟨rfl, trivial⟩ trivial rfl)
/-! ### laws_toPlacementS: function 30 -/
def laws_toPlacementS.l0 : Nat → List S115 → List S115 → Int → Option ((List S115))
 | 0, _, _, _ => none
 | k + 1, x0, x3, x4 => if x4 < (x0.length : Int) then (if 0 ≤ x4 then ((laws_toPlacement.f ((rd115 x0 x4).f0) ((rd115 x0 x4).f1) ((rd115 x0 x4).f2) ((rd115 x0 x4).f3) ((rd115 x0 x4).f4)).bind fun bt6 => (if x4 < (x3.length : Int) then (laws_toPlacementS.l0 k x0 (x3.set (x4 : Int).toNat (⟨bt6.1, bt6.2.1, bt6.2.2.1, bt6.2.2.2.1, bt6.2.2.2.2⟩ : S115)) (wrap64 (x4 + 1))) else (none))) else (none)) else (some x3)
def laws_toPlacementS.f (k : Nat) (l0 : List S115) : Option ((List S115)) := if 0 ≤ (l0.length : Int) then (if ((l0.length : Int) : Int).toNat ≤ 7036874417766 then (laws_toPlacementS.l0 k l0 (List.replicate (((l0.length : Int) : Int).toNat) z115) 0) else (none)) else (none)
set_option maxRecDepth 100000 in
theorem laws_toPlacementS.ok {k : Nat} {l0 : List S115} {r : List S115} (H : laws_toPlacementS.f k l0 = some r) : OkF Tryz.prog 30 [vR 122 (l0.map c115)] [] (.c (.own 100 r.length)) [(100, .row 116 (r.map c115))] := by
 unfold laws_toPlacementS.f at H
 refine OkF.of (N := 23) (rs := [2]) (avs := [.c (.own 100 r.length)]) Tryz.func30 rfl rfl (fun _ _ => results_tmp rfl _ _ _) (by decide) rfl rfl rfl rfl (fun w0 S => ?_)
 refine AG.seq ?_
 refine AG.region HM ?_
 refine a_nilO (e := 116) 200 ?_ T116
 refine RA.nil nofun ?_
 refine AG.seq ?_
 refine AG.region HM ?_
 refine a_move (v := vR _ _) ?_
 refine a_lenR ?_ Tryz.underlying52
 by_cases hc1 : 0 ≤ (l0.length : Int)
 ·rw [if_pos hc1] at H
  by_cases hc2 : ((l0.length : Int) : Int).toNat ≤ 7036874417766
  ·rw [if_pos hc2] at H
   refine a_make (n := (l0.length : Int)) (css := (List.replicate (((l0.length : Int) : Int).toNat) z115).map c115) 201 ?_ N60 T116 (zV (zV (zV (zV (zV zN))))) hc1 (by omega) (by omega) (hcss := by exact rep_map rfl)
   refine a_move (v := .c (.own _ _)) ?_
   refine RA.nil nofun ?_
   refine AG.seq ?_
   refine AG.seq ?_
   refine AG.region HM ?_
   refine a_move (v := vI _) ?_
   refine RA.nil nofun ?_
   refine AG.block ?_
   refine AG.loop ?_
   obtain ⟨K0, hK0, gK0⟩ : ∃ K, k ≤ K ∧ K ≤ k := ⟨k, Nat.le_refl k, Nat.le_refl k⟩
   refine AGr.canon (fun κ => cond (Nat.beq κ 202) 201 (κ)) (AGr.loopI (n := k) (fun k s => k ≤ K0 ∧ ∃ (x0 : List S115) (x3 : List S115) (x4 : Int), laws_toPlacementS.l0 k x0 x3 x4 = some r ∧ s = St.of [(0, vR 122 (x0.map c115)), (3, .c (.own 202 x3.length)), (4, vI x4)] [(202, .row 116 (x3.map c115))]) ⟨hK0, _, _, _, H, rfl⟩ ?_ ?_) ⟨rfl, (ownE rfl (by simp)), rfl, trivial⟩ ⟨rfl, trivial⟩ rfl
   ·rintro _ ⟨_, _, _, _, H, _⟩
    cases H
   ·clear H hK0
    rintro k ih0 _ ⟨hK0, x0, x3, x4, H, rfl⟩
    unfold laws_toPlacementS.l0 at H
    refine AG.seq ?_
    refine AG.seq ?_
    refine AG.region HM ?_
    refine a_move (v := vI _) ?_
    refine a_move (v := vR _ _) ?_
    refine a_lenR ?_ Tryz.underlying52
    refine a_int (u := .bool (decide (x4 < (x0.length : Int)))) ?_
    refine RA.nil nofun ?_
    by_cases hc4 : x4 < (x0.length : Int)
    ·rw [if_pos hc4] at H
     refine AG.yes rfl (decide_eq_true hc4) ?_
     refine AG.skip ?_
     refine AG.seq ?_
     refine AG.block ?_
     refine AG.region HM ?_
     refine a_move (v := .c (.own _ _)) ?_
     refine a_move (v := vI _) ?_
     refine a_move (v := vR _ _) ?_
     refine a_move (v := vI _) ?_
     by_cases hc5 : 0 ≤ x4
     ·rw [if_pos hc5] at H
      refine a_ixR (el := c115 (rd115 x0 x4)) ?_ ⟨hc5, hc4⟩ T122 Tryz.underlying52 (hel := R115 hc5 hc4)
      refine a_ldR (v := .agg [_, _, _, _, _]) ?_ T122
      obtain ⟨⟨t6, t7, t8, t9, t10⟩, e11, H⟩ := bindO H
      refine a_call (v := .agg [.d (.v (.int .i64 t6)), .d (.v (.int .i64 t7)), .d (.v (.int .i64 t8)), .d (.v (.int .i64 t9)), .d (.v (.int .i64 t10))]) (nk := []) (L := []) ?_ rfl (laws_toPlacement.ok e11) id (qg qn) trivial trivial trivial rfl
      by_cases hc12 : x4 < (x3.length : Int)
      ·rw [if_pos hc12] at H
       refine a_ixO ?_ ⟨hc5, hc12⟩ T116 Tryz.underlying60
       refine a_stF (css' := (x3.set (x4 : Int).toNat (⟨t6, t7, t8, t9, t10⟩ : S115)).map c115) ?_ (flat_map (fun _ => rfl)) (G115 hc5 hc12) T116 (hcss := by exact set_map rfl)
       refine RA.nil nofun ?_
       refine AG.region HM ?_
       refine a_move (v := vI _) ?_
       refine a_int (u := .int .i64 (wrap64 (x4 + 1))) ?_
       refine a_move (v := vI _) ?_
       refine RA.nil nofun ?_
       exact AGr.canon id (ih0 _ (by omega) _ ⟨by omega, _, _, _, H, rfl⟩) ⟨rfl, (ownE rfl (by simp)), rfl, trivial⟩ ⟨rfl, trivial⟩ rfl
      ·rw [if_neg hc12] at H
       cases H
     ·rw [if_neg hc5] at H
      cases H
    ·rw [if_neg hc4] at H
     refine AG.no rfl (decide_eq_false hc4) ?_
     refine AG.exit ?_
     refine AG.seq ?_
     refine AG.region HM ?_
     refine a_move (v := .c (.own _ _)) ?_
     refine a_move (v := .c (.own _ _)) ?_
     refine RA.nil nofun ?_
     refine AG.ret ?_
     obtain rfl := Option.some.inj H
     exact RetP.mk (fun κ => cond (Nat.beq κ 100) 202 (κ)) ⟨rfl, trivial⟩ ⟨rfl, trivial⟩ rfl
  ·rw [if_neg hc2] at H
   cases H
 ·rw [if_neg hc1] at H
  cases H
/-! ### impl_within: function 110 -/
def impl_within.f (a0 : Int) (a1 : Int) (a2 : Int) : Option (Bool) := if a0 ≥ a1 then (some (decide (a0 ≤ a2))) else (some false)
set_option maxRecDepth 100000 in
theorem impl_within.ok {a0 : Int} {a1 : Int} {a2 : Int} {r : Bool} (H : impl_within.f a0 a1 a2 = some r) : OkF Tryz.prog 110 [vI a0, vI a1, vI a2] [] (.c (.d (.v (.bool r)))) [] := by
 unfold impl_within.f at H
 refine OkF.of (N := 15) (rs := [6]) (avs := [.c (.d (.v (.bool r)))]) Tryz.func110 rfl rfl (fun _ _ => results_tmp rfl _ _ _) (by decide) rfl rfl rfl rfl (fun w0 S => ?_)
 refine AG.seq ?_
 refine AG.region HM ?_
 refine a_move (v := vB _) ?_
 refine RA.nil nofun ?_
 refine AG.seq ?_
 refine AG.region HM ?_
 refine a_move (v := vI _) ?_
 refine a_move (v := vI _) ?_
 refine a_int (u := .bool (decide (a0 ≥ a1))) ?_
 refine a_move (v := vB _) ?_
 by_cases hc1 : a0 ≥ a1
 ·rw [if_pos hc1] at H
  refine a_move (v := vI _) ?_ (hg := Gs.yes rfl rfl rfl (decide_eq_true hc1))
  refine a_move (v := vI _) ?_ (hg := Gs.yes rfl rfl rfl (decide_eq_true hc1))
  refine a_int (u := .bool (decide (a0 ≤ a2))) ?_ (hg := Gs.yes rfl rfl rfl (decide_eq_true hc1))
  refine a_pick (b := true) (v := vB _) ?_ (decide_eq_true hc1)
  refine a_move (v := vB _) ?_
  refine RA.nil nofun ?_
  refine AG.ret ?_
  obtain rfl := Option.some.inj H
  exact RetP.mk id ⟨rfl, trivial⟩ trivial rfl
 ·rw [if_neg hc1] at H
  refine RA.skip rfl rfl rfl rfl rfl (decide_eq_false hc1) (by decide) ?_
  refine RA.skip rfl rfl rfl rfl rfl (decide_eq_false hc1) (by decide) ?_
  refine RA.skip rfl rfl rfl rfl rfl (decide_eq_false hc1) (by decide) ?_
  refine a_pick (b := false) (v := vB _) ?_ (decide_eq_false hc1)
  refine a_move (v := vB _) ?_
  refine RA.nil nofun ?_
  refine AG.ret ?_
  obtain rfl := Option.some.inj H
  exact RetP.mk id ⟨rfl, trivial⟩ trivial rfl
/-! ### impl_IsName: function 112 -/
mutual
def impl_IsName.j0 : Nat → ByteArray → Bool → Option (Bool)
 | 0, _, _ => none
 | k + 1, x0, x21 => if x21 = true then (some false) else (impl_IsName.l0 k x0 0)
def impl_IsName.l0 : Nat → ByteArray → Int → Option (Bool)
 | 0, _, _ => none
 | k + 1, x0, x3 => if x3 < (x0.size : Int) then (if 0 ≤ x3 then (if (bt x0 x3) < 97 then (if (bt x0 x3) < 48 then (some false) else (if (bt x0 x3) > 57 then (some false) else (impl_IsName.l0 k x0 (wrap64 (x3 + 1))))) else (if (bt x0 x3) > 122 then (if (bt x0 x3) < 48 then (some false) else (if (bt x0 x3) > 57 then (some false) else (impl_IsName.l0 k x0 (wrap64 (x3 + 1))))) else (impl_IsName.l0 k x0 (wrap64 (x3 + 1))))) else (none)) else (some true)
end
def impl_IsName.f (k : Nat) (a0 : ByteArray) : Option (Bool) := if (a0.size : Int) < 1 then (impl_IsName.j0 k a0 true) else (if (a0.size : Int) > 10 then (impl_IsName.j0 k a0 true) else (if 0 < (a0.size : Int) then (if (bt a0 0) < 97 then (impl_IsName.j0 k a0 true) else (impl_IsName.j0 k a0 (decide ((bt a0 0) > 122)))) else (none)))
set_option maxRecDepth 100000 in
theorem impl_IsName.ok {k : Nat} {a0 : ByteArray} {r : Bool} (H : impl_IsName.f k a0 = some r) : OkF Tryz.prog 112 [vS a0] [] (.c (.d (.v (.bool r)))) [] := by
 unfold impl_IsName.f at H
 refine OkF.of (N := 50) (rs := [2]) (avs := [.c (.d (.v (.bool r)))]) Tryz.func112 rfl rfl (fun _ _ => results_tmp rfl _ _ _) (by decide) rfl rfl rfl rfl (fun w0 S => ?_)
 refine AG.seq ?_
 refine AG.region HM ?_
 refine a_move (v := vB _) ?_
 refine RA.nil nofun ?_
 refine AG.seq ?_
 refine AG.seq ?_
 refine AG.joinR (fun s => ∃ q, q ≤ k ∧ ∃ (x0 : ByteArray) (x21 : Bool), impl_IsName.j0 q x0 x21 = some r ∧ s = St.of [(0, vS x0), (21, vB x21)] []) ?_ ?_
 ·skip
  refine AG.region HM ?_
  refine a_move (v := vS _) ?_
  refine a_lenS ?_ Tryz.underlying9
  refine a_int (u := .bool (decide ((a0.size : Int) < 1))) ?_
  refine a_move (v := vB _) ?_
  by_cases hc1 : (a0.size : Int) < 1
  ·rw [if_pos hc1] at H
   refine RA.skip rfl rfl rfl rfl rfl (decide_eq_true hc1) (by decide) ?_
   refine RA.skip rfl rfl rfl rfl rfl (decide_eq_true hc1) (by decide) ?_
   refine RA.skip rfl rfl rfl rfl rfl (decide_eq_true hc1) (by decide) ?_
   refine a_pick (b := true) (v := vB _) ?_ (decide_eq_true hc1)
   refine a_move (v := vB _) ?_
   refine RA.skip rfl rfl rfl rfl rfl rfl (by decide) ?_
   refine RA.skip rfl rfl rfl rfl rfl rfl (by decide) ?_
   refine RA.skip rfl rfl rfl rfl rfl rfl (by decide) ?_
   refine a_pick (b := true) (v := vB _) ?_ rfl
   refine a_move (v := vB _) ?_
   refine RA.skip rfl rfl rfl rfl rfl rfl (by decide) ?_
   refine RA.skip rfl rfl rfl rfl rfl rfl (by decide) ?_
   refine RA.skip rfl rfl rfl rfl rfl rfl (by decide) ?_
   refine a_pick (b := true) (v := vB _) ?_ rfl
   refine RA.nil nofun ?_
   exact CanR.mk id ⟨_, (by omega), _, _, H, rfl⟩ ⟨rfl, rfl, trivial⟩ trivial rfl
  ·rw [if_neg hc1] at H
   refine a_move (v := vS _) ?_ (hg := Gs.yes rfl rfl rfl (decide_eq_false hc1))
   refine a_lenS ?_ Tryz.underlying9 (hg := Gs.yes rfl rfl rfl (decide_eq_false hc1))
   refine a_int (u := .bool (decide ((a0.size : Int) > 10))) ?_ (hg := Gs.yes rfl rfl rfl (decide_eq_false hc1))
   refine a_pick (b := false) (v := vB _) ?_ (decide_eq_false hc1)
   refine a_move (v := vB _) ?_
   by_cases hc2 : (a0.size : Int) > 10
   ·rw [if_pos hc2] at H
    refine RA.skip rfl rfl rfl rfl rfl (decide_eq_true hc2) (by decide) ?_
    refine RA.skip rfl rfl rfl rfl rfl (decide_eq_true hc2) (by decide) ?_
    refine RA.skip rfl rfl rfl rfl rfl (decide_eq_true hc2) (by decide) ?_
    refine a_pick (b := true) (v := vB _) ?_ (decide_eq_true hc2)
    refine a_move (v := vB _) ?_
    refine RA.skip rfl rfl rfl rfl rfl rfl (by decide) ?_
    refine RA.skip rfl rfl rfl rfl rfl rfl (by decide) ?_
    refine RA.skip rfl rfl rfl rfl rfl rfl (by decide) ?_
    refine a_pick (b := true) (v := vB _) ?_ rfl
    refine RA.nil nofun ?_
    exact CanR.mk id ⟨_, (by omega), _, _, H, rfl⟩ ⟨rfl, rfl, trivial⟩ trivial rfl
   ·rw [if_neg hc2] at H
    refine a_move (v := vS _) ?_ (hg := Gs.yes rfl rfl rfl (decide_eq_false hc2))
    by_cases hc3 : 0 < (a0.size : Int)
    ·rw [if_pos hc3] at H
     refine a_str ?_ ⟨(by decide), hc3⟩ Tryz.underlying9 (hg := Gs.yes rfl rfl rfl (decide_eq_false hc2))
     refine a_int (u := .bool (decide ((bt a0 0) < 97))) ?_ (hg := Gs.yes rfl rfl rfl (decide_eq_false hc2))
     refine a_pick (b := false) (v := vB _) ?_ (decide_eq_false hc2)
     refine a_move (v := vB _) ?_
     by_cases hc4 : (bt a0 0) < 97
     ·rw [if_pos hc4] at H
      refine RA.skip rfl rfl rfl rfl rfl (decide_eq_true hc4) (by decide) ?_
      refine RA.skip rfl rfl rfl rfl rfl (decide_eq_true hc4) (by decide) ?_
      refine RA.skip rfl rfl rfl rfl rfl (decide_eq_true hc4) (by decide) ?_
      refine a_pick (b := true) (v := vB _) ?_ (decide_eq_true hc4)
      refine RA.nil nofun ?_
      exact CanR.mk id ⟨_, (by omega), _, _, H, rfl⟩ ⟨rfl, rfl, trivial⟩ trivial rfl
     ·rw [if_neg hc4] at H
      refine a_move (v := vS _) ?_ (hg := Gs.yes rfl rfl rfl (decide_eq_false hc4))
      refine a_str ?_ ⟨(by decide), hc3⟩ Tryz.underlying9 (hg := Gs.yes rfl rfl rfl (decide_eq_false hc4))
      refine a_int (u := .bool (decide ((bt a0 0) > 122))) ?_ (hg := Gs.yes rfl rfl rfl (decide_eq_false hc4))
      refine a_pick (b := false) (v := vB _) ?_ (decide_eq_false hc4)
      refine RA.nil nofun ?_
      exact CanR.mk id ⟨_, (by omega), _, _, H, rfl⟩ ⟨rfl, rfl, trivial⟩ trivial rfl
    ·rw [if_neg hc3] at H
     cases H
 ·clear H
  rintro _ ⟨k, hj0, x0, x21, H, rfl⟩
  cases k with
  | zero => cases H
  | succ k =>
   rw [impl_IsName.j0] at H
   by_cases hc5 : x21 = true
   ·rw [if_pos hc5] at H
    refine AG.yes rfl hc5 ?_
    refine AG.seq ?_
    refine AG.region HM ?_
    refine a_move (v := vB _) ?_
    refine RA.nil nofun ?_
    refine AG.ret ?_
    obtain rfl := Option.some.inj H
    exact RetP.mk id ⟨rfl, trivial⟩ trivial rfl
   ·rw [if_neg hc5] at H
    refine AG.no rfl (Bool.eq_false_iff.2 hc5) ?_
    refine AG.skip ?_
    refine AG.seq ?_
    refine AG.seq ?_
    refine AG.region HM ?_
    refine a_move (v := vI _) ?_
    refine RA.nil nofun ?_
    refine AG.block ?_
    refine AG.loop ?_
    obtain ⟨K0, hK0, gK0⟩ : ∃ K, k ≤ K ∧ K ≤ k := ⟨k, Nat.le_refl k, Nat.le_refl k⟩
    refine AGr.canon id (AGr.loopI (n := k) (fun k s => k ≤ K0 ∧ ∃ (x0 : ByteArray) (x3 : Int), impl_IsName.l0 k x0 x3 = some r ∧ s = St.of [(0, vS x0), (3, vI x3)] []) ⟨hK0, _, _, H, rfl⟩ ?_ ?_) ⟨rfl, rfl, trivial⟩ trivial rfl
    ·rintro _ ⟨_, _, _, H, _⟩
     cases H
    ·clear H hK0
     rintro k ih0 _ ⟨hK0, x0, x3, H, rfl⟩
     unfold impl_IsName.l0 at H
     refine AG.seq ?_
     refine AG.seq ?_
     refine AG.region HM ?_
     refine a_move (v := vI _) ?_
     refine a_move (v := vS _) ?_
     refine a_lenS ?_ Tryz.underlying9
     refine a_int (u := .bool (decide (x3 < (x0.size : Int)))) ?_
     refine RA.nil nofun ?_
     by_cases hc6 : x3 < (x0.size : Int)
     ·rw [if_pos hc6] at H
      refine AG.yes rfl (decide_eq_true hc6) ?_
      refine AG.skip ?_
      refine AG.seq ?_
      refine AG.block ?_
      refine AG.seq ?_
      refine AG.region HM ?_
      refine a_move (v := vS _) ?_
      refine a_move (v := vI _) ?_
      by_cases hc7 : 0 ≤ x3
      ·rw [if_pos hc7] at H
       refine a_str ?_ ⟨hc7, hc6⟩ Tryz.underlying9
       refine a_int (u := .bool (decide ((bt x0 x3) < 97))) ?_
       refine a_move (v := vB _) ?_
       by_cases hc8 : (bt x0 x3) < 97
       ·rw [if_pos hc8] at H
        refine RA.skip rfl rfl rfl rfl rfl (decide_eq_true hc8) (by decide) ?_
        refine RA.skip rfl rfl rfl rfl rfl (decide_eq_true hc8) (by decide) ?_
        refine RA.skip rfl rfl rfl rfl rfl (decide_eq_true hc8) (by decide) ?_
        refine RA.skip rfl rfl rfl rfl rfl (decide_eq_true hc8) (by decide) ?_
        refine a_pick (b := true) (v := vB _) ?_ (decide_eq_true hc8)
        refine a_move (v := vB _) ?_
        refine a_move (v := vS _) ?_ (hg := Gs.yes rfl rfl rfl rfl)
        refine a_move (v := vI _) ?_ (hg := Gs.yes rfl rfl rfl rfl)
        refine a_str ?_ ⟨hc7, hc6⟩ Tryz.underlying9 (hg := Gs.yes rfl rfl rfl rfl)
        refine a_int (u := .bool (decide ((bt x0 x3) < 48))) ?_ (hg := Gs.yes rfl rfl rfl rfl)
        refine a_move (v := vB _) ?_ (hg := Gs.yes rfl rfl rfl rfl)
        by_cases hc9 : (bt x0 x3) < 48
        ·rw [if_pos hc9] at H
         refine RA.skip rfl rfl rfl rfl rfl (decide_eq_true hc9) (by decide) ?_
         refine RA.skip rfl rfl rfl rfl rfl (decide_eq_true hc9) (by decide) ?_
         refine RA.skip rfl rfl rfl rfl rfl (decide_eq_true hc9) (by decide) ?_
         refine RA.skip rfl rfl rfl rfl rfl (decide_eq_true hc9) (by decide) ?_
         refine a_pick (b := true) (v := vB _) ?_ (decide_eq_true hc9) (hg := Gs.yes rfl rfl rfl rfl)
         refine a_pick (b := true) (v := vB _) ?_ rfl
         refine RA.nil nofun ?_
         refine AG.yes rfl rfl ?_
         refine AG.seq ?_
         refine AG.region HM ?_
         refine a_move (v := vB _) ?_
         refine RA.nil nofun ?_
         refine AG.ret ?_
         obtain rfl := Option.some.inj H
         exact RetP.mk id ⟨rfl, trivial⟩ trivial rfl
        ·rw [if_neg hc9] at H
         refine a_move (v := vS _) ?_ (hg := Gs.yes rfl rfl rfl (decide_eq_false hc9))
         refine a_move (v := vI _) ?_ (hg := Gs.yes rfl rfl rfl (decide_eq_false hc9))
         refine a_str ?_ ⟨hc7, hc6⟩ Tryz.underlying9 (hg := Gs.yes rfl rfl rfl (decide_eq_false hc9))
         refine a_int (u := .bool (decide ((bt x0 x3) > 57))) ?_ (hg := Gs.yes rfl rfl rfl (decide_eq_false hc9))
         refine a_pick (b := false) (v := vB _) ?_ (decide_eq_false hc9) (hg := Gs.yes rfl rfl rfl rfl)
         refine a_pick (b := true) (v := vB _) ?_ rfl
         refine RA.nil nofun ?_
         by_cases hc10 : (bt x0 x3) > 57
         ·rw [if_pos hc10] at H
          refine AG.yes rfl (decide_eq_true hc10) ?_
          refine AG.seq ?_
          refine AG.region HM ?_
          refine a_move (v := vB _) ?_
          refine RA.nil nofun ?_
          refine AG.ret ?_
          obtain rfl := Option.some.inj H
          exact RetP.mk id ⟨rfl, trivial⟩ trivial rfl
         ·rw [if_neg hc10] at H
          refine AG.no rfl (decide_eq_false hc10) ?_
          refine AG.skip ?_
          refine AG.region HM ?_
          refine a_move (v := vI _) ?_
          refine a_int (u := .int .i64 (wrap64 (x3 + 1))) ?_
          refine a_move (v := vI _) ?_
          refine RA.nil nofun ?_
          exact AGr.canon id (ih0 _ (by omega) _ ⟨by omega, _, _, H, rfl⟩) ⟨rfl, rfl, trivial⟩ trivial rfl
       ·rw [if_neg hc8] at H
        refine a_move (v := vS _) ?_ (hg := Gs.yes rfl rfl rfl (decide_eq_false hc8))
        refine a_move (v := vI _) ?_ (hg := Gs.yes rfl rfl rfl (decide_eq_false hc8))
        refine a_str ?_ ⟨hc7, hc6⟩ Tryz.underlying9 (hg := Gs.yes rfl rfl rfl (decide_eq_false hc8))
        refine a_int (u := .bool (decide ((bt x0 x3) > 122))) ?_ (hg := Gs.yes rfl rfl rfl (decide_eq_false hc8))
        refine a_pick (b := false) (v := vB _) ?_ (decide_eq_false hc8)
        refine a_move (v := vB _) ?_
        by_cases hc11 : (bt x0 x3) > 122
        ·rw [if_pos hc11] at H
         refine a_move (v := vS _) ?_ (hg := Gs.yes rfl rfl rfl (decide_eq_true hc11))
         refine a_move (v := vI _) ?_ (hg := Gs.yes rfl rfl rfl (decide_eq_true hc11))
         refine a_str ?_ ⟨hc7, hc6⟩ Tryz.underlying9 (hg := Gs.yes rfl rfl rfl (decide_eq_true hc11))
         refine a_int (u := .bool (decide ((bt x0 x3) < 48))) ?_ (hg := Gs.yes rfl rfl rfl (decide_eq_true hc11))
         refine a_move (v := vB _) ?_ (hg := Gs.yes rfl rfl rfl (decide_eq_true hc11))
         by_cases hc12 : (bt x0 x3) < 48
         ·rw [if_pos hc12] at H
          refine RA.skip rfl rfl rfl rfl rfl (decide_eq_true hc12) (by decide) ?_
          refine RA.skip rfl rfl rfl rfl rfl (decide_eq_true hc12) (by decide) ?_
          refine RA.skip rfl rfl rfl rfl rfl (decide_eq_true hc12) (by decide) ?_
          refine RA.skip rfl rfl rfl rfl rfl (decide_eq_true hc12) (by decide) ?_
          refine a_pick (b := true) (v := vB _) ?_ (decide_eq_true hc12) (hg := Gs.yes rfl rfl rfl (decide_eq_true hc11))
          refine a_pick (b := true) (v := vB _) ?_ (decide_eq_true hc11)
          refine RA.nil nofun ?_
          refine AG.yes rfl rfl ?_
          refine AG.seq ?_
          refine AG.region HM ?_
          refine a_move (v := vB _) ?_
          refine RA.nil nofun ?_
          refine AG.ret ?_
          obtain rfl := Option.some.inj H
          exact RetP.mk id ⟨rfl, trivial⟩ trivial rfl
         ·rw [if_neg hc12] at H
          refine a_move (v := vS _) ?_ (hg := Gs.yes rfl rfl rfl (decide_eq_false hc12))
          refine a_move (v := vI _) ?_ (hg := Gs.yes rfl rfl rfl (decide_eq_false hc12))
          refine a_str ?_ ⟨hc7, hc6⟩ Tryz.underlying9 (hg := Gs.yes rfl rfl rfl (decide_eq_false hc12))
          refine a_int (u := .bool (decide ((bt x0 x3) > 57))) ?_ (hg := Gs.yes rfl rfl rfl (decide_eq_false hc12))
          refine a_pick (b := false) (v := vB _) ?_ (decide_eq_false hc12) (hg := Gs.yes rfl rfl rfl (decide_eq_true hc11))
          refine a_pick (b := true) (v := vB _) ?_ (decide_eq_true hc11)
          refine RA.nil nofun ?_
          by_cases hc13 : (bt x0 x3) > 57
          ·rw [if_pos hc13] at H
           refine AG.yes rfl (decide_eq_true hc13) ?_
           refine AG.seq ?_
           refine AG.region HM ?_
           refine a_move (v := vB _) ?_
           refine RA.nil nofun ?_
           refine AG.ret ?_
           obtain rfl := Option.some.inj H
           exact RetP.mk id ⟨rfl, trivial⟩ trivial rfl
          ·rw [if_neg hc13] at H
           refine AG.no rfl (decide_eq_false hc13) ?_
           refine AG.skip ?_
           refine AG.region HM ?_
           refine a_move (v := vI _) ?_
           refine a_int (u := .int .i64 (wrap64 (x3 + 1))) ?_
           refine a_move (v := vI _) ?_
           refine RA.nil nofun ?_
           exact AGr.canon id (ih0 _ (by omega) _ ⟨by omega, _, _, H, rfl⟩) ⟨rfl, rfl, trivial⟩ trivial rfl
        ·rw [if_neg hc11] at H
         refine RA.skip rfl rfl rfl rfl rfl (decide_eq_false hc11) (by decide) ?_
         refine RA.skip rfl rfl rfl rfl rfl (decide_eq_false hc11) (by decide) ?_
         refine RA.skip rfl rfl rfl rfl rfl (decide_eq_false hc11) (by decide) ?_
         refine RA.skip rfl rfl rfl rfl rfl (decide_eq_false hc11) (by decide) ?_
         refine RA.skip rfl rfl rfl rfl rfl (decide_eq_false hc11) (by decide) ?_
         refine RA.skip0 rfl rfl rfl rfl rfl ?_
         refine RA.skip0 rfl rfl rfl rfl rfl ?_
         refine RA.skip0 rfl rfl rfl rfl rfl ?_
         refine RA.skip0 rfl rfl rfl rfl rfl ?_
         refine RA.skip rfl rfl rfl rfl rfl (decide_eq_false hc11) (by decide) ?_
         refine a_pick (b := false) (v := vB _) ?_ (decide_eq_false hc11)
         refine RA.nil nofun ?_
         refine AG.no rfl rfl ?_
         refine AG.skip ?_
         refine AG.region HM ?_
         refine a_move (v := vI _) ?_
         refine a_int (u := .int .i64 (wrap64 (x3 + 1))) ?_
         refine a_move (v := vI _) ?_
         refine RA.nil nofun ?_
         exact AGr.canon id (ih0 _ (by omega) _ ⟨by omega, _, _, H, rfl⟩) ⟨rfl, rfl, trivial⟩ trivial rfl
      ·rw [if_neg hc7] at H
       cases H
     ·rw [if_neg hc6] at H
      refine AG.no rfl (decide_eq_false hc6) ?_
      refine AG.exit ?_
      refine AG.seq ?_
      refine AG.region HM ?_
      refine a_move (v := vB _) ?_
      refine RA.nil nofun ?_
      refine AG.ret ?_
      obtain rfl := Option.some.inj H
      exact RetP.mk id ⟨rfl, trivial⟩ trivial rfl
/-! ### impl_SpeciesData: function 231 -/
def impl_SpeciesData.f (a0 : ByteArray) : Option (Int × Int × Int × Int) := if a0.toList = (⟨#[97, 115, 104]⟩ : ByteArray).toList then (some (20, 40, 310, 0)) else (if a0.toList = (⟨#[98, 101, 101, 99, 104]⟩ : ByteArray).toList then (some (35, 45, 410, 0)) else (if a0.toList = (⟨#[98, 105, 114, 99, 104]⟩ : ByteArray).toList then (some (15, 33, 280, 0)) else (if a0.toList = (⟨#[99, 104, 101, 114, 114, 121]⟩ : ByteArray).toList then (some (50, 36, 240, 0)) else (if a0.toList = (⟨#[101, 98, 111, 110, 121]⟩ : ByteArray).toList then (some (95, 85, 270, 0)) else (if a0.toList = (⟨#[104, 111, 108, 108, 121]⟩ : ByteArray).toList then (some (5, 35, 370, 0)) else (if a0.toList = (⟨#[109, 97, 112, 108, 101]⟩ : ByteArray).toList then (some (10, 42, 290, 0)) else (if a0.toList = (⟨#[111, 97, 107]⟩ : ByteArray).toList then (some (40, 40, 330, 0)) else (if a0.toList = (⟨#[114, 111, 115, 101, 119, 111, 111, 100]⟩ : ByteArray).toList then (some (80, 60, 220, 0)) else (if a0.toList = (⟨#[119, 97, 108, 110, 117, 116]⟩ : ByteArray).toList then (some (70, 38, 260, 0)) else (some (0, 0, 0, 3)))))))))))
set_option maxRecDepth 100000 in
theorem impl_SpeciesData.ok {a0 : ByteArray} {r0 : Int} {r1 : Int} {r2 : Int} {r3 : Int} (H : impl_SpeciesData.f a0 = some (r0, r1, r2, r3)) : OkF Tryz.prog 231 [vS a0] [] (.tup [.c (.d (.v (.int .i64 r0))), .c (.d (.v (.int .i64 r1))), .c (.d (.v (.int .i64 r2))), .c (.d (.v (.int .i64 r3)))]) [] := by
 unfold impl_SpeciesData.f at H
 refine OkF.of (N := 27) (rs := [2, 3, 4, 5]) (avs := [.c (.d (.v (.int .i64 r0))), .c (.d (.v (.int .i64 r1))), .c (.d (.v (.int .i64 r2))), .c (.d (.v (.int .i64 r3)))]) Tryz.func231 rfl rfl (fun _ _ => results_tmp4 rfl _ _ _) (by decide) rfl rfl rfl rfl (fun w0 S => ?_)
 refine AG.seq ?_
 refine AG.region HM ?_
 refine a_move (v := vI _) ?_
 refine a_move (v := vI _) ?_
 refine a_move (v := vI _) ?_
 refine a_move (v := vI _) ?_
 refine RA.nil nofun ?_
 refine AG.seq ?_
 refine AG.seq ?_
 refine AG.region HM ?_
 refine a_move (v := vS _) ?_
 refine RA.nil nofun ?_
 refine AG.block ?_
 refine AG.seq ?_
 refine AG.region HM ?_
 refine a_bin (u := .bool (a0.toList == (⟨#[97, 115, 104]⟩ : ByteArray).toList)) ?_
 refine a_move (v := vB _) ?_
 refine RA.nil nofun ?_
 by_cases hc1 : a0.toList = (⟨#[97, 115, 104]⟩ : ByteArray).toList
 ·rw [if_pos hc1] at H
  refine AG.yes rfl (beq_iff_eq.2 hc1) ?_
  refine AG.seq ?_
  refine AG.region HM ?_
  refine a_move (v := vI _) ?_
  refine a_move (v := vI _) ?_
  refine a_move (v := vI _) ?_
  refine a_move (v := vI _) ?_
  refine RA.nil nofun ?_
  refine AG.ret ?_
  simp only [Option.some.injEq, Prod.mk.injEq] at H
  obtain ⟨rfl, rfl, rfl, rfl⟩ := H
  exact RetP.mk id ⟨rfl, rfl, rfl, rfl, trivial⟩ trivial rfl
 ·rw [if_neg hc1] at H
  refine AG.no rfl (beq_eq_false_iff_ne.2 hc1) ?_
  refine AG.seq ?_
  refine AG.region HM ?_
  refine a_bin (u := .bool (a0.toList == (⟨#[98, 101, 101, 99, 104]⟩ : ByteArray).toList)) ?_
  refine a_move (v := vB _) ?_
  refine RA.nil nofun ?_
  by_cases hc2 : a0.toList = (⟨#[98, 101, 101, 99, 104]⟩ : ByteArray).toList
  ·rw [if_pos hc2] at H
   refine AG.yes rfl (beq_iff_eq.2 hc2) ?_
   refine AG.seq ?_
   refine AG.region HM ?_
   refine a_move (v := vI _) ?_
   refine a_move (v := vI _) ?_
   refine a_move (v := vI _) ?_
   refine a_move (v := vI _) ?_
   refine RA.nil nofun ?_
   refine AG.ret ?_
   simp only [Option.some.injEq, Prod.mk.injEq] at H
   obtain ⟨rfl, rfl, rfl, rfl⟩ := H
   exact RetP.mk id ⟨rfl, rfl, rfl, rfl, trivial⟩ trivial rfl
  ·rw [if_neg hc2] at H
   refine AG.no rfl (beq_eq_false_iff_ne.2 hc2) ?_
   refine AG.seq ?_
   refine AG.region HM ?_
   refine a_bin (u := .bool (a0.toList == (⟨#[98, 105, 114, 99, 104]⟩ : ByteArray).toList)) ?_
   refine a_move (v := vB _) ?_
   refine RA.nil nofun ?_
   by_cases hc3 : a0.toList = (⟨#[98, 105, 114, 99, 104]⟩ : ByteArray).toList
   ·rw [if_pos hc3] at H
    refine AG.yes rfl (beq_iff_eq.2 hc3) ?_
    refine AG.seq ?_
    refine AG.region HM ?_
    refine a_move (v := vI _) ?_
    refine a_move (v := vI _) ?_
    refine a_move (v := vI _) ?_
    refine a_move (v := vI _) ?_
    refine RA.nil nofun ?_
    refine AG.ret ?_
    simp only [Option.some.injEq, Prod.mk.injEq] at H
    obtain ⟨rfl, rfl, rfl, rfl⟩ := H
    exact RetP.mk id ⟨rfl, rfl, rfl, rfl, trivial⟩ trivial rfl
   ·rw [if_neg hc3] at H
    refine AG.no rfl (beq_eq_false_iff_ne.2 hc3) ?_
    refine AG.seq ?_
    refine AG.region HM ?_
    refine a_bin (u := .bool (a0.toList == (⟨#[99, 104, 101, 114, 114, 121]⟩ : ByteArray).toList)) ?_
    refine a_move (v := vB _) ?_
    refine RA.nil nofun ?_
    by_cases hc4 : a0.toList = (⟨#[99, 104, 101, 114, 114, 121]⟩ : ByteArray).toList
    ·rw [if_pos hc4] at H
     refine AG.yes rfl (beq_iff_eq.2 hc4) ?_
     refine AG.seq ?_
     refine AG.region HM ?_
     refine a_move (v := vI _) ?_
     refine a_move (v := vI _) ?_
     refine a_move (v := vI _) ?_
     refine a_move (v := vI _) ?_
     refine RA.nil nofun ?_
     refine AG.ret ?_
     simp only [Option.some.injEq, Prod.mk.injEq] at H
     obtain ⟨rfl, rfl, rfl, rfl⟩ := H
     exact RetP.mk id ⟨rfl, rfl, rfl, rfl, trivial⟩ trivial rfl
    ·rw [if_neg hc4] at H
     refine AG.no rfl (beq_eq_false_iff_ne.2 hc4) ?_
     refine AG.seq ?_
     refine AG.region HM ?_
     refine a_bin (u := .bool (a0.toList == (⟨#[101, 98, 111, 110, 121]⟩ : ByteArray).toList)) ?_
     refine a_move (v := vB _) ?_
     refine RA.nil nofun ?_
     by_cases hc5 : a0.toList = (⟨#[101, 98, 111, 110, 121]⟩ : ByteArray).toList
     ·rw [if_pos hc5] at H
      refine AG.yes rfl (beq_iff_eq.2 hc5) ?_
      refine AG.seq ?_
      refine AG.region HM ?_
      refine a_move (v := vI _) ?_
      refine a_move (v := vI _) ?_
      refine a_move (v := vI _) ?_
      refine a_move (v := vI _) ?_
      refine RA.nil nofun ?_
      refine AG.ret ?_
      simp only [Option.some.injEq, Prod.mk.injEq] at H
      obtain ⟨rfl, rfl, rfl, rfl⟩ := H
      exact RetP.mk id ⟨rfl, rfl, rfl, rfl, trivial⟩ trivial rfl
     ·rw [if_neg hc5] at H
      refine AG.no rfl (beq_eq_false_iff_ne.2 hc5) ?_
      refine AG.seq ?_
      refine AG.region HM ?_
      refine a_bin (u := .bool (a0.toList == (⟨#[104, 111, 108, 108, 121]⟩ : ByteArray).toList)) ?_
      refine a_move (v := vB _) ?_
      refine RA.nil nofun ?_
      by_cases hc6 : a0.toList = (⟨#[104, 111, 108, 108, 121]⟩ : ByteArray).toList
      ·rw [if_pos hc6] at H
       refine AG.yes rfl (beq_iff_eq.2 hc6) ?_
       refine AG.seq ?_
       refine AG.region HM ?_
       refine a_move (v := vI _) ?_
       refine a_move (v := vI _) ?_
       refine a_move (v := vI _) ?_
       refine a_move (v := vI _) ?_
       refine RA.nil nofun ?_
       refine AG.ret ?_
       simp only [Option.some.injEq, Prod.mk.injEq] at H
       obtain ⟨rfl, rfl, rfl, rfl⟩ := H
       exact RetP.mk id ⟨rfl, rfl, rfl, rfl, trivial⟩ trivial rfl
      ·rw [if_neg hc6] at H
       refine AG.no rfl (beq_eq_false_iff_ne.2 hc6) ?_
       refine AG.seq ?_
       refine AG.region HM ?_
       refine a_bin (u := .bool (a0.toList == (⟨#[109, 97, 112, 108, 101]⟩ : ByteArray).toList)) ?_
       refine a_move (v := vB _) ?_
       refine RA.nil nofun ?_
       by_cases hc7 : a0.toList = (⟨#[109, 97, 112, 108, 101]⟩ : ByteArray).toList
       ·rw [if_pos hc7] at H
        refine AG.yes rfl (beq_iff_eq.2 hc7) ?_
        refine AG.seq ?_
        refine AG.region HM ?_
        refine a_move (v := vI _) ?_
        refine a_move (v := vI _) ?_
        refine a_move (v := vI _) ?_
        refine a_move (v := vI _) ?_
        refine RA.nil nofun ?_
        refine AG.ret ?_
        simp only [Option.some.injEq, Prod.mk.injEq] at H
        obtain ⟨rfl, rfl, rfl, rfl⟩ := H
        exact RetP.mk id ⟨rfl, rfl, rfl, rfl, trivial⟩ trivial rfl
       ·rw [if_neg hc7] at H
        refine AG.no rfl (beq_eq_false_iff_ne.2 hc7) ?_
        refine AG.seq ?_
        refine AG.region HM ?_
        refine a_bin (u := .bool (a0.toList == (⟨#[111, 97, 107]⟩ : ByteArray).toList)) ?_
        refine a_move (v := vB _) ?_
        refine RA.nil nofun ?_
        by_cases hc8 : a0.toList = (⟨#[111, 97, 107]⟩ : ByteArray).toList
        ·rw [if_pos hc8] at H
         refine AG.yes rfl (beq_iff_eq.2 hc8) ?_
         refine AG.seq ?_
         refine AG.region HM ?_
         refine a_move (v := vI _) ?_
         refine a_move (v := vI _) ?_
         refine a_move (v := vI _) ?_
         refine a_move (v := vI _) ?_
         refine RA.nil nofun ?_
         refine AG.ret ?_
         simp only [Option.some.injEq, Prod.mk.injEq] at H
         obtain ⟨rfl, rfl, rfl, rfl⟩ := H
         exact RetP.mk id ⟨rfl, rfl, rfl, rfl, trivial⟩ trivial rfl
        ·rw [if_neg hc8] at H
         refine AG.no rfl (beq_eq_false_iff_ne.2 hc8) ?_
         refine AG.seq ?_
         refine AG.region HM ?_
         refine a_bin (u := .bool (a0.toList == (⟨#[114, 111, 115, 101, 119, 111, 111, 100]⟩ : ByteArray).toList)) ?_
         refine a_move (v := vB _) ?_
         refine RA.nil nofun ?_
         by_cases hc9 : a0.toList = (⟨#[114, 111, 115, 101, 119, 111, 111, 100]⟩ : ByteArray).toList
         ·rw [if_pos hc9] at H
          refine AG.yes rfl (beq_iff_eq.2 hc9) ?_
          refine AG.seq ?_
          refine AG.region HM ?_
          refine a_move (v := vI _) ?_
          refine a_move (v := vI _) ?_
          refine a_move (v := vI _) ?_
          refine a_move (v := vI _) ?_
          refine RA.nil nofun ?_
          refine AG.ret ?_
          simp only [Option.some.injEq, Prod.mk.injEq] at H
          obtain ⟨rfl, rfl, rfl, rfl⟩ := H
          exact RetP.mk id ⟨rfl, rfl, rfl, rfl, trivial⟩ trivial rfl
         ·rw [if_neg hc9] at H
          refine AG.no rfl (beq_eq_false_iff_ne.2 hc9) ?_
          refine AG.seq ?_
          refine AG.region HM ?_
          refine a_bin (u := .bool (a0.toList == (⟨#[119, 97, 108, 110, 117, 116]⟩ : ByteArray).toList)) ?_
          refine a_move (v := vB _) ?_
          refine RA.nil nofun ?_
          by_cases hc10 : a0.toList = (⟨#[119, 97, 108, 110, 117, 116]⟩ : ByteArray).toList
          ·rw [if_pos hc10] at H
           refine AG.yes rfl (beq_iff_eq.2 hc10) ?_
           refine AG.seq ?_
           refine AG.region HM ?_
           refine a_move (v := vI _) ?_
           refine a_move (v := vI _) ?_
           refine a_move (v := vI _) ?_
           refine a_move (v := vI _) ?_
           refine RA.nil nofun ?_
           refine AG.ret ?_
           simp only [Option.some.injEq, Prod.mk.injEq] at H
           obtain ⟨rfl, rfl, rfl, rfl⟩ := H
           exact RetP.mk id ⟨rfl, rfl, rfl, rfl, trivial⟩ trivial rfl
          ·rw [if_neg hc10] at H
           refine AG.no rfl (beq_eq_false_iff_ne.2 hc10) ?_
           refine AG.skip ?_
           refine AG.seq ?_
           refine AG.region HM ?_
           refine a_move (v := vI _) ?_
           refine a_move (v := vI _) ?_
           refine a_move (v := vI _) ?_
           refine a_move (v := vI _) ?_
           refine RA.nil nofun ?_
           refine AG.ret ?_
           simp only [Option.some.injEq, Prod.mk.injEq] at H
           obtain ⟨rfl, rfl, rfl, rfl⟩ := H
           exact RetP.mk id ⟨rfl, rfl, rfl, rfl, trivial⟩ trivial rfl
/-! ### impl_speciesShade: function 203 -/
def impl_speciesShade.f (a0 : ByteArray) : Option (Int × Bool) := (impl_SpeciesData.f a0).bind fun bt1 => (some (bt1.1, (bt1.2.2.2 == 0)))
set_option maxRecDepth 100000 in
theorem impl_speciesShade.ok {a0 : ByteArray} {r0 : Int} {r1 : Bool} (H : impl_speciesShade.f a0 = some (r0, r1)) : OkF Tryz.prog 203 [vS a0] [] (.tup [.c (.d (.v (.int .i64 r0))), .c (.d (.v (.bool r1)))]) [] := by
 unfold impl_speciesShade.f at H
 refine OkF.of (N := 18) (rs := [2, 3]) (avs := [.c (.d (.v (.int .i64 r0))), .c (.d (.v (.bool r1)))]) Tryz.func203 rfl rfl (fun _ _ => results_tmp2 rfl _ _ _) (by decide) rfl rfl rfl rfl (fun w0 S => ?_)
 refine AG.seq ?_
 refine AG.region HM ?_
 refine a_move (v := vI _) ?_
 refine a_move (v := vB _) ?_
 refine RA.nil nofun ?_
 refine AG.seq ?_
 refine AG.region HM ?_
 refine a_move (v := vS _) ?_
 obtain ⟨⟨t1, t2, t3, t4⟩, e5, H⟩ := bindO H
 refine a_call (v := .tup [.c (.d (.v (.int .i64 t1))), .c (.d (.v (.int .i64 t2))), .c (.d (.v (.int .i64 t3))), .c (.d (.v (.int .i64 t4)))]) (nk := []) (L := []) ?_ rfl (impl_SpeciesData.ok e5) id (qd qn) trivial trivial trivial rfl
 refine a_move (v := .tup [_, _, _, _]) ?_
 refine a_ext (v := vI _) ?_
 refine a_ext (v := vI _) ?_
 refine a_ext (v := vI _) ?_
 refine a_ext (v := vI _) ?_
 refine a_move (v := vI _) ?_
 refine a_move (v := vI _) ?_
 refine a_move (v := vI _) ?_
 refine a_move (v := vI _) ?_
 refine RA.nil nofun ?_
 refine AG.seq ?_
 refine AG.region HM ?_
 refine a_move (v := vI _) ?_
 refine a_move (v := vI _) ?_
 refine a_int (u := .bool ((t4 == 0))) ?_
 refine a_move (v := vI _) ?_
 refine a_move (v := vB _) ?_
 refine RA.nil nofun ?_
 refine AG.ret ?_
 simp only [Option.some.injEq, Prod.mk.injEq] at H
 obtain ⟨rfl, rfl⟩ := H
 exact RetP.mk id ⟨rfl, rfl, trivial⟩ trivial rfl
/-! ### impl_ValidVeneer: function 165 -/
def impl_ValidVeneer.f (a0_0 : ByteArray) (a0_1 : Int) (a0_2 : Int) : Option (Bool) := (impl_speciesShade.f a0_0).bind fun bt1 => (if bt1.2 = true then ((impl_within.f a0_1 0 100).bind fun t5 => (if t5 = true then ((impl_within.f (wrap64 (a0_1 - bt1.1)) (-15) 15).bind fun t8 => (if t8 = true then ((impl_within.f a0_2 0 179).bind fun t11 => (some t11)) else (some false))) else (some false))) else (some false))
set_option maxRecDepth 100000 in
theorem impl_ValidVeneer.ok {a0_0 : ByteArray} {a0_1 : Int} {a0_2 : Int} {r : Bool} (H : impl_ValidVeneer.f a0_0 a0_1 a0_2 = some r) : OkF Tryz.prog 165 [.agg [.d (.v (.string a0_0)), .d (.v (.int .i64 a0_1)), .d (.v (.int .i64 a0_2))]] [] (.c (.d (.v (.bool r)))) [] := by
 unfold impl_ValidVeneer.f at H
 refine OkF.of (N := 29) (rs := [2]) (avs := [.c (.d (.v (.bool r)))]) Tryz.func165 rfl rfl (fun _ _ => results_tmp rfl _ _ _) (by decide) rfl rfl rfl rfl (fun w0 S => ?_)
 refine AG.seq ?_
 refine AG.region HM ?_
 refine a_box 200 ?_
 refine a_move (v := vB _) ?_
 refine RA.nil nofun ?_
 refine AG.seq ?_
 refine AG.region HM ?_
 refine a_faB (q := 0) ?_ D92_0
 refine a_ldB (v := vS _) ?_ T9
 obtain ⟨⟨t1, t2⟩, e3, H⟩ := bindO H
 refine a_call (v := .tup [.c (.d (.v (.int .i64 t1))), .c (.d (.v (.bool t2)))]) (nk := []) (L := []) ?_ rfl (impl_speciesShade.ok e3) id (qd qn) trivial trivial trivial rfl
 refine a_move (v := .tup [_, _]) ?_
 refine a_ext (v := vI _) ?_
 refine a_ext (v := vB _) ?_
 refine a_move (v := vI _) ?_
 refine a_move (v := vB _) ?_
 refine RA.nil nofun ?_
 refine AG.seq ?_
 refine AG.region HM ?_
 refine a_move (v := vB _) ?_
 refine a_move (v := vB _) ?_
 by_cases hc4 : t2 = true
 ·rw [if_pos hc4] at H
  refine a_faB (q := 1) ?_ D92_1 (hg := Gs.yes rfl rfl rfl hc4)
  refine a_ldB (v := vI _) ?_ T2 (hg := Gs.yes rfl rfl rfl hc4)
  obtain ⟨t5, e6, H⟩ := bindO H
  refine a_call (v := vB t5) (nk := []) (L := []) ?_ rfl (impl_within.ok e6) id (qd (qd (qd qn))) trivial trivial trivial rfl (hg := Gs.yes rfl rfl rfl hc4)
  refine a_pick (b := true) (v := vB _) ?_ hc4
  refine a_move (v := vB _) ?_
  by_cases hc7 : t5 = true
  ·rw [if_pos hc7] at H
   refine a_faB (q := 1) ?_ D92_1 (hg := Gs.yes rfl rfl rfl hc7)
   refine a_ldB (v := vI _) ?_ T2 (hg := Gs.yes rfl rfl rfl hc7)
   refine a_move (v := vI _) ?_ (hg := Gs.yes rfl rfl rfl hc7)
   refine a_int (u := .int .i64 (wrap64 (a0_1 - t1))) ?_ (hg := Gs.yes rfl rfl rfl hc7)
   obtain ⟨t8, e9, H⟩ := bindO H
   refine a_call (v := vB t8) (nk := []) (L := []) ?_ rfl (impl_within.ok e9) id (qd (qd (qd qn))) trivial trivial trivial rfl (hg := Gs.yes rfl rfl rfl hc7)
   refine a_pick (b := true) (v := vB _) ?_ hc7
   refine a_move (v := vB _) ?_
   by_cases hc10 : t8 = true
   ·rw [if_pos hc10] at H
    refine a_faB (q := 2) ?_ D92_2 (hg := Gs.yes rfl rfl rfl hc10)
    refine a_ldB (v := vI _) ?_ T2 (hg := Gs.yes rfl rfl rfl hc10)
    obtain ⟨t11, e12, H⟩ := bindO H
    refine a_call (v := vB t11) (nk := []) (L := []) ?_ rfl (impl_within.ok e12) id (qd (qd (qd qn))) trivial trivial trivial rfl (hg := Gs.yes rfl rfl rfl hc10)
    refine a_pick (b := true) (v := vB _) ?_ hc10
    refine a_move (v := vB _) ?_
    refine RA.nil nofun ?_
    refine AG.ret ?_
    obtain rfl := Option.some.inj H
    exact RetP.mk id ⟨rfl, trivial⟩ trivial rfl
   ·rw [if_neg hc10] at H
    refine RA.skip rfl rfl rfl rfl rfl (Bool.eq_false_iff.2 hc10) (by decide) ?_
    refine RA.skip rfl rfl rfl rfl rfl (Bool.eq_false_iff.2 hc10) (by decide) ?_
    refine RA.skip rfl rfl rfl rfl rfl (Bool.eq_false_iff.2 hc10) (by decide) ?_
    refine a_pick (b := false) (v := vB _) ?_ (Bool.eq_false_iff.2 hc10)
    refine a_move (v := vB _) ?_
    refine RA.nil nofun ?_
    refine AG.ret ?_
    obtain rfl := Option.some.inj H
    exact RetP.mk id ⟨rfl, trivial⟩ trivial rfl
  ·rw [if_neg hc7] at H
   refine RA.skip rfl rfl rfl rfl rfl (Bool.eq_false_iff.2 hc7) (by decide) ?_
   refine RA.skip rfl rfl rfl rfl rfl (Bool.eq_false_iff.2 hc7) (by decide) ?_
   refine RA.skip rfl rfl rfl rfl rfl (Bool.eq_false_iff.2 hc7) (by decide) ?_
   refine RA.skip rfl rfl rfl rfl rfl (Bool.eq_false_iff.2 hc7) (by decide) ?_
   refine RA.skip rfl rfl rfl rfl rfl (Bool.eq_false_iff.2 hc7) (by decide) ?_
   refine a_pick (b := false) (v := vB _) ?_ (Bool.eq_false_iff.2 hc7)
   refine a_move (v := vB _) ?_
   refine RA.skip rfl rfl rfl rfl rfl rfl (by decide) ?_
   refine RA.skip rfl rfl rfl rfl rfl rfl (by decide) ?_
   refine RA.skip rfl rfl rfl rfl rfl rfl (by decide) ?_
   refine a_pick (b := false) (v := vB _) ?_ rfl
   refine a_move (v := vB _) ?_
   refine RA.nil nofun ?_
   refine AG.ret ?_
   obtain rfl := Option.some.inj H
   exact RetP.mk id ⟨rfl, trivial⟩ trivial rfl
 ·rw [if_neg hc4] at H
  refine RA.skip rfl rfl rfl rfl rfl (Bool.eq_false_iff.2 hc4) (by decide) ?_
  refine RA.skip rfl rfl rfl rfl rfl (Bool.eq_false_iff.2 hc4) (by decide) ?_
  refine RA.skip rfl rfl rfl rfl rfl (Bool.eq_false_iff.2 hc4) (by decide) ?_
  refine a_pick (b := false) (v := vB _) ?_ (Bool.eq_false_iff.2 hc4)
  refine a_move (v := vB _) ?_
  refine RA.skip rfl rfl rfl rfl rfl rfl (by decide) ?_
  refine RA.skip rfl rfl rfl rfl rfl rfl (by decide) ?_
  refine RA.skip rfl rfl rfl rfl rfl rfl (by decide) ?_
  refine RA.skip rfl rfl rfl rfl rfl rfl (by decide) ?_
  refine RA.skip rfl rfl rfl rfl rfl rfl (by decide) ?_
  refine a_pick (b := false) (v := vB _) ?_ rfl
  refine a_move (v := vB _) ?_
  refine RA.skip rfl rfl rfl rfl rfl rfl (by decide) ?_
  refine RA.skip rfl rfl rfl rfl rfl rfl (by decide) ?_
  refine RA.skip rfl rfl rfl rfl rfl rfl (by decide) ?_
  refine a_pick (b := false) (v := vB _) ?_ rfl
  refine a_move (v := vB _) ?_
  refine RA.nil nofun ?_
  refine AG.ret ?_
  obtain rfl := Option.some.inj H
  exact RetP.mk id ⟨rfl, trivial⟩ trivial rfl
/-! ### impl_boxWithin: function 167 -/
def impl_boxWithin.f (a0_0 : Int) (a0_1 : Int) (a0_2 : Int) (a0_3 : Int) (a1 : Int) (a2 : Int) : Option (Bool) := (impl_within.f a0_0 0 a1).bind fun t1 => (if t1 = true then ((impl_within.f a0_1 0 a2).bind fun t4 => (if t4 = true then ((impl_within.f a0_2 1 (wrap64 (a1 - a0_0))).bind fun t7 => (if t7 = true then ((impl_within.f a0_3 1 (wrap64 (a2 - a0_1))).bind fun t10 => (some t10)) else (some false))) else (some false))) else (some false))
set_option maxRecDepth 100000 in
theorem impl_boxWithin.ok {a0_0 : Int} {a0_1 : Int} {a0_2 : Int} {a0_3 : Int} {a1 : Int} {a2 : Int} {r : Bool} (H : impl_boxWithin.f a0_0 a0_1 a0_2 a0_3 a1 a2 = some r) : OkF Tryz.prog 167 [.agg [.d (.v (.int .i64 a0_0)), .d (.v (.int .i64 a0_1)), .d (.v (.int .i64 a0_2)), .d (.v (.int .i64 a0_3))], vI a1, vI a2] [] (.c (.d (.v (.bool r)))) [] := by
 unfold impl_boxWithin.f at H
 refine OkF.of (N := 35) (rs := [6]) (avs := [.c (.d (.v (.bool r)))]) Tryz.func167 rfl rfl (fun _ _ => results_tmp rfl _ _ _) (by decide) rfl rfl rfl rfl (fun w0 S => ?_)
 refine AG.seq ?_
 refine AG.region HM ?_
 refine a_box 200 ?_
 refine a_move (v := vB _) ?_
 refine RA.nil nofun ?_
 refine AG.seq ?_
 refine AG.region HM ?_
 refine a_faB (q := 0) ?_ D177_0
 refine a_ldB (v := vI _) ?_ T2
 refine a_move (v := vI _) ?_
 obtain ⟨t1, e2, H⟩ := bindO H
 refine a_call (v := vB t1) (nk := []) (L := []) ?_ rfl (impl_within.ok e2) id (qd (qd (qd qn))) trivial trivial trivial rfl
 refine a_move (v := vB _) ?_
 by_cases hc3 : t1 = true
 ·rw [if_pos hc3] at H
  refine a_faB (q := 1) ?_ D177_1 (hg := Gs.yes rfl rfl rfl hc3)
  refine a_ldB (v := vI _) ?_ T2 (hg := Gs.yes rfl rfl rfl hc3)
  refine a_move (v := vI _) ?_ (hg := Gs.yes rfl rfl rfl hc3)
  obtain ⟨t4, e5, H⟩ := bindO H
  refine a_call (v := vB t4) (nk := []) (L := []) ?_ rfl (impl_within.ok e5) id (qd (qd (qd qn))) trivial trivial trivial rfl (hg := Gs.yes rfl rfl rfl hc3)
  refine a_pick (b := true) (v := vB _) ?_ hc3
  refine a_move (v := vB _) ?_
  by_cases hc6 : t4 = true
  ·rw [if_pos hc6] at H
   refine a_faB (q := 2) ?_ D177_2 (hg := Gs.yes rfl rfl rfl hc6)
   refine a_ldB (v := vI _) ?_ T2 (hg := Gs.yes rfl rfl rfl hc6)
   refine a_move (v := vI _) ?_ (hg := Gs.yes rfl rfl rfl hc6)
   refine a_faB (q := 0) ?_ D177_0 (hg := Gs.yes rfl rfl rfl hc6)
   refine a_ldB (v := vI _) ?_ T2 (hg := Gs.yes rfl rfl rfl hc6)
   refine a_int (u := .int .i64 (wrap64 (a1 - a0_0))) ?_ (hg := Gs.yes rfl rfl rfl hc6)
   obtain ⟨t7, e8, H⟩ := bindO H
   refine a_call (v := vB t7) (nk := []) (L := []) ?_ rfl (impl_within.ok e8) id (qd (qd (qd qn))) trivial trivial trivial rfl (hg := Gs.yes rfl rfl rfl hc6)
   refine a_pick (b := true) (v := vB _) ?_ hc6
   refine a_move (v := vB _) ?_
   by_cases hc9 : t7 = true
   ·rw [if_pos hc9] at H
    refine a_faB (q := 3) ?_ D177_3 (hg := Gs.yes rfl rfl rfl hc9)
    refine a_ldB (v := vI _) ?_ T2 (hg := Gs.yes rfl rfl rfl hc9)
    refine a_move (v := vI _) ?_ (hg := Gs.yes rfl rfl rfl hc9)
    refine a_faB (q := 1) ?_ D177_1 (hg := Gs.yes rfl rfl rfl hc9)
    refine a_ldB (v := vI _) ?_ T2 (hg := Gs.yes rfl rfl rfl hc9)
    refine a_int (u := .int .i64 (wrap64 (a2 - a0_1))) ?_ (hg := Gs.yes rfl rfl rfl hc9)
    obtain ⟨t10, e11, H⟩ := bindO H
    refine a_call (v := vB t10) (nk := []) (L := []) ?_ rfl (impl_within.ok e11) id (qd (qd (qd qn))) trivial trivial trivial rfl (hg := Gs.yes rfl rfl rfl hc9)
    refine a_pick (b := true) (v := vB _) ?_ hc9
    refine a_move (v := vB _) ?_
    refine RA.nil nofun ?_
    refine AG.ret ?_
    obtain rfl := Option.some.inj H
    exact RetP.mk id ⟨rfl, trivial⟩ trivial rfl
   ·rw [if_neg hc9] at H
    refine RA.skip rfl rfl rfl rfl rfl (Bool.eq_false_iff.2 hc9) (by decide) ?_
    refine RA.skip rfl rfl rfl rfl rfl (Bool.eq_false_iff.2 hc9) (by decide) ?_
    refine RA.skip rfl rfl rfl rfl rfl (Bool.eq_false_iff.2 hc9) (by decide) ?_
    refine RA.skip rfl rfl rfl rfl rfl (Bool.eq_false_iff.2 hc9) (by decide) ?_
    refine RA.skip rfl rfl rfl rfl rfl (Bool.eq_false_iff.2 hc9) (by decide) ?_
    refine RA.skip rfl rfl rfl rfl rfl (Bool.eq_false_iff.2 hc9) (by decide) ?_
    refine RA.skip rfl rfl rfl rfl rfl (Bool.eq_false_iff.2 hc9) (by decide) ?_
    refine a_pick (b := false) (v := vB _) ?_ (Bool.eq_false_iff.2 hc9)
    refine a_move (v := vB _) ?_
    refine RA.nil nofun ?_
    refine AG.ret ?_
    obtain rfl := Option.some.inj H
    exact RetP.mk id ⟨rfl, trivial⟩ trivial rfl
  ·rw [if_neg hc6] at H
   refine RA.skip rfl rfl rfl rfl rfl (Bool.eq_false_iff.2 hc6) (by decide) ?_
   refine RA.skip rfl rfl rfl rfl rfl (Bool.eq_false_iff.2 hc6) (by decide) ?_
   refine RA.skip rfl rfl rfl rfl rfl (Bool.eq_false_iff.2 hc6) (by decide) ?_
   refine RA.skip rfl rfl rfl rfl rfl (Bool.eq_false_iff.2 hc6) (by decide) ?_
   refine RA.skip rfl rfl rfl rfl rfl (Bool.eq_false_iff.2 hc6) (by decide) ?_
   refine RA.skip rfl rfl rfl rfl rfl (Bool.eq_false_iff.2 hc6) (by decide) ?_
   refine RA.skip rfl rfl rfl rfl rfl (Bool.eq_false_iff.2 hc6) (by decide) ?_
   refine a_pick (b := false) (v := vB _) ?_ (Bool.eq_false_iff.2 hc6)
   refine a_move (v := vB _) ?_
   refine RA.skip rfl rfl rfl rfl rfl rfl (by decide) ?_
   refine RA.skip rfl rfl rfl rfl rfl rfl (by decide) ?_
   refine RA.skip rfl rfl rfl rfl rfl rfl (by decide) ?_
   refine RA.skip rfl rfl rfl rfl rfl rfl (by decide) ?_
   refine RA.skip rfl rfl rfl rfl rfl rfl (by decide) ?_
   refine RA.skip rfl rfl rfl rfl rfl rfl (by decide) ?_
   refine RA.skip rfl rfl rfl rfl rfl rfl (by decide) ?_
   refine a_pick (b := false) (v := vB _) ?_ rfl
   refine a_move (v := vB _) ?_
   refine RA.nil nofun ?_
   refine AG.ret ?_
   obtain rfl := Option.some.inj H
   exact RetP.mk id ⟨rfl, trivial⟩ trivial rfl
 ·rw [if_neg hc3] at H
  refine RA.skip rfl rfl rfl rfl rfl (Bool.eq_false_iff.2 hc3) (by decide) ?_
  refine RA.skip rfl rfl rfl rfl rfl (Bool.eq_false_iff.2 hc3) (by decide) ?_
  refine RA.skip rfl rfl rfl rfl rfl (Bool.eq_false_iff.2 hc3) (by decide) ?_
  refine RA.skip rfl rfl rfl rfl rfl (Bool.eq_false_iff.2 hc3) (by decide) ?_
  refine a_pick (b := false) (v := vB _) ?_ (Bool.eq_false_iff.2 hc3)
  refine a_move (v := vB _) ?_
  refine RA.skip rfl rfl rfl rfl rfl rfl (by decide) ?_
  refine RA.skip rfl rfl rfl rfl rfl rfl (by decide) ?_
  refine RA.skip rfl rfl rfl rfl rfl rfl (by decide) ?_
  refine RA.skip rfl rfl rfl rfl rfl rfl (by decide) ?_
  refine RA.skip rfl rfl rfl rfl rfl rfl (by decide) ?_
  refine RA.skip rfl rfl rfl rfl rfl rfl (by decide) ?_
  refine RA.skip rfl rfl rfl rfl rfl rfl (by decide) ?_
  refine a_pick (b := false) (v := vB _) ?_ rfl
  refine a_move (v := vB _) ?_
  refine RA.skip rfl rfl rfl rfl rfl rfl (by decide) ?_
  refine RA.skip rfl rfl rfl rfl rfl rfl (by decide) ?_
  refine RA.skip rfl rfl rfl rfl rfl rfl (by decide) ?_
  refine RA.skip rfl rfl rfl rfl rfl rfl (by decide) ?_
  refine RA.skip rfl rfl rfl rfl rfl rfl (by decide) ?_
  refine RA.skip rfl rfl rfl rfl rfl rfl (by decide) ?_
  refine RA.skip rfl rfl rfl rfl rfl rfl (by decide) ?_
  refine a_pick (b := false) (v := vB _) ?_ rfl
  refine a_move (v := vB _) ?_
  refine RA.nil nofun ?_
  refine AG.ret ?_
  obtain rfl := Option.some.inj H
  exact RetP.mk id ⟨rfl, trivial⟩ trivial rfl
/-! ### impl_ValidLeaf_1: function 166 -/
def impl_ValidLeaf_1.f (a0_0 : Int) (a0_1 : Int) (a0_2 : Int) (a0_3 : Int) (v_0_0 : ByteArray) (v_0_1 : ByteArray) (v_0_2 : Int) (v_0_3 : ByteArray) (v_0_4 : Int) (v_0_5 : Int) (v_0_6 : Int) (v_0_7 : Int) (v_0_8 : List S176) : Option (Bool) := (impl_boxWithin.f a0_0 a0_1 a0_2 a0_3 v_0_6 v_0_7).bind fun t1 => (some (!t1))
set_option maxRecDepth 100000 in
theorem impl_ValidLeaf_1.ok {a0_0 : Int} {a0_1 : Int} {a0_2 : Int} {a0_3 : Int} {v_0_0 : ByteArray} {v_0_1 : ByteArray} {v_0_2 : Int} {v_0_3 : ByteArray} {v_0_4 : Int} {v_0_5 : Int} {v_0_6 : Int} {v_0_7 : Int} {v_0_8 : List S176} {r : Bool} (H : impl_ValidLeaf_1.f a0_0 a0_1 a0_2 a0_3 v_0_0 v_0_1 v_0_2 v_0_3 v_0_4 v_0_5 v_0_6 v_0_7 v_0_8 = some r) : OkF Tryz.prog 166 [.agg [.d (.v (.int .i64 a0_0)), .d (.v (.int .i64 a0_1)), .d (.v (.int .i64 a0_2)), .d (.v (.int .i64 a0_3))], .c (.d (.ro [.v (.string v_0_0), .v (.string v_0_1), .v (.int .i64 v_0_2), .v (.string v_0_3), .v (.int .i64 v_0_4), .v (.int .i64 v_0_5), .v (.int .i64 v_0_6), .v (.int .i64 v_0_7), .row 177 (v_0_8.map c176)]))] [] (.c (.d (.v (.bool r)))) [] := by
 unfold impl_ValidLeaf_1.f at H
 refine OkF.of (N := 11) (rs := [3]) (avs := [.c (.d (.v (.bool r)))]) Tryz.func166 rfl rfl (fun _ _ => results_tmp rfl _ _ _) (by decide) rfl rfl rfl rfl (fun w0 S => ?_)
 refine AG.seq ?_
 refine AG.region HM ?_
 refine a_box 200 ?_
 refine a_move (v := vB _) ?_
 refine RA.nil nofun ?_
 refine AG.seq ?_
 refine AG.region HM ?_
 refine a_ldB (v := .agg [_, _, _, _]) ?_ T177
 refine a_faR (cells' := [_, _, _]) ?_ D95_4
 refine a_ldR (v := vI _) ?_ T2
 refine a_faR (cells' := [_, _]) ?_ D95_5
 refine a_ldR (v := vI _) ?_ T2
 obtain ⟨t1, e2, H⟩ := bindO H
 refine a_call (v := vB t1) (nk := []) (L := []) ?_ rfl (impl_boxWithin.ok e2) id (qg (qd (qd qn))) trivial trivial trivial rfl
 refine a_un (u := .bool (!t1)) ?_
 refine a_move (v := vB _) ?_
 refine RA.nil nofun ?_
 refine AG.ret ?_
 obtain rfl := Option.some.inj H
 exact RetP.mk id ⟨rfl, trivial⟩ trivial rfl
/-! ### slices_IndexFunc_impl_Box__impl_ValidLeaf_1: function 176 -/
def slices_IndexFunc_impl_Box__impl_ValidLeaf_1.l0 : Nat → List S176 → ByteArray → ByteArray → Int → ByteArray → Int → Int → Int → Int → List S176 → Int → Int → Option (Int)
 | 0, _, _, _, _, _, _, _, _, _, _, _, _ => none
 | k + 1, x0, x1_0_0, x1_0_1, x1_0_2, x1_0_3, x1_0_4, x1_0_5, x1_0_6, x1_0_7, x1_0_8, x7, x8 => if x8 < x7 then (if 0 ≤ x8 then (if x8 < (x0.length : Int) then ((impl_ValidLeaf_1.f ((rd176 x0 x8).f0) ((rd176 x0 x8).f1) ((rd176 x0 x8).f2) ((rd176 x0 x8).f3) x1_0_0 x1_0_1 x1_0_2 x1_0_3 x1_0_4 x1_0_5 x1_0_6 x1_0_7 x1_0_8).bind fun t4 => (if t4 = true then (some x8) else (slices_IndexFunc_impl_Box__impl_ValidLeaf_1.l0 k x0 x1_0_0 x1_0_1 x1_0_2 x1_0_3 x1_0_4 x1_0_5 x1_0_6 x1_0_7 x1_0_8 x7 (wrap64 (x8 + 1))))) else (none)) else (none)) else (some (-1))
def slices_IndexFunc_impl_Box__impl_ValidLeaf_1.f (k : Nat) (l0 : List S176) (v1_0_0 : ByteArray) (v1_0_1 : ByteArray) (v1_0_2 : Int) (v1_0_3 : ByteArray) (v1_0_4 : Int) (v1_0_5 : Int) (v1_0_6 : Int) (v1_0_7 : Int) (v1_0_8 : List S176) : Option (Int) := slices_IndexFunc_impl_Box__impl_ValidLeaf_1.l0 k l0 v1_0_0 v1_0_1 v1_0_2 v1_0_3 v1_0_4 v1_0_5 v1_0_6 v1_0_7 v1_0_8 (l0.length : Int) 0
set_option maxRecDepth 100000 in
theorem slices_IndexFunc_impl_Box__impl_ValidLeaf_1.ok {k : Nat} {l0 : List S176} {v1_0_0 : ByteArray} {v1_0_1 : ByteArray} {v1_0_2 : Int} {v1_0_3 : ByteArray} {v1_0_4 : Int} {v1_0_5 : Int} {v1_0_6 : Int} {v1_0_7 : Int} {v1_0_8 : List S176} {r : Int} (H : slices_IndexFunc_impl_Box__impl_ValidLeaf_1.f k l0 v1_0_0 v1_0_1 v1_0_2 v1_0_3 v1_0_4 v1_0_5 v1_0_6 v1_0_7 v1_0_8 = some r) : OkF Tryz.prog 176 [vR 177 (l0.map c176), .c (.d (.fn 166 [.ro [.v (.string v1_0_0), .v (.string v1_0_1), .v (.int .i64 v1_0_2), .v (.string v1_0_3), .v (.int .i64 v1_0_4), .v (.int .i64 v1_0_5), .v (.int .i64 v1_0_6), .v (.int .i64 v1_0_7), .row 177 (v1_0_8.map c176)]]))] [] (.c (.d (.v (.int .i64 r)))) [] := by
 unfold slices_IndexFunc_impl_Box__impl_ValidLeaf_1.f at H
 refine OkF.of (N := 19) (rs := [4]) (avs := [.c (.d (.v (.int .i64 r)))]) Tryz.func176 rfl rfl (fun _ _ => results_tmp rfl _ _ _) (by decide) rfl rfl rfl rfl (fun w0 S => ?_)
 refine AG.seq ?_
 refine AG.region HM ?_
 refine a_move (v := vI _) ?_
 refine RA.nil nofun ?_
 refine AG.seq ?_
 refine AG.seq ?_
 refine AG.region HM ?_
 refine a_move (v := vR _ _) ?_
 refine a_lenR ?_ Tryz.underlying93
 refine a_move (v := vI _) ?_
 refine RA.nil nofun ?_
 refine AG.block ?_
 refine AG.loop ?_
 obtain ⟨K0, hK0, gK0⟩ : ∃ K, k ≤ K ∧ K ≤ k := ⟨k, Nat.le_refl k, Nat.le_refl k⟩
 refine AGr.canon id (AGr.loopI (n := k) (fun k s => k ≤ K0 ∧ ∃ (x0 : List S176) (x1_0_0 : ByteArray) (x1_0_1 : ByteArray) (x1_0_2 : Int) (x1_0_3 : ByteArray) (x1_0_4 : Int) (x1_0_5 : Int) (x1_0_6 : Int) (x1_0_7 : Int) (x1_0_8 : List S176) (x7 : Int) (x8 : Int), slices_IndexFunc_impl_Box__impl_ValidLeaf_1.l0 k x0 x1_0_0 x1_0_1 x1_0_2 x1_0_3 x1_0_4 x1_0_5 x1_0_6 x1_0_7 x1_0_8 x7 x8 = some r ∧ s = St.of [(0, vR 177 (x0.map c176)), (1, .c (.d (.fn 166 [.ro [.v (.string x1_0_0), .v (.string x1_0_1), .v (.int .i64 x1_0_2), .v (.string x1_0_3), .v (.int .i64 x1_0_4), .v (.int .i64 x1_0_5), .v (.int .i64 x1_0_6), .v (.int .i64 x1_0_7), .row 177 (x1_0_8.map c176)]]))), (7, vI x7), (8, vI x8)] []) ⟨hK0, _, _, _, _, _, _, _, _, _, _, _, _, H, rfl⟩ ?_ ?_) ⟨rfl, rfl, rfl, rfl, trivial⟩ trivial rfl
 ·rintro _ ⟨_, _, _, _, _, _, _, _, _, _, _, _, _, H, _⟩
  cases H
 ·clear H hK0
  rintro k ih0 _ ⟨hK0, x0, x1_0_0, x1_0_1, x1_0_2, x1_0_3, x1_0_4, x1_0_5, x1_0_6, x1_0_7, x1_0_8, x7, x8, H, rfl⟩
  unfold slices_IndexFunc_impl_Box__impl_ValidLeaf_1.l0 at H
  refine AG.seq ?_
  refine AG.region HM ?_
  refine a_int (u := .bool (decide (x8 < x7))) ?_
  refine RA.nil nofun ?_
  refine AG.seq ?_
  by_cases hc1 : x8 < x7
  ·rw [if_pos hc1] at H
   refine AG.yes rfl (decide_eq_true hc1) ?_
   refine AG.skip ?_
   refine AG.seq ?_
   refine AG.block ?_
   refine AG.seq ?_
   refine AG.region HM ?_
   refine a_move (v := vI _) ?_
   refine a_move (v := vI _) ?_
   refine RA.nil nofun ?_
   refine AG.seq ?_
   refine AG.region HM ?_
   refine a_move (v := .c (.d (.fn _ _))) ?_
   refine a_move (v := vR _ _) ?_
   refine a_move (v := vI _) ?_
   by_cases hc2 : 0 ≤ x8
   ·rw [if_pos hc2] at H
    by_cases hc3 : x8 < (x0.length : Int)
    ·rw [if_pos hc3] at H
     refine a_ixR (el := c176 (rd176 x0 x8)) ?_ ⟨hc2, hc3⟩ T177 Tryz.underlying93 (hel := R176 hc2 hc3)
     refine a_ldR (v := .agg [_, _, _, _]) ?_ T177
     obtain ⟨t4, e5, H⟩ := bindO H
     refine a_callW (v := vB t4) (nk := []) (L := []) ?_ rfl rfl (impl_ValidLeaf_1.ok e5) id (qg qn) rfl trivial trivial trivial rfl
     refine RA.nil nofun ?_
     by_cases hc6 : t4 = true
     ·rw [if_pos hc6] at H
      refine AG.yes rfl hc6 ?_
      refine AG.seq ?_
      refine AG.region HM ?_
      refine a_move (v := vI _) ?_
      refine a_move (v := vI _) ?_
      refine RA.nil nofun ?_
      refine AG.ret ?_
      obtain rfl := Option.some.inj H
      exact RetP.mk id ⟨rfl, trivial⟩ trivial rfl
     ·rw [if_neg hc6] at H
      refine AG.no rfl (Bool.eq_false_iff.2 hc6) ?_
      refine AG.skip ?_
      refine AG.region HM ?_
      refine a_int (u := .int .i64 (wrap64 (x8 + 1))) ?_
      refine a_move (v := vI _) ?_
      refine RA.nil nofun ?_
      exact AGr.canon id (ih0 _ (by omega) _ ⟨by omega, _, _, _, _, _, _, _, _, _, _, _, _, H, rfl⟩) ⟨rfl, rfl, rfl, rfl, trivial⟩ trivial rfl
    ·rw [if_neg hc3] at H
     cases H
   ·rw [if_neg hc2] at H
    cases H
  ·rw [if_neg hc1] at H
   refine AG.no rfl (decide_eq_false hc1) ?_
   refine AG.exit ?_
   refine AG.seq ?_
   refine AG.region HM ?_
   refine a_move (v := vI _) ?_
   refine RA.nil nofun ?_
   refine AG.ret ?_
   obtain rfl := Option.some.inj H
   exact RetP.mk id ⟨rfl, trivial⟩ trivial rfl
/-! ### slices_ContainsFunc_impl_Box__impl_ValidLeaf_1: function 127 -/
def slices_ContainsFunc_impl_Box__impl_ValidLeaf_1.f (k : Nat) (l0 : List S176) (v1_0_0 : ByteArray) (v1_0_1 : ByteArray) (v1_0_2 : Int) (v1_0_3 : ByteArray) (v1_0_4 : Int) (v1_0_5 : Int) (v1_0_6 : Int) (v1_0_7 : Int) (v1_0_8 : List S176) : Option (Bool) := (slices_IndexFunc_impl_Box__impl_ValidLeaf_1.f k l0 v1_0_0 v1_0_1 v1_0_2 v1_0_3 v1_0_4 v1_0_5 v1_0_6 v1_0_7 v1_0_8).bind fun t1 => (some (decide (t1 ≥ 0)))
set_option maxRecDepth 100000 in
theorem slices_ContainsFunc_impl_Box__impl_ValidLeaf_1.ok {k : Nat} {l0 : List S176} {v1_0_0 : ByteArray} {v1_0_1 : ByteArray} {v1_0_2 : Int} {v1_0_3 : ByteArray} {v1_0_4 : Int} {v1_0_5 : Int} {v1_0_6 : Int} {v1_0_7 : Int} {v1_0_8 : List S176} {r : Bool} (H : slices_ContainsFunc_impl_Box__impl_ValidLeaf_1.f k l0 v1_0_0 v1_0_1 v1_0_2 v1_0_3 v1_0_4 v1_0_5 v1_0_6 v1_0_7 v1_0_8 = some r) : OkF Tryz.prog 127 [vR 177 (l0.map c176), .c (.d (.fn 166 [.ro [.v (.string v1_0_0), .v (.string v1_0_1), .v (.int .i64 v1_0_2), .v (.string v1_0_3), .v (.int .i64 v1_0_4), .v (.int .i64 v1_0_5), .v (.int .i64 v1_0_6), .v (.int .i64 v1_0_7), .row 177 (v1_0_8.map c176)]]))] [] (.c (.d (.v (.bool r)))) [] := by
 unfold slices_ContainsFunc_impl_Box__impl_ValidLeaf_1.f at H
 refine OkF.of (N := 9) (rs := [4]) (avs := [.c (.d (.v (.bool r)))]) Tryz.func127 rfl rfl (fun _ _ => results_tmp rfl _ _ _) (by decide) rfl rfl rfl rfl (fun w0 S => ?_)
 refine AG.seq ?_
 refine AG.region HM ?_
 refine a_move (v := vB _) ?_
 refine RA.nil nofun ?_
 refine AG.seq ?_
 refine AG.region HM ?_
 refine a_move (v := vR _ _) ?_
 refine a_move (v := .c (.d (.fn _ _))) ?_
 obtain ⟨t1, e2, H⟩ := bindO H
 refine a_call (v := vI t1) (nk := []) (L := []) ?_ rfl (slices_IndexFunc_impl_Box__impl_ValidLeaf_1.ok e2) id (qd (qd qn)) trivial trivial trivial rfl
 refine a_int (u := .bool (decide (t1 ≥ 0))) ?_
 refine a_move (v := vB _) ?_
 refine RA.nil nofun ?_
 refine AG.ret ?_
 obtain rfl := Option.some.inj H
 exact RetP.mk id ⟨rfl, trivial⟩ trivial rfl
/-! ### impl_ValidLeaf: function 115 -/
def impl_ValidLeaf.j0 : Nat → ByteArray → ByteArray → Int → ByteArray → Int → Int → Int → Int → List S176 → Bool → Option (Bool)
 | 0, _, _, _, _, _, _, _, _, _, _ => none
 | k + 1, y205_0, y205_1, y205_2, y205_3, y205_4, y205_5, y205_6, y205_7, y205_8, x24 => if x24 = true then (some false) else ((impl_within.f y205_6 10 20000).bind fun t13 => (if t13 = true then ((impl_within.f y205_7 10 20000).bind fun t16 => (if t16 = true then (if (y205_8.length : Int) > 6 then (some false) else ((slices_ContainsFunc_impl_Box__impl_ValidLeaf_1.f k y205_8 y205_0 y205_1 y205_2 y205_3 y205_4 y205_5 y205_6 y205_7 y205_8).bind fun t20 => (some (!t20)))) else (some false))) else (some false)))
def impl_ValidLeaf.f (k : Nat) (a0_0 : ByteArray) (a0_1 : ByteArray) (a0_2 : Int) (a0_3 : ByteArray) (a0_4 : Int) (a0_5 : Int) (a0_6 : Int) (a0_7 : Int) (l0_8 : List S176) : Option (Bool) := (impl_IsName.f k a0_0).bind fun t1 => (if t1 = true then ((impl_IsName.f k a0_1).bind fun t4 => (if t4 = true then ((impl_within.f a0_2 0 999).bind fun t7 => (if t7 = true then ((impl_ValidVeneer.f a0_3 a0_4 a0_5).bind fun t10 => (impl_ValidLeaf.j0 k a0_0 a0_1 a0_2 a0_3 a0_4 a0_5 a0_6 a0_7 l0_8 (!t10))) else (impl_ValidLeaf.j0 k a0_0 a0_1 a0_2 a0_3 a0_4 a0_5 a0_6 a0_7 l0_8 true))) else (impl_ValidLeaf.j0 k a0_0 a0_1 a0_2 a0_3 a0_4 a0_5 a0_6 a0_7 l0_8 true))) else (impl_ValidLeaf.j0 k a0_0 a0_1 a0_2 a0_3 a0_4 a0_5 a0_6 a0_7 l0_8 true))
set_option maxRecDepth 100000 in
theorem impl_ValidLeaf.ok {k : Nat} {a0_0 : ByteArray} {a0_1 : ByteArray} {a0_2 : Int} {a0_3 : ByteArray} {a0_4 : Int} {a0_5 : Int} {a0_6 : Int} {a0_7 : Int} {l0_8 : List S176} {r : Bool} (H : impl_ValidLeaf.f k a0_0 a0_1 a0_2 a0_3 a0_4 a0_5 a0_6 a0_7 l0_8 = some r) : OkF Tryz.prog 115 [.agg [.d (.v (.string a0_0)), .d (.v (.string a0_1)), .d (.v (.int .i64 a0_2)), .d (.v (.string a0_3)), .d (.v (.int .i64 a0_4)), .d (.v (.int .i64 a0_5)), .d (.v (.int .i64 a0_6)), .d (.v (.int .i64 a0_7)), .d (.row 177 (l0_8.map c176))]] [] (.c (.d (.v (.bool r)))) [] := by
 unfold impl_ValidLeaf.f at H
 refine OkF.of (N := 46) (rs := [2]) (avs := [.c (.d (.v (.bool r)))]) Tryz.func115 rfl rfl (fun _ _ => results_tmp rfl _ _ _) (by decide) rfl rfl rfl rfl (fun w0 S => ?_)
 refine AG.seq ?_
 refine AG.region HM ?_
 refine a_box 200 ?_
 refine a_move (v := vB _) ?_
 refine RA.nil nofun ?_
 refine AG.seq ?_
 refine AG.seq ?_
 refine AG.joinR (fun s => ∃ q, q ≤ k ∧ ∃ (y205_0 : ByteArray) (y205_1 : ByteArray) (y205_2 : Int) (y205_3 : ByteArray) (y205_4 : Int) (y205_5 : Int) (y205_6 : Int) (y205_7 : Int) (y205_8 : List S176) (x24 : Bool), impl_ValidLeaf.j0 q y205_0 y205_1 y205_2 y205_3 y205_4 y205_5 y205_6 y205_7 y205_8 x24 = some r ∧ s = St.of [(1, .c (.ptr 205 0)), (24, vB x24)] [(205, .box 95 [.d (.v (.string y205_0)), .d (.v (.string y205_1)), .d (.v (.int .i64 y205_2)), .d (.v (.string y205_3)), .d (.v (.int .i64 y205_4)), .d (.v (.int .i64 y205_5)), .d (.v (.int .i64 y205_6)), .d (.v (.int .i64 y205_7)), .d (.row 177 (y205_8.map c176))])]) ?_ ?_
 ·skip
  refine AG.region HM ?_
  refine a_faB (q := 0) ?_ D95_0
  refine a_ldB (v := vS _) ?_ T9
  obtain ⟨t1, e2, H⟩ := bindO H
  refine a_call (v := vB t1) (nk := []) (L := []) ?_ rfl (impl_IsName.ok e2) id (qd qn) trivial trivial trivial rfl
  refine a_un (u := .bool (!t1)) ?_
  refine a_move (v := vB _) ?_
  by_cases hc3 : t1 = true
  ·rw [if_pos hc3] at H
   refine a_faB (q := 1) ?_ D95_1 (hg := Gs.yes rfl rfl rfl (congrArg Bool.not hc3))
   refine a_ldB (v := vS _) ?_ T9 (hg := Gs.yes rfl rfl rfl (congrArg Bool.not hc3))
   obtain ⟨t4, e5, H⟩ := bindO H
   refine a_call (v := vB t4) (nk := []) (L := []) ?_ rfl (impl_IsName.ok e5) id (qd qn) trivial trivial trivial rfl (hg := Gs.yes rfl rfl rfl (congrArg Bool.not hc3))
   refine a_un (u := .bool (!t4)) ?_ (hg := Gs.yes rfl rfl rfl (congrArg Bool.not hc3))
   refine a_pick (b := false) (v := vB _) ?_ (congrArg Bool.not hc3)
   refine a_move (v := vB _) ?_
   by_cases hc6 : t4 = true
   ·rw [if_pos hc6] at H
    refine a_faB (q := 2) ?_ D95_2 (hg := Gs.yes rfl rfl rfl (congrArg Bool.not hc6))
    refine a_ldB (v := vI _) ?_ T2 (hg := Gs.yes rfl rfl rfl (congrArg Bool.not hc6))
    obtain ⟨t7, e8, H⟩ := bindO H
    refine a_call (v := vB t7) (nk := []) (L := []) ?_ rfl (impl_within.ok e8) id (qd (qd (qd qn))) trivial trivial trivial rfl (hg := Gs.yes rfl rfl rfl (congrArg Bool.not hc6))
    refine a_un (u := .bool (!t7)) ?_ (hg := Gs.yes rfl rfl rfl (congrArg Bool.not hc6))
    refine a_pick (b := false) (v := vB _) ?_ (congrArg Bool.not hc6)
    refine a_move (v := vB _) ?_
    by_cases hc9 : t7 = true
    ·rw [if_pos hc9] at H
     refine a_faB (q := 3) ?_ D95_3 (hg := Gs.yes rfl rfl rfl (congrArg Bool.not hc9))
     refine a_ldB (v := .agg [_, _, _]) ?_ T92 (hg := Gs.yes rfl rfl rfl (congrArg Bool.not hc9))
     obtain ⟨t10, e11, H⟩ := bindO H
     refine a_call (v := vB t10) (nk := []) (L := []) ?_ rfl (impl_ValidVeneer.ok e11) id (qg qn) trivial trivial trivial rfl (hg := Gs.yes rfl rfl rfl (congrArg Bool.not hc9))
     refine a_un (u := .bool (!t10)) ?_ (hg := Gs.yes rfl rfl rfl (congrArg Bool.not hc9))
     refine a_pick (b := false) (v := vB _) ?_ (congrArg Bool.not hc9)
     refine RA.nil nofun ?_
     exact CanR.mk (fun κ => cond (Nat.beq κ 205) 200 (κ)) ⟨_, (by omega), _, _, _, _, _, _, _, _, _, _, H, rfl⟩ ⟨rfl, rfl, trivial⟩ ⟨rfl, trivial⟩ rfl
    ·rw [if_neg hc9] at H
     refine RA.skip rfl rfl rfl rfl rfl (congrArg Bool.not (Bool.eq_false_iff.2 hc9)) (by decide) ?_
     refine RA.skip rfl rfl rfl rfl rfl (congrArg Bool.not (Bool.eq_false_iff.2 hc9)) (by decide) ?_
     refine RA.skip rfl rfl rfl rfl rfl (congrArg Bool.not (Bool.eq_false_iff.2 hc9)) (by decide) ?_
     refine RA.skip rfl rfl rfl rfl rfl (congrArg Bool.not (Bool.eq_false_iff.2 hc9)) (by decide) ?_
     refine a_pick (b := true) (v := vB _) ?_ (congrArg Bool.not (Bool.eq_false_iff.2 hc9))
     refine RA.nil nofun ?_
     exact CanR.mk (fun κ => cond (Nat.beq κ 205) 200 (κ)) ⟨_, (by omega), _, _, _, _, _, _, _, _, _, _, H, rfl⟩ ⟨rfl, rfl, trivial⟩ ⟨rfl, trivial⟩ rfl
   ·rw [if_neg hc6] at H
    refine RA.skip rfl rfl rfl rfl rfl (congrArg Bool.not (Bool.eq_false_iff.2 hc6)) (by decide) ?_
    refine RA.skip rfl rfl rfl rfl rfl (congrArg Bool.not (Bool.eq_false_iff.2 hc6)) (by decide) ?_
    refine RA.skip rfl rfl rfl rfl rfl (congrArg Bool.not (Bool.eq_false_iff.2 hc6)) (by decide) ?_
    refine RA.skip rfl rfl rfl rfl rfl (congrArg Bool.not (Bool.eq_false_iff.2 hc6)) (by decide) ?_
    refine a_pick (b := true) (v := vB _) ?_ (congrArg Bool.not (Bool.eq_false_iff.2 hc6))
    refine a_move (v := vB _) ?_
    refine RA.skip rfl rfl rfl rfl rfl rfl (by decide) ?_
    refine RA.skip rfl rfl rfl rfl rfl rfl (by decide) ?_
    refine RA.skip rfl rfl rfl rfl rfl rfl (by decide) ?_
    refine RA.skip rfl rfl rfl rfl rfl rfl (by decide) ?_
    refine a_pick (b := true) (v := vB _) ?_ rfl
    refine RA.nil nofun ?_
    exact CanR.mk (fun κ => cond (Nat.beq κ 205) 200 (κ)) ⟨_, (by omega), _, _, _, _, _, _, _, _, _, _, H, rfl⟩ ⟨rfl, rfl, trivial⟩ ⟨rfl, trivial⟩ rfl
  ·rw [if_neg hc3] at H
   refine RA.skip rfl rfl rfl rfl rfl (congrArg Bool.not (Bool.eq_false_iff.2 hc3)) (by decide) ?_
   refine RA.skip rfl rfl rfl rfl rfl (congrArg Bool.not (Bool.eq_false_iff.2 hc3)) (by decide) ?_
   refine RA.skip rfl rfl rfl rfl rfl (congrArg Bool.not (Bool.eq_false_iff.2 hc3)) (by decide) ?_
   refine RA.skip rfl rfl rfl rfl rfl (congrArg Bool.not (Bool.eq_false_iff.2 hc3)) (by decide) ?_
   refine a_pick (b := true) (v := vB _) ?_ (congrArg Bool.not (Bool.eq_false_iff.2 hc3))
   refine a_move (v := vB _) ?_
   refine RA.skip rfl rfl rfl rfl rfl rfl (by decide) ?_
   refine RA.skip rfl rfl rfl rfl rfl rfl (by decide) ?_
   refine RA.skip rfl rfl rfl rfl rfl rfl (by decide) ?_
   refine RA.skip rfl rfl rfl rfl rfl rfl (by decide) ?_
   refine a_pick (b := true) (v := vB _) ?_ rfl
   refine a_move (v := vB _) ?_
   refine RA.skip rfl rfl rfl rfl rfl rfl (by decide) ?_
   refine RA.skip rfl rfl rfl rfl rfl rfl (by decide) ?_
   refine RA.skip rfl rfl rfl rfl rfl rfl (by decide) ?_
   refine RA.skip rfl rfl rfl rfl rfl rfl (by decide) ?_
   refine a_pick (b := true) (v := vB _) ?_ rfl
   refine RA.nil nofun ?_
   exact CanR.mk (fun κ => cond (Nat.beq κ 205) 200 (κ)) ⟨_, (by omega), _, _, _, _, _, _, _, _, _, _, H, rfl⟩ ⟨rfl, rfl, trivial⟩ ⟨rfl, trivial⟩ rfl
 ·clear H
  rintro _ ⟨k, hj0, y205_0, y205_1, y205_2, y205_3, y205_4, y205_5, y205_6, y205_7, y205_8, x24, H, rfl⟩
  cases k with
  | zero => cases H
  | succ k =>
   rw [impl_ValidLeaf.j0] at H
   by_cases hc12 : x24 = true
   ·rw [if_pos hc12] at H
    refine AG.yes rfl hc12 ?_
    refine AG.seq ?_
    refine AG.region HM ?_
    refine a_move (v := vB _) ?_
    refine RA.nil nofun ?_
    refine AG.ret ?_
    obtain rfl := Option.some.inj H
    exact RetP.mk id ⟨rfl, trivial⟩ trivial rfl
   ·rw [if_neg hc12] at H
    refine AG.no rfl (Bool.eq_false_iff.2 hc12) ?_
    refine AG.skip ?_
    refine AG.seq ?_
    refine AG.seq ?_
    refine AG.region HM ?_
    refine a_faB (q := 6) ?_ D95_4
    refine a_ldB (v := vI _) ?_ T2
    obtain ⟨t13, e14, H⟩ := bindO H
    refine a_call (v := vB t13) (nk := []) (L := []) ?_ rfl (impl_within.ok e14) id (qd (qd (qd qn))) trivial trivial trivial rfl
    refine a_un (u := .bool (!t13)) ?_
    refine a_move (v := vB _) ?_
    by_cases hc15 : t13 = true
    ·rw [if_pos hc15] at H
     refine a_faB (q := 7) ?_ D95_5 (hg := Gs.yes rfl rfl rfl (congrArg Bool.not hc15))
     refine a_ldB (v := vI _) ?_ T2 (hg := Gs.yes rfl rfl rfl (congrArg Bool.not hc15))
     obtain ⟨t16, e17, H⟩ := bindO H
     refine a_call (v := vB t16) (nk := []) (L := []) ?_ rfl (impl_within.ok e17) id (qd (qd (qd qn))) trivial trivial trivial rfl (hg := Gs.yes rfl rfl rfl (congrArg Bool.not hc15))
     refine a_un (u := .bool (!t16)) ?_ (hg := Gs.yes rfl rfl rfl (congrArg Bool.not hc15))
     refine a_pick (b := false) (v := vB _) ?_ (congrArg Bool.not hc15)
     refine a_move (v := vB _) ?_
     by_cases hc18 : t16 = true
     ·rw [if_pos hc18] at H
      refine a_faB (q := 8) ?_ D95_6 (hg := Gs.yes rfl rfl rfl (congrArg Bool.not hc18))
      refine a_ldB (v := vR _ _) ?_ T93 (hg := Gs.yes rfl rfl rfl (congrArg Bool.not hc18))
      refine a_lenR ?_ Tryz.underlying93 (hg := Gs.yes rfl rfl rfl (congrArg Bool.not hc18))
      refine a_int (u := .bool (decide ((y205_8.length : Int) > 6))) ?_ (hg := Gs.yes rfl rfl rfl (congrArg Bool.not hc18))
      refine a_pick (b := false) (v := vB _) ?_ (congrArg Bool.not hc18)
      refine RA.nil nofun ?_
      by_cases hc19 : (y205_8.length : Int) > 6
      ·rw [if_pos hc19] at H
       refine AG.yes rfl (decide_eq_true hc19) ?_
       refine AG.seq ?_
       refine AG.region HM ?_
       refine a_move (v := vB _) ?_
       refine RA.nil nofun ?_
       refine AG.ret ?_
       obtain rfl := Option.some.inj H
       exact RetP.mk id ⟨rfl, trivial⟩ trivial rfl
      ·rw [if_neg hc19] at H
       refine AG.no rfl (decide_eq_false hc19) ?_
       refine AG.skip ?_
       refine AG.seq ?_
       refine AG.region HM ?_
       refine a_faB (q := 8) ?_ D95_6
       refine a_ldB (v := vR _ _) ?_ T93
       refine a_fnc (ks := [205]) ?_
       obtain ⟨t20, e21, H⟩ := bindO H
       refine a_call (v := vB t20) (nk := []) (L := [(205, _)]) ?_ rfl (slices_ContainsFunc_impl_Box__impl_ValidLeaf_1.ok e21) id (qd (qc (rF1 (rP (pD (pD (pD (pD (pD (pD (pD (pD (pD p0))))))))))) qn)) ⟨rfl, trivial⟩ trivial trivial rfl
       refine a_un (u := .bool (!t20)) ?_
       refine a_move (v := vB _) ?_
       refine RA.nil nofun ?_
       refine AG.ret ?_
       obtain rfl := Option.some.inj H
       exact RetP.mk id ⟨rfl, trivial⟩ trivial rfl
     ·rw [if_neg hc18] at H
      refine RA.skip rfl rfl rfl rfl rfl (congrArg Bool.not (Bool.eq_false_iff.2 hc18)) (by decide) ?_
      refine RA.skip rfl rfl rfl rfl rfl (congrArg Bool.not (Bool.eq_false_iff.2 hc18)) (by decide) ?_
      refine RA.skip rfl rfl rfl rfl rfl (congrArg Bool.not (Bool.eq_false_iff.2 hc18)) (by decide) ?_
      refine RA.skip rfl rfl rfl rfl rfl (congrArg Bool.not (Bool.eq_false_iff.2 hc18)) (by decide) ?_
      refine a_pick (b := true) (v := vB _) ?_ (congrArg Bool.not (Bool.eq_false_iff.2 hc18))
      refine RA.nil nofun ?_
      refine AG.yes rfl rfl ?_
      refine AG.seq ?_
      refine AG.region HM ?_
      refine a_move (v := vB _) ?_
      refine RA.nil nofun ?_
      refine AG.ret ?_
      obtain rfl := Option.some.inj H
      exact RetP.mk id ⟨rfl, trivial⟩ trivial rfl
    ·rw [if_neg hc15] at H
     refine RA.skip rfl rfl rfl rfl rfl (congrArg Bool.not (Bool.eq_false_iff.2 hc15)) (by decide) ?_
     refine RA.skip rfl rfl rfl rfl rfl (congrArg Bool.not (Bool.eq_false_iff.2 hc15)) (by decide) ?_
     refine RA.skip rfl rfl rfl rfl rfl (congrArg Bool.not (Bool.eq_false_iff.2 hc15)) (by decide) ?_
     refine RA.skip rfl rfl rfl rfl rfl (congrArg Bool.not (Bool.eq_false_iff.2 hc15)) (by decide) ?_
     refine a_pick (b := true) (v := vB _) ?_ (congrArg Bool.not (Bool.eq_false_iff.2 hc15))
     refine a_move (v := vB _) ?_
     refine RA.skip rfl rfl rfl rfl rfl rfl (by decide) ?_
     refine RA.skip rfl rfl rfl rfl rfl rfl (by decide) ?_
     refine RA.skip rfl rfl rfl rfl rfl rfl (by decide) ?_
     refine RA.skip rfl rfl rfl rfl rfl rfl (by decide) ?_
     refine a_pick (b := true) (v := vB _) ?_ rfl
     refine RA.nil nofun ?_
     refine AG.yes rfl rfl ?_
     refine AG.seq ?_
     refine AG.region HM ?_
     refine a_move (v := vB _) ?_
     refine RA.nil nofun ?_
     refine AG.ret ?_
     obtain rfl := Option.some.inj H
     exact RetP.mk id ⟨rfl, trivial⟩ trivial rfl
/-! ### impl_ValidLeaves: function 54 -/
def impl_ValidLeaves.l0 : Nat → List S94 → List S94 → Int → Int → Option (Bool)
 | 0, _, _, _, _ => none
 | k + 1, x0, x5, x6, x7 => if x7 < x6 then (if 0 ≤ x7 then (if x7 < (x5.length : Int) then ((impl_ValidLeaf.f k ((rd94 x5 x7).f0) ((rd94 x5 x7).f1) ((rd94 x5 x7).f2) ((rd94 x5 x7).f3.f0) ((rd94 x5 x7).f3.f1) ((rd94 x5 x7).f3.f2) ((rd94 x5 x7).f4) ((rd94 x5 x7).f5) ((rd94 x5 x7).f6)).bind fun t4 => (if t4 = true then (if x7 > 0 then (if 0 ≤ (wrap64 (x7 - 1)) then (if (wrap64 (x7 - 1)) < (x0.length : Int) then (if (Op.bytesLess (((rd94 x0 (wrap64 (x7 - 1))).f0).toList) (((rd94 x5 x7).f0).toList)) = true then (impl_ValidLeaves.l0 k x0 x5 x6 (wrap64 (x7 + 1))) else (some false)) else (none)) else (none)) else (impl_ValidLeaves.l0 k x0 x5 x6 (wrap64 (x7 + 1)))) else (some false))) else (none)) else (none)) else (some (decide ((x0.length : Int) ≤ 16)))
def impl_ValidLeaves.f (k : Nat) (l0 : List S94) : Option (Bool) := impl_ValidLeaves.l0 k l0 l0 (l0.length : Int) 0
set_option maxRecDepth 100000 in
theorem impl_ValidLeaves.ok {k : Nat} {l0 : List S94} {r : Bool} (H : impl_ValidLeaves.f k l0 = some r) : OkF Tryz.prog 54 [vR 95 (l0.map c94)] [] (.c (.d (.v (.bool r)))) [] := by
 unfold impl_ValidLeaves.f at H
 refine OkF.of (N := 34) (rs := [2]) (avs := [.c (.d (.v (.bool r)))]) Tryz.func54 rfl rfl (fun _ _ => results_tmp rfl _ _ _) (by decide) rfl rfl rfl rfl (fun w0 S => ?_)
 refine AG.seq ?_
 refine AG.region HM ?_
 refine a_move (v := vB _) ?_
 refine RA.nil nofun ?_
 refine AG.seq ?_
 refine AG.seq ?_
 refine AG.region HM ?_
 refine a_move (v := vR _ _) ?_
 refine a_lenR ?_ Tryz.underlying37
 refine a_move (v := vI _) ?_
 refine RA.nil nofun ?_
 refine AG.block ?_
 refine AG.loop ?_
 obtain ⟨K0, hK0, gK0⟩ : ∃ K, k ≤ K ∧ K ≤ k := ⟨k, Nat.le_refl k, Nat.le_refl k⟩
 refine AGr.canon id (AGr.loopI (n := k) (fun k s => k ≤ K0 ∧ ∃ (x0 : List S94) (x5 : List S94) (x6 : Int) (x7 : Int), impl_ValidLeaves.l0 k x0 x5 x6 x7 = some r ∧ s = St.of [(0, vR 95 (x0.map c94)), (5, vR 95 (x5.map c94)), (6, vI x6), (7, vI x7)] []) ⟨hK0, _, _, _, _, H, rfl⟩ ?_ ?_) ⟨rfl, rfl, rfl, rfl, trivial⟩ trivial rfl
 ·rintro _ ⟨_, _, _, _, _, H, _⟩
  cases H
 ·clear H hK0
  rintro k ih0 _ ⟨hK0, x0, x5, x6, x7, H, rfl⟩
  unfold impl_ValidLeaves.l0 at H
  refine AG.seq ?_
  refine AG.region HM ?_
  refine a_int (u := .bool (decide (x7 < x6))) ?_
  refine RA.nil nofun ?_
  refine AG.seq ?_
  by_cases hc1 : x7 < x6
  ·rw [if_pos hc1] at H
   refine AG.yes rfl (decide_eq_true hc1) ?_
   refine AG.skip ?_
   refine AG.seq ?_
   refine AG.block ?_
   refine AG.seq ?_
   refine AG.region HM ?_
   refine a_move (v := vI _) ?_
   by_cases hc2 : 0 ≤ x7
   ·rw [if_pos hc2] at H
    by_cases hc3 : x7 < (x5.length : Int)
    ·rw [if_pos hc3] at H
     refine a_ixR (el := c94 (rd94 x5 x7)) ?_ ⟨hc2, hc3⟩ T95 Tryz.underlying37 (hel := R94 hc2 hc3)
     refine a_ldR (v := .agg [_, _, _, _, _, _, _, _, _]) ?_ T95
     refine a_alloc (cs := [_, _, _, _, _, _, _, _, _]) 200 ?_ T95
     refine a_move (v := vI _) ?_
     refine a_stB (cs' := [_, _, _, _, _, _, _, _, _]) ?_ T95
     refine RA.nil nofun ?_
     refine AG.seq ?_
     refine AG.region HM ?_
     refine a_ldB (v := .agg [_, _, _, _, _, _, _, _, _]) ?_ T95
     obtain ⟨t4, e5, H⟩ := bindO H
     refine a_call (v := vB t4) (nk := []) (L := []) ?_ rfl (impl_ValidLeaf.ok e5) id (qg qn) trivial trivial trivial rfl
     refine a_un (u := .bool (!t4)) ?_
     refine a_move (v := vB _) ?_
     by_cases hc6 : t4 = true
     ·rw [if_pos hc6] at H
      refine a_move (v := vI _) ?_ (hg := Gs.yes rfl rfl rfl (congrArg Bool.not hc6))
      refine a_int (u := .bool (decide (x7 > 0))) ?_ (hg := Gs.yes rfl rfl rfl (congrArg Bool.not hc6))
      refine a_move (v := vB _) ?_ (hg := Gs.yes rfl rfl rfl (congrArg Bool.not hc6))
      by_cases hc7 : x7 > 0
      ·rw [if_pos hc7] at H
       refine a_move (v := vR _ _) ?_ (hg := Gs.yes rfl rfl rfl (decide_eq_true hc7))
       refine a_move (v := vI _) ?_ (hg := Gs.yes rfl rfl rfl (decide_eq_true hc7))
       refine a_int (u := .int .i64 (wrap64 (x7 - 1))) ?_ (hg := Gs.yes rfl rfl rfl (decide_eq_true hc7))
       by_cases hc8 : 0 ≤ (wrap64 (x7 - 1))
       ·rw [if_pos hc8] at H
        by_cases hc9 : (wrap64 (x7 - 1)) < (x0.length : Int)
        ·rw [if_pos hc9] at H
         refine a_ixR (el := c94 (rd94 x0 (wrap64 (x7 - 1)))) ?_ ⟨hc8, hc9⟩ T95 Tryz.underlying37 (hel := R94 hc8 hc9) (hg := Gs.yes rfl rfl rfl (decide_eq_true hc7))
         refine a_faR (cells' := [_, _, _, _, _, _, _, _, _]) ?_ D95_0 (hg := Gs.yes rfl rfl rfl (decide_eq_true hc7))
         refine a_ldR (v := vS _) ?_ T9 (hg := Gs.yes rfl rfl rfl (decide_eq_true hc7))
         refine a_faB (q := 0) ?_ D95_0 (hg := Gs.yes rfl rfl rfl (decide_eq_true hc7))
         refine a_ldB (v := vS _) ?_ T9 (hg := Gs.yes rfl rfl rfl (decide_eq_true hc7))
         refine a_bin (u := .bool (!(Op.bytesLess (((rd94 x0 (wrap64 (x7 - 1))).f0).toList) (((rd94 x5 x7).f0).toList)))) ?_ (hg := Gs.yes rfl rfl rfl (decide_eq_true hc7))
         refine a_pick (b := true) (v := vB _) ?_ (decide_eq_true hc7) (hg := Gs.yes rfl rfl rfl (congrArg Bool.not hc6))
         refine a_pick (b := false) (v := vB _) ?_ (congrArg Bool.not hc6)
         refine RA.nil (fun _ => by kernel_rfl) ?_
         by_cases hc10 : (Op.bytesLess (((rd94 x0 (wrap64 (x7 - 1))).f0).toList) (((rd94 x5 x7).f0).toList)) = true
         ·rw [if_pos hc10] at H
          refine AG.no rfl (by rw [show (Op.bytesLess (((rd94 x0 (wrap64 (x7 - 1))).f0).toList) (((rd94 x5 x7).f0).toList)) = true from hc10]; rfl) ?_
          refine AG.skip ?_
          refine AG.region HM ?_
          refine a_int (u := .int .i64 (wrap64 (x7 + 1))) ?_
          refine a_move (v := vI _) ?_
          refine RA.nil nofun ?_
          exact AGr.canon id (ih0 _ (by omega) _ ⟨by omega, _, _, _, _, H, rfl⟩) ⟨rfl, rfl, rfl, rfl, trivial⟩ trivial rfl
         ·rw [if_neg hc10] at H
          refine AG.yes rfl (by rw [Bool.eq_false_iff.2 hc10]; rfl) ?_
          refine AG.seq ?_
          refine AG.region HM ?_
          refine a_move (v := vB _) ?_
          refine RA.nil nofun ?_
          refine AG.ret ?_
          obtain rfl := Option.some.inj H
          exact RetP.mk id ⟨rfl, trivial⟩ trivial rfl
        ·rw [if_neg hc9] at H
         cases H
       ·rw [if_neg hc8] at H
        cases H
      ·rw [if_neg hc7] at H
       refine RA.skip rfl rfl rfl rfl rfl (decide_eq_false hc7) (by decide) ?_
       refine RA.skip rfl rfl rfl rfl rfl (decide_eq_false hc7) (by decide) ?_
       refine RA.skip rfl rfl rfl rfl rfl (decide_eq_false hc7) (by decide) ?_
       refine RA.skip rfl rfl rfl rfl rfl (decide_eq_false hc7) (by decide) ?_
       refine RA.skip rfl rfl rfl rfl rfl (decide_eq_false hc7) (by decide) ?_
       refine RA.skip rfl rfl rfl rfl rfl (decide_eq_false hc7) (by decide) ?_
       refine RA.skip rfl rfl rfl rfl rfl (decide_eq_false hc7) (by decide) ?_
       refine RA.skip rfl rfl rfl rfl rfl (decide_eq_false hc7) (by decide) ?_
       refine RA.skip rfl rfl rfl rfl rfl (decide_eq_false hc7) (by decide) ?_
       refine a_pick (b := false) (v := vB _) ?_ (decide_eq_false hc7) (hg := Gs.yes rfl rfl rfl (congrArg Bool.not hc6))
       refine a_pick (b := false) (v := vB _) ?_ (congrArg Bool.not hc6)
       refine RA.nil (fun _ => by kernel_rfl) ?_
       refine AG.no rfl rfl ?_
       refine AG.skip ?_
       refine AG.region HM ?_
       refine a_int (u := .int .i64 (wrap64 (x7 + 1))) ?_
       refine a_move (v := vI _) ?_
       refine RA.nil nofun ?_
       exact AGr.canon id (ih0 _ (by omega) _ ⟨by omega, _, _, _, _, H, rfl⟩) ⟨rfl, rfl, rfl, rfl, trivial⟩ trivial rfl
     ·rw [if_neg hc6] at H
      refine RA.skip rfl rfl rfl rfl rfl (congrArg Bool.not (Bool.eq_false_iff.2 hc6)) (by decide) ?_
      refine RA.skip rfl rfl rfl rfl rfl (congrArg Bool.not (Bool.eq_false_iff.2 hc6)) (by decide) ?_
      refine RA.skip rfl rfl rfl rfl rfl (congrArg Bool.not (Bool.eq_false_iff.2 hc6)) (by decide) ?_
      refine RA.skip0 rfl rfl rfl rfl rfl ?_
      refine RA.skip0 rfl rfl rfl rfl rfl ?_
      refine RA.skip0 rfl rfl rfl rfl rfl ?_
      refine RA.skip0 rfl rfl rfl rfl rfl ?_
      refine RA.skip0 rfl rfl rfl rfl rfl ?_
      refine RA.skip0 rfl rfl rfl rfl rfl ?_
      refine RA.skip0 rfl rfl rfl rfl rfl ?_
      refine RA.skip0 rfl rfl rfl rfl rfl ?_
      refine RA.skip0 rfl rfl rfl rfl rfl ?_
      refine RA.skip rfl rfl rfl rfl rfl (congrArg Bool.not (Bool.eq_false_iff.2 hc6)) (by decide) ?_
      refine a_pick (b := true) (v := vB _) ?_ (congrArg Bool.not (Bool.eq_false_iff.2 hc6))
      refine RA.nil (fun _ => by kernel_rfl) ?_
      refine AG.yes rfl rfl ?_
      refine AG.seq ?_
      refine AG.region HM ?_
      refine a_move (v := vB _) ?_
      refine RA.nil nofun ?_
      refine AG.ret ?_
      obtain rfl := Option.some.inj H
      exact RetP.mk id ⟨rfl, trivial⟩ trivial rfl
    ·rw [if_neg hc3] at H
     cases H
   ·rw [if_neg hc2] at H
    cases H
  ·rw [if_neg hc1] at H
   refine AG.no rfl (decide_eq_false hc1) ?_
   refine AG.exit ?_
   refine AG.seq ?_
   refine AG.region HM ?_
   refine a_move (v := vR _ _) ?_
   refine a_lenR ?_ Tryz.underlying37
   refine a_int (u := .bool (decide ((x0.length : Int) ≤ 16))) ?_
   refine a_move (v := vB _) ?_
   refine RA.nil nofun ?_
   refine AG.ret ?_
   obtain rfl := Option.some.inj H
   exact RetP.mk id ⟨rfl, trivial⟩ trivial rfl
/-! ### slices_Index_impl_Point: function 161 -/
def slices_Index_impl_Point.l0 : Nat → List S159 → Int → Int → Int → Int → Option (Int)
 | 0, _, _, _, _, _ => none
 | k + 1, x0, y201_0, y201_1, x7, x8 => if x8 < x7 then (if 0 ≤ x8 then (if x8 < (x0.length : Int) then (if (y201_0 == ((rd159 x0 x8).f0) && (y201_1 == ((rd159 x0 x8).f1))) = true then (some x8) else (slices_Index_impl_Point.l0 k x0 y201_0 y201_1 x7 (wrap64 (x8 + 1)))) else (none)) else (none)) else (some (-1))
def slices_Index_impl_Point.f (k : Nat) (l0 : List S159) (a1_0 : Int) (a1_1 : Int) : Option (Int) := slices_Index_impl_Point.l0 k l0 a1_0 a1_1 (l0.length : Int) 0
set_option maxRecDepth 100000 in
theorem slices_Index_impl_Point.ok {k : Nat} {l0 : List S159} {a1_0 : Int} {a1_1 : Int} {r : Int} (H : slices_Index_impl_Point.f k l0 a1_0 a1_1 = some r) : OkF Tryz.prog 161 [vR 160 (l0.map c159), .agg [.d (.v (.int .i64 a1_0)), .d (.v (.int .i64 a1_1))]] [] (.c (.d (.v (.int .i64 r)))) [] := by
 unfold slices_Index_impl_Point.f at H
 refine OkF.of (N := 19) (rs := [4]) (avs := [.c (.d (.v (.int .i64 r)))]) Tryz.func161 rfl rfl (fun _ _ => results_tmp rfl _ _ _) (by decide) rfl rfl rfl rfl (fun w0 S => ?_)
 refine AG.seq ?_
 refine AG.region HM ?_
 refine a_box 200 ?_
 refine a_move (v := vI _) ?_
 refine RA.nil nofun ?_
 refine AG.seq ?_
 refine AG.seq ?_
 refine AG.region HM ?_
 refine a_move (v := vR _ _) ?_
 refine a_lenR ?_ Tryz.underlying32
 refine a_move (v := vI _) ?_
 refine RA.nil nofun ?_
 refine AG.block ?_
 refine AG.loop ?_
 obtain ⟨K0, hK0, gK0⟩ : ∃ K, k ≤ K ∧ K ≤ k := ⟨k, Nat.le_refl k, Nat.le_refl k⟩
 refine AGr.canon (fun κ => cond (Nat.beq κ 201) 200 (κ)) (AGr.loopI (n := k) (fun k s => k ≤ K0 ∧ ∃ (x0 : List S159) (y201_0 : Int) (y201_1 : Int) (x7 : Int) (x8 : Int), slices_Index_impl_Point.l0 k x0 y201_0 y201_1 x7 x8 = some r ∧ s = St.of [(0, vR 160 (x0.map c159)), (3, .c (.ptr 201 0)), (7, vI x7), (8, vI x8)] [(201, .box 160 [.d (.v (.int .i64 y201_0)), .d (.v (.int .i64 y201_1))])]) ⟨hK0, _, _, _, _, _, H, rfl⟩ ?_ ?_) ⟨rfl, rfl, rfl, rfl, trivial⟩ ⟨rfl, trivial⟩ rfl
 ·rintro _ ⟨_, _, _, _, _, _, H, _⟩
  cases H
 ·clear H hK0
  rintro k ih0 _ ⟨hK0, x0, y201_0, y201_1, x7, x8, H, rfl⟩
  unfold slices_Index_impl_Point.l0 at H
  refine AG.seq ?_
  refine AG.region HM ?_
  refine a_int (u := .bool (decide (x8 < x7))) ?_
  refine RA.nil nofun ?_
  refine AG.seq ?_
  by_cases hc1 : x8 < x7
  ·rw [if_pos hc1] at H
   refine AG.yes rfl (decide_eq_true hc1) ?_
   refine AG.skip ?_
   refine AG.seq ?_
   refine AG.block ?_
   refine AG.seq ?_
   refine AG.region HM ?_
   refine a_move (v := vI _) ?_
   refine a_move (v := vI _) ?_
   refine RA.nil nofun ?_
   refine AG.seq ?_
   refine AG.region HM ?_
   refine a_ldB (v := .agg [_, _]) ?_ T160
   refine a_move (v := vR _ _) ?_
   refine a_move (v := vI _) ?_
   by_cases hc2 : 0 ≤ x8
   ·rw [if_pos hc2] at H
    by_cases hc3 : x8 < (x0.length : Int)
    ·rw [if_pos hc3] at H
     refine a_ixR (el := c159 (rd159 x0 x8)) ?_ ⟨hc2, hc3⟩ T160 Tryz.underlying32 (hel := R159 hc2 hc3)
     refine a_ldR (v := .agg [_, _]) ?_ T160
     refine a_eqS (b := (y201_0 == ((rd159 x0 x8).f0) && (y201_1 == ((rd159 x0 x8).f1)))) ?_ (.inl ⟨rfl, rfl⟩) (Q160 y201_0 ((rd159 x0 x8).f0) y201_1 ((rd159 x0 x8).f1)).1
     refine RA.nil (fun _ => by kernel_rfl) ?_
     by_cases hc4 : (y201_0 == ((rd159 x0 x8).f0) && (y201_1 == ((rd159 x0 x8).f1))) = true
     ·rw [if_pos hc4] at H
      refine AG.yes rfl hc4 ?_
      refine AG.seq ?_
      refine AG.region HM ?_
      refine a_move (v := vI _) ?_
      refine a_move (v := vI _) ?_
      refine RA.nil nofun ?_
      refine AG.ret ?_
      obtain rfl := Option.some.inj H
      exact RetP.mk id ⟨rfl, trivial⟩ trivial rfl
     ·rw [if_neg hc4] at H
      refine AG.no rfl (Bool.eq_false_iff.2 hc4) ?_
      refine AG.skip ?_
      refine AG.region HM ?_
      refine a_int (u := .int .i64 (wrap64 (x8 + 1))) ?_
      refine a_move (v := vI _) ?_
      refine RA.nil nofun ?_
      exact AGr.canon id (ih0 _ (by omega) _ ⟨by omega, _, _, _, _, _, H, rfl⟩) ⟨rfl, rfl, rfl, rfl, trivial⟩ ⟨rfl, trivial⟩ rfl
    ·rw [if_neg hc3] at H
     cases H
   ·rw [if_neg hc2] at H
    cases H
  ·rw [if_neg hc1] at H
   refine AG.no rfl (decide_eq_false hc1) ?_
   refine AG.exit ?_
   refine AG.seq ?_
   refine AG.region HM ?_
   refine a_move (v := vI _) ?_
   refine RA.nil nofun ?_
   refine AG.ret ?_
   obtain rfl := Option.some.inj H
   exact RetP.mk id ⟨rfl, trivial⟩ trivial rfl
/-! ### slices_Contains_impl_Point: function 111 -/
def slices_Contains_impl_Point.f (k : Nat) (l0 : List S159) (a1_0 : Int) (a1_1 : Int) : Option (Bool) := (slices_Index_impl_Point.f k l0 a1_0 a1_1).bind fun t1 => (some (decide (t1 ≥ 0)))
set_option maxRecDepth 100000 in
theorem slices_Contains_impl_Point.ok {k : Nat} {l0 : List S159} {a1_0 : Int} {a1_1 : Int} {r : Bool} (H : slices_Contains_impl_Point.f k l0 a1_0 a1_1 = some r) : OkF Tryz.prog 111 [vR 160 (l0.map c159), .agg [.d (.v (.int .i64 a1_0)), .d (.v (.int .i64 a1_1))]] [] (.c (.d (.v (.bool r)))) [] := by
 unfold slices_Contains_impl_Point.f at H
 refine OkF.of (N := 9) (rs := [4]) (avs := [.c (.d (.v (.bool r)))]) Tryz.func111 rfl rfl (fun _ _ => results_tmp rfl _ _ _) (by decide) rfl rfl rfl rfl (fun w0 S => ?_)
 refine AG.seq ?_
 refine AG.region HM ?_
 refine a_box 200 ?_
 refine a_move (v := vB _) ?_
 refine RA.nil nofun ?_
 refine AG.seq ?_
 refine AG.region HM ?_
 refine a_move (v := vR _ _) ?_
 refine a_ldB (v := .agg [_, _]) ?_ T160
 obtain ⟨t1, e2, H⟩ := bindO H
 refine a_call (v := vI t1) (nk := []) (L := []) ?_ rfl (slices_Index_impl_Point.ok e2) id (qd (qg qn)) trivial trivial trivial rfl
 refine a_int (u := .bool (decide (t1 ≥ 0))) ?_
 refine a_move (v := vB _) ?_
 refine RA.nil nofun ?_
 refine AG.ret ?_
 obtain rfl := Option.some.inj H
 exact RetP.mk id ⟨rfl, trivial⟩ trivial rfl
/-! ### impl_ringPolygon: function 113 -/
def impl_ringPolygon.l0 : Nat → List S159 → List S159 → List Int → Int → Int → Option ((List S159) × Bool)
 | 0, _, _, _, _, _ => none
 | k + 1, x0, x6, x10, x11, x12 => if x12 < x11 then (if 0 ≤ x12 then (if x12 < (x10.length : Int) then ((impl_within.f (rd2 x10 x12) 0 (wrap64 ((x0.length : Int) - 1))).bind fun t5 => (if t5 = true then (if 0 ≤ (rd2 x10 x12) then (if (rd2 x10 x12) < (x0.length : Int) then (if x6.length < 8796093022208 then (impl_ringPolygon.l0 k x0 (x6 ++ [(⟨(rd159 x0 (rd2 x10 x12)).f0, (rd159 x0 (rd2 x10 x12)).f1⟩ : S159)]) x10 x11 (wrap64 (x12 + 1))) else (none)) else (none)) else (none)) else (some (([] : List S159), false)))) else (none)) else (none)) else (some (x6, true))
def impl_ringPolygon.f (k : Nat) (l0 : List S159) (l1 : List Int) : Option ((List S159) × Bool) := impl_ringPolygon.l0 k l0 (([] : List S159) : List S159) l1 (l1.length : Int) 0
set_option maxRecDepth 100000 in
theorem impl_ringPolygon.ok {k : Nat} {l0 : List S159} {l1 : List Int} {r0 : List S159} {r1 : Bool} (H : impl_ringPolygon.f k l0 l1 = some (r0, r1)) : OkF Tryz.prog 113 [vR 160 (l0.map c159), vR 2 (l1.map c2)] [] (.tup [.c (.own 100 r0.length), .c (.d (.v (.bool r1)))]) [(100, .row 160 (r0.map c159))] := by
 unfold impl_ringPolygon.f at H
 refine OkF.of (N := 31) (rs := [4, 5]) (avs := [.c (.own 100 r0.length), .c (.d (.v (.bool r1)))]) Tryz.func113 rfl rfl (fun _ _ => results_tmp2 rfl _ _ _) (by decide) rfl rfl rfl rfl (fun w0 S => ?_)
 refine AG.seq ?_
 refine AG.region HM ?_
 refine a_nilO (e := 160) 200 ?_ T160
 refine a_move (v := vB _) ?_
 refine RA.nil nofun ?_
 refine AG.seq ?_
 refine AG.region HM ?_
 refine a_lit (cs := []) (D := []) (css := (([] : List S159) : List S159).map c159) 201 ?_ N32 T160 (hcss := by rfl)
 refine a_move (v := .c (.own _ _)) ?_
 refine RA.nil nofun ?_
 refine AG.seq ?_
 refine AG.seq ?_
 refine AG.region HM ?_
 refine a_move (v := vR _ _) ?_
 refine a_lenR ?_ Tryz.underlying29
 refine a_move (v := vI _) ?_
 refine RA.nil nofun ?_
 refine AG.block ?_
 refine AG.loop ?_
 obtain ⟨K0, hK0, gK0⟩ : ∃ K, k ≤ K ∧ K ≤ k := ⟨k, Nat.le_refl k, Nat.le_refl k⟩
 refine AGr.canon (fun κ => cond (Nat.beq κ 202) 201 (κ)) (AGr.loopI (n := k) (fun k s => k ≤ K0 ∧ ∃ (x0 : List S159) (x6 : List S159) (x10 : List Int) (x11 : Int) (x12 : Int), impl_ringPolygon.l0 k x0 x6 x10 x11 x12 = some (r0, r1) ∧ s = St.of [(0, vR 160 (x0.map c159)), (6, .c (.own 202 x6.length)), (10, vR 2 (x10.map c2)), (11, vI x11), (12, vI x12)] [(202, .row 160 (x6.map c159))]) ⟨hK0, _, _, _, _, _, H, rfl⟩ ?_ ?_) ⟨rfl, (ownE rfl (by simp)), rfl, rfl, rfl, trivial⟩ ⟨rfl, trivial⟩ rfl
 ·rintro _ ⟨_, _, _, _, _, _, H, _⟩
  cases H
 ·clear H hK0
  rintro k ih0 _ ⟨hK0, x0, x6, x10, x11, x12, H, rfl⟩
  unfold impl_ringPolygon.l0 at H
  refine AG.seq ?_
  refine AG.region HM ?_
  refine a_int (u := .bool (decide (x12 < x11))) ?_
  refine RA.nil nofun ?_
  refine AG.seq ?_
  by_cases hc2 : x12 < x11
  ·rw [if_pos hc2] at H
   refine AG.yes rfl (decide_eq_true hc2) ?_
   refine AG.skip ?_
   refine AG.seq ?_
   refine AG.block ?_
   refine AG.seq ?_
   refine AG.region HM ?_
   by_cases hc3 : 0 ≤ x12
   ·rw [if_pos hc3] at H
    by_cases hc4 : x12 < (x10.length : Int)
    ·rw [if_pos hc4] at H
     refine a_ixR (el := c2 (rd2 x10 x12)) ?_ ⟨hc3, hc4⟩ T2 Tryz.underlying29 (hel := R2 hc3 hc4)
     refine a_ldR (v := vI _) ?_ T2
     refine a_move (v := vI _) ?_
     refine RA.nil nofun ?_
     refine AG.seq ?_
     refine AG.seq ?_
     refine AG.region HM ?_
     refine a_move (v := vI _) ?_
     refine a_move (v := vR _ _) ?_
     refine a_lenR ?_ Tryz.underlying32
     refine a_int (u := .int .i64 (wrap64 ((x0.length : Int) - 1))) ?_
     obtain ⟨t5, e6, H⟩ := bindO H
     refine a_call (v := vB t5) (nk := []) (L := []) ?_ rfl (impl_within.ok e6) id (qd (qd (qd qn))) trivial trivial trivial rfl
     refine a_un (u := .bool (!t5)) ?_
     refine RA.nil nofun ?_
     by_cases hc7 : t5 = true
     ·rw [if_pos hc7] at H
      refine AG.no rfl (congrArg Bool.not hc7) ?_
      refine AG.skip ?_
      refine AG.region HM ?_
      refine a_move (v := .c (.own _ _)) ?_
      refine a_move (v := vR _ _) ?_
      refine a_move (v := vI _) ?_
      by_cases hc8 : 0 ≤ (rd2 x10 x12)
      ·rw [if_pos hc8] at H
       by_cases hc9 : (rd2 x10 x12) < (x0.length : Int)
       ·rw [if_pos hc9] at H
        refine a_ixR (el := c159 (rd159 x0 (rd2 x10 x12))) ?_ ⟨hc8, hc9⟩ T160 Tryz.underlying32 (hel := R159 hc8 hc9)
        refine a_ldR (v := .agg [_, _]) ?_ T160
        refine a_lit (cs := [_, _]) (D := []) (css := ([(⟨(rd159 x0 (rd2 x10 x12)).f0, (rd159 x0 (rd2 x10 x12)).f1⟩ : S159)]).map c159) 204 ?_ N32 T160
        by_cases hc10 : x6.length < 8796093022208
        ·rw [if_pos hc10] at H
         refine a_appO (css' := (x6 ++ [(⟨(rd159 x0 (rd2 x10 x12)).f0, (rd159 x0 (rd2 x10 x12)).f1⟩ : S159)]).map c159) (n' := (x6 ++ [(⟨(rd159 x0 (rd2 x10 x12)).f0, (rd159 x0 (rd2 x10 x12)).f1⟩ : S159)]).length) ?_ T160 (by simp [maxLen]; omega) (by simp; omega) Tryz.underlying32 (hc := by exact List.map_append.symm) (hn := by exact List.length_map _)
         refine a_move (v := .c (.own _ _)) ?_
         refine RA.nil nofun ?_
         refine AG.region HM ?_
         refine a_int (u := .int .i64 (wrap64 (x12 + 1))) ?_
         refine a_move (v := vI _) ?_
         refine RA.nil nofun ?_
         exact AGr.canon id (ih0 _ (by omega) _ ⟨by omega, _, _, _, _, _, H, rfl⟩) ⟨rfl, rfl, rfl, rfl, rfl, trivial⟩ ⟨rfl, trivial⟩ rfl
        ·rw [if_neg hc10] at H
         cases H
       ·rw [if_neg hc9] at H
        cases H
      ·rw [if_neg hc8] at H
       cases H
     ·rw [if_neg hc7] at H
      refine AG.yes rfl (congrArg Bool.not (Bool.eq_false_iff.2 hc7)) ?_
      refine AG.seq ?_
      refine AG.region HM ?_
      refine a_nilO (e := 160) 205 ?_ T160
      refine a_move (v := vB _) ?_
      refine RA.nil nofun ?_
      refine AG.ret ?_
      simp only [Option.some.injEq, Prod.mk.injEq] at H
      obtain ⟨rfl, rfl⟩ := H
      exact RetP.mk (fun κ => cond (Nat.beq κ 100) 205 (κ)) ⟨(ownE rfl (by simp)), rfl, trivial⟩ ⟨rfl, trivial⟩ rfl
    ·rw [if_neg hc4] at H
     cases H
   ·rw [if_neg hc3] at H
    cases H
  ·rw [if_neg hc2] at H
   refine AG.no rfl (decide_eq_false hc2) ?_
   refine AG.exit ?_
   refine AG.seq ?_
   refine AG.region HM ?_
   refine a_move (v := .c (.own _ _)) ?_
   refine a_move (v := .c (.own _ _)) ?_
   refine a_move (v := vB _) ?_
   refine RA.nil nofun ?_
   refine AG.ret ?_
   simp only [Option.some.injEq, Prod.mk.injEq] at H
   obtain ⟨rfl, rfl⟩ := H
   exact RetP.mk (fun κ => cond (Nat.beq κ 100) 202 (κ)) ⟨rfl, rfl, trivial⟩ ⟨rfl, trivial⟩ rfl
/-! ### impl_doubled: function 78 -/
def impl_doubled.l0 : Nat → List S159 → Int → List S159 → Int → Int → Option (Int)
 | 0, _, _, _, _, _ => none
 | k + 1, x0, x3, x7, x8, x9 => if x9 < x8 then (if 0 ≤ x9 then (if x9 < (x7.length : Int) then (if (x0.length : Int) = 0 then (none) else (if 0 ≤ (Int.tmod (wrap64 (x9 + 1)) (x0.length : Int)) then (if (Int.tmod (wrap64 (x9 + 1)) (x0.length : Int)) < (x0.length : Int) then (impl_doubled.l0 k x0 (wrap64 (x3 + (wrap64 ((wrap64 (((rd159 x7 x9).f0) * ((rd159 x0 (Int.tmod (wrap64 (x9 + 1)) (x0.length : Int))).f1))) - (wrap64 (((rd159 x7 x9).f1) * ((rd159 x0 (Int.tmod (wrap64 (x9 + 1)) (x0.length : Int))).f0))))))) x7 x8 (wrap64 (x9 + 1))) else (none)) else (none))) else (none)) else (none)) else (some x3)
def impl_doubled.f (k : Nat) (l0 : List S159) : Option (Int) := impl_doubled.l0 k l0 0 l0 (l0.length : Int) 0
set_option maxRecDepth 100000 in
theorem impl_doubled.ok {k : Nat} {l0 : List S159} {r : Int} (H : impl_doubled.f k l0 = some r) : OkF Tryz.prog 78 [vR 160 (l0.map c159)] [] (.c (.d (.v (.int .i64 r)))) [] := by
 unfold impl_doubled.f at H
 refine OkF.of (N := 37) (rs := [2]) (avs := [.c (.d (.v (.int .i64 r)))]) Tryz.func78 rfl rfl (fun _ _ => results_tmp rfl _ _ _) (by decide) rfl rfl rfl rfl (fun w0 S => ?_)
 refine AG.seq ?_
 refine AG.region HM ?_
 refine a_move (v := vI _) ?_
 refine RA.nil nofun ?_
 refine AG.seq ?_
 refine AG.region HM ?_
 refine a_move (v := vI _) ?_
 refine RA.nil nofun ?_
 refine AG.seq ?_
 refine AG.seq ?_
 refine AG.region HM ?_
 refine a_move (v := vR _ _) ?_
 refine a_lenR ?_ Tryz.underlying32
 refine a_move (v := vI _) ?_
 refine RA.nil nofun ?_
 refine AG.block ?_
 refine AG.loop ?_
 obtain ⟨K0, hK0, gK0⟩ : ∃ K, k ≤ K ∧ K ≤ k := ⟨k, Nat.le_refl k, Nat.le_refl k⟩
 refine AGr.canon id (AGr.loopI (n := k) (fun k s => k ≤ K0 ∧ ∃ (x0 : List S159) (x3 : Int) (x7 : List S159) (x8 : Int) (x9 : Int), impl_doubled.l0 k x0 x3 x7 x8 x9 = some r ∧ s = St.of [(0, vR 160 (x0.map c159)), (3, vI x3), (7, vR 160 (x7.map c159)), (8, vI x8), (9, vI x9)] []) ⟨hK0, _, _, _, _, _, H, rfl⟩ ?_ ?_) ⟨rfl, rfl, rfl, rfl, rfl, trivial⟩ trivial rfl
 ·rintro _ ⟨_, _, _, _, _, _, H, _⟩
  cases H
 ·clear H hK0
  rintro k ih0 _ ⟨hK0, x0, x3, x7, x8, x9, H, rfl⟩
  unfold impl_doubled.l0 at H
  refine AG.seq ?_
  refine AG.region HM ?_
  refine a_int (u := .bool (decide (x9 < x8))) ?_
  refine RA.nil nofun ?_
  refine AG.seq ?_
  by_cases hc1 : x9 < x8
  ·rw [if_pos hc1] at H
   refine AG.yes rfl (decide_eq_true hc1) ?_
   refine AG.skip ?_
   refine AG.seq ?_
   refine AG.block ?_
   refine AG.seq ?_
   refine AG.region HM ?_
   refine a_move (v := vI _) ?_
   by_cases hc2 : 0 ≤ x9
   ·rw [if_pos hc2] at H
    by_cases hc3 : x9 < (x7.length : Int)
    ·rw [if_pos hc3] at H
     refine a_ixR (el := c159 (rd159 x7 x9)) ?_ ⟨hc2, hc3⟩ T160 Tryz.underlying32 (hel := R159 hc2 hc3)
     refine a_ldR (v := .agg [_, _]) ?_ T160
     refine a_alloc (cs := [_, _]) 200 ?_ T160
     refine a_move (v := vI _) ?_
     refine a_stB (cs' := [_, _]) ?_ T160
     refine RA.nil nofun ?_
     refine AG.seq ?_
     refine AG.region HM ?_
     refine a_move (v := vR _ _) ?_
     refine a_move (v := vI _) ?_
     refine a_int (u := .int .i64 (wrap64 (x9 + 1))) ?_
     refine a_move (v := vR _ _) ?_
     refine a_lenR ?_ Tryz.underlying32
     by_cases hc4 : (x0.length : Int) = 0
     ·rw [if_pos hc4] at H
      cases H
     ·rw [if_neg hc4] at H
      refine a_rem (r := Int.tmod (wrap64 (x9 + 1)) (x0.length : Int)) ?_ hc4
      by_cases hc5 : 0 ≤ (Int.tmod (wrap64 (x9 + 1)) (x0.length : Int))
      ·rw [if_pos hc5] at H
       by_cases hc6 : (Int.tmod (wrap64 (x9 + 1)) (x0.length : Int)) < (x0.length : Int)
       ·rw [if_pos hc6] at H
        refine a_ixR (el := c159 (rd159 x0 (Int.tmod (wrap64 (x9 + 1)) (x0.length : Int)))) ?_ ⟨hc5, hc6⟩ T160 Tryz.underlying32 (hel := R159 hc5 hc6)
        refine a_ldR (v := .agg [_, _]) ?_ T160
        refine a_alloc (cs := [_, _]) 201 ?_ T160
        refine a_stB (cs' := [_, _]) ?_ T160
        refine RA.nil nofun ?_
        refine AG.region HM ?_
        refine a_move (v := vI _) ?_
        refine a_faB (q := 0) ?_ D160_0
        refine a_ldB (v := vI _) ?_ T2
        refine a_faB (q := 1) ?_ D160_1
        refine a_ldB (v := vI _) ?_ T2
        refine a_int (u := .int .i64 (wrap64 (((rd159 x7 x9).f0) * ((rd159 x0 (Int.tmod (wrap64 (x9 + 1)) (x0.length : Int))).f1)))) ?_
        refine a_faB (q := 1) ?_ D160_1
        refine a_ldB (v := vI _) ?_ T2
        refine a_faB (q := 0) ?_ D160_0
        refine a_ldB (v := vI _) ?_ T2
        refine a_int (u := .int .i64 (wrap64 (((rd159 x7 x9).f1) * ((rd159 x0 (Int.tmod (wrap64 (x9 + 1)) (x0.length : Int))).f0)))) ?_
        refine a_int (u := .int .i64 (wrap64 ((wrap64 (((rd159 x7 x9).f0) * ((rd159 x0 (Int.tmod (wrap64 (x9 + 1)) (x0.length : Int))).f1))) - (wrap64 (((rd159 x7 x9).f1) * ((rd159 x0 (Int.tmod (wrap64 (x9 + 1)) (x0.length : Int))).f0)))))) ?_
        refine a_int (u := .int .i64 (wrap64 (x3 + (wrap64 ((wrap64 (((rd159 x7 x9).f0) * ((rd159 x0 (Int.tmod (wrap64 (x9 + 1)) (x0.length : Int))).f1))) - (wrap64 (((rd159 x7 x9).f1) * ((rd159 x0 (Int.tmod (wrap64 (x9 + 1)) (x0.length : Int))).f0)))))))) ?_
        refine a_move (v := vI _) ?_
        refine RA.nil nofun ?_
        refine AG.region HM ?_
        refine a_int (u := .int .i64 (wrap64 (x9 + 1))) ?_
        refine a_move (v := vI _) ?_
        refine RA.nil nofun ?_
        exact AGr.canon id (ih0 _ (by omega) _ ⟨by omega, _, _, _, _, _, H, rfl⟩) ⟨rfl, rfl, rfl, rfl, rfl, trivial⟩ trivial rfl
       ·rw [if_neg hc6] at H
        cases H
      ·rw [if_neg hc5] at H
       cases H
    ·rw [if_neg hc3] at H
     cases H
   ·rw [if_neg hc2] at H
    cases H
  ·rw [if_neg hc1] at H
   refine AG.no rfl (decide_eq_false hc1) ?_
   refine AG.exit ?_
   refine AG.seq ?_
   refine AG.region HM ?_
   refine a_move (v := vI _) ?_
   refine a_move (v := vI _) ?_
   refine RA.nil nofun ?_
   refine AG.ret ?_
   obtain rfl := Option.some.inj H
   exact RetP.mk id ⟨rfl, trivial⟩ trivial rfl
end Go.Proofs.YtadjbffiomkljaaGreat.PFnExactWasteOf

/- What each function that the law FnExactEnoughStock reaches comes to, and the proof that its walk comes to it; laid by a program of this session. No condition. -/
import Derived.Test.YtadjbffiomkljaaGreatPFnExactEnoughStockx0
import Derived.KernelRfl
import Derived.OwnWalk
import Derived.Test.YtadjbffiomkljaaGreatProg
set_option linter.unusedVariables false
set_option linter.unusedSimpArgs false
namespace Go.Proofs.YtadjbffiomkljaaGreat.PFnExactEnoughStock
open Go Go.RowKit Go.Proofs.YtadjbffiomkljaaGreatM Go.Proofs Go.Proofs.YtadjbffiomkljaaGreat.SortI Go.Proofs.YtadjbffiomkljaaGreat.CloneI Go.Proofs.YtadjbffiomkljaaGreat.ReverseI
mutual
def spec_l05Ok.j0 : Nat → Int → Int → List S159 → List S146 → Bool → Option (Bool)
 | 0, _, _, _, _, _ => none
 | k + 1, x0_0, x0_1, x0_2, x0_3, x32 => if x32 = true then (some false) else (spec_l05Ok.l0 k x0_0 x0_1 x0_2 x0_3 0)
def spec_l05Ok.l0 : Nat → Int → Int → List S159 → List S146 → Int → Option (Bool)
 | 0, _, _, _, _, _ => none
 | k + 1, x0_0, x0_1, x0_2, x0_3, x3 => if x3 < (x0_3.length : Int) then (if 0 ≤ x3 then ((spec_l01Name.f k ((rd146 x0_3 x3).f0)).bind fun t13 => (if t13 = true then (if x3 > 0 then (if 0 ≤ (wrap64 (x3 - 1)) then (if (wrap64 (x3 - 1)) < (x0_3.length : Int) then (spec_l05Ok.j1 k x0_0 x0_1 x0_2 x0_3 x3 (!(Op.bytesLess (((rd146 x0_3 (wrap64 (x3 - 1))).f0).toList) (((rd146 x0_3 x3).f0).toList)))) else (none)) else (none)) else (spec_l05Ok.j1 k x0_0 x0_1 x0_2 x0_3 x3 false)) else (spec_l05Ok.j1 k x0_0 x0_1 x0_2 x0_3 x3 true))) else (none)) else (some true)
def spec_l05Ok.j1 : Nat → Int → Int → List S159 → List S146 → Int → Bool → Option (Bool)
 | 0, _, _, _, _, _, _ => none
 | k + 1, x0_0, x0_1, x0_2, x0_3, x3, x75 => if x75 = true then (some false) else (if 0 ≤ x3 then (if x3 < (x0_3.length : Int) then ((spec_l05Ring.f k x0_0 x0_1 x0_2 x0_3 ((rd146 x0_3 x3).f1)).bind fun bt22 => (if bt22.2 = true then ((spec_l03Ok.f k bt22.1).bind fun t26 => (if t26 = true then (spec_l05Ok.l0 k x0_0 x0_1 x0_2 x0_3 (wrap64 (x3 + 1))) else (some false))) else (some false))) else (none)) else (none))
end
def spec_l05Ok.f (k : Nat) (a0_0 : Int) (a0_1 : Int) (l0_2 : List S159) (l0_3 : List S146) : Option (Bool) := (spec_l00In.f a0_0 10 20000).bind fun t1 => (if t1 = true then ((spec_l00In.f a0_1 10 20000).bind fun t4 => (if t4 = true then ((spec_l05Points.f k a0_0 a0_1 l0_2 l0_3).bind fun t7 => (if t7 = true then (spec_l05Ok.j0 k a0_0 a0_1 l0_2 l0_3 (decide ((l0_3.length : Int) > 24))) else (spec_l05Ok.j0 k a0_0 a0_1 l0_2 l0_3 true))) else (spec_l05Ok.j0 k a0_0 a0_1 l0_2 l0_3 true))) else (spec_l05Ok.j0 k a0_0 a0_1 l0_2 l0_3 true))
set_option maxRecDepth 100000 in
theorem spec_l05Ok.ok {k : Nat} {a0_0 : Int} {a0_1 : Int} {l0_2 : List S159} {l0_3 : List S146} {r : Bool} (H : spec_l05Ok.f k a0_0 a0_1 l0_2 l0_3 = some r) : OkF Tryz.prog 47 [.c (.d (.ro [.v (.int .i64 a0_0), .v (.int .i64 a0_1), .row 160 (l0_2.map c159), .row 152 (l0_3.map c146)]))] [] (.c (.d (.v (.bool r)))) [] := by
 unfold spec_l05Ok.f at H
 refine OkF.of (N := 96) (rs := [2]) (avs := [.c (.d (.v (.bool r)))]) Tryz.func47 rfl rfl (fun _ _ => results_tmp rfl _ _ _) (by decide) rfl rfl rfl rfl (fun w0 S => ?_)
 refine AG.seq ?_
 refine AG.region HM ?_
 refine a_move (v := vB _) ?_
 refine RA.nil nofun ?_
 refine AG.seq ?_
 refine AG.seq ?_
 refine AG.joinR (fun s => ∃ q, q ≤ k ∧ ∃ (x0_0 : Int) (x0_1 : Int) (x0_2 : List S159) (x0_3 : List S146) (x32 : Bool), spec_l05Ok.j0 q x0_0 x0_1 x0_2 x0_3 x32 = some r ∧ s = St.of [(0, .c (.d (.ro [.v (.int .i64 x0_0), .v (.int .i64 x0_1), .row 160 (x0_2.map c159), .row 152 (x0_3.map c146)]))), (32, vB x32)] []) ?_ ?_
 ·skip
  refine AG.region HM ?_
  refine a_move (v := vO [_, _, _, _]) ?_
  refine a_nil (v := vO [_, _, _, _]) ?_
  refine a_faR (cells' := [_, _, _, _]) ?_ D35_0
  refine a_ldR (v := vI _) ?_ T2
  obtain ⟨t1, e2, H⟩ := bindO H
  refine a_call (v := vB t1) (nk := []) (L := []) ?_ rfl (spec_l00In.ok e2) id (qd (qd (qd qn))) trivial trivial trivial rfl
  refine a_un (u := .bool (!t1)) ?_
  refine a_move (v := vB _) ?_
  by_cases hc3 : t1 = true
  ·rw [if_pos hc3] at H
   refine a_move (v := vO [_, _, _, _]) ?_ (hg := Gs.yes rfl rfl rfl (congrArg Bool.not hc3))
   refine a_nil (v := vO [_, _, _, _]) ?_ (hg := Gs.yes rfl rfl rfl (congrArg Bool.not hc3))
   refine a_faR (cells' := [_, _, _]) ?_ D35_1 (hg := Gs.yes rfl rfl rfl (congrArg Bool.not hc3))
   refine a_ldR (v := vI _) ?_ T2 (hg := Gs.yes rfl rfl rfl (congrArg Bool.not hc3))
   obtain ⟨t4, e5, H⟩ := bindO H
   refine a_call (v := vB t4) (nk := []) (L := []) ?_ rfl (spec_l00In.ok e5) id (qd (qd (qd qn))) trivial trivial trivial rfl (hg := Gs.yes rfl rfl rfl (congrArg Bool.not hc3))
   refine a_un (u := .bool (!t4)) ?_ (hg := Gs.yes rfl rfl rfl (congrArg Bool.not hc3))
   refine a_pick (b := false) (v := vB _) ?_ (congrArg Bool.not hc3)
   refine a_move (v := vB _) ?_
   by_cases hc6 : t4 = true
   ·rw [if_pos hc6] at H
    refine a_move (v := vO [_, _, _, _]) ?_ (hg := Gs.yes rfl rfl rfl (congrArg Bool.not hc6))
    obtain ⟨t7, e8, H⟩ := bindO H
    refine a_call (v := vB t7) (nk := []) (L := []) ?_ rfl (spec_l05Points.ok e8) id (qd qn) trivial trivial trivial rfl (hg := Gs.yes rfl rfl rfl (congrArg Bool.not hc6))
    refine a_un (u := .bool (!t7)) ?_ (hg := Gs.yes rfl rfl rfl (congrArg Bool.not hc6))
    refine a_pick (b := false) (v := vB _) ?_ (congrArg Bool.not hc6)
    refine a_move (v := vB _) ?_
    by_cases hc9 : t7 = true
    ·rw [if_pos hc9] at H
     refine a_move (v := vO [_, _, _, _]) ?_ (hg := Gs.yes rfl rfl rfl (congrArg Bool.not hc9))
     refine a_nil (v := vO [_, _, _, _]) ?_ (hg := Gs.yes rfl rfl rfl (congrArg Bool.not hc9))
     refine a_faR (cells' := [_]) ?_ D35_3 (hg := Gs.yes rfl rfl rfl (congrArg Bool.not hc9))
     refine a_ldR (v := vR _ _) ?_ T33 (hg := Gs.yes rfl rfl rfl (congrArg Bool.not hc9))
     refine a_lenR ?_ Tryz.underlying33 (hg := Gs.yes rfl rfl rfl (congrArg Bool.not hc9))
     refine a_int (u := .bool (decide ((l0_3.length : Int) > 24))) ?_ (hg := Gs.yes rfl rfl rfl (congrArg Bool.not hc9))
     refine a_pick (b := false) (v := vB _) ?_ (congrArg Bool.not hc9)
     refine RA.nil nofun ?_
     exact CanR.mk id ⟨_, (by omega), _, _, _, _, _, H, rfl⟩ ⟨rfl, rfl, trivial⟩ trivial rfl
    ·rw [if_neg hc9] at H
     refine RA.skip rfl rfl rfl rfl rfl (congrArg Bool.not (Bool.eq_false_iff.2 hc9)) (by decide) ?_
     refine RA.skip rfl rfl rfl rfl rfl (congrArg Bool.not (Bool.eq_false_iff.2 hc9)) (by decide) ?_
     refine RA.skip rfl rfl rfl rfl rfl (congrArg Bool.not (Bool.eq_false_iff.2 hc9)) (by decide) ?_
     refine RA.skip rfl rfl rfl rfl rfl (congrArg Bool.not (Bool.eq_false_iff.2 hc9)) (by decide) ?_
     refine RA.skip rfl rfl rfl rfl rfl (congrArg Bool.not (Bool.eq_false_iff.2 hc9)) (by decide) ?_
     refine RA.skip rfl rfl rfl rfl rfl (congrArg Bool.not (Bool.eq_false_iff.2 hc9)) (by decide) ?_
     refine a_pick (b := true) (v := vB _) ?_ (congrArg Bool.not (Bool.eq_false_iff.2 hc9))
     refine RA.nil nofun ?_
     exact CanR.mk id ⟨_, (by omega), _, _, _, _, _, H, rfl⟩ ⟨rfl, rfl, trivial⟩ trivial rfl
   ·rw [if_neg hc6] at H
    refine RA.skip rfl rfl rfl rfl rfl (congrArg Bool.not (Bool.eq_false_iff.2 hc6)) (by decide) ?_
    refine RA.skip rfl rfl rfl rfl rfl (congrArg Bool.not (Bool.eq_false_iff.2 hc6)) (by decide) ?_
    refine RA.skip rfl rfl rfl rfl rfl (congrArg Bool.not (Bool.eq_false_iff.2 hc6)) (by decide) ?_
    refine a_pick (b := true) (v := vB _) ?_ (congrArg Bool.not (Bool.eq_false_iff.2 hc6))
    refine a_move (v := vB _) ?_
    refine RA.skip rfl rfl rfl rfl rfl rfl (by decide) ?_
    refine RA.skip rfl rfl rfl rfl rfl rfl (by decide) ?_
    refine RA.skip rfl rfl rfl rfl rfl rfl (by decide) ?_
    refine RA.skip rfl rfl rfl rfl rfl rfl (by decide) ?_
    refine RA.skip rfl rfl rfl rfl rfl rfl (by decide) ?_
    refine RA.skip rfl rfl rfl rfl rfl rfl (by decide) ?_
    refine a_pick (b := true) (v := vB _) ?_ rfl
    refine RA.nil nofun ?_
    exact CanR.mk id ⟨_, (by omega), _, _, _, _, _, H, rfl⟩ ⟨rfl, rfl, trivial⟩ trivial rfl
  ·rw [if_neg hc3] at H
   refine RA.skip rfl rfl rfl rfl rfl (congrArg Bool.not (Bool.eq_false_iff.2 hc3)) (by decide) ?_
   refine RA.skip rfl rfl rfl rfl rfl (congrArg Bool.not (Bool.eq_false_iff.2 hc3)) (by decide) ?_
   refine RA.skip rfl rfl rfl rfl rfl (congrArg Bool.not (Bool.eq_false_iff.2 hc3)) (by decide) ?_
   refine RA.skip rfl rfl rfl rfl rfl (congrArg Bool.not (Bool.eq_false_iff.2 hc3)) (by decide) ?_
   refine RA.skip rfl rfl rfl rfl rfl (congrArg Bool.not (Bool.eq_false_iff.2 hc3)) (by decide) ?_
   refine RA.skip rfl rfl rfl rfl rfl (congrArg Bool.not (Bool.eq_false_iff.2 hc3)) (by decide) ?_
   refine a_pick (b := true) (v := vB _) ?_ (congrArg Bool.not (Bool.eq_false_iff.2 hc3))
   refine a_move (v := vB _) ?_
   refine RA.skip rfl rfl rfl rfl rfl rfl (by decide) ?_
   refine RA.skip rfl rfl rfl rfl rfl rfl (by decide) ?_
   refine RA.skip rfl rfl rfl rfl rfl rfl (by decide) ?_
   refine a_pick (b := true) (v := vB _) ?_ rfl
   refine a_move (v := vB _) ?_
   refine RA.skip rfl rfl rfl rfl rfl rfl (by decide) ?_
   refine RA.skip rfl rfl rfl rfl rfl rfl (by decide) ?_
   refine RA.skip rfl rfl rfl rfl rfl rfl (by decide) ?_
   refine RA.skip rfl rfl rfl rfl rfl rfl (by decide) ?_
   refine RA.skip rfl rfl rfl rfl rfl rfl (by decide) ?_
   refine RA.skip rfl rfl rfl rfl rfl rfl (by decide) ?_
   refine a_pick (b := true) (v := vB _) ?_ rfl
   refine RA.nil nofun ?_
   exact CanR.mk id ⟨_, (by omega), _, _, _, _, _, H, rfl⟩ ⟨rfl, rfl, trivial⟩ trivial rfl
 ·clear H
  rintro _ ⟨k, hj0, x0_0, x0_1, x0_2, x0_3, x32, H, rfl⟩
  cases k with
  | zero => cases H
  | succ k =>
   rw [spec_l05Ok.j0] at H
   by_cases hc10 : x32 = true
   ·rw [if_pos hc10] at H
    refine AG.yes rfl hc10 ?_
    refine AG.seq ?_
    refine AG.region HM ?_
    refine a_move (v := vB _) ?_
    refine RA.nil nofun ?_
    refine AG.ret ?_
    obtain rfl := Option.some.inj H
    exact RetP.mk id ⟨rfl, trivial⟩ trivial rfl
   ·rw [if_neg hc10] at H
    refine AG.no rfl (Bool.eq_false_iff.2 hc10) ?_
    refine AG.skip ?_
    refine AG.seq ?_
    refine AG.seq ?_
    refine AG.region HM ?_
    refine a_move (v := vI _) ?_
    refine RA.nil nofun ?_
    refine AG.block ?_
    refine AG.loop ?_
    obtain ⟨K0, hK0, gK0⟩ : ∃ K, k ≤ K ∧ K ≤ k := ⟨k, Nat.le_refl k, Nat.le_refl k⟩
    refine AGr.canon id (AGr.loopI (n := k) (fun k s => k ≤ K0 ∧ ∃ (x0_0 : Int) (x0_1 : Int) (x0_2 : List S159) (x0_3 : List S146) (x3 : Int), spec_l05Ok.l0 k x0_0 x0_1 x0_2 x0_3 x3 = some r ∧ s = St.of [(0, .c (.d (.ro [.v (.int .i64 x0_0), .v (.int .i64 x0_1), .row 160 (x0_2.map c159), .row 152 (x0_3.map c146)]))), (3, vI x3)] []) ⟨hK0, _, _, _, _, _, H, rfl⟩ ?_ ?_) ⟨rfl, rfl, trivial⟩ trivial rfl
    ·rintro _ ⟨_, _, _, _, _, _, H, _⟩
     cases H
    ·clear H hK0
     rintro k ih0 _ ⟨hK0, x0_0, x0_1, x0_2, x0_3, x3, H, rfl⟩
     unfold spec_l05Ok.l0 at H
     refine AG.seq ?_
     refine AG.seq ?_
     refine AG.region HM ?_
     refine a_move (v := vI _) ?_
     refine a_move (v := vO [_, _, _, _]) ?_
     refine a_nil (v := vO [_, _, _, _]) ?_
     refine a_faR (cells' := [_]) ?_ D35_3
     refine a_ldR (v := vR _ _) ?_ T33
     refine a_lenR ?_ Tryz.underlying33
     refine a_int (u := .bool (decide (x3 < (x0_3.length : Int)))) ?_
     refine RA.nil nofun ?_
     by_cases hc11 : x3 < (x0_3.length : Int)
     ·rw [if_pos hc11] at H
      refine AG.yes rfl (decide_eq_true hc11) ?_
      refine AG.skip ?_
      refine AG.seq ?_
      refine AG.block ?_
      refine AG.seq ?_
      refine AG.seq ?_
      refine AG.joinR (fun s => ∃ q, q ≤ k ∧ ∃ (x0_0 : Int) (x0_1 : Int) (x0_2 : List S159) (x0_3 : List S146) (x3 : Int) (x75 : Bool), spec_l05Ok.j1 q x0_0 x0_1 x0_2 x0_3 x3 x75 = some r ∧ s = St.of [(0, .c (.d (.ro [.v (.int .i64 x0_0), .v (.int .i64 x0_1), .row 160 (x0_2.map c159), .row 152 (x0_3.map c146)]))), (3, vI x3), (75, vB x75)] []) ?_ ?_
      ·skip
       refine AG.region HM ?_
       refine a_move (v := vO [_, _, _, _]) ?_
       refine a_nil (v := vO [_, _, _, _]) ?_
       refine a_faR (cells' := [_]) ?_ D35_3
       refine a_ldR (v := vR _ _) ?_ T33
       refine a_move (v := vI _) ?_
       by_cases hc12 : 0 ≤ x3
       ·rw [if_pos hc12] at H
        refine a_ixR (el := c146 (rd146 x0_3 x3)) ?_ ⟨hc12, hc11⟩ T152 Tryz.underlying33 (hel := R146 hc12 hc11)
        refine a_faR (cells' := [_, _]) ?_ D152_0
        refine a_ldR (v := vS _) ?_ T9
        obtain ⟨t13, e14, H⟩ := bindO H
        refine a_call (v := vB t13) (nk := []) (L := []) ?_ rfl (spec_l01Name.ok e14) id (qd qn) trivial trivial trivial rfl
        refine a_un (u := .bool (!t13)) ?_
        refine a_move (v := vB _) ?_
        by_cases hc15 : t13 = true
        ·rw [if_pos hc15] at H
         refine a_move (v := vI _) ?_ (hg := Gs.yes rfl rfl rfl (congrArg Bool.not hc15))
         refine a_int (u := .bool (decide (x3 > 0))) ?_ (hg := Gs.yes rfl rfl rfl (congrArg Bool.not hc15))
         refine a_move (v := vB _) ?_ (hg := Gs.yes rfl rfl rfl (congrArg Bool.not hc15))
         by_cases hc16 : x3 > 0
         ·rw [if_pos hc16] at H
          refine a_move (v := vO [_, _, _, _]) ?_ (hg := Gs.yes rfl rfl rfl (decide_eq_true hc16))
          refine a_nil (v := vO [_, _, _, _]) ?_ (hg := Gs.yes rfl rfl rfl (decide_eq_true hc16))
          refine a_faR (cells' := [_]) ?_ D35_3 (hg := Gs.yes rfl rfl rfl (decide_eq_true hc16))
          refine a_ldR (v := vR _ _) ?_ T33 (hg := Gs.yes rfl rfl rfl (decide_eq_true hc16))
          refine a_move (v := vI _) ?_ (hg := Gs.yes rfl rfl rfl (decide_eq_true hc16))
          refine a_int (u := .int .i64 (wrap64 (x3 - 1))) ?_ (hg := Gs.yes rfl rfl rfl (decide_eq_true hc16))
          by_cases hc17 : 0 ≤ (wrap64 (x3 - 1))
          ·rw [if_pos hc17] at H
           by_cases hc18 : (wrap64 (x3 - 1)) < (x0_3.length : Int)
           ·rw [if_pos hc18] at H
            refine a_ixR (el := c146 (rd146 x0_3 (wrap64 (x3 - 1)))) ?_ ⟨hc17, hc18⟩ T152 Tryz.underlying33 (hel := R146 hc17 hc18) (hg := Gs.yes rfl rfl rfl (decide_eq_true hc16))
            refine a_faR (cells' := [_, _]) ?_ D152_0 (hg := Gs.yes rfl rfl rfl (decide_eq_true hc16))
            refine a_ldR (v := vS _) ?_ T9 (hg := Gs.yes rfl rfl rfl (decide_eq_true hc16))
            refine a_move (v := vO [_, _, _, _]) ?_ (hg := Gs.yes rfl rfl rfl (decide_eq_true hc16))
            refine a_nil (v := vO [_, _, _, _]) ?_ (hg := Gs.yes rfl rfl rfl (decide_eq_true hc16))
            refine a_faR (cells' := [_]) ?_ D35_3 (hg := Gs.yes rfl rfl rfl (decide_eq_true hc16))
            refine a_ldR (v := vR _ _) ?_ T33 (hg := Gs.yes rfl rfl rfl (decide_eq_true hc16))
            refine a_move (v := vI _) ?_ (hg := Gs.yes rfl rfl rfl (decide_eq_true hc16))
            refine a_ixR (el := c146 (rd146 x0_3 x3)) ?_ ⟨hc12, hc11⟩ T152 Tryz.underlying33 (hel := R146 hc12 hc11) (hg := Gs.yes rfl rfl rfl (decide_eq_true hc16))
            refine a_faR (cells' := [_, _]) ?_ D152_0 (hg := Gs.yes rfl rfl rfl (decide_eq_true hc16))
            refine a_ldR (v := vS _) ?_ T9 (hg := Gs.yes rfl rfl rfl (decide_eq_true hc16))
            refine a_bin (u := .bool (!(Op.bytesLess (((rd146 x0_3 (wrap64 (x3 - 1))).f0).toList) (((rd146 x0_3 x3).f0).toList)))) ?_ (hg := Gs.yes rfl rfl rfl (decide_eq_true hc16))
            refine a_pick (b := true) (v := vB _) ?_ (decide_eq_true hc16) (hg := Gs.yes rfl rfl rfl (congrArg Bool.not hc15))
            refine a_pick (b := false) (v := vB _) ?_ (congrArg Bool.not hc15)
            refine RA.nil (fun _ => by kernel_rfl) ?_
            exact CanR.mk id ⟨_, (by omega), _, _, _, _, _, _, H, rfl⟩ ⟨rfl, rfl, rfl, trivial⟩ trivial rfl
           ·rw [if_neg hc18] at H
            cases H
          ·rw [if_neg hc17] at H
           cases H
         ·rw [if_neg hc16] at H
          refine RA.skip rfl rfl rfl rfl rfl (decide_eq_false hc16) (by decide) ?_
          refine RA.skip rfl rfl rfl rfl rfl (decide_eq_false hc16) (by decide) ?_
          refine RA.skip rfl rfl rfl rfl rfl (decide_eq_false hc16) (by decide) ?_
          refine RA.skip rfl rfl rfl rfl rfl (decide_eq_false hc16) (by decide) ?_
          refine RA.skip rfl rfl rfl rfl rfl (decide_eq_false hc16) (by decide) ?_
          refine RA.skip rfl rfl rfl rfl rfl (decide_eq_false hc16) (by decide) ?_
          refine RA.skip rfl rfl rfl rfl rfl (decide_eq_false hc16) (by decide) ?_
          refine RA.skip rfl rfl rfl rfl rfl (decide_eq_false hc16) (by decide) ?_
          refine RA.skip rfl rfl rfl rfl rfl (decide_eq_false hc16) (by decide) ?_
          refine RA.skip rfl rfl rfl rfl rfl (decide_eq_false hc16) (by decide) ?_
          refine RA.skip rfl rfl rfl rfl rfl (decide_eq_false hc16) (by decide) ?_
          refine RA.skip rfl rfl rfl rfl rfl (decide_eq_false hc16) (by decide) ?_
          refine RA.skip rfl rfl rfl rfl rfl (decide_eq_false hc16) (by decide) ?_
          refine RA.skip rfl rfl rfl rfl rfl (decide_eq_false hc16) (by decide) ?_
          refine RA.skip rfl rfl rfl rfl rfl (decide_eq_false hc16) (by decide) ?_
          refine RA.skip rfl rfl rfl rfl rfl (decide_eq_false hc16) (by decide) ?_
          refine RA.skip rfl rfl rfl rfl rfl (decide_eq_false hc16) (by decide) ?_
          refine RA.skip rfl rfl rfl rfl rfl (decide_eq_false hc16) (by decide) ?_
          refine a_pick (b := false) (v := vB _) ?_ (decide_eq_false hc16) (hg := Gs.yes rfl rfl rfl (congrArg Bool.not hc15))
          refine a_pick (b := false) (v := vB _) ?_ (congrArg Bool.not hc15)
          refine RA.nil (fun _ => by kernel_rfl) ?_
          exact CanR.mk id ⟨_, (by omega), _, _, _, _, _, _, H, rfl⟩ ⟨rfl, rfl, rfl, trivial⟩ trivial rfl
        ·rw [if_neg hc15] at H
         refine RA.skip rfl rfl rfl rfl rfl (congrArg Bool.not (Bool.eq_false_iff.2 hc15)) (by decide) ?_
         refine RA.skip rfl rfl rfl rfl rfl (congrArg Bool.not (Bool.eq_false_iff.2 hc15)) (by decide) ?_
         refine RA.skip rfl rfl rfl rfl rfl (congrArg Bool.not (Bool.eq_false_iff.2 hc15)) (by decide) ?_
         refine RA.skip0 rfl rfl rfl rfl rfl ?_
         refine RA.skip0 rfl rfl rfl rfl rfl ?_
         refine RA.skip0 rfl rfl rfl rfl rfl ?_
         refine RA.skip0 rfl rfl rfl rfl rfl ?_
         refine RA.skip0 rfl rfl rfl rfl rfl ?_
         refine RA.skip0 rfl rfl rfl rfl rfl ?_
         refine RA.skip0 rfl rfl rfl rfl rfl ?_
         refine RA.skip0 rfl rfl rfl rfl rfl ?_
         refine RA.skip0 rfl rfl rfl rfl rfl ?_
         refine RA.skip0 rfl rfl rfl rfl rfl ?_
         refine RA.skip0 rfl rfl rfl rfl rfl ?_
         refine RA.skip0 rfl rfl rfl rfl rfl ?_
         refine RA.skip0 rfl rfl rfl rfl rfl ?_
         refine RA.skip0 rfl rfl rfl rfl rfl ?_
         refine RA.skip0 rfl rfl rfl rfl rfl ?_
         refine RA.skip0 rfl rfl rfl rfl rfl ?_
         refine RA.skip0 rfl rfl rfl rfl rfl ?_
         refine RA.skip0 rfl rfl rfl rfl rfl ?_
         refine RA.skip rfl rfl rfl rfl rfl (congrArg Bool.not (Bool.eq_false_iff.2 hc15)) (by decide) ?_
         refine a_pick (b := true) (v := vB _) ?_ (congrArg Bool.not (Bool.eq_false_iff.2 hc15))
         refine RA.nil (fun _ => by kernel_rfl) ?_
         exact CanR.mk id ⟨_, (by omega), _, _, _, _, _, _, H, rfl⟩ ⟨rfl, rfl, rfl, trivial⟩ trivial rfl
       ·rw [if_neg hc12] at H
        cases H
      ·clear H
       rintro _ ⟨k, hj1, x0_0, x0_1, x0_2, x0_3, x3, x75, H, rfl⟩
       cases k with
       | zero => cases H
       | succ k =>
        rw [spec_l05Ok.j1] at H
        by_cases hc19 : x75 = true
        ·rw [if_pos hc19] at H
         refine AG.yes rfl hc19 ?_
         refine AG.seq ?_
         refine AG.region HM ?_
         refine a_move (v := vB _) ?_
         refine RA.nil nofun ?_
         refine AG.ret ?_
         obtain rfl := Option.some.inj H
         exact RetP.mk id ⟨rfl, trivial⟩ trivial rfl
        ·rw [if_neg hc19] at H
         refine AG.no rfl (Bool.eq_false_iff.2 hc19) ?_
         refine AG.skip ?_
         refine AG.seq ?_
         refine AG.region HM ?_
         refine a_move (v := vO [_, _, _, _]) ?_
         refine a_move (v := vO [_, _, _, _]) ?_
         refine a_nil (v := vO [_, _, _, _]) ?_
         refine a_faR (cells' := [_]) ?_ D35_3
         refine a_ldR (v := vR _ _) ?_ T33
         refine a_move (v := vI _) ?_
         by_cases hc20 : 0 ≤ x3
         ·rw [if_pos hc20] at H
          by_cases hc21 : x3 < (x0_3.length : Int)
          ·rw [if_pos hc21] at H
           refine a_ixR (el := c146 (rd146 x0_3 x3)) ?_ ⟨hc20, hc21⟩ T152 Tryz.underlying33 (hel := R146 hc20 hc21)
           refine a_faR (cells' := [_]) ?_ D152_1
           refine a_ldR (v := vR _ _) ?_ T29
           obtain ⟨⟨t22, t23⟩, e24, H⟩ := bindO H
           refine a_call (v := .tup [.c (.own 204 t22.length), .c (.d (.v (.bool t23)))]) (nk := [(204, .row 160 (t22.map c159))]) (L := []) ?_ rfl (spec_l05Ring.ok e24) (fun κ => cond (Nat.beq κ 204) 100 (κ)) (qd (qd qn)) trivial ⟨rfl, trivial⟩ ⟨rfl, trivial⟩ rfl
           refine a_move (v := .tup [_, _]) ?_
           refine a_ext (v := .c (.own _ _)) ?_
           refine a_ext (v := vB _) ?_
           refine a_move (v := .c (.own _ _)) ?_
           refine a_move (v := vB _) ?_
           refine RA.nil nofun ?_
           refine AG.seq ?_
           refine AG.region HM ?_
           refine a_move (v := vB _) ?_
           refine a_un (u := .bool (!t23)) ?_
           refine a_move (v := vB _) ?_
           by_cases hc25 : t23 = true
           ·rw [if_pos hc25] at H
            refine a_move (v := .c (.own _ _)) ?_ (hg := Gs.yes rfl rfl rfl (congrArg Bool.not hc25))
            obtain ⟨t26, e27, H⟩ := bindO H
            refine a_call (v := vB t26) (nk := []) (L := [(204, _)]) ?_ rfl (spec_l03Ok.ok e27) id (qc rO qn) ⟨rfl, trivial⟩ trivial trivial rfl (hg := Gs.yes rfl rfl rfl (congrArg Bool.not hc25))
            refine a_un (u := .bool (!t26)) ?_ (hg := Gs.yes rfl rfl rfl (congrArg Bool.not hc25))
            refine a_pick (b := false) (v := vB _) ?_ (congrArg Bool.not hc25)
            refine RA.nil nofun ?_
            by_cases hc28 : t26 = true
            ·rw [if_pos hc28] at H
             refine AG.no rfl (congrArg Bool.not hc28) ?_
             refine AG.skip ?_
             refine AG.region HM ?_
             refine a_move (v := vI _) ?_
             refine a_int (u := .int .i64 (wrap64 (x3 + 1))) ?_
             refine a_move (v := vI _) ?_
             refine RA.nil nofun ?_
             exact AGr.canon id (ih0 _ (by omega) _ ⟨by omega, _, _, _, _, _, H, rfl⟩) ⟨rfl, rfl, trivial⟩ trivial rfl
            ·rw [if_neg hc28] at H
             refine AG.yes rfl (congrArg Bool.not (Bool.eq_false_iff.2 hc28)) ?_
             refine AG.seq ?_
             refine AG.region HM ?_
             refine a_move (v := vB _) ?_
             refine RA.nil nofun ?_
             refine AG.ret ?_
             obtain rfl := Option.some.inj H
             exact RetP.mk id ⟨rfl, trivial⟩ trivial rfl
           ·rw [if_neg hc25] at H
            refine RA.skip rfl rfl rfl rfl rfl (congrArg Bool.not (Bool.eq_false_iff.2 hc25)) (by decide) ?_
            refine RA.skip rfl rfl rfl rfl rfl (congrArg Bool.not (Bool.eq_false_iff.2 hc25)) (by decide) ?_
            refine RA.skip rfl rfl rfl rfl rfl (congrArg Bool.not (Bool.eq_false_iff.2 hc25)) (by decide) ?_
            refine a_pick (b := true) (v := vB _) ?_ (congrArg Bool.not (Bool.eq_false_iff.2 hc25))
            refine RA.nil nofun ?_
            refine AG.yes rfl rfl ?_
            refine AG.seq ?_
            refine AG.region HM ?_
            refine a_move (v := vB _) ?_
            refine RA.nil nofun ?_
            refine AG.ret ?_
            obtain rfl := Option.some.inj H
            exact RetP.mk id ⟨rfl, trivial⟩ trivial rfl
          ·rw [if_neg hc21] at H
           cases H
         ·rw [if_neg hc20] at H
          cases H
     ·rw [if_neg hc11] at H
      refine AG.no rfl (decide_eq_false hc11) ?_
      refine AG.exit ?_
      refine AG.seq ?_
      refine AG.region HM ?_
      refine a_move (v := vB _) ?_
      refine RA.nil nofun ?_
      refine AG.ret ?_
      obtain rfl := Option.some.inj H
      exact RetP.mk id ⟨rfl, trivial⟩ trivial rfl
def spec_l07Names.f  : Option ((List ByteArray)) := some ([(⟨#[97, 115, 104]⟩ : ByteArray), (⟨#[98, 101, 101, 99, 104]⟩ : ByteArray), (⟨#[98, 105, 114, 99, 104]⟩ : ByteArray), (⟨#[99, 104, 101, 114, 114, 121]⟩ : ByteArray), (⟨#[101, 98, 111, 110, 121]⟩ : ByteArray), (⟨#[104, 111, 108, 108, 121]⟩ : ByteArray), (⟨#[109, 97, 112, 108, 101]⟩ : ByteArray), (⟨#[111, 97, 107]⟩ : ByteArray), (⟨#[114, 111, 115, 101, 119, 111, 111, 100]⟩ : ByteArray), (⟨#[119, 97, 108, 110, 117, 116]⟩ : ByteArray)])
set_option maxRecDepth 100000 in
theorem spec_l07Names.ok {r : List ByteArray} (H : spec_l07Names.f  = some r) : OkF Tryz.prog 230 [] [] (.c (.own 100 r.length)) [(100, .row 9 (r.map c9))] := by
 unfold spec_l07Names.f at H
 refine OkF.of (N := 2) (rs := [0]) (avs := [.c (.own 100 r.length)]) Tryz.func230 rfl rfl (fun _ _ => results_tmp rfl _ _ _) (by decide) rfl rfl rfl rfl (fun w0 S => ?_)
 refine AG.seq ?_
 refine AG.region HM ?_
 refine a_nilO (e := 9) 200 ?_ T9
 refine RA.nil nofun ?_
 refine AG.seq ?_
 refine AG.region HM ?_
 refine a_lit (cs := [_, _, _, _, _, _, _, _, _, _]) (D := []) (css := ([(⟨#[97, 115, 104]⟩ : ByteArray), (⟨#[98, 101, 101, 99, 104]⟩ : ByteArray), (⟨#[98, 105, 114, 99, 104]⟩ : ByteArray), (⟨#[99, 104, 101, 114, 114, 121]⟩ : ByteArray), (⟨#[101, 98, 111, 110, 121]⟩ : ByteArray), (⟨#[104, 111, 108, 108, 121]⟩ : ByteArray), (⟨#[109, 97, 112, 108, 101]⟩ : ByteArray), (⟨#[111, 97, 107]⟩ : ByteArray), (⟨#[114, 111, 115, 101, 119, 111, 111, 100]⟩ : ByteArray), (⟨#[119, 97, 108, 110, 117, 116]⟩ : ByteArray)]).map c9) 201 ?_ N258 T9 (hcss := by rfl)
 refine a_move (v := .c (.own _ _)) ?_
 refine RA.nil nofun ?_
 refine AG.ret ?_
 obtain rfl := Option.some.inj H
 exact RetP.mk (fun κ => cond (Nat.beq κ 100) 201 (κ)) ⟨(ownE rfl (by simp)), trivial⟩ ⟨rfl, trivial⟩ rfl
def spec_l07Find.l0 : Nat → ByteArray → List ByteArray → Int → Option (Int)
 | 0, _, _, _ => none
 | k + 1, x0, x3, x4 => if x4 < (x3.length : Int) then (if 0 ≤ x4 then (if (rd9 x3 x4).toList = x0.toList then (some x4) else (spec_l07Find.l0 k x0 x3 (wrap64 (x4 + 1)))) else (none)) else (some (-1))
def spec_l07Find.f (k : Nat) (a0 : ByteArray) : Option (Int) := (spec_l07Names.f).bind fun t1 => (spec_l07Find.l0 k a0 t1 0)
set_option maxRecDepth 100000 in
theorem spec_l07Find.ok {k : Nat} {a0 : ByteArray} {r : Int} (H : spec_l07Find.f k a0 = some r) : OkF Tryz.prog 197 [vS a0] [] (.c (.d (.v (.int .i64 r)))) [] := by
 unfold spec_l07Find.f at H
 refine OkF.of (N := 19) (rs := [2]) (avs := [.c (.d (.v (.int .i64 r)))]) Tryz.func197 rfl rfl (fun _ _ => results_tmp rfl _ _ _) (by decide) rfl rfl rfl rfl (fun w0 S => ?_)
 refine AG.seq ?_
 refine AG.region HM ?_
 refine a_move (v := vI _) ?_
 refine RA.nil nofun ?_
 refine AG.seq ?_
 refine AG.region HM ?_
 obtain ⟨t1, e2, H⟩ := bindO H
 refine a_call (v := .c (.own 200 t1.length)) (nk := [(200, .row 9 (t1.map c9))]) (L := []) ?_ rfl (spec_l07Names.ok e2) (fun κ => cond (Nat.beq κ 200) 100 (κ)) qn trivial ⟨rfl, trivial⟩ ⟨rfl, trivial⟩ rfl
 refine a_move (v := .c (.own _ _)) ?_
 refine RA.nil nofun ?_
 refine AG.seq ?_
 refine AG.seq ?_
 refine AG.region HM ?_
 refine a_move (v := vI _) ?_
 refine RA.nil nofun ?_
 refine AG.block ?_
 refine AG.loop ?_
 obtain ⟨K0, hK0, gK0⟩ : ∃ K, k ≤ K ∧ K ≤ k := ⟨k, Nat.le_refl k, Nat.le_refl k⟩
 refine AGr.canon (fun κ => cond (Nat.beq κ 201) 200 (κ)) (AGr.loopI (n := k) (fun k s => k ≤ K0 ∧ ∃ (x0 : ByteArray) (x3 : List ByteArray) (x4 : Int), spec_l07Find.l0 k x0 x3 x4 = some r ∧ s = St.of [(0, vS x0), (3, .c (.own 201 x3.length)), (4, vI x4)] [(201, .row 9 (x3.map c9))]) ⟨hK0, _, _, _, H, rfl⟩ ?_ ?_) ⟨rfl, rfl, rfl, trivial⟩ ⟨rfl, trivial⟩ rfl
 ·rintro _ ⟨_, _, _, _, H, _⟩
  cases H
 ·clear H hK0
  rintro k ih0 _ ⟨hK0, x0, x3, x4, H, rfl⟩
  unfold spec_l07Find.l0 at H
  refine AG.seq ?_
  refine AG.seq ?_
  refine AG.region HM ?_
  refine a_move (v := vI _) ?_
  refine a_move (v := .c (.own _ _)) ?_
  refine a_lenO ?_ Tryz.underlying258
  refine a_int (u := .bool (decide (x4 < (x3.length : Int)))) ?_
  refine RA.nil nofun ?_
  by_cases hc3 : x4 < (x3.length : Int)
  ·rw [if_pos hc3] at H
   refine AG.yes rfl (decide_eq_true hc3) ?_
   refine AG.skip ?_
   refine AG.seq ?_
   refine AG.block ?_
   refine AG.seq ?_
   refine AG.region HM ?_
   refine a_move (v := .c (.own _ _)) ?_
   refine a_move (v := vI _) ?_
   by_cases hc4 : 0 ≤ x4
   ·rw [if_pos hc4] at H
    refine a_ixO ?_ ⟨hc4, hc3⟩ T9 Tryz.underlying258
    refine a_ldE (v := vS _) ?_ (G9 hc4 hc3) T9
    refine a_move (v := vS _) ?_
    refine a_bin (u := .bool ((rd9 x3 x4).toList == x0.toList)) ?_
    refine RA.nil nofun ?_
    by_cases hc5 : (rd9 x3 x4).toList = x0.toList
    ·rw [if_pos hc5] at H
     refine AG.yes rfl (beq_iff_eq.2 hc5) ?_
     refine AG.seq ?_
     refine AG.region HM ?_
     refine a_move (v := vI _) ?_
     refine a_move (v := vI _) ?_
     refine RA.nil nofun ?_
     refine AG.ret ?_
     obtain rfl := Option.some.inj H
     exact RetP.mk id ⟨rfl, trivial⟩ trivial rfl
    ·rw [if_neg hc5] at H
     refine AG.no rfl (beq_eq_false_iff_ne.2 hc5) ?_
     refine AG.skip ?_
     refine AG.region HM ?_
     refine a_move (v := vI _) ?_
     refine a_int (u := .int .i64 (wrap64 (x4 + 1))) ?_
     refine a_move (v := vI _) ?_
     refine RA.nil nofun ?_
     exact AGr.canon id (ih0 _ (by omega) _ ⟨by omega, _, _, _, H, rfl⟩) ⟨rfl, rfl, rfl, trivial⟩ ⟨rfl, trivial⟩ rfl
   ·rw [if_neg hc4] at H
    cases H
  ·rw [if_neg hc3] at H
   refine AG.no rfl (decide_eq_false hc3) ?_
   refine AG.exit ?_
   refine AG.seq ?_
   refine AG.region HM ?_
   refine a_move (v := vI _) ?_
   refine RA.nil nofun ?_
   refine AG.ret ?_
   obtain rfl := Option.some.inj H
   exact RetP.mk id ⟨rfl, trivial⟩ trivial rfl
def spec_l07Table.f  : Option ((List (List Int))) := some ([([20, 40, 310]), ([35, 45, 410]), ([15, 33, 280]), ([50, 36, 240]), ([95, 85, 270]), ([5, 35, 370]), ([10, 42, 290]), ([40, 40, 330]), ([80, 60, 220]), ([70, 38, 260])])
set_option maxRecDepth 100000 in
theorem spec_l07Table.ok {r : List (List Int)} (H : spec_l07Table.f  = some r) : OkF Tryz.prog 198 [] [] (.c (.own 100 r.length)) [(100, .row 29 (r.map c29))] := by
 unfold spec_l07Table.f at H
 refine OkF.of (N := 12) (rs := [0]) (avs := [.c (.own 100 r.length)]) Tryz.func198 rfl rfl (fun _ _ => results_tmp rfl _ _ _) (by decide) rfl rfl rfl rfl (fun w0 S => ?_)
 refine AG.seq ?_
 refine AG.region HM ?_
 refine a_nilO (e := 29) 200 ?_ T29
 refine RA.nil nofun ?_
 refine AG.seq ?_
 refine AG.region HM ?_
 refine a_lit (cs := [_, _, _]) (D := []) (css := ([20, 40, 310]).map c2) 201 ?_ N29 T2 (hcss := by rfl)
 refine a_lit (cs := [_, _, _]) (D := []) (css := ([35, 45, 410]).map c2) 202 ?_ N29 T2 (hcss := by rfl)
 refine a_lit (cs := [_, _, _]) (D := []) (css := ([15, 33, 280]).map c2) 203 ?_ N29 T2 (hcss := by rfl)
 refine a_lit (cs := [_, _, _]) (D := []) (css := ([50, 36, 240]).map c2) 204 ?_ N29 T2 (hcss := by rfl)
 refine a_lit (cs := [_, _, _]) (D := []) (css := ([95, 85, 270]).map c2) 205 ?_ N29 T2 (hcss := by rfl)
 refine a_lit (cs := [_, _, _]) (D := []) (css := ([5, 35, 370]).map c2) 206 ?_ N29 T2 (hcss := by rfl)
 refine a_lit (cs := [_, _, _]) (D := []) (css := ([10, 42, 290]).map c2) 207 ?_ N29 T2 (hcss := by rfl)
 refine a_lit (cs := [_, _, _]) (D := []) (css := ([40, 40, 330]).map c2) 208 ?_ N29 T2 (hcss := by rfl)
 refine a_lit (cs := [_, _, _]) (D := []) (css := ([80, 60, 220]).map c2) 209 ?_ N29 T2 (hcss := by rfl)
 refine a_lit (cs := [_, _, _]) (D := []) (css := ([70, 38, 260]).map c2) 210 ?_ N29 T2 (hcss := by rfl)
 refine a_lit (cs := [_, _, _, _, _, _, _, _, _, _]) (D := [201, 202, 203, 204, 205, 206, 207, 208, 209, 210]) (css := ([([20, 40, 310]), ([35, 45, 410]), ([15, 33, 280]), ([50, 36, 240]), ([95, 85, 270]), ([5, 35, 370]), ([10, 42, 290]), ([40, 40, 330]), ([80, 60, 220]), ([70, 38, 260])]).map c29) 211 ?_ N184 T29 (hcss := by rfl)
 refine a_move (v := .c (.own _ _)) ?_
 refine RA.nil nofun ?_
 refine AG.ret ?_
 obtain rfl := Option.some.inj H
 exact RetP.mk (fun κ => cond (Nat.beq κ 100) 211 (κ)) ⟨(ownE rfl (by simp)), trivial⟩ ⟨rfl, trivial⟩ rfl
def spec_l07Grain.f (a0 : Int) : Option (Bool) := (spec_l00In.f a0 0 179).bind fun t1 => (some t1)
set_option maxRecDepth 100000 in
theorem spec_l07Grain.ok {a0 : Int} {r : Bool} (H : spec_l07Grain.f a0 = some r) : OkF Tryz.prog 199 [vI a0] [] (.c (.d (.v (.bool r)))) [] := by
 unfold spec_l07Grain.f at H
 refine OkF.of (N := 5) (rs := [2]) (avs := [.c (.d (.v (.bool r)))]) Tryz.func199 rfl rfl (fun _ _ => results_tmp rfl _ _ _) (by decide) rfl rfl rfl rfl (fun w0 S => ?_)
 refine AG.seq ?_
 refine AG.region HM ?_
 refine a_move (v := vB _) ?_
 refine RA.nil nofun ?_
 refine AG.seq ?_
 refine AG.region HM ?_
 refine a_move (v := vI _) ?_
 obtain ⟨t1, e2, H⟩ := bindO H
 refine a_call (v := vB t1) (nk := []) (L := []) ?_ rfl (spec_l00In.ok e2) id (qd (qd (qd qn))) trivial trivial trivial rfl
 refine a_move (v := vB _) ?_
 refine RA.nil nofun ?_
 refine AG.ret ?_
 obtain rfl := Option.some.inj H
 exact RetP.mk id ⟨rfl, trivial⟩ trivial rfl
def spec_l07Ok.j0 : Nat → Int → Int → Int → Bool → Option (Bool)
 | 0, _, _, _, _ => none
 | k + 1, x0_1, x0_2, x3, x19 => if x19 = true then (some false) else ((spec_l07Table.f).bind fun t7 => (if 0 ≤ x3 then (if x3 < (t7.length : Int) then (if 0 < ((rd29 t7 x3).length : Int) then ((spec_l00In.f x0_1 (wrap64 ((rd2 (rd29 t7 x3) 0) - 15)) (wrap64 ((rd2 (rd29 t7 x3) 0) + 15))).bind fun t11 => (if t11 = true then ((spec_l07Grain.f x0_2).bind fun t14 => (some t14)) else (some false))) else (none)) else (none)) else (none)))
def spec_l07Ok.f (k : Nat) (a0_0 : ByteArray) (a0_1 : Int) (a0_2 : Int) : Option (Bool) := (spec_l07Find.f k a0_0).bind fun t1 => (if t1 < 0 then (spec_l07Ok.j0 k a0_1 a0_2 t1 true) else ((spec_l00In.f a0_1 0 100).bind fun t4 => (spec_l07Ok.j0 k a0_1 a0_2 t1 (!t4))))
set_option maxRecDepth 100000 in
theorem spec_l07Ok.ok {k : Nat} {a0_0 : ByteArray} {a0_1 : Int} {a0_2 : Int} {r : Bool} (H : spec_l07Ok.f k a0_0 a0_1 a0_2 = some r) : OkF Tryz.prog 156 [.c (.d (.ro [.v (.string a0_0), .v (.int .i64 a0_1), .v (.int .i64 a0_2)]))] [] (.c (.d (.v (.bool r)))) [] := by
 unfold spec_l07Ok.f at H
 refine OkF.of (N := 42) (rs := [2]) (avs := [.c (.d (.v (.bool r)))]) Tryz.func156 rfl rfl (fun _ _ => results_tmp rfl _ _ _) (by decide) rfl rfl rfl rfl (fun w0 S => ?_)
 refine AG.seq ?_
 refine AG.region HM ?_
 refine a_move (v := vB _) ?_
 refine RA.nil nofun ?_
 refine AG.seq ?_
 refine AG.region HM ?_
 refine a_move (v := vO [_, _, _]) ?_
 refine a_nil (v := vO [_, _, _]) ?_
 refine a_faR (cells' := [_, _, _]) ?_ D92_0
 refine a_ldR (v := vS _) ?_ T9
 obtain ⟨t1, e2, H⟩ := bindO H
 refine a_call (v := vI t1) (nk := []) (L := []) ?_ rfl (spec_l07Find.ok e2) id (qd qn) trivial trivial trivial rfl
 refine a_move (v := vI _) ?_
 refine RA.nil nofun ?_
 refine AG.seq ?_
 refine AG.seq ?_
 refine AG.joinR (fun s => ∃ q, q ≤ k ∧ ∃ (x0_0 : ByteArray) (x0_1 : Int) (x0_2 : Int) (x3 : Int) (x19 : Bool), spec_l07Ok.j0 q x0_1 x0_2 x3 x19 = some r ∧ s = St.of [(0, .c (.d (.ro [.v (.string x0_0), .v (.int .i64 x0_1), .v (.int .i64 x0_2)]))), (3, vI x3), (19, vB x19)] []) ?_ ?_
 ·skip
  refine AG.region HM ?_
  refine a_move (v := vI _) ?_
  refine a_int (u := .bool (decide (t1 < 0))) ?_
  refine a_move (v := vB _) ?_
  by_cases hc3 : t1 < 0
  ·rw [if_pos hc3] at H
   refine RA.skip rfl rfl rfl rfl rfl (decide_eq_true hc3) (by decide) ?_
   refine RA.skip rfl rfl rfl rfl rfl (decide_eq_true hc3) (by decide) ?_
   refine RA.skip rfl rfl rfl rfl rfl (decide_eq_true hc3) (by decide) ?_
   refine RA.skip rfl rfl rfl rfl rfl (decide_eq_true hc3) (by decide) ?_
   refine RA.skip rfl rfl rfl rfl rfl (decide_eq_true hc3) (by decide) ?_
   refine RA.skip rfl rfl rfl rfl rfl (decide_eq_true hc3) (by decide) ?_
   refine a_pick (b := true) (v := vB _) ?_ (decide_eq_true hc3)
   refine RA.nil nofun ?_
   exact CanR.mk id ⟨_, (by omega), _, _, _, _, _, H, rfl⟩ ⟨rfl, rfl, rfl, trivial⟩ trivial rfl
  ·rw [if_neg hc3] at H
   refine a_move (v := vO [_, _, _]) ?_ (hg := Gs.yes rfl rfl rfl (decide_eq_false hc3))
   refine a_nil (v := vO [_, _, _]) ?_ (hg := Gs.yes rfl rfl rfl (decide_eq_false hc3))
   refine a_faR (cells' := [_, _]) ?_ D92_1 (hg := Gs.yes rfl rfl rfl (decide_eq_false hc3))
   refine a_ldR (v := vI _) ?_ T2 (hg := Gs.yes rfl rfl rfl (decide_eq_false hc3))
   obtain ⟨t4, e5, H⟩ := bindO H
   refine a_call (v := vB t4) (nk := []) (L := []) ?_ rfl (spec_l00In.ok e5) id (qd (qd (qd qn))) trivial trivial trivial rfl (hg := Gs.yes rfl rfl rfl (decide_eq_false hc3))
   refine a_un (u := .bool (!t4)) ?_ (hg := Gs.yes rfl rfl rfl (decide_eq_false hc3))
   refine a_pick (b := false) (v := vB _) ?_ (decide_eq_false hc3)
   refine RA.nil nofun ?_
   exact CanR.mk id ⟨_, (by omega), _, _, _, _, _, H, rfl⟩ ⟨rfl, rfl, rfl, trivial⟩ trivial rfl
 ·clear H
  rintro _ ⟨k, hj0, x0_0, x0_1, x0_2, x3, x19, H, rfl⟩
  cases k with
  | zero => cases H
  | succ k =>
   rw [spec_l07Ok.j0] at H
   by_cases hc6 : x19 = true
   ·rw [if_pos hc6] at H
    refine AG.yes rfl hc6 ?_
    refine AG.seq ?_
    refine AG.region HM ?_
    refine a_move (v := vB _) ?_
    refine RA.nil nofun ?_
    refine AG.ret ?_
    obtain rfl := Option.some.inj H
    exact RetP.mk id ⟨rfl, trivial⟩ trivial rfl
   ·rw [if_neg hc6] at H
    refine AG.no rfl (Bool.eq_false_iff.2 hc6) ?_
    refine AG.skip ?_
    refine AG.seq ?_
    refine AG.region HM ?_
    obtain ⟨t7, et7, H⟩ := bindO H
    refine a_callF (L := []) ?_ rfl (spec_l07Table.ok et7) qn trivial
    refine a_move (v := vI _) ?_
    by_cases hc8 : 0 ≤ x3
    ·rw [if_pos hc8] at H
     by_cases hc9 : x3 < (t7.length : Int)
     ·rw [if_pos hc9] at H
      refine a_ixR (el := c29 (rd29 t7 x3)) ?_ ⟨hc8, hc9⟩ T29 Tryz.underlying184 (hel := R29 hc8 hc9)
      refine a_ldR (v := vR _ _) ?_ T29
      by_cases hc10 : 0 < ((rd29 t7 x3).length : Int)
      ·rw [if_pos hc10] at H
       refine a_ixR (el := c2 (rd2 (rd29 t7 x3) 0)) ?_ ⟨(by decide), hc10⟩ T2 Tryz.underlying29 (hel := R2 (by decide) hc10)
       refine a_ldR (v := vI _) ?_ T2
       refine a_move (v := vI _) ?_
       refine RA.nil nofun ?_
       refine AG.seq ?_
       refine AG.region HM ?_
       refine a_move (v := vO [_, _, _]) ?_
       refine a_nil (v := vO [_, _, _]) ?_
       refine a_faR (cells' := [_, _]) ?_ D92_1
       refine a_ldR (v := vI _) ?_ T2
       refine a_move (v := vI _) ?_
       refine a_int (u := .int .i64 (wrap64 ((rd2 (rd29 t7 x3) 0) - 15))) ?_
       refine a_move (v := vI _) ?_
       refine a_int (u := .int .i64 (wrap64 ((rd2 (rd29 t7 x3) 0) + 15))) ?_
       obtain ⟨t11, e12, H⟩ := bindO H
       refine a_call (v := vB t11) (nk := []) (L := []) ?_ rfl (spec_l00In.ok e12) id (qd (qd (qd qn))) trivial trivial trivial rfl
       refine a_move (v := vB _) ?_
       by_cases hc13 : t11 = true
       ·rw [if_pos hc13] at H
        refine a_move (v := vO [_, _, _]) ?_ (hg := Gs.yes rfl rfl rfl hc13)
        refine a_nil (v := vO [_, _, _]) ?_ (hg := Gs.yes rfl rfl rfl hc13)
        refine a_faR (cells' := [_]) ?_ D92_2 (hg := Gs.yes rfl rfl rfl hc13)
        refine a_ldR (v := vI _) ?_ T2 (hg := Gs.yes rfl rfl rfl hc13)
        obtain ⟨t14, e15, H⟩ := bindO H
        refine a_call (v := vB t14) (nk := []) (L := []) ?_ rfl (spec_l07Grain.ok e15) id (qd qn) trivial trivial trivial rfl (hg := Gs.yes rfl rfl rfl hc13)
        refine a_pick (b := true) (v := vB _) ?_ hc13
        refine a_move (v := vB _) ?_
        refine RA.nil nofun ?_
        refine AG.ret ?_
        obtain rfl := Option.some.inj H
        exact RetP.mk id ⟨rfl, trivial⟩ trivial rfl
       ·rw [if_neg hc13] at H
        refine RA.skip rfl rfl rfl rfl rfl (Bool.eq_false_iff.2 hc13) (by decide) ?_
        refine RA.skip rfl rfl rfl rfl rfl (Bool.eq_false_iff.2 hc13) (by decide) ?_
        refine RA.skip rfl rfl rfl rfl rfl (Bool.eq_false_iff.2 hc13) (by decide) ?_
        refine RA.skip rfl rfl rfl rfl rfl (Bool.eq_false_iff.2 hc13) (by decide) ?_
        refine RA.skip rfl rfl rfl rfl rfl (Bool.eq_false_iff.2 hc13) (by decide) ?_
        refine a_pick (b := false) (v := vB _) ?_ (Bool.eq_false_iff.2 hc13)
        refine a_move (v := vB _) ?_
        refine RA.nil nofun ?_
        refine AG.ret ?_
        obtain rfl := Option.some.inj H
        exact RetP.mk id ⟨rfl, trivial⟩ trivial rfl
      ·rw [if_neg hc10] at H
       cases H
     ·rw [if_neg hc9] at H
      cases H
    ·rw [if_neg hc8] at H
     cases H
def spec_l09Box.f (a0_0 : Int) (a0_1 : Int) (a0_2 : Int) (a0_3 : Int) (a1 : Int) (a2 : Int) : Option (Bool) := (spec_l00In.f a0_0 0 a1).bind fun t1 => (if t1 = true then ((spec_l00In.f a0_1 0 a2).bind fun t4 => (if t4 = true then ((spec_l00In.f a0_2 1 (wrap64 (a1 - a0_0))).bind fun t7 => (if t7 = true then ((spec_l00In.f a0_3 1 (wrap64 (a2 - a0_1))).bind fun t10 => (some t10)) else (some false))) else (some false))) else (some false))
set_option maxRecDepth 100000 in
theorem spec_l09Box.ok {a0_0 : Int} {a0_1 : Int} {a0_2 : Int} {a0_3 : Int} {a1 : Int} {a2 : Int} {r : Bool} (H : spec_l09Box.f a0_0 a0_1 a0_2 a0_3 a1 a2 = some r) : OkF Tryz.prog 157 [.c (.d (.ro [.v (.int .i64 a0_0), .v (.int .i64 a0_1), .v (.int .i64 a0_2), .v (.int .i64 a0_3)])), vI a1, vI a2] [] (.c (.d (.v (.bool r)))) [] := by
 unfold spec_l09Box.f at H
 refine OkF.of (N := 47) (rs := [6]) (avs := [.c (.d (.v (.bool r)))]) Tryz.func157 rfl rfl (fun _ _ => results_tmp rfl _ _ _) (by decide) rfl rfl rfl rfl (fun w0 S => ?_)
 refine AG.seq ?_
 refine AG.region HM ?_
 refine a_move (v := vB _) ?_
 refine RA.nil nofun ?_
 refine AG.seq ?_
 refine AG.region HM ?_
 refine a_move (v := vO [_, _, _, _]) ?_
 refine a_nil (v := vO [_, _, _, _]) ?_
 refine a_faR (cells' := [_, _, _, _]) ?_ D177_0
 refine a_ldR (v := vI _) ?_ T2
 refine a_move (v := vI _) ?_
 obtain ⟨t1, e2, H⟩ := bindO H
 refine a_call (v := vB t1) (nk := []) (L := []) ?_ rfl (spec_l00In.ok e2) id (qd (qd (qd qn))) trivial trivial trivial rfl
 refine a_move (v := vB _) ?_
 by_cases hc3 : t1 = true
 ·rw [if_pos hc3] at H
  refine a_move (v := vO [_, _, _, _]) ?_ (hg := Gs.yes rfl rfl rfl hc3)
  refine a_nil (v := vO [_, _, _, _]) ?_ (hg := Gs.yes rfl rfl rfl hc3)
  refine a_faR (cells' := [_, _, _]) ?_ D177_1 (hg := Gs.yes rfl rfl rfl hc3)
  refine a_ldR (v := vI _) ?_ T2 (hg := Gs.yes rfl rfl rfl hc3)
  refine a_move (v := vI _) ?_ (hg := Gs.yes rfl rfl rfl hc3)
  obtain ⟨t4, e5, H⟩ := bindO H
  refine a_call (v := vB t4) (nk := []) (L := []) ?_ rfl (spec_l00In.ok e5) id (qd (qd (qd qn))) trivial trivial trivial rfl (hg := Gs.yes rfl rfl rfl hc3)
  refine a_pick (b := true) (v := vB _) ?_ hc3
  refine a_move (v := vB _) ?_
  by_cases hc6 : t4 = true
  ·rw [if_pos hc6] at H
   refine a_move (v := vO [_, _, _, _]) ?_ (hg := Gs.yes rfl rfl rfl hc6)
   refine a_nil (v := vO [_, _, _, _]) ?_ (hg := Gs.yes rfl rfl rfl hc6)
   refine a_faR (cells' := [_, _]) ?_ D177_2 (hg := Gs.yes rfl rfl rfl hc6)
   refine a_ldR (v := vI _) ?_ T2 (hg := Gs.yes rfl rfl rfl hc6)
   refine a_move (v := vI _) ?_ (hg := Gs.yes rfl rfl rfl hc6)
   refine a_move (v := vO [_, _, _, _]) ?_ (hg := Gs.yes rfl rfl rfl hc6)
   refine a_nil (v := vO [_, _, _, _]) ?_ (hg := Gs.yes rfl rfl rfl hc6)
   refine a_faR (cells' := [_, _, _, _]) ?_ D177_0 (hg := Gs.yes rfl rfl rfl hc6)
   refine a_ldR (v := vI _) ?_ T2 (hg := Gs.yes rfl rfl rfl hc6)
   refine a_int (u := .int .i64 (wrap64 (a1 - a0_0))) ?_ (hg := Gs.yes rfl rfl rfl hc6)
   obtain ⟨t7, e8, H⟩ := bindO H
   refine a_call (v := vB t7) (nk := []) (L := []) ?_ rfl (spec_l00In.ok e8) id (qd (qd (qd qn))) trivial trivial trivial rfl (hg := Gs.yes rfl rfl rfl hc6)
   refine a_pick (b := true) (v := vB _) ?_ hc6
   refine a_move (v := vB _) ?_
   by_cases hc9 : t7 = true
   ·rw [if_pos hc9] at H
    refine a_move (v := vO [_, _, _, _]) ?_ (hg := Gs.yes rfl rfl rfl hc9)
    refine a_nil (v := vO [_, _, _, _]) ?_ (hg := Gs.yes rfl rfl rfl hc9)
    refine a_faR (cells' := [_]) ?_ D177_3 (hg := Gs.yes rfl rfl rfl hc9)
    refine a_ldR (v := vI _) ?_ T2 (hg := Gs.yes rfl rfl rfl hc9)
    refine a_move (v := vI _) ?_ (hg := Gs.yes rfl rfl rfl hc9)
    refine a_move (v := vO [_, _, _, _]) ?_ (hg := Gs.yes rfl rfl rfl hc9)
    refine a_nil (v := vO [_, _, _, _]) ?_ (hg := Gs.yes rfl rfl rfl hc9)
    refine a_faR (cells' := [_, _, _]) ?_ D177_1 (hg := Gs.yes rfl rfl rfl hc9)
    refine a_ldR (v := vI _) ?_ T2 (hg := Gs.yes rfl rfl rfl hc9)
    refine a_int (u := .int .i64 (wrap64 (a2 - a0_1))) ?_ (hg := Gs.yes rfl rfl rfl hc9)
    obtain ⟨t10, e11, H⟩ := bindO H
    refine a_call (v := vB t10) (nk := []) (L := []) ?_ rfl (spec_l00In.ok e11) id (qd (qd (qd qn))) trivial trivial trivial rfl (hg := Gs.yes rfl rfl rfl hc9)
    refine a_pick (b := true) (v := vB _) ?_ hc9
    refine a_move (v := vB _) ?_
    refine RA.nil (fun _ => by kernel_rfl) ?_
    refine AG.ret ?_
    obtain rfl := Option.some.inj H
    exact RetP.mk id ⟨rfl, trivial⟩ trivial rfl
   ·rw [if_neg hc9] at H
    refine RA.skip rfl rfl rfl rfl rfl (Bool.eq_false_iff.2 hc9) (by decide) ?_
    refine RA.skip rfl rfl rfl rfl rfl (Bool.eq_false_iff.2 hc9) (by decide) ?_
    refine RA.skip rfl rfl rfl rfl rfl (Bool.eq_false_iff.2 hc9) (by decide) ?_
    refine RA.skip rfl rfl rfl rfl rfl (Bool.eq_false_iff.2 hc9) (by decide) ?_
    refine RA.skip rfl rfl rfl rfl rfl (Bool.eq_false_iff.2 hc9) (by decide) ?_
    refine RA.skip rfl rfl rfl rfl rfl (Bool.eq_false_iff.2 hc9) (by decide) ?_
    refine RA.skip rfl rfl rfl rfl rfl (Bool.eq_false_iff.2 hc9) (by decide) ?_
    refine RA.skip rfl rfl rfl rfl rfl (Bool.eq_false_iff.2 hc9) (by decide) ?_
    refine RA.skip rfl rfl rfl rfl rfl (Bool.eq_false_iff.2 hc9) (by decide) ?_
    refine RA.skip rfl rfl rfl rfl rfl (Bool.eq_false_iff.2 hc9) (by decide) ?_
    refine RA.skip rfl rfl rfl rfl rfl (Bool.eq_false_iff.2 hc9) (by decide) ?_
    refine a_pick (b := false) (v := vB _) ?_ (Bool.eq_false_iff.2 hc9)
    refine a_move (v := vB _) ?_
    refine RA.nil (fun _ => by kernel_rfl) ?_
    refine AG.ret ?_
    obtain rfl := Option.some.inj H
    exact RetP.mk id ⟨rfl, trivial⟩ trivial rfl
  ·rw [if_neg hc6] at H
   refine RA.skip rfl rfl rfl rfl rfl (Bool.eq_false_iff.2 hc6) (by decide) ?_
   refine RA.skip rfl rfl rfl rfl rfl (Bool.eq_false_iff.2 hc6) (by decide) ?_
   refine RA.skip rfl rfl rfl rfl rfl (Bool.eq_false_iff.2 hc6) (by decide) ?_
   refine RA.skip rfl rfl rfl rfl rfl (Bool.eq_false_iff.2 hc6) (by decide) ?_
   refine RA.skip rfl rfl rfl rfl rfl (Bool.eq_false_iff.2 hc6) (by decide) ?_
   refine RA.skip rfl rfl rfl rfl rfl (Bool.eq_false_iff.2 hc6) (by decide) ?_
   refine RA.skip rfl rfl rfl rfl rfl (Bool.eq_false_iff.2 hc6) (by decide) ?_
   refine RA.skip rfl rfl rfl rfl rfl (Bool.eq_false_iff.2 hc6) (by decide) ?_
   refine RA.skip rfl rfl rfl rfl rfl (Bool.eq_false_iff.2 hc6) (by decide) ?_
   refine RA.skip rfl rfl rfl rfl rfl (Bool.eq_false_iff.2 hc6) (by decide) ?_
   refine RA.skip rfl rfl rfl rfl rfl (Bool.eq_false_iff.2 hc6) (by decide) ?_
   refine a_pick (b := false) (v := vB _) ?_ (Bool.eq_false_iff.2 hc6)
   refine a_move (v := vB _) ?_
   refine RA.skip rfl rfl rfl rfl rfl rfl (by decide) ?_
   refine RA.skip rfl rfl rfl rfl rfl rfl (by decide) ?_
   refine RA.skip rfl rfl rfl rfl rfl rfl (by decide) ?_
   refine RA.skip rfl rfl rfl rfl rfl rfl (by decide) ?_
   refine RA.skip rfl rfl rfl rfl rfl rfl (by decide) ?_
   refine RA.skip rfl rfl rfl rfl rfl rfl (by decide) ?_
   refine RA.skip rfl rfl rfl rfl rfl rfl (by decide) ?_
   refine RA.skip rfl rfl rfl rfl rfl rfl (by decide) ?_
   refine RA.skip rfl rfl rfl rfl rfl rfl (by decide) ?_
   refine RA.skip rfl rfl rfl rfl rfl rfl (by decide) ?_
   refine RA.skip rfl rfl rfl rfl rfl rfl (by decide) ?_
   refine a_pick (b := false) (v := vB _) ?_ rfl
   refine a_move (v := vB _) ?_
   refine RA.nil (fun _ => by kernel_rfl) ?_
   refine AG.ret ?_
   obtain rfl := Option.some.inj H
   exact RetP.mk id ⟨rfl, trivial⟩ trivial rfl
 ·rw [if_neg hc3] at H
  refine RA.skip rfl rfl rfl rfl rfl (Bool.eq_false_iff.2 hc3) (by decide) ?_
  refine RA.skip rfl rfl rfl rfl rfl (Bool.eq_false_iff.2 hc3) (by decide) ?_
  refine RA.skip rfl rfl rfl rfl rfl (Bool.eq_false_iff.2 hc3) (by decide) ?_
  refine RA.skip rfl rfl rfl rfl rfl (Bool.eq_false_iff.2 hc3) (by decide) ?_
  refine RA.skip rfl rfl rfl rfl rfl (Bool.eq_false_iff.2 hc3) (by decide) ?_
  refine RA.skip rfl rfl rfl rfl rfl (Bool.eq_false_iff.2 hc3) (by decide) ?_
  refine a_pick (b := false) (v := vB _) ?_ (Bool.eq_false_iff.2 hc3)
  refine a_move (v := vB _) ?_
  refine RA.skip rfl rfl rfl rfl rfl rfl (by decide) ?_
  refine RA.skip rfl rfl rfl rfl rfl rfl (by decide) ?_
  refine RA.skip rfl rfl rfl rfl rfl rfl (by decide) ?_
  refine RA.skip rfl rfl rfl rfl rfl rfl (by decide) ?_
  refine RA.skip rfl rfl rfl rfl rfl rfl (by decide) ?_
  refine RA.skip rfl rfl rfl rfl rfl rfl (by decide) ?_
  refine RA.skip rfl rfl rfl rfl rfl rfl (by decide) ?_
  refine RA.skip rfl rfl rfl rfl rfl rfl (by decide) ?_
  refine RA.skip rfl rfl rfl rfl rfl rfl (by decide) ?_
  refine RA.skip rfl rfl rfl rfl rfl rfl (by decide) ?_
  refine RA.skip rfl rfl rfl rfl rfl rfl (by decide) ?_
  refine a_pick (b := false) (v := vB _) ?_ rfl
  refine a_move (v := vB _) ?_
  refine RA.skip rfl rfl rfl rfl rfl rfl (by decide) ?_
  refine RA.skip rfl rfl rfl rfl rfl rfl (by decide) ?_
  refine RA.skip rfl rfl rfl rfl rfl rfl (by decide) ?_
  refine RA.skip rfl rfl rfl rfl rfl rfl (by decide) ?_
  refine RA.skip rfl rfl rfl rfl rfl rfl (by decide) ?_
  refine RA.skip rfl rfl rfl rfl rfl rfl (by decide) ?_
  refine RA.skip rfl rfl rfl rfl rfl rfl (by decide) ?_
  refine RA.skip rfl rfl rfl rfl rfl rfl (by decide) ?_
  refine RA.skip rfl rfl rfl rfl rfl rfl (by decide) ?_
  refine RA.skip rfl rfl rfl rfl rfl rfl (by decide) ?_
  refine RA.skip rfl rfl rfl rfl rfl rfl (by decide) ?_
  refine a_pick (b := false) (v := vB _) ?_ rfl
  refine a_move (v := vB _) ?_
  refine RA.nil (fun _ => by kernel_rfl) ?_
  refine AG.ret ?_
  obtain rfl := Option.some.inj H
  exact RetP.mk id ⟨rfl, trivial⟩ trivial rfl
mutual
def spec_l09One.j0 : Nat → Int → Int → List S176 → Bool → Option (Bool)
 | 0, _, _, _, _ => none
 | k + 1, x0_6, x0_7, x0_8, x32 => if x32 = true then (some false) else ((spec_l00In.f x0_6 10 20000).bind fun t13 => (if t13 = true then ((spec_l00In.f x0_7 10 20000).bind fun t16 => (if t16 = true then (spec_l09One.j1 k x0_6 x0_7 x0_8 (decide ((x0_8.length : Int) > 6))) else (spec_l09One.j1 k x0_6 x0_7 x0_8 true))) else (spec_l09One.j1 k x0_6 x0_7 x0_8 true)))
def spec_l09One.j1 : Nat → Int → Int → List S176 → Bool → Option (Bool)
 | 0, _, _, _, _ => none
 | k + 1, x0_6, x0_7, x0_8, x54 => if x54 = true then (some false) else (spec_l09One.l0 k x0_6 x0_7 x0_8 0)
def spec_l09One.l0 : Nat → Int → Int → List S176 → Int → Option (Bool)
 | 0, _, _, _, _ => none
 | k + 1, x0_6, x0_7, x0_8, x3 => if x3 < (x0_8.length : Int) then (if 0 ≤ x3 then ((spec_l09Box.f ((rd176 x0_8 x3).f0) ((rd176 x0_8 x3).f1) ((rd176 x0_8 x3).f2) ((rd176 x0_8 x3).f3) x0_6 x0_7).bind fun t22 => (if t22 = true then (spec_l09One.l0 k x0_6 x0_7 x0_8 (wrap64 (x3 + 1))) else (some false))) else (none)) else (some true)
end
def spec_l09One.f (k : Nat) (a0_0 : ByteArray) (a0_1 : ByteArray) (a0_2 : Int) (a0_3 : ByteArray) (a0_4 : Int) (a0_5 : Int) (a0_6 : Int) (a0_7 : Int) (l0_8 : List S176) : Option (Bool) := (spec_l01Name.f k a0_0).bind fun t1 => (if t1 = true then ((spec_l01Name.f k a0_1).bind fun t4 => (if t4 = true then ((spec_l00In.f a0_2 0 999).bind fun t7 => (if t7 = true then ((spec_l07Ok.f k a0_3 a0_4 a0_5).bind fun t10 => (spec_l09One.j0 k a0_6 a0_7 l0_8 (!t10))) else (spec_l09One.j0 k a0_6 a0_7 l0_8 true))) else (spec_l09One.j0 k a0_6 a0_7 l0_8 true))) else (spec_l09One.j0 k a0_6 a0_7 l0_8 true))
set_option maxRecDepth 100000 in
theorem spec_l09One.ok {k : Nat} {a0_0 : ByteArray} {a0_1 : ByteArray} {a0_2 : Int} {a0_3 : ByteArray} {a0_4 : Int} {a0_5 : Int} {a0_6 : Int} {a0_7 : Int} {l0_8 : List S176} {r : Bool} (H : spec_l09One.f k a0_0 a0_1 a0_2 a0_3 a0_4 a0_5 a0_6 a0_7 l0_8 = some r) : OkF Tryz.prog 104 [.c (.d (.ro [.v (.string a0_0), .v (.string a0_1), .v (.int .i64 a0_2), .v (.string a0_3), .v (.int .i64 a0_4), .v (.int .i64 a0_5), .v (.int .i64 a0_6), .v (.int .i64 a0_7), .row 177 (l0_8.map c176)]))] [] (.c (.d (.v (.bool r)))) [] := by
 unfold spec_l09One.f at H
 refine OkF.of (N := 80) (rs := [2]) (avs := [.c (.d (.v (.bool r)))]) Tryz.func104 rfl rfl (fun _ _ => results_tmp rfl _ _ _) (by decide) rfl rfl rfl rfl (fun w0 S => ?_)
 refine AG.seq ?_
 refine AG.region HM ?_
 refine a_move (v := vB _) ?_
 refine RA.nil nofun ?_
 refine AG.seq ?_
 refine AG.seq ?_
 refine AG.joinR (fun s => ∃ q, q ≤ k ∧ ∃ (x0_0 : ByteArray) (x0_1 : ByteArray) (x0_2 : Int) (x0_3 : ByteArray) (x0_4 : Int) (x0_5 : Int) (x0_6 : Int) (x0_7 : Int) (x0_8 : List S176) (x32 : Bool), spec_l09One.j0 q x0_6 x0_7 x0_8 x32 = some r ∧ s = St.of [(0, .c (.d (.ro [.v (.string x0_0), .v (.string x0_1), .v (.int .i64 x0_2), .v (.string x0_3), .v (.int .i64 x0_4), .v (.int .i64 x0_5), .v (.int .i64 x0_6), .v (.int .i64 x0_7), .row 177 (x0_8.map c176)]))), (32, vB x32)] []) ?_ ?_
 ·skip
  refine AG.region HM ?_
  refine a_move (v := vO [_, _, _, _, _, _, _, _, _]) ?_
  refine a_nil (v := vO [_, _, _, _, _, _, _, _, _]) ?_
  refine a_faR (cells' := [_, _, _, _, _, _, _, _, _]) ?_ D95_0
  refine a_ldR (v := vS _) ?_ T9
  obtain ⟨t1, e2, H⟩ := bindO H
  refine a_call (v := vB t1) (nk := []) (L := []) ?_ rfl (spec_l01Name.ok e2) id (qd qn) trivial trivial trivial rfl
  refine a_un (u := .bool (!t1)) ?_
  refine a_move (v := vB _) ?_
  by_cases hc3 : t1 = true
  ·rw [if_pos hc3] at H
   refine a_move (v := vO [_, _, _, _, _, _, _, _, _]) ?_ (hg := Gs.yes rfl rfl rfl (congrArg Bool.not hc3))
   refine a_nil (v := vO [_, _, _, _, _, _, _, _, _]) ?_ (hg := Gs.yes rfl rfl rfl (congrArg Bool.not hc3))
   refine a_faR (cells' := [_, _, _, _, _, _, _, _]) ?_ D95_1 (hg := Gs.yes rfl rfl rfl (congrArg Bool.not hc3))
   refine a_ldR (v := vS _) ?_ T9 (hg := Gs.yes rfl rfl rfl (congrArg Bool.not hc3))
   obtain ⟨t4, e5, H⟩ := bindO H
   refine a_call (v := vB t4) (nk := []) (L := []) ?_ rfl (spec_l01Name.ok e5) id (qd qn) trivial trivial trivial rfl (hg := Gs.yes rfl rfl rfl (congrArg Bool.not hc3))
   refine a_un (u := .bool (!t4)) ?_ (hg := Gs.yes rfl rfl rfl (congrArg Bool.not hc3))
   refine a_pick (b := false) (v := vB _) ?_ (congrArg Bool.not hc3)
   refine a_move (v := vB _) ?_
   by_cases hc6 : t4 = true
   ·rw [if_pos hc6] at H
    refine a_move (v := vO [_, _, _, _, _, _, _, _, _]) ?_ (hg := Gs.yes rfl rfl rfl (congrArg Bool.not hc6))
    refine a_nil (v := vO [_, _, _, _, _, _, _, _, _]) ?_ (hg := Gs.yes rfl rfl rfl (congrArg Bool.not hc6))
    refine a_faR (cells' := [_, _, _, _, _, _, _]) ?_ D95_2 (hg := Gs.yes rfl rfl rfl (congrArg Bool.not hc6))
    refine a_ldR (v := vI _) ?_ T2 (hg := Gs.yes rfl rfl rfl (congrArg Bool.not hc6))
    obtain ⟨t7, e8, H⟩ := bindO H
    refine a_call (v := vB t7) (nk := []) (L := []) ?_ rfl (spec_l00In.ok e8) id (qd (qd (qd qn))) trivial trivial trivial rfl (hg := Gs.yes rfl rfl rfl (congrArg Bool.not hc6))
    refine a_un (u := .bool (!t7)) ?_ (hg := Gs.yes rfl rfl rfl (congrArg Bool.not hc6))
    refine a_pick (b := false) (v := vB _) ?_ (congrArg Bool.not hc6)
    refine a_move (v := vB _) ?_
    by_cases hc9 : t7 = true
    ·rw [if_pos hc9] at H
     refine a_move (v := vO [_, _, _, _, _, _, _, _, _]) ?_ (hg := Gs.yes rfl rfl rfl (congrArg Bool.not hc9))
     refine a_nil (v := vO [_, _, _, _, _, _, _, _, _]) ?_ (hg := Gs.yes rfl rfl rfl (congrArg Bool.not hc9))
     refine a_faR (cells' := [_, _, _, _, _, _]) ?_ D95_3 (hg := Gs.yes rfl rfl rfl (congrArg Bool.not hc9))
     obtain ⟨t10, e11, H⟩ := bindO H
     refine a_call (v := vB t10) (nk := []) (L := []) ?_ rfl (spec_l07Ok.ok e11) id (qc (rT [.v (.string a0_3), .v (.int .i64 a0_4), .v (.int .i64 a0_5)] [.v (.int .i64 a0_6), .v (.int .i64 a0_7), .row 177 (l0_8.map c176)] rQ) qn) trivial trivial trivial rfl (hg := Gs.yes rfl rfl rfl (congrArg Bool.not hc9))
     refine a_un (u := .bool (!t10)) ?_ (hg := Gs.yes rfl rfl rfl (congrArg Bool.not hc9))
     refine a_pick (b := false) (v := vB _) ?_ (congrArg Bool.not hc9)
     refine RA.nil nofun ?_
     exact CanR.mk id ⟨_, (by omega), _, _, _, _, _, _, _, _, _, _, H, rfl⟩ ⟨rfl, rfl, trivial⟩ trivial rfl
    ·rw [if_neg hc9] at H
     refine RA.skip rfl rfl rfl rfl rfl (congrArg Bool.not (Bool.eq_false_iff.2 hc9)) (by decide) ?_
     refine RA.skip rfl rfl rfl rfl rfl (congrArg Bool.not (Bool.eq_false_iff.2 hc9)) (by decide) ?_
     refine RA.skip rfl rfl rfl rfl rfl (congrArg Bool.not (Bool.eq_false_iff.2 hc9)) (by decide) ?_
     refine RA.skip rfl rfl rfl rfl rfl (congrArg Bool.not (Bool.eq_false_iff.2 hc9)) (by decide) ?_
     refine RA.skip rfl rfl rfl rfl rfl (congrArg Bool.not (Bool.eq_false_iff.2 hc9)) (by decide) ?_
     refine a_pick (b := true) (v := vB _) ?_ (congrArg Bool.not (Bool.eq_false_iff.2 hc9))
     refine RA.nil nofun ?_
     exact CanR.mk id ⟨_, (by omega), _, _, _, _, _, _, _, _, _, _, H, rfl⟩ ⟨rfl, rfl, trivial⟩ trivial rfl
   ·rw [if_neg hc6] at H
    refine RA.skip rfl rfl rfl rfl rfl (congrArg Bool.not (Bool.eq_false_iff.2 hc6)) (by decide) ?_
    refine RA.skip rfl rfl rfl rfl rfl (congrArg Bool.not (Bool.eq_false_iff.2 hc6)) (by decide) ?_
    refine RA.skip rfl rfl rfl rfl rfl (congrArg Bool.not (Bool.eq_false_iff.2 hc6)) (by decide) ?_
    refine RA.skip rfl rfl rfl rfl rfl (congrArg Bool.not (Bool.eq_false_iff.2 hc6)) (by decide) ?_
    refine RA.skip rfl rfl rfl rfl rfl (congrArg Bool.not (Bool.eq_false_iff.2 hc6)) (by decide) ?_
    refine RA.skip rfl rfl rfl rfl rfl (congrArg Bool.not (Bool.eq_false_iff.2 hc6)) (by decide) ?_
    refine a_pick (b := true) (v := vB _) ?_ (congrArg Bool.not (Bool.eq_false_iff.2 hc6))
    refine a_move (v := vB _) ?_
    refine RA.skip rfl rfl rfl rfl rfl rfl (by decide) ?_
    refine RA.skip rfl rfl rfl rfl rfl rfl (by decide) ?_
    refine RA.skip rfl rfl rfl rfl rfl rfl (by decide) ?_
    refine RA.skip rfl rfl rfl rfl rfl rfl (by decide) ?_
    refine RA.skip rfl rfl rfl rfl rfl rfl (by decide) ?_
    refine a_pick (b := true) (v := vB _) ?_ rfl
    refine RA.nil nofun ?_
    exact CanR.mk id ⟨_, (by omega), _, _, _, _, _, _, _, _, _, _, H, rfl⟩ ⟨rfl, rfl, trivial⟩ trivial rfl
  ·rw [if_neg hc3] at H
   refine RA.skip rfl rfl rfl rfl rfl (congrArg Bool.not (Bool.eq_false_iff.2 hc3)) (by decide) ?_
   refine RA.skip rfl rfl rfl rfl rfl (congrArg Bool.not (Bool.eq_false_iff.2 hc3)) (by decide) ?_
   refine RA.skip rfl rfl rfl rfl rfl (congrArg Bool.not (Bool.eq_false_iff.2 hc3)) (by decide) ?_
   refine RA.skip rfl rfl rfl rfl rfl (congrArg Bool.not (Bool.eq_false_iff.2 hc3)) (by decide) ?_
   refine RA.skip rfl rfl rfl rfl rfl (congrArg Bool.not (Bool.eq_false_iff.2 hc3)) (by decide) ?_
   refine RA.skip rfl rfl rfl rfl rfl (congrArg Bool.not (Bool.eq_false_iff.2 hc3)) (by decide) ?_
   refine a_pick (b := true) (v := vB _) ?_ (congrArg Bool.not (Bool.eq_false_iff.2 hc3))
   refine a_move (v := vB _) ?_
   refine RA.skip rfl rfl rfl rfl rfl rfl (by decide) ?_
   refine RA.skip rfl rfl rfl rfl rfl rfl (by decide) ?_
   refine RA.skip rfl rfl rfl rfl rfl rfl (by decide) ?_
   refine RA.skip rfl rfl rfl rfl rfl rfl (by decide) ?_
   refine RA.skip rfl rfl rfl rfl rfl rfl (by decide) ?_
   refine RA.skip rfl rfl rfl rfl rfl rfl (by decide) ?_
   refine a_pick (b := true) (v := vB _) ?_ rfl
   refine a_move (v := vB _) ?_
   refine RA.skip rfl rfl rfl rfl rfl rfl (by decide) ?_
   refine RA.skip rfl rfl rfl rfl rfl rfl (by decide) ?_
   refine RA.skip rfl rfl rfl rfl rfl rfl (by decide) ?_
   refine RA.skip rfl rfl rfl rfl rfl rfl (by decide) ?_
   refine RA.skip rfl rfl rfl rfl rfl rfl (by decide) ?_
   refine a_pick (b := true) (v := vB _) ?_ rfl
   refine RA.nil nofun ?_
   exact CanR.mk id ⟨_, (by omega), _, _, _, _, _, _, _, _, _, _, H, rfl⟩ ⟨rfl, rfl, trivial⟩ trivial rfl
 ·clear H
  rintro _ ⟨k, hj0, x0_0, x0_1, x0_2, x0_3, x0_4, x0_5, x0_6, x0_7, x0_8, x32, H, rfl⟩
  cases k with
  | zero => cases H
  | succ k =>
   rw [spec_l09One.j0] at H
   by_cases hc12 : x32 = true
   ·rw [if_pos hc12] at H
    refine AG.yes rfl hc12 ?_
    refine AG.seq ?_
    refine AG.region HM ?_
    refine a_move (v := vB _) ?_
    refine RA.nil nofun ?_
    refine AG.ret ?_
    obtain rfl := Option.some.inj H
    exact RetP.mk id ⟨rfl, trivial⟩ trivial rfl
   ·rw [if_neg hc12] at H
    refine AG.no rfl (Bool.eq_false_iff.2 hc12) ?_
    refine AG.skip ?_
    refine AG.seq ?_
    refine AG.seq ?_
    refine AG.joinR (fun s => ∃ q, q ≤ k ∧ ∃ (x0_0 : ByteArray) (x0_1 : ByteArray) (x0_2 : Int) (x0_3 : ByteArray) (x0_4 : Int) (x0_5 : Int) (x0_6 : Int) (x0_7 : Int) (x0_8 : List S176) (x54 : Bool), spec_l09One.j1 q x0_6 x0_7 x0_8 x54 = some r ∧ s = St.of [(0, .c (.d (.ro [.v (.string x0_0), .v (.string x0_1), .v (.int .i64 x0_2), .v (.string x0_3), .v (.int .i64 x0_4), .v (.int .i64 x0_5), .v (.int .i64 x0_6), .v (.int .i64 x0_7), .row 177 (x0_8.map c176)]))), (54, vB x54)] []) ?_ ?_
    ·skip
     refine AG.region HM ?_
     refine a_move (v := vO [_, _, _, _, _, _, _, _, _]) ?_
     refine a_nil (v := vO [_, _, _, _, _, _, _, _, _]) ?_
     refine a_faR (cells' := [_, _, _]) ?_ D95_4
     refine a_ldR (v := vI _) ?_ T2
     obtain ⟨t13, e14, H⟩ := bindO H
     refine a_call (v := vB t13) (nk := []) (L := []) ?_ rfl (spec_l00In.ok e14) id (qd (qd (qd qn))) trivial trivial trivial rfl
     refine a_un (u := .bool (!t13)) ?_
     refine a_move (v := vB _) ?_
     by_cases hc15 : t13 = true
     ·rw [if_pos hc15] at H
      refine a_move (v := vO [_, _, _, _, _, _, _, _, _]) ?_ (hg := Gs.yes rfl rfl rfl (congrArg Bool.not hc15))
      refine a_nil (v := vO [_, _, _, _, _, _, _, _, _]) ?_ (hg := Gs.yes rfl rfl rfl (congrArg Bool.not hc15))
      refine a_faR (cells' := [_, _]) ?_ D95_5 (hg := Gs.yes rfl rfl rfl (congrArg Bool.not hc15))
      refine a_ldR (v := vI _) ?_ T2 (hg := Gs.yes rfl rfl rfl (congrArg Bool.not hc15))
      obtain ⟨t16, e17, H⟩ := bindO H
      refine a_call (v := vB t16) (nk := []) (L := []) ?_ rfl (spec_l00In.ok e17) id (qd (qd (qd qn))) trivial trivial trivial rfl (hg := Gs.yes rfl rfl rfl (congrArg Bool.not hc15))
      refine a_un (u := .bool (!t16)) ?_ (hg := Gs.yes rfl rfl rfl (congrArg Bool.not hc15))
      refine a_pick (b := false) (v := vB _) ?_ (congrArg Bool.not hc15)
      refine a_move (v := vB _) ?_
      by_cases hc18 : t16 = true
      ·rw [if_pos hc18] at H
       refine a_move (v := vO [_, _, _, _, _, _, _, _, _]) ?_ (hg := Gs.yes rfl rfl rfl (congrArg Bool.not hc18))
       refine a_nil (v := vO [_, _, _, _, _, _, _, _, _]) ?_ (hg := Gs.yes rfl rfl rfl (congrArg Bool.not hc18))
       refine a_faR (cells' := [_]) ?_ D95_6 (hg := Gs.yes rfl rfl rfl (congrArg Bool.not hc18))
       refine a_ldR (v := vR _ _) ?_ T93 (hg := Gs.yes rfl rfl rfl (congrArg Bool.not hc18))
       refine a_lenR ?_ Tryz.underlying93 (hg := Gs.yes rfl rfl rfl (congrArg Bool.not hc18))
       refine a_int (u := .bool (decide ((x0_8.length : Int) > 6))) ?_ (hg := Gs.yes rfl rfl rfl (congrArg Bool.not hc18))
       refine a_pick (b := false) (v := vB _) ?_ (congrArg Bool.not hc18)
       refine RA.nil nofun ?_
       exact CanR.mk id ⟨_, (by omega), _, _, _, _, _, _, _, _, _, _, H, rfl⟩ ⟨rfl, rfl, trivial⟩ trivial rfl
      ·rw [if_neg hc18] at H
       refine RA.skip rfl rfl rfl rfl rfl (congrArg Bool.not (Bool.eq_false_iff.2 hc18)) (by decide) ?_
       refine RA.skip rfl rfl rfl rfl rfl (congrArg Bool.not (Bool.eq_false_iff.2 hc18)) (by decide) ?_
       refine RA.skip rfl rfl rfl rfl rfl (congrArg Bool.not (Bool.eq_false_iff.2 hc18)) (by decide) ?_
       refine RA.skip rfl rfl rfl rfl rfl (congrArg Bool.not (Bool.eq_false_iff.2 hc18)) (by decide) ?_
       refine RA.skip rfl rfl rfl rfl rfl (congrArg Bool.not (Bool.eq_false_iff.2 hc18)) (by decide) ?_
       refine RA.skip rfl rfl rfl rfl rfl (congrArg Bool.not (Bool.eq_false_iff.2 hc18)) (by decide) ?_
       refine a_pick (b := true) (v := vB _) ?_ (congrArg Bool.not (Bool.eq_false_iff.2 hc18))
       refine RA.nil nofun ?_
       exact CanR.mk id ⟨_, (by omega), _, _, _, _, _, _, _, _, _, _, H, rfl⟩ ⟨rfl, rfl, trivial⟩ trivial rfl
     ·rw [if_neg hc15] at H
      refine RA.skip rfl rfl rfl rfl rfl (congrArg Bool.not (Bool.eq_false_iff.2 hc15)) (by decide) ?_
      refine RA.skip rfl rfl rfl rfl rfl (congrArg Bool.not (Bool.eq_false_iff.2 hc15)) (by decide) ?_
      refine RA.skip rfl rfl rfl rfl rfl (congrArg Bool.not (Bool.eq_false_iff.2 hc15)) (by decide) ?_
      refine RA.skip rfl rfl rfl rfl rfl (congrArg Bool.not (Bool.eq_false_iff.2 hc15)) (by decide) ?_
      refine RA.skip rfl rfl rfl rfl rfl (congrArg Bool.not (Bool.eq_false_iff.2 hc15)) (by decide) ?_
      refine RA.skip rfl rfl rfl rfl rfl (congrArg Bool.not (Bool.eq_false_iff.2 hc15)) (by decide) ?_
      refine a_pick (b := true) (v := vB _) ?_ (congrArg Bool.not (Bool.eq_false_iff.2 hc15))
      refine a_move (v := vB _) ?_
      refine RA.skip rfl rfl rfl rfl rfl rfl (by decide) ?_
      refine RA.skip rfl rfl rfl rfl rfl rfl (by decide) ?_
      refine RA.skip rfl rfl rfl rfl rfl rfl (by decide) ?_
      refine RA.skip rfl rfl rfl rfl rfl rfl (by decide) ?_
      refine RA.skip rfl rfl rfl rfl rfl rfl (by decide) ?_
      refine RA.skip rfl rfl rfl rfl rfl rfl (by decide) ?_
      refine a_pick (b := true) (v := vB _) ?_ rfl
      refine RA.nil nofun ?_
      exact CanR.mk id ⟨_, (by omega), _, _, _, _, _, _, _, _, _, _, H, rfl⟩ ⟨rfl, rfl, trivial⟩ trivial rfl
    ·clear H
     rintro _ ⟨k, hj1, x0_0, x0_1, x0_2, x0_3, x0_4, x0_5, x0_6, x0_7, x0_8, x54, H, rfl⟩
     cases k with
     | zero => cases H
     | succ k =>
      rw [spec_l09One.j1] at H
      by_cases hc19 : x54 = true
      ·rw [if_pos hc19] at H
       refine AG.yes rfl hc19 ?_
       refine AG.seq ?_
       refine AG.region HM ?_
       refine a_move (v := vB _) ?_
       refine RA.nil nofun ?_
       refine AG.ret ?_
       obtain rfl := Option.some.inj H
       exact RetP.mk id ⟨rfl, trivial⟩ trivial rfl
      ·rw [if_neg hc19] at H
       refine AG.no rfl (Bool.eq_false_iff.2 hc19) ?_
       refine AG.skip ?_
       refine AG.seq ?_
       refine AG.seq ?_
       refine AG.region HM ?_
       refine a_move (v := vI _) ?_
       refine RA.nil nofun ?_
       refine AG.block ?_
       refine AG.loop ?_
       obtain ⟨K0, hK0, gK0⟩ : ∃ K, k ≤ K ∧ K ≤ k := ⟨k, Nat.le_refl k, Nat.le_refl k⟩
       refine AGr.canon id (AGr.loopI (n := k) (fun k s => k ≤ K0 ∧ ∃ (x0_0 : ByteArray) (x0_1 : ByteArray) (x0_2 : Int) (x0_3 : ByteArray) (x0_4 : Int) (x0_5 : Int) (x0_6 : Int) (x0_7 : Int) (x0_8 : List S176) (x3 : Int), spec_l09One.l0 k x0_6 x0_7 x0_8 x3 = some r ∧ s = St.of [(0, .c (.d (.ro [.v (.string x0_0), .v (.string x0_1), .v (.int .i64 x0_2), .v (.string x0_3), .v (.int .i64 x0_4), .v (.int .i64 x0_5), .v (.int .i64 x0_6), .v (.int .i64 x0_7), .row 177 (x0_8.map c176)]))), (3, vI x3)] []) ⟨hK0, _, _, _, _, _, _, _, _, _, _, H, rfl⟩ ?_ ?_) ⟨rfl, rfl, trivial⟩ trivial rfl
       ·rintro _ ⟨_, _, _, _, _, _, _, _, _, _, _, H, _⟩
        cases H
       ·clear H hK0
        rintro k ih0 _ ⟨hK0, x0_0, x0_1, x0_2, x0_3, x0_4, x0_5, x0_6, x0_7, x0_8, x3, H, rfl⟩
        unfold spec_l09One.l0 at H
        refine AG.seq ?_
        refine AG.seq ?_
        refine AG.region HM ?_
        refine a_move (v := vI _) ?_
        refine a_move (v := vO [_, _, _, _, _, _, _, _, _]) ?_
        refine a_nil (v := vO [_, _, _, _, _, _, _, _, _]) ?_
        refine a_faR (cells' := [_]) ?_ D95_6
        refine a_ldR (v := vR _ _) ?_ T93
        refine a_lenR ?_ Tryz.underlying93
        refine a_int (u := .bool (decide (x3 < (x0_8.length : Int)))) ?_
        refine RA.nil nofun ?_
        by_cases hc20 : x3 < (x0_8.length : Int)
        ·rw [if_pos hc20] at H
         refine AG.yes rfl (decide_eq_true hc20) ?_
         refine AG.skip ?_
         refine AG.seq ?_
         refine AG.block ?_
         refine AG.seq ?_
         refine AG.region HM ?_
         refine a_move (v := vO [_, _, _, _, _, _, _, _, _]) ?_
         refine a_nil (v := vO [_, _, _, _, _, _, _, _, _]) ?_
         refine a_faR (cells' := [_]) ?_ D95_6
         refine a_ldR (v := vR _ _) ?_ T93
         refine a_move (v := vI _) ?_
         by_cases hc21 : 0 ≤ x3
         ·rw [if_pos hc21] at H
          refine a_ixR (el := c176 (rd176 x0_8 x3)) ?_ ⟨hc21, hc20⟩ T177 Tryz.underlying93 (hel := R176 hc21 hc20)
          refine a_move (v := vO [_, _, _, _, _, _, _, _, _]) ?_
          refine a_nil (v := vO [_, _, _, _, _, _, _, _, _]) ?_
          refine a_faR (cells' := [_, _, _]) ?_ D95_4
          refine a_ldR (v := vI _) ?_ T2
          refine a_move (v := vO [_, _, _, _, _, _, _, _, _]) ?_
          refine a_nil (v := vO [_, _, _, _, _, _, _, _, _]) ?_
          refine a_faR (cells' := [_, _]) ?_ D95_5
          refine a_ldR (v := vI _) ?_ T2
          obtain ⟨t22, e23, H⟩ := bindO H
          refine a_call (v := vB t22) (nk := []) (L := []) ?_ rfl (spec_l09Box.ok e23) id (qd (qd (qd qn))) trivial trivial trivial rfl
          refine a_un (u := .bool (!t22)) ?_
          refine RA.nil (fun _ => by kernel_rfl) ?_
          by_cases hc24 : t22 = true
          ·rw [if_pos hc24] at H
           refine AG.no rfl (congrArg Bool.not hc24) ?_
           refine AG.skip ?_
           refine AG.region HM ?_
           refine a_move (v := vI _) ?_
           refine a_int (u := .int .i64 (wrap64 (x3 + 1))) ?_
           refine a_move (v := vI _) ?_
           refine RA.nil nofun ?_
           exact AGr.canon id (ih0 _ (by omega) _ ⟨by omega, _, _, _, _, _, _, _, _, _, _, H, rfl⟩) ⟨rfl, rfl, trivial⟩ trivial rfl
          ·rw [if_neg hc24] at H
           refine AG.yes rfl (congrArg Bool.not (Bool.eq_false_iff.2 hc24)) ?_
           refine AG.seq ?_
           refine AG.region HM ?_
           refine a_move (v := vB _) ?_
           refine RA.nil nofun ?_
           refine AG.ret ?_
           obtain rfl := Option.some.inj H
           exact RetP.mk id ⟨rfl, trivial⟩ trivial rfl
         ·rw [if_neg hc21] at H
          cases H
        ·rw [if_neg hc20] at H
         refine AG.no rfl (decide_eq_false hc20) ?_
         refine AG.exit ?_
         refine AG.seq ?_
         refine AG.region HM ?_
         refine a_move (v := vB _) ?_
         refine RA.nil nofun ?_
         refine AG.ret ?_
         obtain rfl := Option.some.inj H
         exact RetP.mk id ⟨rfl, trivial⟩ trivial rfl
def spec_l09Ok.l0 : Nat → List S94 → Int → Option (Bool)
 | 0, _, _ => none
 | k + 1, x0, x3 => if x3 < (x0.length : Int) then (if 0 ≤ x3 then ((spec_l09One.f k ((rd94 x0 x3).f0) ((rd94 x0 x3).f1) ((rd94 x0 x3).f2) ((rd94 x0 x3).f3.f0) ((rd94 x0 x3).f3.f1) ((rd94 x0 x3).f3.f2) ((rd94 x0 x3).f4) ((rd94 x0 x3).f5) ((rd94 x0 x3).f6)).bind fun t3 => (if t3 = true then (if x3 > 0 then (if 0 ≤ (wrap64 (x3 - 1)) then (if (wrap64 (x3 - 1)) < (x0.length : Int) then (if (Op.bytesLess (((rd94 x0 (wrap64 (x3 - 1))).f0).toList) (((rd94 x0 x3).f0).toList)) = true then (spec_l09Ok.l0 k x0 (wrap64 (x3 + 1))) else (some false)) else (none)) else (none)) else (spec_l09Ok.l0 k x0 (wrap64 (x3 + 1)))) else (some false))) else (none)) else (some (decide ((x0.length : Int) ≤ 16)))
def spec_l09Ok.f (k : Nat) (l0 : List S94) : Option (Bool) := spec_l09Ok.l0 k l0 0
set_option maxRecDepth 100000 in
theorem spec_l09Ok.ok {k : Nat} {l0 : List S94} {r : Bool} (H : spec_l09Ok.f k l0 = some r) : OkF Tryz.prog 48 [vR 95 (l0.map c94)] [] (.c (.d (.v (.bool r)))) [] := by
 unfold spec_l09Ok.f at H
 refine OkF.of (N := 36) (rs := [2]) (avs := [.c (.d (.v (.bool r)))]) Tryz.func48 rfl rfl (fun _ _ => results_tmp rfl _ _ _) (by decide) rfl rfl rfl rfl (fun w0 S => ?_)
 refine AG.seq ?_
 refine AG.region HM ?_
 refine a_move (v := vB _) ?_
 refine RA.nil nofun ?_
 refine AG.seq ?_
 refine AG.seq ?_
 refine AG.region HM ?_
 refine a_move (v := vI _) ?_
 refine RA.nil nofun ?_
 refine AG.block ?_
 refine AG.loop ?_
 obtain ⟨K0, hK0, gK0⟩ : ∃ K, k ≤ K ∧ K ≤ k := ⟨k, Nat.le_refl k, Nat.le_refl k⟩
 refine AGr.canon id (AGr.loopI (n := k) (fun k s => k ≤ K0 ∧ ∃ (x0 : List S94) (x3 : Int), spec_l09Ok.l0 k x0 x3 = some r ∧ s = St.of [(0, vR 95 (x0.map c94)), (3, vI x3)] []) ⟨hK0, _, _, H, rfl⟩ ?_ ?_) ⟨rfl, rfl, trivial⟩ trivial rfl
 ·rintro _ ⟨_, _, _, H, _⟩
  cases H
 ·clear H hK0
  rintro k ih0 _ ⟨hK0, x0, x3, H, rfl⟩
  unfold spec_l09Ok.l0 at H
  refine AG.seq ?_
  refine AG.seq ?_
  refine AG.region HM ?_
  refine a_move (v := vI _) ?_
  refine a_move (v := vR _ _) ?_
  refine a_lenR ?_ Tryz.underlying37
  refine a_int (u := .bool (decide (x3 < (x0.length : Int)))) ?_
  refine RA.nil nofun ?_
  by_cases hc1 : x3 < (x0.length : Int)
  ·rw [if_pos hc1] at H
   refine AG.yes rfl (decide_eq_true hc1) ?_
   refine AG.skip ?_
   refine AG.seq ?_
   refine AG.block ?_
   refine AG.seq ?_
   refine AG.region HM ?_
   refine a_move (v := vR _ _) ?_
   refine a_move (v := vI _) ?_
   by_cases hc2 : 0 ≤ x3
   ·rw [if_pos hc2] at H
    refine a_ixR (el := c94 (rd94 x0 x3)) ?_ ⟨hc2, hc1⟩ T95 Tryz.underlying37 (hel := R94 hc2 hc1)
    obtain ⟨t3, e4, H⟩ := bindO H
    refine a_call (v := vB t3) (nk := []) (L := []) ?_ rfl (spec_l09One.ok e4) id (qd qn) trivial trivial trivial rfl
    refine a_un (u := .bool (!t3)) ?_
    refine a_move (v := vB _) ?_
    by_cases hc5 : t3 = true
    ·rw [if_pos hc5] at H
     refine a_move (v := vI _) ?_ (hg := Gs.yes rfl rfl rfl (congrArg Bool.not hc5))
     refine a_int (u := .bool (decide (x3 > 0))) ?_ (hg := Gs.yes rfl rfl rfl (congrArg Bool.not hc5))
     refine a_move (v := vB _) ?_ (hg := Gs.yes rfl rfl rfl (congrArg Bool.not hc5))
     by_cases hc6 : x3 > 0
     ·rw [if_pos hc6] at H
      refine a_move (v := vR _ _) ?_ (hg := Gs.yes rfl rfl rfl (decide_eq_true hc6))
      refine a_move (v := vI _) ?_ (hg := Gs.yes rfl rfl rfl (decide_eq_true hc6))
      refine a_int (u := .int .i64 (wrap64 (x3 - 1))) ?_ (hg := Gs.yes rfl rfl rfl (decide_eq_true hc6))
      by_cases hc7 : 0 ≤ (wrap64 (x3 - 1))
      ·rw [if_pos hc7] at H
       by_cases hc8 : (wrap64 (x3 - 1)) < (x0.length : Int)
       ·rw [if_pos hc8] at H
        refine a_ixR (el := c94 (rd94 x0 (wrap64 (x3 - 1)))) ?_ ⟨hc7, hc8⟩ T95 Tryz.underlying37 (hel := R94 hc7 hc8) (hg := Gs.yes rfl rfl rfl (decide_eq_true hc6))
        refine a_faR (cells' := [_, _, _, _, _, _, _, _, _]) ?_ D95_0 (hg := Gs.yes rfl rfl rfl (decide_eq_true hc6))
        refine a_ldR (v := vS _) ?_ T9 (hg := Gs.yes rfl rfl rfl (decide_eq_true hc6))
        refine a_move (v := vR _ _) ?_ (hg := Gs.yes rfl rfl rfl (decide_eq_true hc6))
        refine a_move (v := vI _) ?_ (hg := Gs.yes rfl rfl rfl (decide_eq_true hc6))
        refine a_ixR (el := c94 (rd94 x0 x3)) ?_ ⟨hc2, hc1⟩ T95 Tryz.underlying37 (hel := R94 hc2 hc1) (hg := Gs.yes rfl rfl rfl (decide_eq_true hc6))
        refine a_faR (cells' := [_, _, _, _, _, _, _, _, _]) ?_ D95_0 (hg := Gs.yes rfl rfl rfl (decide_eq_true hc6))
        refine a_ldR (v := vS _) ?_ T9 (hg := Gs.yes rfl rfl rfl (decide_eq_true hc6))
        refine a_bin (u := .bool (!(Op.bytesLess (((rd94 x0 (wrap64 (x3 - 1))).f0).toList) (((rd94 x0 x3).f0).toList)))) ?_ (hg := Gs.yes rfl rfl rfl (decide_eq_true hc6))
        refine a_pick (b := true) (v := vB _) ?_ (decide_eq_true hc6) (hg := Gs.yes rfl rfl rfl (congrArg Bool.not hc5))
        refine a_pick (b := false) (v := vB _) ?_ (congrArg Bool.not hc5)
        refine RA.nil (fun _ => by kernel_rfl) ?_
        by_cases hc9 : (Op.bytesLess (((rd94 x0 (wrap64 (x3 - 1))).f0).toList) (((rd94 x0 x3).f0).toList)) = true
        ·rw [if_pos hc9] at H
         refine AG.no rfl (by rw [show (Op.bytesLess (((rd94 x0 (wrap64 (x3 - 1))).f0).toList) (((rd94 x0 x3).f0).toList)) = true from hc9]; rfl) ?_
         refine AG.skip ?_
         refine AG.region HM ?_
         refine a_move (v := vI _) ?_
         refine a_int (u := .int .i64 (wrap64 (x3 + 1))) ?_
         refine a_move (v := vI _) ?_
         refine RA.nil nofun ?_
         exact AGr.canon id (ih0 _ (by omega) _ ⟨by omega, _, _, H, rfl⟩) ⟨rfl, rfl, trivial⟩ trivial rfl
        ·rw [if_neg hc9] at H
         refine AG.yes rfl (by rw [Bool.eq_false_iff.2 hc9]; rfl) ?_
         refine AG.seq ?_
         refine AG.region HM ?_
         refine a_move (v := vB _) ?_
         refine RA.nil nofun ?_
         refine AG.ret ?_
         obtain rfl := Option.some.inj H
         exact RetP.mk id ⟨rfl, trivial⟩ trivial rfl
       ·rw [if_neg hc8] at H
        cases H
      ·rw [if_neg hc7] at H
       cases H
     ·rw [if_neg hc6] at H
      refine RA.skip rfl rfl rfl rfl rfl (decide_eq_false hc6) (by decide) ?_
      refine RA.skip rfl rfl rfl rfl rfl (decide_eq_false hc6) (by decide) ?_
      refine RA.skip rfl rfl rfl rfl rfl (decide_eq_false hc6) (by decide) ?_
      refine RA.skip rfl rfl rfl rfl rfl (decide_eq_false hc6) (by decide) ?_
      refine RA.skip rfl rfl rfl rfl rfl (decide_eq_false hc6) (by decide) ?_
      refine RA.skip rfl rfl rfl rfl rfl (decide_eq_false hc6) (by decide) ?_
      refine RA.skip rfl rfl rfl rfl rfl (decide_eq_false hc6) (by decide) ?_
      refine RA.skip rfl rfl rfl rfl rfl (decide_eq_false hc6) (by decide) ?_
      refine RA.skip rfl rfl rfl rfl rfl (decide_eq_false hc6) (by decide) ?_
      refine RA.skip rfl rfl rfl rfl rfl (decide_eq_false hc6) (by decide) ?_
      refine RA.skip rfl rfl rfl rfl rfl (decide_eq_false hc6) (by decide) ?_
      refine RA.skip rfl rfl rfl rfl rfl (decide_eq_false hc6) (by decide) ?_
      refine a_pick (b := false) (v := vB _) ?_ (decide_eq_false hc6) (hg := Gs.yes rfl rfl rfl (congrArg Bool.not hc5))
      refine a_pick (b := false) (v := vB _) ?_ (congrArg Bool.not hc5)
      refine RA.nil (fun _ => by kernel_rfl) ?_
      refine AG.no rfl rfl ?_
      refine AG.skip ?_
      refine AG.region HM ?_
      refine a_move (v := vI _) ?_
      refine a_int (u := .int .i64 (wrap64 (x3 + 1))) ?_
      refine a_move (v := vI _) ?_
      refine RA.nil nofun ?_
      exact AGr.canon id (ih0 _ (by omega) _ ⟨by omega, _, _, H, rfl⟩) ⟨rfl, rfl, trivial⟩ trivial rfl
    ·rw [if_neg hc5] at H
     refine RA.skip rfl rfl rfl rfl rfl (congrArg Bool.not (Bool.eq_false_iff.2 hc5)) (by decide) ?_
     refine RA.skip rfl rfl rfl rfl rfl (congrArg Bool.not (Bool.eq_false_iff.2 hc5)) (by decide) ?_
     refine RA.skip rfl rfl rfl rfl rfl (congrArg Bool.not (Bool.eq_false_iff.2 hc5)) (by decide) ?_
     refine RA.skip0 rfl rfl rfl rfl rfl ?_
     refine RA.skip0 rfl rfl rfl rfl rfl ?_
     refine RA.skip0 rfl rfl rfl rfl rfl ?_
     refine RA.skip0 rfl rfl rfl rfl rfl ?_
     refine RA.skip0 rfl rfl rfl rfl rfl ?_
     refine RA.skip0 rfl rfl rfl rfl rfl ?_
     refine RA.skip0 rfl rfl rfl rfl rfl ?_
     refine RA.skip0 rfl rfl rfl rfl rfl ?_
     refine RA.skip0 rfl rfl rfl rfl rfl ?_
     refine RA.skip0 rfl rfl rfl rfl rfl ?_
     refine RA.skip0 rfl rfl rfl rfl rfl ?_
     refine RA.skip0 rfl rfl rfl rfl rfl ?_
     refine RA.skip rfl rfl rfl rfl rfl (congrArg Bool.not (Bool.eq_false_iff.2 hc5)) (by decide) ?_
     refine a_pick (b := true) (v := vB _) ?_ (congrArg Bool.not (Bool.eq_false_iff.2 hc5))
     refine RA.nil (fun _ => by kernel_rfl) ?_
     refine AG.yes rfl rfl ?_
     refine AG.seq ?_
     refine AG.region HM ?_
     refine a_move (v := vB _) ?_
     refine RA.nil nofun ?_
     refine AG.ret ?_
     obtain rfl := Option.some.inj H
     exact RetP.mk id ⟨rfl, trivial⟩ trivial rfl
   ·rw [if_neg hc2] at H
    cases H
  ·rw [if_neg hc1] at H
   refine AG.no rfl (decide_eq_false hc1) ?_
   refine AG.exit ?_
   refine AG.seq ?_
   refine AG.region HM ?_
   refine a_move (v := vR _ _) ?_
   refine a_lenR ?_ Tryz.underlying37
   refine a_int (u := .bool (decide ((x0.length : Int) ≤ 16))) ?_
   refine a_move (v := vB _) ?_
   refine RA.nil nofun ?_
   refine AG.ret ?_
   obtain rfl := Option.some.inj H
   exact RetP.mk id ⟨rfl, trivial⟩ trivial rfl
def spec_l05Polygon.f (k : Nat) (a0_0 : Int) (a0_1 : Int) (l0_2 : List S159) (l0_3 : List S146) (a1 : Int) : Option ((List S159)) := if 0 ≤ a1 then (if a1 < (l0_3.length : Int) then ((spec_l05Ring.f k a0_0 a0_1 l0_2 l0_3 ((rd146 l0_3 a1).f1)).bind fun bt3 => (some bt3.1)) else (none)) else (none)
set_option maxRecDepth 100000 in
theorem spec_l05Polygon.ok {k : Nat} {a0_0 : Int} {a0_1 : Int} {l0_2 : List S159} {l0_3 : List S146} {a1 : Int} {r : List S159} (H : spec_l05Polygon.f k a0_0 a0_1 l0_2 l0_3 a1 = some r) : OkF Tryz.prog 73 [.c (.d (.ro [.v (.int .i64 a0_0), .v (.int .i64 a0_1), .row 160 (l0_2.map c159), .row 152 (l0_3.map c146)])), vI a1] [] (.c (.own 100 r.length)) [(100, .row 160 (r.map c159))] := by
 unfold spec_l05Polygon.f at H
 refine OkF.of (N := 21) (rs := [4]) (avs := [.c (.own 100 r.length)]) Tryz.func73 rfl rfl (fun _ _ => results_tmp rfl _ _ _) (by decide) rfl rfl rfl rfl (fun w0 S => ?_)
 refine AG.seq ?_
 refine AG.region HM ?_
 refine a_nilO (e := 160) 200 ?_ T160
 refine RA.nil nofun ?_
 refine AG.seq ?_
 refine AG.region HM ?_
 refine a_move (v := vO [_, _, _, _]) ?_
 refine a_move (v := vO [_, _, _, _]) ?_
 refine a_nil (v := vO [_, _, _, _]) ?_
 refine a_faR (cells' := [_]) ?_ D35_3
 refine a_ldR (v := vR _ _) ?_ T33
 refine a_move (v := vI _) ?_
 by_cases hc1 : 0 ≤ a1
 ·rw [if_pos hc1] at H
  by_cases hc2 : a1 < (l0_3.length : Int)
  ·rw [if_pos hc2] at H
   refine a_ixR (el := c146 (rd146 l0_3 a1)) ?_ ⟨hc1, hc2⟩ T152 Tryz.underlying33 (hel := R146 hc1 hc2)
   refine a_faR (cells' := [_]) ?_ D152_1
   refine a_ldR (v := vR _ _) ?_ T29
   obtain ⟨⟨t3, t4⟩, e5, H⟩ := bindO H
   refine a_call (v := .tup [.c (.own 201 t3.length), .c (.d (.v (.bool t4)))]) (nk := [(201, .row 160 (t3.map c159))]) (L := []) ?_ rfl (spec_l05Ring.ok e5) (fun κ => cond (Nat.beq κ 201) 100 (κ)) (qd (qd qn)) trivial ⟨rfl, trivial⟩ ⟨rfl, trivial⟩ rfl
   refine a_move (v := .tup [_, _]) ?_
   refine a_ext (v := .c (.own _ _)) ?_
   refine a_ext (v := vB _) ?_
   refine a_move (v := .c (.own _ _)) ?_
   refine a_move (v := vB _) ?_
   refine RA.nil nofun ?_
   refine AG.seq ?_
   refine AG.region HM ?_
   refine a_move (v := .c (.own _ _)) ?_
   refine a_move (v := .c (.own _ _)) ?_
   refine RA.nil nofun ?_
   refine AG.ret ?_
   obtain rfl := Option.some.inj H
   exact RetP.mk (fun κ => cond (Nat.beq κ 100) 201 (κ)) ⟨rfl, trivial⟩ ⟨rfl, trivial⟩ rfl
  ·rw [if_neg hc2] at H
   cases H
 ·rw [if_neg hc1] at H
  cases H
def spec_l03Bounds.l0 : Nat → List S159 → Int → Int → Int → Int → Int → Option (Int × Int × Int × Int)
 | 0, _, _, _, _, _, _ => none
 | k + 1, x0, y206_0, y206_1, y207_0, y207_1, x6 => if x6 < (x0.length : Int) then (if 0 ≤ x6 then ((spec_l00Min.f y206_0 ((rd159 x0 x6).f0)).bind fun t4 => ((spec_l00Min.f y206_1 ((rd159 x0 x6).f1)).bind fun t6 => ((spec_l00Max.f y207_0 ((rd159 x0 x6).f0)).bind fun t8 => ((spec_l00Max.f y207_1 ((rd159 x0 x6).f1)).bind fun t10 => (spec_l03Bounds.l0 k x0 t4 t6 t8 t10 (wrap64 (x6 + 1))))))) else (none)) else (some (y206_0, y206_1, y207_0, y207_1))
def spec_l03Bounds.f (k : Nat) (l0 : List S159) : Option (Int × Int × Int × Int) := if 0 < (l0.length : Int) then (spec_l03Bounds.l0 k l0 ((rd159 l0 0).f0) ((rd159 l0 0).f1) ((rd159 l0 0).f0) ((rd159 l0 0).f1) 1) else (none)
set_option maxRecDepth 100000 in
theorem spec_l03Bounds.ok {k : Nat} {l0 : List S159} {r0 : Int} {r1 : Int} {r2 : Int} {r3 : Int} (H : spec_l03Bounds.f k l0 = some (r0, r1, r2, r3)) : OkF Tryz.prog 158 [vR 160 (l0.map c159)] [] (.tup [.agg [.d (.v (.int .i64 r0)), .d (.v (.int .i64 r1))], .agg [.d (.v (.int .i64 r2)), .d (.v (.int .i64 r3))]]) [] := by
 unfold spec_l03Bounds.f at H
 refine OkF.ofC (N := 57) (rs := [2, 3]) (avs := [.agg [.d (.v (.int .i64 r0)), .d (.v (.int .i64 r1))], .agg [.d (.v (.int .i64 r2)), .d (.v (.int .i64 r3))]]) [(2, 160), (3, 160)] Tryz.func158 rfl rfl (rc_cc rfl) (by decide) rfl (by decide) rfl rfl rfl rfl (fun w0 S => ?_)
 refine AG.seq ?_
 refine AG.region HM ?_
 refine a_alloc (cs := [_, _]) 200 ?_ T160
 refine a_alloc (cs := [_, _]) 201 ?_ T160
 refine RA.nil nofun ?_
 refine AG.seq ?_
 refine AG.region HM ?_
 refine a_move (v := vR _ _) ?_
 by_cases hc1 : 0 < (l0.length : Int)
 ·rw [if_pos hc1] at H
  refine a_ixR (el := c159 (rd159 l0 0)) ?_ ⟨(by decide), hc1⟩ T160 Tryz.underlying32 (hel := R159 (by decide) hc1)
  refine a_ldR (v := .agg [_, _]) ?_ T160
  refine a_alloc (cs := [_, _]) 202 ?_ T160
  refine a_stB (cs' := [_, _]) ?_ T160
  refine RA.nil nofun ?_
  refine AG.seq ?_
  refine AG.region HM ?_
  refine a_move (v := vR _ _) ?_
  refine a_ixR (el := c159 (rd159 l0 0)) ?_ ⟨(by decide), hc1⟩ T160 Tryz.underlying32 (hel := R159 (by decide) hc1)
  refine a_ldR (v := .agg [_, _]) ?_ T160
  refine a_alloc (cs := [_, _]) 203 ?_ T160
  refine a_stB (cs' := [_, _]) ?_ T160
  refine RA.nil nofun ?_
  refine AG.seq ?_
  refine AG.seq ?_
  refine AG.region HM ?_
  refine a_move (v := vI _) ?_
  refine RA.nil nofun ?_
  refine AG.block ?_
  refine AG.loop ?_
  obtain ⟨K0, hK0, gK0⟩ : ∃ K, k ≤ K ∧ K ≤ k := ⟨k, Nat.le_refl k, Nat.le_refl k⟩
  refine AGr.canon (fun κ => cond (Nat.beq κ 204) 200 (cond (Nat.beq κ 205) 201 (cond (Nat.beq κ 206) 202 (cond (Nat.beq κ 207) 203 (κ))))) (AGr.loopI (n := k) (fun k s => k ≤ K0 ∧ ∃ (x0 : List S159) (y204_0 : Int) (y204_1 : Int) (y205_0 : Int) (y205_1 : Int) (y206_0 : Int) (y206_1 : Int) (y207_0 : Int) (y207_1 : Int) (x6 : Int), spec_l03Bounds.l0 k x0 y206_0 y206_1 y207_0 y207_1 x6 = some (r0, r1, r2, r3) ∧ s = St.of [(0, vR 160 (x0.map c159)), (2, .c (.ptr 204 0)), (3, .c (.ptr 205 0)), (4, .c (.ptr 206 0)), (5, .c (.ptr 207 0)), (6, vI x6)] [(204, .box 160 [.d (.v (.int .i64 y204_0)), .d (.v (.int .i64 y204_1))]), (205, .box 160 [.d (.v (.int .i64 y205_0)), .d (.v (.int .i64 y205_1))]), (206, .box 160 [.d (.v (.int .i64 y206_0)), .d (.v (.int .i64 y206_1))]), (207, .box 160 [.d (.v (.int .i64 y207_0)), .d (.v (.int .i64 y207_1))])]) ⟨hK0, _, _, _, _, _, _, _, _, _, _, H, rfl⟩ ?_ ?_) ⟨rfl, rfl, rfl, rfl, rfl, rfl, trivial⟩ ⟨rfl, rfl, rfl, rfl, trivial⟩ rfl
  ·rintro _ ⟨_, _, _, _, _, _, _, _, _, _, _, H, _⟩
   cases H
  ·clear H hK0
   rintro k ih0 _ ⟨hK0, x0, y204_0, y204_1, y205_0, y205_1, y206_0, y206_1, y207_0, y207_1, x6, H, rfl⟩
   unfold spec_l03Bounds.l0 at H
   refine AG.seq ?_
   refine AG.seq ?_
   refine AG.region HM ?_
   refine a_move (v := vI _) ?_
   refine a_move (v := vR _ _) ?_
   refine a_lenR ?_ Tryz.underlying32
   refine a_int (u := .bool (decide (x6 < (x0.length : Int)))) ?_
   refine RA.nil nofun ?_
   by_cases hc2 : x6 < (x0.length : Int)
   ·rw [if_pos hc2] at H
    refine AG.yes rfl (decide_eq_true hc2) ?_
    refine AG.skip ?_
    refine AG.seq ?_
    refine AG.block ?_
    refine AG.seq ?_
    refine AG.region HM ?_
    refine a_faB (q := 0) ?_ D160_0
    refine a_ldB (v := vI _) ?_ T2
    refine a_move (v := vR _ _) ?_
    refine a_move (v := vI _) ?_
    by_cases hc3 : 0 ≤ x6
    ·rw [if_pos hc3] at H
     refine a_ixR (el := c159 (rd159 x0 x6)) ?_ ⟨hc3, hc2⟩ T160 Tryz.underlying32 (hel := R159 hc3 hc2)
     refine a_faR (cells' := [_, _]) ?_ D160_0
     refine a_ldR (v := vI _) ?_ T2
     obtain ⟨t4, e5, H⟩ := bindO H
     refine a_call (v := vI t4) (nk := []) (L := []) ?_ rfl (spec_l00Min.ok e5) id (qd (qd qn)) trivial trivial trivial rfl
     refine a_faB (q := 0) ?_ D160_0
     refine a_stB (cs' := [_, _]) ?_ T2
     refine RA.nil (fun _ => by kernel_rfl) ?_
     refine AG.seq ?_
     refine AG.region HM ?_
     refine a_faB (q := 1) ?_ D160_1
     refine a_ldB (v := vI _) ?_ T2
     refine a_move (v := vR _ _) ?_
     refine a_move (v := vI _) ?_
     refine a_ixR (el := c159 (rd159 x0 x6)) ?_ ⟨hc3, hc2⟩ T160 Tryz.underlying32 (hel := R159 hc3 hc2)
     refine a_faR (cells' := [_]) ?_ D160_1
     refine a_ldR (v := vI _) ?_ T2
     obtain ⟨t6, e7, H⟩ := bindO H
     refine a_call (v := vI t6) (nk := []) (L := []) ?_ rfl (spec_l00Min.ok e7) id (qd (qd qn)) trivial trivial trivial rfl
     refine a_faB (q := 1) ?_ D160_1
     refine a_stB (cs' := [_, _]) ?_ T2
     refine RA.nil (fun _ => by kernel_rfl) ?_
     refine AG.seq ?_
     refine AG.region HM ?_
     refine a_faB (q := 0) ?_ D160_0
     refine a_ldB (v := vI _) ?_ T2
     refine a_move (v := vR _ _) ?_
     refine a_move (v := vI _) ?_
     refine a_ixR (el := c159 (rd159 x0 x6)) ?_ ⟨hc3, hc2⟩ T160 Tryz.underlying32 (hel := R159 hc3 hc2)
     refine a_faR (cells' := [_, _]) ?_ D160_0
     refine a_ldR (v := vI _) ?_ T2
     obtain ⟨t8, e9, H⟩ := bindO H
     refine a_call (v := vI t8) (nk := []) (L := []) ?_ rfl (spec_l00Max.ok e9) id (qd (qd qn)) trivial trivial trivial rfl
     refine a_faB (q := 0) ?_ D160_0
     refine a_stB (cs' := [_, _]) ?_ T2
     refine RA.nil (fun _ => by kernel_rfl) ?_
     refine AG.region HM ?_
     refine a_faB (q := 1) ?_ D160_1
     refine a_ldB (v := vI _) ?_ T2
     refine a_move (v := vR _ _) ?_
     refine a_move (v := vI _) ?_
     refine a_ixR (el := c159 (rd159 x0 x6)) ?_ ⟨hc3, hc2⟩ T160 Tryz.underlying32 (hel := R159 hc3 hc2)
     refine a_faR (cells' := [_]) ?_ D160_1
     refine a_ldR (v := vI _) ?_ T2
     obtain ⟨t10, e11, H⟩ := bindO H
     refine a_call (v := vI t10) (nk := []) (L := []) ?_ rfl (spec_l00Max.ok e11) id (qd (qd qn)) trivial trivial trivial rfl
     refine a_faB (q := 1) ?_ D160_1
     refine a_stB (cs' := [_, _]) ?_ T2
     refine RA.nil (fun _ => by kernel_rfl) ?_
     refine AG.region HM ?_
     refine a_move (v := vI _) ?_
     refine a_int (u := .int .i64 (wrap64 (x6 + 1))) ?_
     refine a_move (v := vI _) ?_
     refine RA.nil nofun ?_
     exact AGr.canon id (ih0 _ (by omega) _ ⟨by omega, _, _, _, _, _, _, _, _, _, _, H, rfl⟩) ⟨rfl, rfl, rfl, rfl, rfl, rfl, trivial⟩ ⟨rfl, rfl, rfl, rfl, trivial⟩ rfl
    ·rw [if_neg hc3] at H
     cases H
   ·rw [if_neg hc2] at H
    refine AG.no rfl (decide_eq_false hc2) ?_
    refine AG.exit ?_
    refine AG.seq ?_
    refine AG.region HM ?_
    refine a_ldB (v := .agg [_, _]) ?_ T160
    refine a_ldB (v := .agg [_, _]) ?_ T160
    refine a_stB (cs' := [_, _]) ?_ T160
    refine a_stB (cs' := [_, _]) ?_ T160
    refine RA.nil (fun _ => by kernel_rfl) ?_
    refine AG.ret ?_
    simp only [Option.some.injEq, Prod.mk.injEq] at H
    obtain ⟨rfl, rfl, rfl, rfl⟩ := H
    exact RetL.cell T160 rfl rfl rfl (RetL.cell T160 rfl rfl rfl (RetL.nil (RetP.mk id ⟨rfl, rfl, trivial⟩ trivial rfl)))
 ·rw [if_neg hc1] at H
  cases H
def spec_l12Turns.l0 : Nat → Int → Int → Int → Int → Int → Int → List Int → Int → Option ((List Int))
 | 0, _, _, _, _, _, _, _, _ => none
 | k + 1, x1_6, x1_7, y205_0, y205_1, y206_0, y206_1, x7, x8 => if x8 < 8 then (if (Int.tmod x8 2) = 1 then (if (wrap64 (y206_1 - y205_1)) ≤ x1_6 then (if (wrap64 (y206_0 - y205_0)) ≤ x1_7 then (if x7.length < 17592186044416 then (spec_l12Turns.l0 k x1_6 x1_7 y205_0 y205_1 y206_0 y206_1 (x7 ++ [x8]) (wrap64 (x8 + 1))) else (none)) else (spec_l12Turns.l0 k x1_6 x1_7 y205_0 y205_1 y206_0 y206_1 x7 (wrap64 (x8 + 1)))) else (spec_l12Turns.l0 k x1_6 x1_7 y205_0 y205_1 y206_0 y206_1 x7 (wrap64 (x8 + 1)))) else (if (wrap64 (y206_0 - y205_0)) ≤ x1_6 then (if (wrap64 (y206_1 - y205_1)) ≤ x1_7 then (if x7.length < 17592186044416 then (spec_l12Turns.l0 k x1_6 x1_7 y205_0 y205_1 y206_0 y206_1 (x7 ++ [x8]) (wrap64 (x8 + 1))) else (none)) else (spec_l12Turns.l0 k x1_6 x1_7 y205_0 y205_1 y206_0 y206_1 x7 (wrap64 (x8 + 1)))) else (spec_l12Turns.l0 k x1_6 x1_7 y205_0 y205_1 y206_0 y206_1 x7 (wrap64 (x8 + 1))))) else (some x7)
def spec_l12Turns.f (k : Nat) (l0 : List S159) (a1_0 : ByteArray) (a1_1 : ByteArray) (a1_2 : Int) (a1_3 : ByteArray) (a1_4 : Int) (a1_5 : Int) (a1_6 : Int) (a1_7 : Int) (l1_8 : List S176) : Option ((List Int)) := (spec_l03Bounds.f k l0).bind fun bt1 => (spec_l12Turns.l0 k a1_6 a1_7 bt1.1 bt1.2.1 bt1.2.2.1 bt1.2.2.2 (([] : List Int) : List Int) 0)
set_option maxRecDepth 100000 in
theorem spec_l12Turns.ok {k : Nat} {l0 : List S159} {a1_0 : ByteArray} {a1_1 : ByteArray} {a1_2 : Int} {a1_3 : ByteArray} {a1_4 : Int} {a1_5 : Int} {a1_6 : Int} {a1_7 : Int} {l1_8 : List S176} {r : List Int} (H : spec_l12Turns.f k l0 a1_0 a1_1 a1_2 a1_3 a1_4 a1_5 a1_6 a1_7 l1_8 = some r) : OkF Tryz.prog 105 [vR 160 (l0.map c159), .c (.d (.ro [.v (.string a1_0), .v (.string a1_1), .v (.int .i64 a1_2), .v (.string a1_3), .v (.int .i64 a1_4), .v (.int .i64 a1_5), .v (.int .i64 a1_6), .v (.int .i64 a1_7), .row 177 (l1_8.map c176)]))] [] (.c (.own 100 r.length)) [(100, .row 2 (r.map c2))] := by
 unfold spec_l12Turns.f at H
 refine OkF.of (N := 63) (rs := [4]) (avs := [.c (.own 100 r.length)]) Tryz.func105 rfl rfl (fun _ _ => results_tmp rfl _ _ _) (by decide) rfl rfl rfl rfl (fun w0 S => ?_)
 refine AG.seq ?_
 refine AG.region HM ?_
 refine a_nilO (e := 2) 200 ?_ T2
 refine RA.nil nofun ?_
 refine AG.seq ?_
 refine AG.region HM ?_
 refine a_move (v := vR _ _) ?_
 obtain ⟨⟨t1, t2, t3, t4⟩, e5, H⟩ := bindO H
 refine a_call (v := .tup [.agg [.d (.v (.int .i64 t1)), .d (.v (.int .i64 t2))], .agg [.d (.v (.int .i64 t3)), .d (.v (.int .i64 t4))]]) (nk := []) (L := []) ?_ rfl (spec_l03Bounds.ok e5) id (qd qn) trivial trivial trivial rfl
 refine a_move (v := .tup [_, _]) ?_
 refine a_ext (v := .agg [_, _]) ?_
 refine a_ext (v := .agg [_, _]) ?_
 refine a_alloc (cs := [_, _]) 202 ?_ T160
 refine a_alloc (cs := [_, _]) 203 ?_ T160
 refine a_stB (cs' := [_, _]) ?_ T160
 refine a_stB (cs' := [_, _]) ?_ T160
 refine RA.nil nofun ?_
 refine AG.seq ?_
 refine AG.region HM ?_
 refine a_lit (cs := []) (D := []) (css := (([] : List Int) : List Int).map c2) 204 ?_ N29 T2 (hcss := by rfl)
 refine a_move (v := .c (.own _ _)) ?_
 refine RA.nil nofun ?_
 refine AG.seq ?_
 refine AG.seq ?_
 refine AG.region HM ?_
 refine a_move (v := vI _) ?_
 refine RA.nil nofun ?_
 refine AG.block ?_
 refine AG.loop ?_
 obtain ⟨K0, hK0, gK0⟩ : ∃ K, k ≤ K ∧ K ≤ k := ⟨k, Nat.le_refl k, Nat.le_refl k⟩
 refine AGr.canon (fun κ => cond (Nat.beq κ 205) 202 (cond (Nat.beq κ 206) 203 (cond (Nat.beq κ 207) 204 (κ)))) (AGr.loopI (n := k) (fun k s => k ≤ K0 ∧ ∃ (x1_0 : ByteArray) (x1_1 : ByteArray) (x1_2 : Int) (x1_3 : ByteArray) (x1_4 : Int) (x1_5 : Int) (x1_6 : Int) (x1_7 : Int) (x1_8 : List S176) (y205_0 : Int) (y205_1 : Int) (y206_0 : Int) (y206_1 : Int) (x7 : List Int) (x8 : Int), spec_l12Turns.l0 k x1_6 x1_7 y205_0 y205_1 y206_0 y206_1 x7 x8 = some r ∧ s = St.of [(1, .c (.d (.ro [.v (.string x1_0), .v (.string x1_1), .v (.int .i64 x1_2), .v (.string x1_3), .v (.int .i64 x1_4), .v (.int .i64 x1_5), .v (.int .i64 x1_6), .v (.int .i64 x1_7), .row 177 (x1_8.map c176)]))), (5, .c (.ptr 205 0)), (6, .c (.ptr 206 0)), (7, .c (.own 207 x7.length)), (8, vI x8)] [(205, .box 160 [.d (.v (.int .i64 y205_0)), .d (.v (.int .i64 y205_1))]), (206, .box 160 [.d (.v (.int .i64 y206_0)), .d (.v (.int .i64 y206_1))]), (207, .row 2 (x7.map c2))]) ⟨hK0, _, _, _, _, _, _, _, _, _, _, _, _, _, _, _, H, rfl⟩ ?_ ?_) ⟨rfl, rfl, rfl, (ownE rfl (by simp)), rfl, trivial⟩ ⟨rfl, rfl, rfl, trivial⟩ rfl
 ·rintro _ ⟨_, _, _, _, _, _, _, _, _, _, _, _, _, _, _, _, H, _⟩
  cases H
 ·clear H hK0
  rintro k ih0 _ ⟨hK0, x1_0, x1_1, x1_2, x1_3, x1_4, x1_5, x1_6, x1_7, x1_8, y205_0, y205_1, y206_0, y206_1, x7, x8, H, rfl⟩
  unfold spec_l12Turns.l0 at H
  refine AG.seq ?_
  refine AG.seq ?_
  refine AG.region HM ?_
  refine a_move (v := vI _) ?_
  refine a_int (u := .bool (decide (x8 < 8))) ?_
  refine RA.nil nofun ?_
  by_cases hc7 : x8 < 8
  ·rw [if_pos hc7] at H
   refine AG.yes rfl (decide_eq_true hc7) ?_
   refine AG.skip ?_
   refine AG.seq ?_
   refine AG.block ?_
   refine AG.seq ?_
   refine AG.region HM ?_
   refine a_faB (q := 0) ?_ D160_0
   refine a_ldB (v := vI _) ?_ T2
   refine a_faB (q := 0) ?_ D160_0
   refine a_ldB (v := vI _) ?_ T2
   refine a_int (u := .int .i64 (wrap64 (y206_0 - y205_0))) ?_
   refine a_move (v := vI _) ?_
   refine RA.nil nofun ?_
   refine AG.seq ?_
   refine AG.region HM ?_
   refine a_faB (q := 1) ?_ D160_1
   refine a_ldB (v := vI _) ?_ T2
   refine a_faB (q := 1) ?_ D160_1
   refine a_ldB (v := vI _) ?_ T2
   refine a_int (u := .int .i64 (wrap64 (y206_1 - y205_1))) ?_
   refine a_move (v := vI _) ?_
   refine RA.nil nofun ?_
   refine AG.seq ?_
   refine AG.seq ?_
   refine AG.region HM ?_
   refine a_move (v := vI _) ?_
   refine a_rem (r := Int.tmod x8 2) ?_ (show ¬ (2 : Int) = 0 from by decide)
   refine a_int (u := .bool (((Int.tmod x8 2) == 1))) ?_
   refine RA.nil nofun ?_
   by_cases hc8 : (Int.tmod x8 2) = 1
   ·rw [if_pos hc8] at H
    refine AG.yes rfl (beq_iff_eq.2 hc8) ?_
    refine AG.seq ?_
    refine AG.region HM ?_
    refine a_faB (q := 1) ?_ D160_1
    refine a_ldB (v := vI _) ?_ T2
    refine a_faB (q := 1) ?_ D160_1
    refine a_ldB (v := vI _) ?_ T2
    refine a_int (u := .int .i64 (wrap64 (y206_1 - y205_1))) ?_
    refine a_move (v := vI _) ?_
    refine RA.nil nofun ?_
    refine AG.region HM ?_
    refine a_faB (q := 0) ?_ D160_0
    refine a_ldB (v := vI _) ?_ T2
    refine a_faB (q := 0) ?_ D160_0
    refine a_ldB (v := vI _) ?_ T2
    refine a_int (u := .int .i64 (wrap64 (y206_0 - y205_0))) ?_
    refine a_move (v := vI _) ?_
    refine RA.nil nofun ?_
    refine AG.seq ?_
    refine AG.region HM ?_
    refine a_move (v := vI _) ?_
    refine a_move (v := vO [_, _, _, _, _, _, _, _, _]) ?_
    refine a_nil (v := vO [_, _, _, _, _, _, _, _, _]) ?_
    refine a_faR (cells' := [_, _, _]) ?_ D95_4
    refine a_ldR (v := vI _) ?_ T2
    refine a_int (u := .bool (decide ((wrap64 (y206_1 - y205_1)) ≤ x1_6))) ?_
    refine a_move (v := vB _) ?_
    by_cases hc9 : (wrap64 (y206_1 - y205_1)) ≤ x1_6
    ·rw [if_pos hc9] at H
     refine a_move (v := vI _) ?_ (hg := Gs.yes rfl rfl rfl (decide_eq_true hc9))
     refine a_move (v := vO [_, _, _, _, _, _, _, _, _]) ?_ (hg := Gs.yes rfl rfl rfl (decide_eq_true hc9))
     refine a_nil (v := vO [_, _, _, _, _, _, _, _, _]) ?_ (hg := Gs.yes rfl rfl rfl (decide_eq_true hc9))
     refine a_faR (cells' := [_, _]) ?_ D95_5 (hg := Gs.yes rfl rfl rfl (decide_eq_true hc9))
     refine a_ldR (v := vI _) ?_ T2 (hg := Gs.yes rfl rfl rfl (decide_eq_true hc9))
     refine a_int (u := .bool (decide ((wrap64 (y206_0 - y205_0)) ≤ x1_7))) ?_ (hg := Gs.yes rfl rfl rfl (decide_eq_true hc9))
     refine a_pick (b := true) (v := vB _) ?_ (decide_eq_true hc9)
     refine RA.nil nofun ?_
     by_cases hc10 : (wrap64 (y206_0 - y205_0)) ≤ x1_7
     ·rw [if_pos hc10] at H
      refine AG.yes rfl (decide_eq_true hc10) ?_
      refine AG.region HM ?_
      refine a_move (v := .c (.own _ _)) ?_
      refine a_move (v := vI _) ?_
      refine a_lit (cs := [_]) (D := []) (css := ([x8]).map c2) 208 ?_ N29 T2
      by_cases hc11 : x7.length < 17592186044416
      ·rw [if_pos hc11] at H
       refine a_appO (css' := (x7 ++ [x8]).map c2) (n' := (x7 ++ [x8]).length) ?_ T2 (by simp [maxLen]; omega) (by simp; omega) Tryz.underlying29 (hc := by exact List.map_append.symm) (hn := by exact List.length_map _)
       refine a_move (v := .c (.own _ _)) ?_
       refine RA.nil nofun ?_
       refine AG.region HM ?_
       refine a_move (v := vI _) ?_
       refine a_int (u := .int .i64 (wrap64 (x8 + 1))) ?_
       refine a_move (v := vI _) ?_
       refine RA.nil nofun ?_
       exact AGr.canon id (ih0 _ (by omega) _ ⟨by omega, _, _, _, _, _, _, _, _, _, _, _, _, _, _, _, H, rfl⟩) ⟨rfl, rfl, rfl, rfl, rfl, trivial⟩ ⟨rfl, rfl, rfl, trivial⟩ rfl
      ·rw [if_neg hc11] at H
       cases H
     ·rw [if_neg hc10] at H
      refine AG.no rfl (decide_eq_false hc10) ?_
      refine AG.skip ?_
      refine AG.region HM ?_
      refine a_move (v := vI _) ?_
      refine a_int (u := .int .i64 (wrap64 (x8 + 1))) ?_
      refine a_move (v := vI _) ?_
      refine RA.nil nofun ?_
      exact AGr.canon id (ih0 _ (by omega) _ ⟨by omega, _, _, _, _, _, _, _, _, _, _, _, _, _, _, _, H, rfl⟩) ⟨rfl, rfl, rfl, rfl, rfl, trivial⟩ ⟨rfl, rfl, rfl, trivial⟩ rfl
    ·rw [if_neg hc9] at H
     refine RA.skip rfl rfl rfl rfl rfl (decide_eq_false hc9) (by decide) ?_
     refine RA.skip rfl rfl rfl rfl rfl (decide_eq_false hc9) (by decide) ?_
     refine RA.skip rfl rfl rfl rfl rfl (decide_eq_false hc9) (by decide) ?_
     refine RA.skip rfl rfl rfl rfl rfl (decide_eq_false hc9) (by decide) ?_
     refine RA.skip rfl rfl rfl rfl rfl (decide_eq_false hc9) (by decide) ?_
     refine RA.skip rfl rfl rfl rfl rfl (decide_eq_false hc9) (by decide) ?_
     refine a_pick (b := false) (v := vB _) ?_ (decide_eq_false hc9)
     refine RA.nil nofun ?_
     refine AG.no rfl rfl ?_
     refine AG.skip ?_
     refine AG.region HM ?_
     refine a_move (v := vI _) ?_
     refine a_int (u := .int .i64 (wrap64 (x8 + 1))) ?_
     refine a_move (v := vI _) ?_
     refine RA.nil nofun ?_
     exact AGr.canon id (ih0 _ (by omega) _ ⟨by omega, _, _, _, _, _, _, _, _, _, _, _, _, _, _, _, H, rfl⟩) ⟨rfl, rfl, rfl, rfl, rfl, trivial⟩ ⟨rfl, rfl, rfl, trivial⟩ rfl
   ·rw [if_neg hc8] at H
    refine AG.no rfl (beq_eq_false_iff_ne.2 hc8) ?_
    refine AG.skip ?_
    refine AG.seq ?_
    refine AG.region HM ?_
    refine a_move (v := vI _) ?_
    refine a_move (v := vO [_, _, _, _, _, _, _, _, _]) ?_
    refine a_nil (v := vO [_, _, _, _, _, _, _, _, _]) ?_
    refine a_faR (cells' := [_, _, _]) ?_ D95_4
    refine a_ldR (v := vI _) ?_ T2
    refine a_int (u := .bool (decide ((wrap64 (y206_0 - y205_0)) ≤ x1_6))) ?_
    refine a_move (v := vB _) ?_
    by_cases hc13 : (wrap64 (y206_0 - y205_0)) ≤ x1_6
    ·rw [if_pos hc13] at H
     refine a_move (v := vI _) ?_ (hg := Gs.yes rfl rfl rfl (decide_eq_true hc13))
     refine a_move (v := vO [_, _, _, _, _, _, _, _, _]) ?_ (hg := Gs.yes rfl rfl rfl (decide_eq_true hc13))
     refine a_nil (v := vO [_, _, _, _, _, _, _, _, _]) ?_ (hg := Gs.yes rfl rfl rfl (decide_eq_true hc13))
     refine a_faR (cells' := [_, _]) ?_ D95_5 (hg := Gs.yes rfl rfl rfl (decide_eq_true hc13))
     refine a_ldR (v := vI _) ?_ T2 (hg := Gs.yes rfl rfl rfl (decide_eq_true hc13))
     refine a_int (u := .bool (decide ((wrap64 (y206_1 - y205_1)) ≤ x1_7))) ?_ (hg := Gs.yes rfl rfl rfl (decide_eq_true hc13))
     refine a_pick (b := true) (v := vB _) ?_ (decide_eq_true hc13)
     refine RA.nil nofun ?_
     by_cases hc14 : (wrap64 (y206_1 - y205_1)) ≤ x1_7
     ·rw [if_pos hc14] at H
      refine AG.yes rfl (decide_eq_true hc14) ?_
      refine AG.region HM ?_
      refine a_move (v := .c (.own _ _)) ?_
      refine a_move (v := vI _) ?_
      refine a_lit (cs := [_]) (D := []) (css := ([x8]).map c2) 208 ?_ N29 T2
      by_cases hc15 : x7.length < 17592186044416
      ·rw [if_pos hc15] at H
       refine a_appO (css' := (x7 ++ [x8]).map c2) (n' := (x7 ++ [x8]).length) ?_ T2 (by simp [maxLen]; omega) (by simp; omega) Tryz.underlying29 (hc := by exact List.map_append.symm) (hn := by exact List.length_map _)
       refine a_move (v := .c (.own _ _)) ?_
       refine RA.nil nofun ?_
       refine AG.region HM ?_
       refine a_move (v := vI _) ?_
       refine a_int (u := .int .i64 (wrap64 (x8 + 1))) ?_
       refine a_move (v := vI _) ?_
       refine RA.nil nofun ?_
       exact AGr.canon id (ih0 _ (by omega) _ ⟨by omega, _, _, _, _, _, _, _, _, _, _, _, _, _, _, _, H, rfl⟩) ⟨rfl, rfl, rfl, rfl, rfl, trivial⟩ ⟨rfl, rfl, rfl, trivial⟩ rfl
      ·rw [if_neg hc15] at H
       cases H
     ·rw [if_neg hc14] at H
      refine AG.no rfl (decide_eq_false hc14) ?_
      refine AG.skip ?_
      refine AG.region HM ?_
      refine a_move (v := vI _) ?_
      refine a_int (u := .int .i64 (wrap64 (x8 + 1))) ?_
      refine a_move (v := vI _) ?_
      refine RA.nil nofun ?_
      exact AGr.canon id (ih0 _ (by omega) _ ⟨by omega, _, _, _, _, _, _, _, _, _, _, _, _, _, _, _, H, rfl⟩) ⟨rfl, rfl, rfl, rfl, rfl, trivial⟩ ⟨rfl, rfl, rfl, trivial⟩ rfl
    ·rw [if_neg hc13] at H
     refine RA.skip rfl rfl rfl rfl rfl (decide_eq_false hc13) (by decide) ?_
     refine RA.skip rfl rfl rfl rfl rfl (decide_eq_false hc13) (by decide) ?_
     refine RA.skip rfl rfl rfl rfl rfl (decide_eq_false hc13) (by decide) ?_
     refine RA.skip rfl rfl rfl rfl rfl (decide_eq_false hc13) (by decide) ?_
     refine RA.skip rfl rfl rfl rfl rfl (decide_eq_false hc13) (by decide) ?_
     refine RA.skip rfl rfl rfl rfl rfl (decide_eq_false hc13) (by decide) ?_
     refine a_pick (b := false) (v := vB _) ?_ (decide_eq_false hc13)
     refine RA.nil nofun ?_
     refine AG.no rfl rfl ?_
     refine AG.skip ?_
     refine AG.region HM ?_
     refine a_move (v := vI _) ?_
     refine a_int (u := .int .i64 (wrap64 (x8 + 1))) ?_
     refine a_move (v := vI _) ?_
     refine RA.nil nofun ?_
     exact AGr.canon id (ih0 _ (by omega) _ ⟨by omega, _, _, _, _, _, _, _, _, _, _, _, _, _, _, _, H, rfl⟩) ⟨rfl, rfl, rfl, rfl, rfl, trivial⟩ ⟨rfl, rfl, rfl, trivial⟩ rfl
  ·rw [if_neg hc7] at H
   refine AG.no rfl (decide_eq_false hc7) ?_
   refine AG.exit ?_
   refine AG.seq ?_
   refine AG.region HM ?_
   refine a_move (v := .c (.own _ _)) ?_
   refine a_move (v := .c (.own _ _)) ?_
   refine RA.nil nofun ?_
   refine AG.ret ?_
   obtain rfl := Option.some.inj H
   exact RetP.mk (fun κ => cond (Nat.beq κ 100) 207 (κ)) ⟨rfl, trivial⟩ ⟨rfl, trivial⟩ rfl
mutual
def spec_l12Unfit.l0 : Nat → Int → Int → List S159 → List S146 → List S94 → List Int → Int → Option ((List Int))
 | 0, _, _, _, _, _, _, _ => none
 | k + 1, x0_0, x0_1, x0_2, x0_3, x1, x5, x6 => if x6 < (x0_3.length : Int) then ((spec_l05Polygon.f k x0_0 x0_1 x0_2 x0_3 x6).bind fun t3 => (spec_l12Unfit.l1 k x0_0 x0_1 x0_2 x0_3 x1 x5 x6 false t3 0)) else (some x5)
def spec_l12Unfit.l1 : Nat → Int → Int → List S159 → List S146 → List S94 → List Int → Int → Bool → List S159 → Int → Option ((List Int))
 | 0, _, _, _, _, _, _, _, _, _, _ => none
 | k + 1, x0_0, x0_1, x0_2, x0_3, x1, x5, x6, x7, x8, x9 => if x9 < (x1.length : Int) then (if x7 = true then (spec_l12Unfit.l0 k x0_0 x0_1 x0_2 x0_3 x1 x5 (wrap64 (x6 + 1))) else (if 0 ≤ x9 then ((spec_l12Turns.f k x8 ((rd94 x1 x9).f0) ((rd94 x1 x9).f1) ((rd94 x1 x9).f2) ((rd94 x1 x9).f3.f0) ((rd94 x1 x9).f3.f1) ((rd94 x1 x9).f3.f2) ((rd94 x1 x9).f4) ((rd94 x1 x9).f5) ((rd94 x1 x9).f6)).bind fun t8 => (spec_l12Unfit.l1 k x0_0 x0_1 x0_2 x0_3 x1 x5 x6 (decide ((t8.length : Int) > 0)) x8 (wrap64 (x9 + 1)))) else (none))) else (if x7 = true then (spec_l12Unfit.l0 k x0_0 x0_1 x0_2 x0_3 x1 x5 (wrap64 (x6 + 1))) else (if x5.length < 17592186044416 then (spec_l12Unfit.l0 k x0_0 x0_1 x0_2 x0_3 x1 (x5 ++ [x6]) (wrap64 (x6 + 1))) else (none)))
end
def spec_l12Unfit.f (k : Nat) (a0_0 : Int) (a0_1 : Int) (l0_2 : List S159) (l0_3 : List S146) (l1 : List S94) : Option ((List Int)) := spec_l12Unfit.l0 k a0_0 a0_1 l0_2 l0_3 l1 (([] : List Int) : List Int) 0
set_option maxRecDepth 100000 in
theorem spec_l12Unfit.ok {k : Nat} {a0_0 : Int} {a0_1 : Int} {l0_2 : List S159} {l0_3 : List S146} {l1 : List S94} {r : List Int} (H : spec_l12Unfit.f k a0_0 a0_1 l0_2 l0_3 l1 = some r) : OkF Tryz.prog 49 [.c (.d (.ro [.v (.int .i64 a0_0), .v (.int .i64 a0_1), .row 160 (l0_2.map c159), .row 152 (l0_3.map c146)])), vR 95 (l1.map c94)] [] (.c (.own 100 r.length)) [(100, .row 2 (r.map c2))] := by
 unfold spec_l12Unfit.f at H
 refine OkF.of (N := 47) (rs := [4]) (avs := [.c (.own 100 r.length)]) Tryz.func49 rfl rfl (fun _ _ => results_tmp rfl _ _ _) (by decide) rfl rfl rfl rfl (fun w0 S => ?_)
 refine AG.seq ?_
 refine AG.region HM ?_
 refine a_nilO (e := 2) 200 ?_ T2
 refine RA.nil nofun ?_
 refine AG.seq ?_
 refine AG.region HM ?_
 refine a_lit (cs := []) (D := []) (css := (([] : List Int) : List Int).map c2) 201 ?_ N29 T2 (hcss := by rfl)
 refine a_move (v := .c (.own _ _)) ?_
 refine RA.nil nofun ?_
 refine AG.seq ?_
 refine AG.seq ?_
 refine AG.region HM ?_
 refine a_move (v := vI _) ?_
 refine RA.nil nofun ?_
 refine AG.block ?_
 refine AG.loop ?_
 obtain ⟨K0, hK0, gK0⟩ : ∃ K, k ≤ K ∧ K ≤ k := ⟨k, Nat.le_refl k, Nat.le_refl k⟩
 refine AGr.canon (fun κ => cond (Nat.beq κ 202) 201 (κ)) (AGr.loopI (n := k) (fun k s => k ≤ K0 ∧ ∃ (x0_0 : Int) (x0_1 : Int) (x0_2 : List S159) (x0_3 : List S146) (x1 : List S94) (x5 : List Int) (x6 : Int), spec_l12Unfit.l0 k x0_0 x0_1 x0_2 x0_3 x1 x5 x6 = some r ∧ s = St.of [(0, .c (.d (.ro [.v (.int .i64 x0_0), .v (.int .i64 x0_1), .row 160 (x0_2.map c159), .row 152 (x0_3.map c146)]))), (1, vR 95 (x1.map c94)), (5, .c (.own 202 x5.length)), (6, vI x6)] [(202, .row 2 (x5.map c2))]) ⟨hK0, _, _, _, _, _, _, _, H, rfl⟩ ?_ ?_) ⟨rfl, rfl, (ownE rfl (by simp)), rfl, trivial⟩ ⟨rfl, trivial⟩ rfl
 ·rintro _ ⟨_, _, _, _, _, _, _, _, H, _⟩
  cases H
 ·clear H hK0
  rintro k ih0 _ ⟨hK0, x0_0, x0_1, x0_2, x0_3, x1, x5, x6, H, rfl⟩
  unfold spec_l12Unfit.l0 at H
  refine AG.seq ?_
  refine AG.seq ?_
  refine AG.region HM ?_
  refine a_move (v := vI _) ?_
  refine a_move (v := vO [_, _, _, _]) ?_
  refine a_nil (v := vO [_, _, _, _]) ?_
  refine a_faR (cells' := [_]) ?_ D35_3
  refine a_ldR (v := vR _ _) ?_ T33
  refine a_lenR ?_ Tryz.underlying33
  refine a_int (u := .bool (decide (x6 < (x0_3.length : Int)))) ?_
  refine RA.nil nofun ?_
  by_cases hc2 : x6 < (x0_3.length : Int)
  ·rw [if_pos hc2] at H
   refine AG.yes rfl (decide_eq_true hc2) ?_
   refine AG.skip ?_
   refine AG.seq ?_
   refine AG.block ?_
   refine AG.seq ?_
   refine AG.region HM ?_
   refine a_move (v := vB _) ?_
   refine RA.nil nofun ?_
   refine AG.seq ?_
   refine AG.region HM ?_
   refine a_move (v := vO [_, _, _, _]) ?_
   refine a_move (v := vI _) ?_
   obtain ⟨t3, e4, H⟩ := bindO H
   refine a_call (v := .c (.own 203 t3.length)) (nk := [(203, .row 160 (t3.map c159))]) (L := []) ?_ rfl (spec_l05Polygon.ok e4) (fun κ => cond (Nat.beq κ 203) 100 (κ)) (qd (qd qn)) trivial ⟨rfl, trivial⟩ ⟨rfl, trivial⟩ rfl
   refine a_move (v := .c (.own _ _)) ?_
   refine RA.nil nofun ?_
   refine AG.seq ?_
   refine AG.seq ?_
   refine AG.region HM ?_
   refine a_move (v := vI _) ?_
   refine RA.nil nofun ?_
   refine AG.block ?_
   refine AG.loop ?_
   obtain ⟨K1, hK1, gK1⟩ : ∃ K, k ≤ K ∧ K ≤ k := ⟨k, Nat.le_refl k, Nat.le_refl k⟩
   refine AGr.canon (fun κ => cond (Nat.beq κ 204) 202 (cond (Nat.beq κ 205) 203 (κ))) (AGr.loopI (n := k) (fun k s => k ≤ K1 ∧ ∃ (x0_0 : Int) (x0_1 : Int) (x0_2 : List S159) (x0_3 : List S146) (x1 : List S94) (x5 : List Int) (x6 : Int) (x7 : Bool) (x8 : List S159) (x9 : Int), spec_l12Unfit.l1 k x0_0 x0_1 x0_2 x0_3 x1 x5 x6 x7 x8 x9 = some r ∧ s = St.of [(0, .c (.d (.ro [.v (.int .i64 x0_0), .v (.int .i64 x0_1), .row 160 (x0_2.map c159), .row 152 (x0_3.map c146)]))), (1, vR 95 (x1.map c94)), (5, .c (.own 204 x5.length)), (6, vI x6), (7, vB x7), (8, .c (.own 205 x8.length)), (9, vI x9)] [(204, .row 2 (x5.map c2)), (205, .row 160 (x8.map c159))]) ⟨hK1, _, _, _, _, _, _, _, _, _, _, H, rfl⟩ ?_ ?_) ⟨rfl, rfl, rfl, rfl, rfl, rfl, rfl, trivial⟩ ⟨rfl, rfl, trivial⟩ rfl
   ·rintro _ ⟨_, _, _, _, _, _, _, _, _, _, _, H, _⟩
    cases H
   ·clear H hK1
    rintro k ih1 _ ⟨hK1, x0_0, x0_1, x0_2, x0_3, x1, x5, x6, x7, x8, x9, H, rfl⟩
    unfold spec_l12Unfit.l1 at H
    refine AG.seq ?_
    refine AG.seq ?_
    refine AG.region HM ?_
    refine a_move (v := vI _) ?_
    refine a_move (v := vR _ _) ?_
    refine a_lenR ?_ Tryz.underlying37
    refine a_int (u := .bool (decide (x9 < (x1.length : Int)))) ?_
    refine a_move (v := vB _) ?_
    by_cases hc5 : x9 < (x1.length : Int)
    ·rw [if_pos hc5] at H
     refine a_move (v := vB _) ?_ (hg := Gs.yes rfl rfl rfl (decide_eq_true hc5))
     refine a_un (u := .bool (!x7)) ?_ (hg := Gs.yes rfl rfl rfl (decide_eq_true hc5))
     refine a_pick (b := true) (v := vB _) ?_ (decide_eq_true hc5)
     refine RA.nil nofun ?_
     by_cases hc6 : x7 = true
     ·rw [if_pos hc6] at H
      refine AG.no rfl (congrArg Bool.not hc6) ?_
      refine AG.exit ?_
      refine AG.seq ?_
      refine AG.region HM ?_
      refine a_move (v := vB _) ?_
      refine a_un (u := .bool (!x7)) ?_
      refine RA.nil nofun ?_
      refine AG.no rfl (congrArg Bool.not hc6) ?_
      refine AG.skip ?_
      refine AG.region HM ?_
      refine a_move (v := vI _) ?_
      refine a_int (u := .int .i64 (wrap64 (x6 + 1))) ?_
      refine a_move (v := vI _) ?_
      refine RA.nil nofun ?_
      exact AGr.canon (fun κ => cond (Nat.beq κ 202) 204 (κ)) (ih0 _ (by omega) _ ⟨by omega, _, _, _, _, _, _, _, H, rfl⟩) ⟨rfl, rfl, rfl, rfl, trivial⟩ ⟨rfl, trivial⟩ rfl
     ·rw [if_neg hc6] at H
      refine AG.yes rfl (congrArg Bool.not (Bool.eq_false_iff.2 hc6)) ?_
      refine AG.skip ?_
      refine AG.seq ?_
      refine AG.block ?_
      refine AG.region HM ?_
      refine a_move (v := .c (.own _ _)) ?_
      refine a_move (v := vR _ _) ?_
      refine a_move (v := vI _) ?_
      by_cases hc7 : 0 ≤ x9
      ·rw [if_pos hc7] at H
       refine a_ixR (el := c94 (rd94 x1 x9)) ?_ ⟨hc7, hc5⟩ T95 Tryz.underlying37 (hel := R94 hc7 hc5)
       obtain ⟨t8, e9, H⟩ := bindO H
       refine a_call (v := .c (.own 206 t8.length)) (nk := [(206, .row 2 (t8.map c2))]) (L := [(205, _)]) ?_ rfl (spec_l12Turns.ok e9) (fun κ => cond (Nat.beq κ 206) 100 (κ)) (qc rO (qd qn)) ⟨rfl, trivial⟩ ⟨rfl, trivial⟩ ⟨rfl, trivial⟩ rfl
       refine a_lenO ?_ Tryz.underlying29
       refine a_int (u := .bool (decide ((t8.length : Int) > 0))) ?_
       refine a_move (v := vB _) ?_
       refine RA.nil nofun ?_
       refine AG.region HM ?_
       refine a_move (v := vI _) ?_
       refine a_int (u := .int .i64 (wrap64 (x9 + 1))) ?_
       refine a_move (v := vI _) ?_
       refine RA.nil nofun ?_
       exact AGr.canon id (ih1 _ (by omega) _ ⟨by omega, _, _, _, _, _, _, _, _, _, _, H, rfl⟩) ⟨rfl, rfl, rfl, rfl, rfl, rfl, rfl, trivial⟩ ⟨rfl, rfl, trivial⟩ rfl
      ·rw [if_neg hc7] at H
       cases H
    ·rw [if_neg hc5] at H
     refine RA.skip rfl rfl rfl rfl rfl (decide_eq_false hc5) (by decide) ?_
     refine RA.skip rfl rfl rfl rfl rfl (decide_eq_false hc5) (by decide) ?_
     refine a_pick (b := false) (v := vB _) ?_ (decide_eq_false hc5)
     refine RA.nil nofun ?_
     refine AG.no rfl rfl ?_
     refine AG.exit ?_
     refine AG.seq ?_
     refine AG.region HM ?_
     refine a_move (v := vB _) ?_
     refine a_un (u := .bool (!x7)) ?_
     refine RA.nil nofun ?_
     by_cases hc10 : x7 = true
     ·rw [if_pos hc10] at H
      refine AG.no rfl (congrArg Bool.not hc10) ?_
      refine AG.skip ?_
      refine AG.region HM ?_
      refine a_move (v := vI _) ?_
      refine a_int (u := .int .i64 (wrap64 (x6 + 1))) ?_
      refine a_move (v := vI _) ?_
      refine RA.nil nofun ?_
      exact AGr.canon (fun κ => cond (Nat.beq κ 202) 204 (κ)) (ih0 _ (by omega) _ ⟨by omega, _, _, _, _, _, _, _, H, rfl⟩) ⟨rfl, rfl, rfl, rfl, trivial⟩ ⟨rfl, trivial⟩ rfl
     ·rw [if_neg hc10] at H
      refine AG.yes rfl (congrArg Bool.not (Bool.eq_false_iff.2 hc10)) ?_
      refine AG.region HM ?_
      refine a_move (v := .c (.own _ _)) ?_
      refine a_move (v := vI _) ?_
      refine a_lit (cs := [_]) (D := []) (css := ([x6]).map c2) 207 ?_ N29 T2
      by_cases hc11 : x5.length < 17592186044416
      ·rw [if_pos hc11] at H
       refine a_appO (css' := (x5 ++ [x6]).map c2) (n' := (x5 ++ [x6]).length) ?_ T2 (by simp [maxLen]; omega) (by simp; omega) Tryz.underlying29 (hc := by exact List.map_append.symm) (hn := by exact List.length_map _)
       refine a_move (v := .c (.own _ _)) ?_
       refine RA.nil nofun ?_
       refine AG.region HM ?_
       refine a_move (v := vI _) ?_
       refine a_int (u := .int .i64 (wrap64 (x6 + 1))) ?_
       refine a_move (v := vI _) ?_
       refine RA.nil nofun ?_
       exact AGr.canon (fun κ => cond (Nat.beq κ 202) 204 (κ)) (ih0 _ (by omega) _ ⟨by omega, _, _, _, _, _, _, _, H, rfl⟩) ⟨rfl, rfl, rfl, rfl, trivial⟩ ⟨rfl, trivial⟩ rfl
      ·rw [if_neg hc11] at H
       cases H
  ·rw [if_neg hc2] at H
   refine AG.no rfl (decide_eq_false hc2) ?_
   refine AG.exit ?_
   refine AG.seq ?_
   refine AG.region HM ?_
   refine a_move (v := .c (.own _ _)) ?_
   refine a_move (v := .c (.own _ _)) ?_
   refine RA.nil nofun ?_
   refine AG.ret ?_
   obtain rfl := Option.some.inj H
   exact RetP.mk (fun κ => cond (Nat.beq κ 100) 202 (κ)) ⟨rfl, trivial⟩ ⟨rfl, trivial⟩ rfl
mutual
def spec_l00Put.l0 : Nat → List Int → Int → List Int → Bool → Int → Option ((List Int))
 | 0, _, _, _, _, _ => none
 | k + 1, x0, x1, x5, x6, x7 => if x7 < (x0.length : Int) then (if x6 = true then (spec_l00Put.j0 k x0 x1 x5 x6 x7 false) else (if 0 ≤ x7 then (spec_l00Put.j0 k x0 x1 x5 x6 x7 (decide ((rd2 x0 x7) ≥ x1))) else (none))) else (if x6 = true then (some x5) else (if x5.length < 17592186044416 then (some (x5 ++ [x1])) else (none)))
def spec_l00Put.j0 : Nat → List Int → Int → List Int → Bool → Int → Bool → Option ((List Int))
 | 0, _, _, _, _, _, _ => none
 | k + 1, x0, x1, x5, x6, x7, x24 => if x24 = true then (if 0 ≤ x7 then (if x7 < (x0.length : Int) then (if (rd2 x0 x7) > x1 then (if x5.length < 17592186044416 then ((some (x5 ++ [x1] : List Int)).bind fun y10 => (if y10.length < 17592186044416 then (spec_l00Put.l0 k x0 x1 (y10 ++ [(rd2 x0 x7)]) true (wrap64 (x7 + 1))) else (none))) else (none)) else (if x5.length < 17592186044416 then (spec_l00Put.l0 k x0 x1 (x5 ++ [(rd2 x0 x7)]) true (wrap64 (x7 + 1))) else (none))) else (none)) else (none)) else (if 0 ≤ x7 then (if x7 < (x0.length : Int) then (if x5.length < 17592186044416 then (spec_l00Put.l0 k x0 x1 (x5 ++ [(rd2 x0 x7)]) x6 (wrap64 (x7 + 1))) else (none)) else (none)) else (none))
end
def spec_l00Put.f (k : Nat) (l0 : List Int) (a1 : Int) : Option ((List Int)) := spec_l00Put.l0 k l0 a1 (([] : List Int) : List Int) false 0
set_option maxRecDepth 100000 in
theorem spec_l00Put.ok {k : Nat} {l0 : List Int} {a1 : Int} {r : List Int} (H : spec_l00Put.f k l0 a1 = some r) : OkF Tryz.prog 71 [vR 2 (l0.map c2), vI a1] [] (.c (.own 100 r.length)) [(100, .row 2 (r.map c2))] := by
 unfold spec_l00Put.f at H
 refine OkF.of (N := 49) (rs := [4]) (avs := [.c (.own 100 r.length)]) Tryz.func71 rfl rfl (fun _ _ => results_tmp rfl _ _ _) (by decide) rfl rfl rfl rfl (fun w0 S => ?_)
 refine AG.seq ?_
 refine AG.region HM ?_
 refine a_nilO (e := 2) 200 ?_ T2
 refine RA.nil nofun ?_
 refine AG.seq ?_
 refine AG.region HM ?_
 refine a_lit (cs := []) (D := []) (css := (([] : List Int) : List Int).map c2) 201 ?_ N29 T2 (hcss := by rfl)
 refine a_move (v := .c (.own _ _)) ?_
 refine RA.nil nofun ?_
 refine AG.seq ?_
 refine AG.region HM ?_
 refine a_move (v := vB _) ?_
 refine RA.nil nofun ?_
 refine AG.seq ?_
 refine AG.seq ?_
 refine AG.region HM ?_
 refine a_move (v := vI _) ?_
 refine RA.nil nofun ?_
 refine AG.block ?_
 refine AG.loop ?_
 obtain ⟨K0, hK0, gK0⟩ : ∃ K, k ≤ K ∧ K ≤ k := ⟨k, Nat.le_refl k, Nat.le_refl k⟩
 refine AGr.canon (fun κ => cond (Nat.beq κ 202) 201 (κ)) (AGr.loopI (n := k) (fun k s => k ≤ K0 ∧ ∃ (x0 : List Int) (x1 : Int) (x5 : List Int) (x6 : Bool) (x7 : Int), spec_l00Put.l0 k x0 x1 x5 x6 x7 = some r ∧ s = St.of [(0, vR 2 (x0.map c2)), (1, vI x1), (5, .c (.own 202 x5.length)), (6, vB x6), (7, vI x7)] [(202, .row 2 (x5.map c2))]) ⟨hK0, _, _, _, _, _, H, rfl⟩ ?_ ?_) ⟨rfl, rfl, (ownE rfl (by simp)), rfl, rfl, trivial⟩ ⟨rfl, trivial⟩ rfl
 ·rintro _ ⟨_, _, _, _, _, _, H, _⟩
  cases H
 ·clear H hK0
  rintro k ih0 _ ⟨hK0, x0, x1, x5, x6, x7, H, rfl⟩
  unfold spec_l00Put.l0 at H
  refine AG.seq ?_
  refine AG.seq ?_
  refine AG.region HM ?_
  refine a_move (v := vI _) ?_
  refine a_move (v := vR _ _) ?_
  refine a_lenR ?_ Tryz.underlying29
  refine a_int (u := .bool (decide (x7 < (x0.length : Int)))) ?_
  refine RA.nil nofun ?_
  by_cases hc2 : x7 < (x0.length : Int)
  ·rw [if_pos hc2] at H
   refine AG.yes rfl (decide_eq_true hc2) ?_
   refine AG.skip ?_
   refine AG.seq ?_
   refine AG.block ?_
   refine AG.seq ?_
   refine AG.seq ?_
   refine AG.joinR (fun s => ∃ q, q ≤ k ∧ ∃ (x0 : List Int) (x1 : Int) (x5 : List Int) (x6 : Bool) (x7 : Int) (x24 : Bool), spec_l00Put.j0 q x0 x1 x5 x6 x7 x24 = some r ∧ s = St.of [(0, vR 2 (x0.map c2)), (1, vI x1), (5, .c (.own 204 x5.length)), (6, vB x6), (7, vI x7), (24, vB x24)] [(204, .row 2 (x5.map c2))]) ?_ ?_
   ·skip
    refine AG.region HM ?_
    refine a_move (v := vB _) ?_
    refine a_un (u := .bool (!x6)) ?_
    refine a_move (v := vB _) ?_
    by_cases hc3 : x6 = true
    ·rw [if_pos hc3] at H
     refine RA.skip rfl rfl rfl rfl rfl (congrArg Bool.not hc3) (by decide) ?_
     refine RA.skip rfl rfl rfl rfl rfl (congrArg Bool.not hc3) (by decide) ?_
     refine RA.skip rfl rfl rfl rfl rfl (congrArg Bool.not hc3) (by decide) ?_
     refine RA.skip rfl rfl rfl rfl rfl (congrArg Bool.not hc3) (by decide) ?_
     refine RA.skip rfl rfl rfl rfl rfl (congrArg Bool.not hc3) (by decide) ?_
     refine RA.skip rfl rfl rfl rfl rfl (congrArg Bool.not hc3) (by decide) ?_
     refine a_pick (b := false) (v := vB _) ?_ (congrArg Bool.not hc3)
     refine RA.nil nofun ?_
     exact CanR.mk (fun κ => cond (Nat.beq κ 204) 202 (κ)) ⟨_, (by omega), _, _, _, _, _, _, H, rfl⟩ ⟨rfl, rfl, rfl, rfl, rfl, rfl, trivial⟩ ⟨rfl, trivial⟩ rfl
    ·rw [if_neg hc3] at H
     refine a_move (v := vR _ _) ?_ (hg := Gs.yes rfl rfl rfl (congrArg Bool.not (Bool.eq_false_iff.2 hc3)))
     refine a_move (v := vI _) ?_ (hg := Gs.yes rfl rfl rfl (congrArg Bool.not (Bool.eq_false_iff.2 hc3)))
     by_cases hc4 : 0 ≤ x7
     ·rw [if_pos hc4] at H
      refine a_ixR (el := c2 (rd2 x0 x7)) ?_ ⟨hc4, hc2⟩ T2 Tryz.underlying29 (hel := R2 hc4 hc2) (hg := Gs.yes rfl rfl rfl (congrArg Bool.not (Bool.eq_false_iff.2 hc3)))
      refine a_ldR (v := vI _) ?_ T2 (hg := Gs.yes rfl rfl rfl (congrArg Bool.not (Bool.eq_false_iff.2 hc3)))
      refine a_move (v := vI _) ?_ (hg := Gs.yes rfl rfl rfl (congrArg Bool.not (Bool.eq_false_iff.2 hc3)))
      refine a_int (u := .bool (decide ((rd2 x0 x7) ≥ x1))) ?_ (hg := Gs.yes rfl rfl rfl (congrArg Bool.not (Bool.eq_false_iff.2 hc3)))
      refine a_pick (b := true) (v := vB _) ?_ (congrArg Bool.not (Bool.eq_false_iff.2 hc3))
      refine RA.nil nofun ?_
      exact CanR.mk (fun κ => cond (Nat.beq κ 204) 202 (κ)) ⟨_, (by omega), _, _, _, _, _, _, H, rfl⟩ ⟨rfl, rfl, rfl, rfl, rfl, rfl, trivial⟩ ⟨rfl, trivial⟩ rfl
     ·rw [if_neg hc4] at H
      cases H
   ·clear H
    rintro _ ⟨k, hj0, x0, x1, x5, x6, x7, x24, H, rfl⟩
    cases k with
    | zero => cases H
    | succ k =>
     rw [spec_l00Put.j0] at H
     by_cases hc5 : x24 = true
     ·rw [if_pos hc5] at H
      refine AG.yes rfl hc5 ?_
      refine AG.seq ?_
      refine AG.region HM ?_
      refine a_move (v := vB _) ?_
      refine RA.nil nofun ?_
      refine AG.seq ?_
      refine AG.region HM ?_
      refine a_move (v := vR _ _) ?_
      refine a_move (v := vI _) ?_
      by_cases hc6 : 0 ≤ x7
      ·rw [if_pos hc6] at H
       by_cases hc7 : x7 < (x0.length : Int)
       ·rw [if_pos hc7] at H
        refine a_ixR (el := c2 (rd2 x0 x7)) ?_ ⟨hc6, hc7⟩ T2 Tryz.underlying29 (hel := R2 hc6 hc7)
        refine a_ldR (v := vI _) ?_ T2
        refine a_move (v := vI _) ?_
        refine a_int (u := .bool (decide ((rd2 x0 x7) > x1))) ?_
        refine RA.nil nofun ?_
        by_cases hc8 : (rd2 x0 x7) > x1
        ·rw [if_pos hc8] at H
         refine AG.yes rfl (decide_eq_true hc8) ?_
         refine AG.region HM ?_
         refine a_move (v := .c (.own _ _)) ?_
         refine a_move (v := vI _) ?_
         refine a_lit (cs := [_]) (D := []) (css := ([x1]).map c2) 205 ?_ N29 T2
         by_cases hc9 : x5.length < 17592186044416
         ·rw [if_pos hc9] at H
          obtain ⟨y10, ey10, H⟩ := bindO H
          have ey10 := Option.some.inj ey10
          refine a_appO (css' := y10.map c2) (n' := y10.length) ?_ T2 (by rw [← ey10]; simp [maxLen]; omega) (by rw [← ey10]; simp; omega) Tryz.underlying29 (hc := by rw [← ey10]; exact List.map_append.symm) (hn := by exact List.length_map _)
          refine a_move (v := .c (.own _ _)) ?_
          refine RA.nil nofun ?_
          refine AG.region HM ?_
          refine a_move (v := .c (.own _ _)) ?_
          refine a_move (v := vR _ _) ?_
          refine a_move (v := vI _) ?_
          refine a_ixR (el := c2 (rd2 x0 x7)) ?_ ⟨hc6, hc7⟩ T2 Tryz.underlying29 (hel := R2 hc6 hc7)
          refine a_ldR (v := vI _) ?_ T2
          refine a_lit (cs := [_]) (D := []) (css := ([(rd2 x0 x7)]).map c2) 206 ?_ N29 T2
          by_cases hc11 : y10.length < 17592186044416
          ·rw [if_pos hc11] at H
           refine a_appO (css' := (y10 ++ [(rd2 x0 x7)]).map c2) (n' := (y10 ++ [(rd2 x0 x7)]).length) ?_ T2 (by simp [maxLen]; omega) (by simp; omega) Tryz.underlying29 (hc := by exact List.map_append.symm) (hn := by exact List.length_map _)
           refine a_move (v := .c (.own _ _)) ?_
           refine RA.nil nofun ?_
           refine AG.region HM ?_
           refine a_move (v := vI _) ?_
           refine a_int (u := .int .i64 (wrap64 (x7 + 1))) ?_
           refine a_move (v := vI _) ?_
           refine RA.nil nofun ?_
           exact AGr.canon (fun κ => cond (Nat.beq κ 202) 204 (κ)) (ih0 _ (by omega) _ ⟨by omega, _, _, _, _, _, H, rfl⟩) ⟨rfl, rfl, rfl, rfl, rfl, trivial⟩ ⟨rfl, trivial⟩ rfl
          ·rw [if_neg hc11] at H
           cases H
         ·rw [if_neg hc9] at H
          cases H
        ·rw [if_neg hc8] at H
         refine AG.no rfl (decide_eq_false hc8) ?_
         refine AG.skip ?_
         refine AG.region HM ?_
         refine a_move (v := .c (.own _ _)) ?_
         refine a_move (v := vR _ _) ?_
         refine a_move (v := vI _) ?_
         refine a_ixR (el := c2 (rd2 x0 x7)) ?_ ⟨hc6, hc7⟩ T2 Tryz.underlying29 (hel := R2 hc6 hc7)
         refine a_ldR (v := vI _) ?_ T2
         refine a_lit (cs := [_]) (D := []) (css := ([(rd2 x0 x7)]).map c2) 206 ?_ N29 T2
         by_cases hc13 : x5.length < 17592186044416
         ·rw [if_pos hc13] at H
          refine a_appO (css' := (x5 ++ [(rd2 x0 x7)]).map c2) (n' := (x5 ++ [(rd2 x0 x7)]).length) ?_ T2 (by simp [maxLen]; omega) (by simp; omega) Tryz.underlying29 (hc := by exact List.map_append.symm) (hn := by exact List.length_map _)
          refine a_move (v := .c (.own _ _)) ?_
          refine RA.nil nofun ?_
          refine AG.region HM ?_
          refine a_move (v := vI _) ?_
          refine a_int (u := .int .i64 (wrap64 (x7 + 1))) ?_
          refine a_move (v := vI _) ?_
          refine RA.nil nofun ?_
          exact AGr.canon (fun κ => cond (Nat.beq κ 202) 204 (κ)) (ih0 _ (by omega) _ ⟨by omega, _, _, _, _, _, H, rfl⟩) ⟨rfl, rfl, rfl, rfl, rfl, trivial⟩ ⟨rfl, trivial⟩ rfl
         ·rw [if_neg hc13] at H
          cases H
       ·rw [if_neg hc7] at H
        cases H
      ·rw [if_neg hc6] at H
       cases H
     ·rw [if_neg hc5] at H
      refine AG.no rfl (Bool.eq_false_iff.2 hc5) ?_
      refine AG.skip ?_
      refine AG.region HM ?_
      refine a_move (v := .c (.own _ _)) ?_
      refine a_move (v := vR _ _) ?_
      refine a_move (v := vI _) ?_
      by_cases hc15 : 0 ≤ x7
      ·rw [if_pos hc15] at H
       by_cases hc16 : x7 < (x0.length : Int)
       ·rw [if_pos hc16] at H
        refine a_ixR (el := c2 (rd2 x0 x7)) ?_ ⟨hc15, hc16⟩ T2 Tryz.underlying29 (hel := R2 hc15 hc16)
        refine a_ldR (v := vI _) ?_ T2
        refine a_lit (cs := [_]) (D := []) (css := ([(rd2 x0 x7)]).map c2) 206 ?_ N29 T2
        by_cases hc17 : x5.length < 17592186044416
        ·rw [if_pos hc17] at H
         refine a_appO (css' := (x5 ++ [(rd2 x0 x7)]).map c2) (n' := (x5 ++ [(rd2 x0 x7)]).length) ?_ T2 (by simp [maxLen]; omega) (by simp; omega) Tryz.underlying29 (hc := by exact List.map_append.symm) (hn := by exact List.length_map _)
         refine a_move (v := .c (.own _ _)) ?_
         refine RA.nil nofun ?_
         refine AG.region HM ?_
         refine a_move (v := vI _) ?_
         refine a_int (u := .int .i64 (wrap64 (x7 + 1))) ?_
         refine a_move (v := vI _) ?_
         refine RA.nil nofun ?_
         exact AGr.canon (fun κ => cond (Nat.beq κ 202) 204 (κ)) (ih0 _ (by omega) _ ⟨by omega, _, _, _, _, _, H, rfl⟩) ⟨rfl, rfl, rfl, rfl, rfl, trivial⟩ ⟨rfl, trivial⟩ rfl
        ·rw [if_neg hc17] at H
         cases H
       ·rw [if_neg hc16] at H
        cases H
      ·rw [if_neg hc15] at H
       cases H
  ·rw [if_neg hc2] at H
   refine AG.no rfl (decide_eq_false hc2) ?_
   refine AG.exit ?_
   refine AG.seq ?_
   refine AG.seq ?_
   refine AG.region HM ?_
   refine a_move (v := vB _) ?_
   refine a_un (u := .bool (!x6)) ?_
   refine RA.nil nofun ?_
   by_cases hc19 : x6 = true
   ·rw [if_pos hc19] at H
    refine AG.no rfl (congrArg Bool.not hc19) ?_
    refine AG.skip ?_
    refine AG.seq ?_
    refine AG.region HM ?_
    refine a_move (v := .c (.own _ _)) ?_
    refine a_move (v := .c (.own _ _)) ?_
    refine RA.nil nofun ?_
    refine AG.ret ?_
    obtain rfl := Option.some.inj H
    exact RetP.mk (fun κ => cond (Nat.beq κ 100) 202 (κ)) ⟨rfl, trivial⟩ ⟨rfl, trivial⟩ rfl
   ·rw [if_neg hc19] at H
    refine AG.yes rfl (congrArg Bool.not (Bool.eq_false_iff.2 hc19)) ?_
    refine AG.region HM ?_
    refine a_move (v := .c (.own _ _)) ?_
    refine a_move (v := vI _) ?_
    refine a_lit (cs := [_]) (D := []) (css := ([x1]).map c2) 203 ?_ N29 T2
    by_cases hc20 : x5.length < 17592186044416
    ·rw [if_pos hc20] at H
     refine a_appO (css' := (x5 ++ [x1]).map c2) (n' := (x5 ++ [x1]).length) ?_ T2 (by simp [maxLen]; omega) (by simp; omega) Tryz.underlying29 (hc := by exact List.map_append.symm) (hn := by exact List.length_map _)
     refine a_move (v := .c (.own _ _)) ?_
     refine RA.nil nofun ?_
     refine AG.seq ?_
     refine AG.region HM ?_
     refine a_move (v := .c (.own _ _)) ?_
     refine a_move (v := .c (.own _ _)) ?_
     refine RA.nil nofun ?_
     refine AG.ret ?_
     obtain rfl := Option.some.inj H
     exact RetP.mk (fun κ => cond (Nat.beq κ 100) 202 (κ)) ⟨rfl, trivial⟩ ⟨rfl, trivial⟩ rfl
    ·rw [if_neg hc20] at H
     cases H
def spec_l09Xs.l0 : Nat → List S176 → List Int → Int → Option ((List Int))
 | 0, _, _, _ => none
 | k + 1, x0_8, x3, x4 => if x4 < (x0_8.length : Int) then (if 0 ≤ x4 then ((spec_l00Put.f k x3 ((rd176 x0_8 x4).f0)).bind fun t4 => ((spec_l00Put.f k t4 (wrap64 (((rd176 x0_8 x4).f0) + ((rd176 x0_8 x4).f2)))).bind fun t6 => (spec_l09Xs.l0 k x0_8 t6 (wrap64 (x4 + 1))))) else (none)) else (some x3)
def spec_l09Xs.f (k : Nat) (a0_0 : ByteArray) (a0_1 : ByteArray) (a0_2 : Int) (a0_3 : ByteArray) (a0_4 : Int) (a0_5 : Int) (a0_6 : Int) (a0_7 : Int) (l0_8 : List S176) : Option ((List Int)) := spec_l09Xs.l0 k l0_8 ([0, a0_6]) 0
set_option maxRecDepth 100000 in
theorem spec_l09Xs.ok {k : Nat} {a0_0 : ByteArray} {a0_1 : ByteArray} {a0_2 : Int} {a0_3 : ByteArray} {a0_4 : Int} {a0_5 : Int} {a0_6 : Int} {a0_7 : Int} {l0_8 : List S176} {r : List Int} (H : spec_l09Xs.f k a0_0 a0_1 a0_2 a0_3 a0_4 a0_5 a0_6 a0_7 l0_8 = some r) : OkF Tryz.prog 170 [.c (.d (.ro [.v (.string a0_0), .v (.string a0_1), .v (.int .i64 a0_2), .v (.string a0_3), .v (.int .i64 a0_4), .v (.int .i64 a0_5), .v (.int .i64 a0_6), .v (.int .i64 a0_7), .row 177 (l0_8.map c176)]))] [] (.c (.own 100 r.length)) [(100, .row 2 (r.map c2))] := by
 unfold spec_l09Xs.f at H
 refine OkF.of (N := 49) (rs := [2]) (avs := [.c (.own 100 r.length)]) Tryz.func170 rfl rfl (fun _ _ => results_tmp rfl _ _ _) (by decide) rfl rfl rfl rfl (fun w0 S => ?_)
 refine AG.seq ?_
 refine AG.region HM ?_
 refine a_nilO (e := 2) 200 ?_ T2
 refine RA.nil nofun ?_
 refine AG.seq ?_
 refine AG.region HM ?_
 refine a_move (v := vO [_, _, _, _, _, _, _, _, _]) ?_
 refine a_nil (v := vO [_, _, _, _, _, _, _, _, _]) ?_
 refine a_faR (cells' := [_, _, _]) ?_ D95_4
 refine a_ldR (v := vI _) ?_ T2
 refine a_lit (cs := [_, _]) (D := []) (css := ([0, a0_6]).map c2) 201 ?_ N29 T2 (hcss := by rfl)
 refine a_move (v := .c (.own _ _)) ?_
 refine RA.nil nofun ?_
 refine AG.seq ?_
 refine AG.seq ?_
 refine AG.region HM ?_
 refine a_move (v := vI _) ?_
 refine RA.nil nofun ?_
 refine AG.block ?_
 refine AG.loop ?_
 obtain ⟨K0, hK0, gK0⟩ : ∃ K, k ≤ K ∧ K ≤ k := ⟨k, Nat.le_refl k, Nat.le_refl k⟩
 refine AGr.canon (fun κ => cond (Nat.beq κ 202) 201 (κ)) (AGr.loopI (n := k) (fun k s => k ≤ K0 ∧ ∃ (x0_0 : ByteArray) (x0_1 : ByteArray) (x0_2 : Int) (x0_3 : ByteArray) (x0_4 : Int) (x0_5 : Int) (x0_6 : Int) (x0_7 : Int) (x0_8 : List S176) (x3 : List Int) (x4 : Int), spec_l09Xs.l0 k x0_8 x3 x4 = some r ∧ s = St.of [(0, .c (.d (.ro [.v (.string x0_0), .v (.string x0_1), .v (.int .i64 x0_2), .v (.string x0_3), .v (.int .i64 x0_4), .v (.int .i64 x0_5), .v (.int .i64 x0_6), .v (.int .i64 x0_7), .row 177 (x0_8.map c176)]))), (3, .c (.own 202 x3.length)), (4, vI x4)] [(202, .row 2 (x3.map c2))]) ⟨hK0, _, _, _, _, _, _, _, _, _, _, _, H, rfl⟩ ?_ ?_) ⟨rfl, (ownE rfl (by simp)), rfl, trivial⟩ ⟨rfl, trivial⟩ rfl
 ·rintro _ ⟨_, _, _, _, _, _, _, _, _, _, _, _, H, _⟩
  cases H
 ·clear H hK0
  rintro k ih0 _ ⟨hK0, x0_0, x0_1, x0_2, x0_3, x0_4, x0_5, x0_6, x0_7, x0_8, x3, x4, H, rfl⟩
  unfold spec_l09Xs.l0 at H
  refine AG.seq ?_
  refine AG.seq ?_
  refine AG.region HM ?_
  refine a_move (v := vI _) ?_
  refine a_move (v := vO [_, _, _, _, _, _, _, _, _]) ?_
  refine a_nil (v := vO [_, _, _, _, _, _, _, _, _]) ?_
  refine a_faR (cells' := [_]) ?_ D95_6
  refine a_ldR (v := vR _ _) ?_ T93
  refine a_lenR ?_ Tryz.underlying93
  refine a_int (u := .bool (decide (x4 < (x0_8.length : Int)))) ?_
  refine RA.nil nofun ?_
  by_cases hc2 : x4 < (x0_8.length : Int)
  ·rw [if_pos hc2] at H
   refine AG.yes rfl (decide_eq_true hc2) ?_
   refine AG.skip ?_
   refine AG.seq ?_
   refine AG.block ?_
   refine AG.seq ?_
   refine AG.region HM ?_
   refine a_move (v := .c (.own _ _)) ?_
   refine a_move (v := vO [_, _, _, _, _, _, _, _, _]) ?_
   refine a_nil (v := vO [_, _, _, _, _, _, _, _, _]) ?_
   refine a_faR (cells' := [_]) ?_ D95_6
   refine a_ldR (v := vR _ _) ?_ T93
   refine a_move (v := vI _) ?_
   by_cases hc3 : 0 ≤ x4
   ·rw [if_pos hc3] at H
    refine a_ixR (el := c176 (rd176 x0_8 x4)) ?_ ⟨hc3, hc2⟩ T177 Tryz.underlying93 (hel := R176 hc3 hc2)
    refine a_faR (cells' := [_, _, _, _]) ?_ D177_0
    refine a_ldR (v := vI _) ?_ T2
    obtain ⟨t4, e5, H⟩ := bindO H
    refine a_call (v := .c (.own 203 t4.length)) (nk := [(203, .row 2 (t4.map c2))]) (L := [(202, _)]) ?_ rfl (spec_l00Put.ok e5) (fun κ => cond (Nat.beq κ 203) 100 (κ)) (qc rO (qd qn)) ⟨rfl, trivial⟩ ⟨rfl, trivial⟩ ⟨rfl, trivial⟩ rfl
    refine a_move (v := .c (.own _ _)) ?_
    refine RA.nil nofun ?_
    refine AG.region HM ?_
    refine a_move (v := .c (.own _ _)) ?_
    refine a_move (v := vO [_, _, _, _, _, _, _, _, _]) ?_
    refine a_nil (v := vO [_, _, _, _, _, _, _, _, _]) ?_
    refine a_faR (cells' := [_]) ?_ D95_6
    refine a_ldR (v := vR _ _) ?_ T93
    refine a_move (v := vI _) ?_
    refine a_ixR (el := c176 (rd176 x0_8 x4)) ?_ ⟨hc3, hc2⟩ T177 Tryz.underlying93 (hel := R176 hc3 hc2)
    refine a_faR (cells' := [_, _, _, _]) ?_ D177_0
    refine a_ldR (v := vI _) ?_ T2
    refine a_move (v := vO [_, _, _, _, _, _, _, _, _]) ?_
    refine a_nil (v := vO [_, _, _, _, _, _, _, _, _]) ?_
    refine a_faR (cells' := [_]) ?_ D95_6
    refine a_ldR (v := vR _ _) ?_ T93
    refine a_move (v := vI _) ?_
    refine a_ixR (el := c176 (rd176 x0_8 x4)) ?_ ⟨hc3, hc2⟩ T177 Tryz.underlying93 (hel := R176 hc3 hc2)
    refine a_faR (cells' := [_, _]) ?_ D177_2
    refine a_ldR (v := vI _) ?_ T2
    refine a_int (u := .int .i64 (wrap64 (((rd176 x0_8 x4).f0) + ((rd176 x0_8 x4).f2)))) ?_
    obtain ⟨t6, e7, H⟩ := bindO H
    refine a_call (v := .c (.own 204 t6.length)) (nk := [(204, .row 2 (t6.map c2))]) (L := [(203, _)]) ?_ rfl (spec_l00Put.ok e7) (fun κ => cond (Nat.beq κ 204) 100 (κ)) (qc rO (qd qn)) ⟨rfl, trivial⟩ ⟨rfl, trivial⟩ ⟨rfl, trivial⟩ rfl
    refine a_move (v := .c (.own _ _)) ?_
    refine RA.nil (fun _ => by kernel_rfl) ?_
    refine AG.region HM ?_
    refine a_move (v := vI _) ?_
    refine a_int (u := .int .i64 (wrap64 (x4 + 1))) ?_
    refine a_move (v := vI _) ?_
    refine RA.nil nofun ?_
    exact AGr.canon (fun κ => cond (Nat.beq κ 202) 204 (κ)) (ih0 _ (by omega) _ ⟨by omega, _, _, _, _, _, _, _, _, _, _, _, H, rfl⟩) ⟨rfl, rfl, rfl, trivial⟩ ⟨rfl, trivial⟩ rfl
   ·rw [if_neg hc3] at H
    cases H
  ·rw [if_neg hc2] at H
   refine AG.no rfl (decide_eq_false hc2) ?_
   refine AG.exit ?_
   refine AG.seq ?_
   refine AG.region HM ?_
   refine a_move (v := .c (.own _ _)) ?_
   refine a_move (v := .c (.own _ _)) ?_
   refine RA.nil nofun ?_
   refine AG.ret ?_
   obtain rfl := Option.some.inj H
   exact RetP.mk (fun κ => cond (Nat.beq κ 100) 202 (κ)) ⟨rfl, trivial⟩ ⟨rfl, trivial⟩ rfl
def spec_l09Ys.l0 : Nat → List S176 → List Int → Int → Option ((List Int))
 | 0, _, _, _ => none
 | k + 1, x0_8, x3, x4 => if x4 < (x0_8.length : Int) then (if 0 ≤ x4 then ((spec_l00Put.f k x3 ((rd176 x0_8 x4).f1)).bind fun t4 => ((spec_l00Put.f k t4 (wrap64 (((rd176 x0_8 x4).f1) + ((rd176 x0_8 x4).f3)))).bind fun t6 => (spec_l09Ys.l0 k x0_8 t6 (wrap64 (x4 + 1))))) else (none)) else (some x3)
def spec_l09Ys.f (k : Nat) (a0_0 : ByteArray) (a0_1 : ByteArray) (a0_2 : Int) (a0_3 : ByteArray) (a0_4 : Int) (a0_5 : Int) (a0_6 : Int) (a0_7 : Int) (l0_8 : List S176) : Option ((List Int)) := spec_l09Ys.l0 k l0_8 ([0, a0_7]) 0
set_option maxRecDepth 100000 in
theorem spec_l09Ys.ok {k : Nat} {a0_0 : ByteArray} {a0_1 : ByteArray} {a0_2 : Int} {a0_3 : ByteArray} {a0_4 : Int} {a0_5 : Int} {a0_6 : Int} {a0_7 : Int} {l0_8 : List S176} {r : List Int} (H : spec_l09Ys.f k a0_0 a0_1 a0_2 a0_3 a0_4 a0_5 a0_6 a0_7 l0_8 = some r) : OkF Tryz.prog 171 [.c (.d (.ro [.v (.string a0_0), .v (.string a0_1), .v (.int .i64 a0_2), .v (.string a0_3), .v (.int .i64 a0_4), .v (.int .i64 a0_5), .v (.int .i64 a0_6), .v (.int .i64 a0_7), .row 177 (l0_8.map c176)]))] [] (.c (.own 100 r.length)) [(100, .row 2 (r.map c2))] := by
 unfold spec_l09Ys.f at H
 refine OkF.of (N := 49) (rs := [2]) (avs := [.c (.own 100 r.length)]) Tryz.func171 rfl rfl (fun _ _ => results_tmp rfl _ _ _) (by decide) rfl rfl rfl rfl (fun w0 S => ?_)
 refine AG.seq ?_
 refine AG.region HM ?_
 refine a_nilO (e := 2) 200 ?_ T2
 refine RA.nil nofun ?_
 refine AG.seq ?_
 refine AG.region HM ?_
 refine a_move (v := vO [_, _, _, _, _, _, _, _, _]) ?_
 refine a_nil (v := vO [_, _, _, _, _, _, _, _, _]) ?_
 refine a_faR (cells' := [_, _]) ?_ D95_5
 refine a_ldR (v := vI _) ?_ T2
 refine a_lit (cs := [_, _]) (D := []) (css := ([0, a0_7]).map c2) 201 ?_ N29 T2 (hcss := by rfl)
 refine a_move (v := .c (.own _ _)) ?_
 refine RA.nil nofun ?_
 refine AG.seq ?_
 refine AG.seq ?_
 refine AG.region HM ?_
 refine a_move (v := vI _) ?_
 refine RA.nil nofun ?_
 refine AG.block ?_
 refine AG.loop ?_
 obtain ⟨K0, hK0, gK0⟩ : ∃ K, k ≤ K ∧ K ≤ k := ⟨k, Nat.le_refl k, Nat.le_refl k⟩
 refine AGr.canon (fun κ => cond (Nat.beq κ 202) 201 (κ)) (AGr.loopI (n := k) (fun k s => k ≤ K0 ∧ ∃ (x0_0 : ByteArray) (x0_1 : ByteArray) (x0_2 : Int) (x0_3 : ByteArray) (x0_4 : Int) (x0_5 : Int) (x0_6 : Int) (x0_7 : Int) (x0_8 : List S176) (x3 : List Int) (x4 : Int), spec_l09Ys.l0 k x0_8 x3 x4 = some r ∧ s = St.of [(0, .c (.d (.ro [.v (.string x0_0), .v (.string x0_1), .v (.int .i64 x0_2), .v (.string x0_3), .v (.int .i64 x0_4), .v (.int .i64 x0_5), .v (.int .i64 x0_6), .v (.int .i64 x0_7), .row 177 (x0_8.map c176)]))), (3, .c (.own 202 x3.length)), (4, vI x4)] [(202, .row 2 (x3.map c2))]) ⟨hK0, _, _, _, _, _, _, _, _, _, _, _, H, rfl⟩ ?_ ?_) ⟨rfl, (ownE rfl (by simp)), rfl, trivial⟩ ⟨rfl, trivial⟩ rfl
 ·rintro _ ⟨_, _, _, _, _, _, _, _, _, _, _, _, H, _⟩
  cases H
 ·clear H hK0
  rintro k ih0 _ ⟨hK0, x0_0, x0_1, x0_2, x0_3, x0_4, x0_5, x0_6, x0_7, x0_8, x3, x4, H, rfl⟩
  unfold spec_l09Ys.l0 at H
  refine AG.seq ?_
  refine AG.seq ?_
  refine AG.region HM ?_
  refine a_move (v := vI _) ?_
  refine a_move (v := vO [_, _, _, _, _, _, _, _, _]) ?_
  refine a_nil (v := vO [_, _, _, _, _, _, _, _, _]) ?_
  refine a_faR (cells' := [_]) ?_ D95_6
  refine a_ldR (v := vR _ _) ?_ T93
  refine a_lenR ?_ Tryz.underlying93
  refine a_int (u := .bool (decide (x4 < (x0_8.length : Int)))) ?_
  refine RA.nil nofun ?_
  by_cases hc2 : x4 < (x0_8.length : Int)
  ·rw [if_pos hc2] at H
   refine AG.yes rfl (decide_eq_true hc2) ?_
   refine AG.skip ?_
   refine AG.seq ?_
   refine AG.block ?_
   refine AG.seq ?_
   refine AG.region HM ?_
   refine a_move (v := .c (.own _ _)) ?_
   refine a_move (v := vO [_, _, _, _, _, _, _, _, _]) ?_
   refine a_nil (v := vO [_, _, _, _, _, _, _, _, _]) ?_
   refine a_faR (cells' := [_]) ?_ D95_6
   refine a_ldR (v := vR _ _) ?_ T93
   refine a_move (v := vI _) ?_
   by_cases hc3 : 0 ≤ x4
   ·rw [if_pos hc3] at H
    refine a_ixR (el := c176 (rd176 x0_8 x4)) ?_ ⟨hc3, hc2⟩ T177 Tryz.underlying93 (hel := R176 hc3 hc2)
    refine a_faR (cells' := [_, _, _]) ?_ D177_1
    refine a_ldR (v := vI _) ?_ T2
    obtain ⟨t4, e5, H⟩ := bindO H
    refine a_call (v := .c (.own 203 t4.length)) (nk := [(203, .row 2 (t4.map c2))]) (L := [(202, _)]) ?_ rfl (spec_l00Put.ok e5) (fun κ => cond (Nat.beq κ 203) 100 (κ)) (qc rO (qd qn)) ⟨rfl, trivial⟩ ⟨rfl, trivial⟩ ⟨rfl, trivial⟩ rfl
    refine a_move (v := .c (.own _ _)) ?_
    refine RA.nil nofun ?_
    refine AG.region HM ?_
    refine a_move (v := .c (.own _ _)) ?_
    refine a_move (v := vO [_, _, _, _, _, _, _, _, _]) ?_
    refine a_nil (v := vO [_, _, _, _, _, _, _, _, _]) ?_
    refine a_faR (cells' := [_]) ?_ D95_6
    refine a_ldR (v := vR _ _) ?_ T93
    refine a_move (v := vI _) ?_
    refine a_ixR (el := c176 (rd176 x0_8 x4)) ?_ ⟨hc3, hc2⟩ T177 Tryz.underlying93 (hel := R176 hc3 hc2)
    refine a_faR (cells' := [_, _, _]) ?_ D177_1
    refine a_ldR (v := vI _) ?_ T2
    refine a_move (v := vO [_, _, _, _, _, _, _, _, _]) ?_
    refine a_nil (v := vO [_, _, _, _, _, _, _, _, _]) ?_
    refine a_faR (cells' := [_]) ?_ D95_6
    refine a_ldR (v := vR _ _) ?_ T93
    refine a_move (v := vI _) ?_
    refine a_ixR (el := c176 (rd176 x0_8 x4)) ?_ ⟨hc3, hc2⟩ T177 Tryz.underlying93 (hel := R176 hc3 hc2)
    refine a_faR (cells' := [_]) ?_ D177_3
    refine a_ldR (v := vI _) ?_ T2
    refine a_int (u := .int .i64 (wrap64 (((rd176 x0_8 x4).f1) + ((rd176 x0_8 x4).f3)))) ?_
    obtain ⟨t6, e7, H⟩ := bindO H
    refine a_call (v := .c (.own 204 t6.length)) (nk := [(204, .row 2 (t6.map c2))]) (L := [(203, _)]) ?_ rfl (spec_l00Put.ok e7) (fun κ => cond (Nat.beq κ 204) 100 (κ)) (qc rO (qd qn)) ⟨rfl, trivial⟩ ⟨rfl, trivial⟩ ⟨rfl, trivial⟩ rfl
    refine a_move (v := .c (.own _ _)) ?_
    refine RA.nil (fun _ => by kernel_rfl) ?_
    refine AG.region HM ?_
    refine a_move (v := vI _) ?_
    refine a_int (u := .int .i64 (wrap64 (x4 + 1))) ?_
    refine a_move (v := vI _) ?_
    refine RA.nil nofun ?_
    exact AGr.canon (fun κ => cond (Nat.beq κ 202) 204 (κ)) (ih0 _ (by omega) _ ⟨by omega, _, _, _, _, _, _, _, _, _, _, _, H, rfl⟩) ⟨rfl, rfl, rfl, trivial⟩ ⟨rfl, trivial⟩ rfl
   ·rw [if_neg hc3] at H
    cases H
  ·rw [if_neg hc2] at H
   refine AG.no rfl (decide_eq_false hc2) ?_
   refine AG.exit ?_
   refine AG.seq ?_
   refine AG.region HM ?_
   refine a_move (v := .c (.own _ _)) ?_
   refine a_move (v := .c (.own _ _)) ?_
   refine RA.nil nofun ?_
   refine AG.ret ?_
   obtain rfl := Option.some.inj H
   exact RetP.mk (fun κ => cond (Nat.beq κ 100) 202 (κ)) ⟨rfl, trivial⟩ ⟨rfl, trivial⟩ rfl
def spec_l09Meet.f (a0_0 : Int) (a0_1 : Int) (a0_2 : Int) (a0_3 : Int) (a1_0 : Int) (a1_1 : Int) (a1_2 : Int) (a1_3 : Int) : Option (Bool) := if a0_0 < (wrap64 (a1_0 + a1_2)) then (if a1_0 < (wrap64 (a0_0 + a0_2)) then (if a0_1 < (wrap64 (a1_1 + a1_3)) then (some (decide (a1_1 < (wrap64 (a0_1 + a0_3))))) else (some false)) else (some false)) else (some false)
set_option maxRecDepth 100000 in
theorem spec_l09Meet.ok {a0_0 : Int} {a0_1 : Int} {a0_2 : Int} {a0_3 : Int} {a1_0 : Int} {a1_1 : Int} {a1_2 : Int} {a1_3 : Int} {r : Bool} (H : spec_l09Meet.f a0_0 a0_1 a0_2 a0_3 a1_0 a1_1 a1_2 a1_3 = some r) : OkF Tryz.prog 204 [.c (.d (.ro [.v (.int .i64 a0_0), .v (.int .i64 a0_1), .v (.int .i64 a0_2), .v (.int .i64 a0_3)])), .c (.d (.ro [.v (.int .i64 a1_0), .v (.int .i64 a1_1), .v (.int .i64 a1_2), .v (.int .i64 a1_3)]))] [] (.c (.d (.v (.bool r)))) [] := by
 unfold spec_l09Meet.f at H
 refine OkF.of (N := 67) (rs := [4]) (avs := [.c (.d (.v (.bool r)))]) Tryz.func204 rfl rfl (fun _ _ => results_tmp rfl _ _ _) (by decide) rfl rfl rfl rfl (fun w0 S => ?_)
 refine AG.seq ?_
 refine AG.region HM ?_
 refine a_move (v := vB _) ?_
 refine RA.nil nofun ?_
 refine AG.seq ?_
 refine AG.region HM ?_
 refine a_move (v := vO [_, _, _, _]) ?_
 refine a_nil (v := vO [_, _, _, _]) ?_
 refine a_faR (cells' := [_, _, _, _]) ?_ D177_0
 refine a_ldR (v := vI _) ?_ T2
 refine a_move (v := vO [_, _, _, _]) ?_
 refine a_nil (v := vO [_, _, _, _]) ?_
 refine a_faR (cells' := [_, _, _, _]) ?_ D177_0
 refine a_ldR (v := vI _) ?_ T2
 refine a_move (v := vO [_, _, _, _]) ?_
 refine a_nil (v := vO [_, _, _, _]) ?_
 refine a_faR (cells' := [_, _]) ?_ D177_2
 refine a_ldR (v := vI _) ?_ T2
 refine a_int (u := .int .i64 (wrap64 (a1_0 + a1_2))) ?_
 refine a_int (u := .bool (decide (a0_0 < (wrap64 (a1_0 + a1_2))))) ?_
 refine a_move (v := vB _) ?_
 by_cases hc1 : a0_0 < (wrap64 (a1_0 + a1_2))
 ·rw [if_pos hc1] at H
  refine a_move (v := vO [_, _, _, _]) ?_ (hg := Gs.yes rfl rfl rfl (decide_eq_true hc1))
  refine a_nil (v := vO [_, _, _, _]) ?_ (hg := Gs.yes rfl rfl rfl (decide_eq_true hc1))
  refine a_faR (cells' := [_, _, _, _]) ?_ D177_0 (hg := Gs.yes rfl rfl rfl (decide_eq_true hc1))
  refine a_ldR (v := vI _) ?_ T2 (hg := Gs.yes rfl rfl rfl (decide_eq_true hc1))
  refine a_move (v := vO [_, _, _, _]) ?_ (hg := Gs.yes rfl rfl rfl (decide_eq_true hc1))
  refine a_nil (v := vO [_, _, _, _]) ?_ (hg := Gs.yes rfl rfl rfl (decide_eq_true hc1))
  refine a_faR (cells' := [_, _, _, _]) ?_ D177_0 (hg := Gs.yes rfl rfl rfl (decide_eq_true hc1))
  refine a_ldR (v := vI _) ?_ T2 (hg := Gs.yes rfl rfl rfl (decide_eq_true hc1))
  refine a_move (v := vO [_, _, _, _]) ?_ (hg := Gs.yes rfl rfl rfl (decide_eq_true hc1))
  refine a_nil (v := vO [_, _, _, _]) ?_ (hg := Gs.yes rfl rfl rfl (decide_eq_true hc1))
  refine a_faR (cells' := [_, _]) ?_ D177_2 (hg := Gs.yes rfl rfl rfl (decide_eq_true hc1))
  refine a_ldR (v := vI _) ?_ T2 (hg := Gs.yes rfl rfl rfl (decide_eq_true hc1))
  refine a_int (u := .int .i64 (wrap64 (a0_0 + a0_2))) ?_ (hg := Gs.yes rfl rfl rfl (decide_eq_true hc1))
  refine a_int (u := .bool (decide (a1_0 < (wrap64 (a0_0 + a0_2))))) ?_ (hg := Gs.yes rfl rfl rfl (decide_eq_true hc1))
  refine a_pick (b := true) (v := vB _) ?_ (decide_eq_true hc1)
  refine a_move (v := vB _) ?_
  by_cases hc2 : a1_0 < (wrap64 (a0_0 + a0_2))
  ·rw [if_pos hc2] at H
   refine a_move (v := vO [_, _, _, _]) ?_ (hg := Gs.yes rfl rfl rfl (decide_eq_true hc2))
   refine a_nil (v := vO [_, _, _, _]) ?_ (hg := Gs.yes rfl rfl rfl (decide_eq_true hc2))
   refine a_faR (cells' := [_, _, _]) ?_ D177_1 (hg := Gs.yes rfl rfl rfl (decide_eq_true hc2))
   refine a_ldR (v := vI _) ?_ T2 (hg := Gs.yes rfl rfl rfl (decide_eq_true hc2))
   refine a_move (v := vO [_, _, _, _]) ?_ (hg := Gs.yes rfl rfl rfl (decide_eq_true hc2))
   refine a_nil (v := vO [_, _, _, _]) ?_ (hg := Gs.yes rfl rfl rfl (decide_eq_true hc2))
   refine a_faR (cells' := [_, _, _]) ?_ D177_1 (hg := Gs.yes rfl rfl rfl (decide_eq_true hc2))
   refine a_ldR (v := vI _) ?_ T2 (hg := Gs.yes rfl rfl rfl (decide_eq_true hc2))
   refine a_move (v := vO [_, _, _, _]) ?_ (hg := Gs.yes rfl rfl rfl (decide_eq_true hc2))
   refine a_nil (v := vO [_, _, _, _]) ?_ (hg := Gs.yes rfl rfl rfl (decide_eq_true hc2))
   refine a_faR (cells' := [_]) ?_ D177_3 (hg := Gs.yes rfl rfl rfl (decide_eq_true hc2))
   refine a_ldR (v := vI _) ?_ T2 (hg := Gs.yes rfl rfl rfl (decide_eq_true hc2))
   refine a_int (u := .int .i64 (wrap64 (a1_1 + a1_3))) ?_ (hg := Gs.yes rfl rfl rfl (decide_eq_true hc2))
   refine a_int (u := .bool (decide (a0_1 < (wrap64 (a1_1 + a1_3))))) ?_ (hg := Gs.yes rfl rfl rfl (decide_eq_true hc2))
   refine a_pick (b := true) (v := vB _) ?_ (decide_eq_true hc2)
   refine a_move (v := vB _) ?_
   by_cases hc3 : a0_1 < (wrap64 (a1_1 + a1_3))
   ·rw [if_pos hc3] at H
    refine a_move (v := vO [_, _, _, _]) ?_ (hg := Gs.yes rfl rfl rfl (decide_eq_true hc3))
    refine a_nil (v := vO [_, _, _, _]) ?_ (hg := Gs.yes rfl rfl rfl (decide_eq_true hc3))
    refine a_faR (cells' := [_, _, _]) ?_ D177_1 (hg := Gs.yes rfl rfl rfl (decide_eq_true hc3))
    refine a_ldR (v := vI _) ?_ T2 (hg := Gs.yes rfl rfl rfl (decide_eq_true hc3))
    refine a_move (v := vO [_, _, _, _]) ?_ (hg := Gs.yes rfl rfl rfl (decide_eq_true hc3))
    refine a_nil (v := vO [_, _, _, _]) ?_ (hg := Gs.yes rfl rfl rfl (decide_eq_true hc3))
    refine a_faR (cells' := [_, _, _]) ?_ D177_1 (hg := Gs.yes rfl rfl rfl (decide_eq_true hc3))
    refine a_ldR (v := vI _) ?_ T2 (hg := Gs.yes rfl rfl rfl (decide_eq_true hc3))
    refine a_move (v := vO [_, _, _, _]) ?_ (hg := Gs.yes rfl rfl rfl (decide_eq_true hc3))
    refine a_nil (v := vO [_, _, _, _]) ?_ (hg := Gs.yes rfl rfl rfl (decide_eq_true hc3))
    refine a_faR (cells' := [_]) ?_ D177_3 (hg := Gs.yes rfl rfl rfl (decide_eq_true hc3))
    refine a_ldR (v := vI _) ?_ T2 (hg := Gs.yes rfl rfl rfl (decide_eq_true hc3))
    refine a_int (u := .int .i64 (wrap64 (a0_1 + a0_3))) ?_ (hg := Gs.yes rfl rfl rfl (decide_eq_true hc3))
    refine a_int (u := .bool (decide (a1_1 < (wrap64 (a0_1 + a0_3))))) ?_ (hg := Gs.yes rfl rfl rfl (decide_eq_true hc3))
    refine a_pick (b := true) (v := vB _) ?_ (decide_eq_true hc3)
    refine a_move (v := vB _) ?_
    refine RA.nil (fun _ => by kernel_rfl) ?_
    refine AG.ret ?_
    obtain rfl := Option.some.inj H
    exact RetP.mk id ⟨rfl, trivial⟩ trivial rfl
   ·rw [if_neg hc3] at H
    refine RA.skip rfl rfl rfl rfl rfl (decide_eq_false hc3) (by decide) ?_
    refine RA.skip rfl rfl rfl rfl rfl (decide_eq_false hc3) (by decide) ?_
    refine RA.skip rfl rfl rfl rfl rfl (decide_eq_false hc3) (by decide) ?_
    refine RA.skip rfl rfl rfl rfl rfl (decide_eq_false hc3) (by decide) ?_
    refine RA.skip rfl rfl rfl rfl rfl (decide_eq_false hc3) (by decide) ?_
    refine RA.skip rfl rfl rfl rfl rfl (decide_eq_false hc3) (by decide) ?_
    refine RA.skip rfl rfl rfl rfl rfl (decide_eq_false hc3) (by decide) ?_
    refine RA.skip rfl rfl rfl rfl rfl (decide_eq_false hc3) (by decide) ?_
    refine RA.skip rfl rfl rfl rfl rfl (decide_eq_false hc3) (by decide) ?_
    refine RA.skip rfl rfl rfl rfl rfl (decide_eq_false hc3) (by decide) ?_
    refine RA.skip rfl rfl rfl rfl rfl (decide_eq_false hc3) (by decide) ?_
    refine RA.skip rfl rfl rfl rfl rfl (decide_eq_false hc3) (by decide) ?_
    refine RA.skip rfl rfl rfl rfl rfl (decide_eq_false hc3) (by decide) ?_
    refine RA.skip rfl rfl rfl rfl rfl (decide_eq_false hc3) (by decide) ?_
    refine a_pick (b := false) (v := vB _) ?_ (decide_eq_false hc3)
    refine a_move (v := vB _) ?_
    refine RA.nil (fun _ => by kernel_rfl) ?_
    refine AG.ret ?_
    obtain rfl := Option.some.inj H
    exact RetP.mk id ⟨rfl, trivial⟩ trivial rfl
  ·rw [if_neg hc2] at H
   refine RA.skip rfl rfl rfl rfl rfl (decide_eq_false hc2) (by decide) ?_
   refine RA.skip rfl rfl rfl rfl rfl (decide_eq_false hc2) (by decide) ?_
   refine RA.skip rfl rfl rfl rfl rfl (decide_eq_false hc2) (by decide) ?_
   refine RA.skip rfl rfl rfl rfl rfl (decide_eq_false hc2) (by decide) ?_
   refine RA.skip rfl rfl rfl rfl rfl (decide_eq_false hc2) (by decide) ?_
   refine RA.skip rfl rfl rfl rfl rfl (decide_eq_false hc2) (by decide) ?_
   refine RA.skip rfl rfl rfl rfl rfl (decide_eq_false hc2) (by decide) ?_
   refine RA.skip rfl rfl rfl rfl rfl (decide_eq_false hc2) (by decide) ?_
   refine RA.skip rfl rfl rfl rfl rfl (decide_eq_false hc2) (by decide) ?_
   refine RA.skip rfl rfl rfl rfl rfl (decide_eq_false hc2) (by decide) ?_
   refine RA.skip rfl rfl rfl rfl rfl (decide_eq_false hc2) (by decide) ?_
   refine RA.skip rfl rfl rfl rfl rfl (decide_eq_false hc2) (by decide) ?_
   refine RA.skip rfl rfl rfl rfl rfl (decide_eq_false hc2) (by decide) ?_
   refine RA.skip rfl rfl rfl rfl rfl (decide_eq_false hc2) (by decide) ?_
   refine a_pick (b := false) (v := vB _) ?_ (decide_eq_false hc2)
   refine a_move (v := vB _) ?_
   refine RA.skip rfl rfl rfl rfl rfl rfl (by decide) ?_
   refine RA.skip rfl rfl rfl rfl rfl rfl (by decide) ?_
   refine RA.skip rfl rfl rfl rfl rfl rfl (by decide) ?_
   refine RA.skip rfl rfl rfl rfl rfl rfl (by decide) ?_
   refine RA.skip rfl rfl rfl rfl rfl rfl (by decide) ?_
   refine RA.skip rfl rfl rfl rfl rfl rfl (by decide) ?_
   refine RA.skip rfl rfl rfl rfl rfl rfl (by decide) ?_
   refine RA.skip rfl rfl rfl rfl rfl rfl (by decide) ?_
   refine RA.skip rfl rfl rfl rfl rfl rfl (by decide) ?_
   refine RA.skip rfl rfl rfl rfl rfl rfl (by decide) ?_
   refine RA.skip rfl rfl rfl rfl rfl rfl (by decide) ?_
   refine RA.skip rfl rfl rfl rfl rfl rfl (by decide) ?_
   refine RA.skip rfl rfl rfl rfl rfl rfl (by decide) ?_
   refine RA.skip rfl rfl rfl rfl rfl rfl (by decide) ?_
   refine a_pick (b := false) (v := vB _) ?_ rfl
   refine a_move (v := vB _) ?_
   refine RA.nil (fun _ => by kernel_rfl) ?_
   refine AG.ret ?_
   obtain rfl := Option.some.inj H
   exact RetP.mk id ⟨rfl, trivial⟩ trivial rfl
 ·rw [if_neg hc1] at H
  refine RA.skip rfl rfl rfl rfl rfl (decide_eq_false hc1) (by decide) ?_
  refine RA.skip rfl rfl rfl rfl rfl (decide_eq_false hc1) (by decide) ?_
  refine RA.skip rfl rfl rfl rfl rfl (decide_eq_false hc1) (by decide) ?_
  refine RA.skip rfl rfl rfl rfl rfl (decide_eq_false hc1) (by decide) ?_
  refine RA.skip rfl rfl rfl rfl rfl (decide_eq_false hc1) (by decide) ?_
  refine RA.skip rfl rfl rfl rfl rfl (decide_eq_false hc1) (by decide) ?_
  refine RA.skip rfl rfl rfl rfl rfl (decide_eq_false hc1) (by decide) ?_
  refine RA.skip rfl rfl rfl rfl rfl (decide_eq_false hc1) (by decide) ?_
  refine RA.skip rfl rfl rfl rfl rfl (decide_eq_false hc1) (by decide) ?_
  refine RA.skip rfl rfl rfl rfl rfl (decide_eq_false hc1) (by decide) ?_
  refine RA.skip rfl rfl rfl rfl rfl (decide_eq_false hc1) (by decide) ?_
  refine RA.skip rfl rfl rfl rfl rfl (decide_eq_false hc1) (by decide) ?_
  refine RA.skip rfl rfl rfl rfl rfl (decide_eq_false hc1) (by decide) ?_
  refine RA.skip rfl rfl rfl rfl rfl (decide_eq_false hc1) (by decide) ?_
  refine a_pick (b := false) (v := vB _) ?_ (decide_eq_false hc1)
  refine a_move (v := vB _) ?_
  refine RA.skip rfl rfl rfl rfl rfl rfl (by decide) ?_
  refine RA.skip rfl rfl rfl rfl rfl rfl (by decide) ?_
  refine RA.skip rfl rfl rfl rfl rfl rfl (by decide) ?_
  refine RA.skip rfl rfl rfl rfl rfl rfl (by decide) ?_
  refine RA.skip rfl rfl rfl rfl rfl rfl (by decide) ?_
  refine RA.skip rfl rfl rfl rfl rfl rfl (by decide) ?_
  refine RA.skip rfl rfl rfl rfl rfl rfl (by decide) ?_
  refine RA.skip rfl rfl rfl rfl rfl rfl (by decide) ?_
  refine RA.skip rfl rfl rfl rfl rfl rfl (by decide) ?_
  refine RA.skip rfl rfl rfl rfl rfl rfl (by decide) ?_
  refine RA.skip rfl rfl rfl rfl rfl rfl (by decide) ?_
  refine RA.skip rfl rfl rfl rfl rfl rfl (by decide) ?_
  refine RA.skip rfl rfl rfl rfl rfl rfl (by decide) ?_
  refine RA.skip rfl rfl rfl rfl rfl rfl (by decide) ?_
  refine a_pick (b := false) (v := vB _) ?_ rfl
  refine a_move (v := vB _) ?_
  refine RA.skip rfl rfl rfl rfl rfl rfl (by decide) ?_
  refine RA.skip rfl rfl rfl rfl rfl rfl (by decide) ?_
  refine RA.skip rfl rfl rfl rfl rfl rfl (by decide) ?_
  refine RA.skip rfl rfl rfl rfl rfl rfl (by decide) ?_
  refine RA.skip rfl rfl rfl rfl rfl rfl (by decide) ?_
  refine RA.skip rfl rfl rfl rfl rfl rfl (by decide) ?_
  refine RA.skip rfl rfl rfl rfl rfl rfl (by decide) ?_
  refine RA.skip rfl rfl rfl rfl rfl rfl (by decide) ?_
  refine RA.skip rfl rfl rfl rfl rfl rfl (by decide) ?_
  refine RA.skip rfl rfl rfl rfl rfl rfl (by decide) ?_
  refine RA.skip rfl rfl rfl rfl rfl rfl (by decide) ?_
  refine RA.skip rfl rfl rfl rfl rfl rfl (by decide) ?_
  refine RA.skip rfl rfl rfl rfl rfl rfl (by decide) ?_
  refine RA.skip rfl rfl rfl rfl rfl rfl (by decide) ?_
  refine a_pick (b := false) (v := vB _) ?_ rfl
  refine a_move (v := vB _) ?_
  refine RA.nil (fun _ => by kernel_rfl) ?_
  refine AG.ret ?_
  obtain rfl := Option.some.inj H
  exact RetP.mk id ⟨rfl, trivial⟩ trivial rfl
def spec_l09Clear.l0 : Nat → List S176 → Int → Int → Int → Int → Int → Option (Bool)
 | 0, _, _, _, _, _, _ => none
 | k + 1, x0_8, x1_0, x1_1, x1_2, x1_3, x5 => if x5 < (x0_8.length : Int) then (if 0 ≤ x5 then ((spec_l09Meet.f x1_0 x1_1 x1_2 x1_3 ((rd176 x0_8 x5).f0) ((rd176 x0_8 x5).f1) ((rd176 x0_8 x5).f2) ((rd176 x0_8 x5).f3)).bind fun t3 => (if t3 = true then (some false) else (spec_l09Clear.l0 k x0_8 x1_0 x1_1 x1_2 x1_3 (wrap64 (x5 + 1))))) else (none)) else (some true)
def spec_l09Clear.f (k : Nat) (a0_0 : ByteArray) (a0_1 : ByteArray) (a0_2 : Int) (a0_3 : ByteArray) (a0_4 : Int) (a0_5 : Int) (a0_6 : Int) (a0_7 : Int) (l0_8 : List S176) (a1_0 : Int) (a1_1 : Int) (a1_2 : Int) (a1_3 : Int) : Option (Bool) := spec_l09Clear.l0 k l0_8 a1_0 a1_1 a1_2 a1_3 0
set_option maxRecDepth 100000 in
theorem spec_l09Clear.ok {k : Nat} {a0_0 : ByteArray} {a0_1 : ByteArray} {a0_2 : Int} {a0_3 : ByteArray} {a0_4 : Int} {a0_5 : Int} {a0_6 : Int} {a0_7 : Int} {l0_8 : List S176} {a1_0 : Int} {a1_1 : Int} {a1_2 : Int} {a1_3 : Int} {r : Bool} (H : spec_l09Clear.f k a0_0 a0_1 a0_2 a0_3 a0_4 a0_5 a0_6 a0_7 l0_8 a1_0 a1_1 a1_2 a1_3 = some r) : OkF Tryz.prog 172 [.c (.d (.ro [.v (.string a0_0), .v (.string a0_1), .v (.int .i64 a0_2), .v (.string a0_3), .v (.int .i64 a0_4), .v (.int .i64 a0_5), .v (.int .i64 a0_6), .v (.int .i64 a0_7), .row 177 (l0_8.map c176)])), .c (.d (.ro [.v (.int .i64 a1_0), .v (.int .i64 a1_1), .v (.int .i64 a1_2), .v (.int .i64 a1_3)]))] [] (.c (.d (.v (.bool r)))) [] := by
 unfold spec_l09Clear.f at H
 refine OkF.of (N := 23) (rs := [4]) (avs := [.c (.d (.v (.bool r)))]) Tryz.func172 rfl rfl (fun _ _ => results_tmp rfl _ _ _) (by decide) rfl rfl rfl rfl (fun w0 S => ?_)
 refine AG.seq ?_
 refine AG.region HM ?_
 refine a_move (v := vB _) ?_
 refine RA.nil nofun ?_
 refine AG.seq ?_
 refine AG.seq ?_
 refine AG.region HM ?_
 refine a_move (v := vI _) ?_
 refine RA.nil nofun ?_
 refine AG.block ?_
 refine AG.loop ?_
 obtain ⟨K0, hK0, gK0⟩ : ∃ K, k ≤ K ∧ K ≤ k := ⟨k, Nat.le_refl k, Nat.le_refl k⟩
 refine AGr.canon id (AGr.loopI (n := k) (fun k s => k ≤ K0 ∧ ∃ (x0_0 : ByteArray) (x0_1 : ByteArray) (x0_2 : Int) (x0_3 : ByteArray) (x0_4 : Int) (x0_5 : Int) (x0_6 : Int) (x0_7 : Int) (x0_8 : List S176) (x1_0 : Int) (x1_1 : Int) (x1_2 : Int) (x1_3 : Int) (x5 : Int), spec_l09Clear.l0 k x0_8 x1_0 x1_1 x1_2 x1_3 x5 = some r ∧ s = St.of [(0, .c (.d (.ro [.v (.string x0_0), .v (.string x0_1), .v (.int .i64 x0_2), .v (.string x0_3), .v (.int .i64 x0_4), .v (.int .i64 x0_5), .v (.int .i64 x0_6), .v (.int .i64 x0_7), .row 177 (x0_8.map c176)]))), (1, .c (.d (.ro [.v (.int .i64 x1_0), .v (.int .i64 x1_1), .v (.int .i64 x1_2), .v (.int .i64 x1_3)]))), (5, vI x5)] []) ⟨hK0, _, _, _, _, _, _, _, _, _, _, _, _, _, _, H, rfl⟩ ?_ ?_) ⟨rfl, rfl, rfl, trivial⟩ trivial rfl
 ·rintro _ ⟨_, _, _, _, _, _, _, _, _, _, _, _, _, _, _, H, _⟩
  cases H
 ·clear H hK0
  rintro k ih0 _ ⟨hK0, x0_0, x0_1, x0_2, x0_3, x0_4, x0_5, x0_6, x0_7, x0_8, x1_0, x1_1, x1_2, x1_3, x5, H, rfl⟩
  unfold spec_l09Clear.l0 at H
  refine AG.seq ?_
  refine AG.seq ?_
  refine AG.region HM ?_
  refine a_move (v := vI _) ?_
  refine a_move (v := vO [_, _, _, _, _, _, _, _, _]) ?_
  refine a_nil (v := vO [_, _, _, _, _, _, _, _, _]) ?_
  refine a_faR (cells' := [_]) ?_ D95_6
  refine a_ldR (v := vR _ _) ?_ T93
  refine a_lenR ?_ Tryz.underlying93
  refine a_int (u := .bool (decide (x5 < (x0_8.length : Int)))) ?_
  refine RA.nil nofun ?_
  by_cases hc1 : x5 < (x0_8.length : Int)
  ·rw [if_pos hc1] at H
   refine AG.yes rfl (decide_eq_true hc1) ?_
   refine AG.skip ?_
   refine AG.seq ?_
   refine AG.block ?_
   refine AG.seq ?_
   refine AG.region HM ?_
   refine a_move (v := vO [_, _, _, _]) ?_
   refine a_move (v := vO [_, _, _, _, _, _, _, _, _]) ?_
   refine a_nil (v := vO [_, _, _, _, _, _, _, _, _]) ?_
   refine a_faR (cells' := [_]) ?_ D95_6
   refine a_ldR (v := vR _ _) ?_ T93
   refine a_move (v := vI _) ?_
   by_cases hc2 : 0 ≤ x5
   ·rw [if_pos hc2] at H
    refine a_ixR (el := c176 (rd176 x0_8 x5)) ?_ ⟨hc2, hc1⟩ T177 Tryz.underlying93 (hel := R176 hc2 hc1)
    obtain ⟨t3, e4, H⟩ := bindO H
    refine a_call (v := vB t3) (nk := []) (L := []) ?_ rfl (spec_l09Meet.ok e4) id (qd (qd qn)) trivial trivial trivial rfl
    refine RA.nil nofun ?_
    by_cases hc5 : t3 = true
    ·rw [if_pos hc5] at H
     refine AG.yes rfl hc5 ?_
     refine AG.seq ?_
     refine AG.region HM ?_
     refine a_move (v := vB _) ?_
     refine RA.nil nofun ?_
     refine AG.ret ?_
     obtain rfl := Option.some.inj H
     exact RetP.mk id ⟨rfl, trivial⟩ trivial rfl
    ·rw [if_neg hc5] at H
     refine AG.no rfl (Bool.eq_false_iff.2 hc5) ?_
     refine AG.skip ?_
     refine AG.region HM ?_
     refine a_move (v := vI _) ?_
     refine a_int (u := .int .i64 (wrap64 (x5 + 1))) ?_
     refine a_move (v := vI _) ?_
     refine RA.nil nofun ?_
     exact AGr.canon id (ih0 _ (by omega) _ ⟨by omega, _, _, _, _, _, _, _, _, _, _, _, _, _, _, H, rfl⟩) ⟨rfl, rfl, rfl, trivial⟩ trivial rfl
   ·rw [if_neg hc2] at H
    cases H
  ·rw [if_neg hc1] at H
   refine AG.no rfl (decide_eq_false hc1) ?_
   refine AG.exit ?_
   refine AG.seq ?_
   refine AG.region HM ?_
   refine a_move (v := vB _) ?_
   refine RA.nil nofun ?_
   refine AG.ret ?_
   obtain rfl := Option.some.inj H
   exact RetP.mk id ⟨rfl, trivial⟩ trivial rfl
mutual
def spec_l09Usable.l0 : Nat → ByteArray → ByteArray → Int → ByteArray → Int → Int → Int → Int → List S176 → List Int → List Int → Int → Int → Option (Int)
 | 0, _, _, _, _, _, _, _, _, _, _, _, _, _ => none
 | k + 1, x0_0, x0_1, x0_2, x0_3, x0_4, x0_5, x0_6, x0_7, x0_8, x3, x4, x5, x6 => if x6 < (x3.length : Int) then (spec_l09Usable.l1 k x0_0 x0_1 x0_2 x0_3 x0_4 x0_5 x0_6 x0_7 x0_8 x3 x4 x5 x6 1) else (some x5)
def spec_l09Usable.l1 : Nat → ByteArray → ByteArray → Int → ByteArray → Int → Int → Int → Int → List S176 → List Int → List Int → Int → Int → Int → Option (Int)
 | 0, _, _, _, _, _, _, _, _, _, _, _, _, _, _ => none
 | k + 1, x0_0, x0_1, x0_2, x0_3, x0_4, x0_5, x0_6, x0_7, x0_8, x3, x4, x5, x6, x7 => if x7 < (x4.length : Int) then (if 0 ≤ (wrap64 (x6 - 1)) then (if (wrap64 (x6 - 1)) < (x3.length : Int) then (if 0 ≤ (wrap64 (x7 - 1)) then (if (wrap64 (x7 - 1)) < (x4.length : Int) then (if 0 ≤ x6 then (if x6 < (x3.length : Int) then (if 0 ≤ x7 then ((spec_l09Clear.f k x0_0 x0_1 x0_2 x0_3 x0_4 x0_5 x0_6 x0_7 x0_8 (rd2 x3 (wrap64 (x6 - 1))) (rd2 x4 (wrap64 (x7 - 1))) (wrap64 ((rd2 x3 x6) - (rd2 x3 (wrap64 (x6 - 1))))) (wrap64 ((rd2 x4 x7) - (rd2 x4 (wrap64 (x7 - 1)))))).bind fun t14 => (if t14 = true then (spec_l09Usable.l1 k x0_0 x0_1 x0_2 x0_3 x0_4 x0_5 x0_6 x0_7 x0_8 x3 x4 (wrap64 (x5 + (wrap64 ((wrap64 ((rd2 x3 x6) - (rd2 x3 (wrap64 (x6 - 1))))) * (wrap64 ((rd2 x4 x7) - (rd2 x4 (wrap64 (x7 - 1))))))))) x6 (wrap64 (x7 + 1))) else (spec_l09Usable.l1 k x0_0 x0_1 x0_2 x0_3 x0_4 x0_5 x0_6 x0_7 x0_8 x3 x4 x5 x6 (wrap64 (x7 + 1))))) else (none)) else (none)) else (none)) else (none)) else (none)) else (none)) else (none)) else (spec_l09Usable.l0 k x0_0 x0_1 x0_2 x0_3 x0_4 x0_5 x0_6 x0_7 x0_8 x3 x4 x5 (wrap64 (x6 + 1)))
end
def spec_l09Usable.f (k : Nat) (a0_0 : ByteArray) (a0_1 : ByteArray) (a0_2 : Int) (a0_3 : ByteArray) (a0_4 : Int) (a0_5 : Int) (a0_6 : Int) (a0_7 : Int) (l0_8 : List S176) : Option (Int) := (spec_l09Xs.f k a0_0 a0_1 a0_2 a0_3 a0_4 a0_5 a0_6 a0_7 l0_8).bind fun t1 => ((spec_l09Ys.f k a0_0 a0_1 a0_2 a0_3 a0_4 a0_5 a0_6 a0_7 l0_8).bind fun t3 => (spec_l09Usable.l0 k a0_0 a0_1 a0_2 a0_3 a0_4 a0_5 a0_6 a0_7 l0_8 t1 t3 0 1))
set_option maxRecDepth 100000 in
theorem spec_l09Usable.ok {k : Nat} {a0_0 : ByteArray} {a0_1 : ByteArray} {a0_2 : Int} {a0_3 : ByteArray} {a0_4 : Int} {a0_5 : Int} {a0_6 : Int} {a0_7 : Int} {l0_8 : List S176} {r : Int} (H : spec_l09Usable.f k a0_0 a0_1 a0_2 a0_3 a0_4 a0_5 a0_6 a0_7 l0_8 = some r) : OkF Tryz.prog 123 [.c (.d (.ro [.v (.string a0_0), .v (.string a0_1), .v (.int .i64 a0_2), .v (.string a0_3), .v (.int .i64 a0_4), .v (.int .i64 a0_5), .v (.int .i64 a0_6), .v (.int .i64 a0_7), .row 177 (l0_8.map c176)]))] [] (.c (.d (.v (.int .i64 r)))) [] := by
 unfold spec_l09Usable.f at H
 refine OkF.of (N := 66) (rs := [2]) (avs := [.c (.d (.v (.int .i64 r)))]) Tryz.func123 rfl rfl (fun _ _ => results_tmp rfl _ _ _) (by decide) rfl rfl rfl rfl (fun w0 S => ?_)
 refine AG.seq ?_
 refine AG.region HM ?_
 refine a_move (v := vI _) ?_
 refine RA.nil nofun ?_
 refine AG.seq ?_
 refine AG.region HM ?_
 refine a_move (v := vO [_, _, _, _, _, _, _, _, _]) ?_
 obtain ⟨t1, e2, H⟩ := bindO H
 refine a_call (v := .c (.own 200 t1.length)) (nk := [(200, .row 2 (t1.map c2))]) (L := []) ?_ rfl (spec_l09Xs.ok e2) (fun κ => cond (Nat.beq κ 200) 100 (κ)) (qd qn) trivial ⟨rfl, trivial⟩ ⟨rfl, trivial⟩ rfl
 refine a_move (v := .c (.own _ _)) ?_
 refine RA.nil nofun ?_
 refine AG.seq ?_
 refine AG.region HM ?_
 refine a_move (v := vO [_, _, _, _, _, _, _, _, _]) ?_
 obtain ⟨t3, e4, H⟩ := bindO H
 refine a_call (v := .c (.own 201 t3.length)) (nk := [(201, .row 2 (t3.map c2))]) (L := []) ?_ rfl (spec_l09Ys.ok e4) (fun κ => cond (Nat.beq κ 201) 100 (κ)) (qd qn) trivial ⟨rfl, trivial⟩ ⟨rfl, trivial⟩ rfl
 refine a_move (v := .c (.own _ _)) ?_
 refine RA.nil nofun ?_
 refine AG.seq ?_
 refine AG.region HM ?_
 refine a_move (v := vI _) ?_
 refine RA.nil nofun ?_
 refine AG.seq ?_
 refine AG.seq ?_
 refine AG.region HM ?_
 refine a_move (v := vI _) ?_
 refine RA.nil nofun ?_
 refine AG.block ?_
 refine AG.loop ?_
 obtain ⟨K0, hK0, gK0⟩ : ∃ K, k ≤ K ∧ K ≤ k := ⟨k, Nat.le_refl k, Nat.le_refl k⟩
 refine AGr.canon (fun κ => cond (Nat.beq κ 202) 200 (cond (Nat.beq κ 203) 201 (κ))) (AGr.loopI (n := k) (fun k s => k ≤ K0 ∧ ∃ (x0_0 : ByteArray) (x0_1 : ByteArray) (x0_2 : Int) (x0_3 : ByteArray) (x0_4 : Int) (x0_5 : Int) (x0_6 : Int) (x0_7 : Int) (x0_8 : List S176) (x3 : List Int) (x4 : List Int) (x5 : Int) (x6 : Int), spec_l09Usable.l0 k x0_0 x0_1 x0_2 x0_3 x0_4 x0_5 x0_6 x0_7 x0_8 x3 x4 x5 x6 = some r ∧ s = St.of [(0, .c (.d (.ro [.v (.string x0_0), .v (.string x0_1), .v (.int .i64 x0_2), .v (.string x0_3), .v (.int .i64 x0_4), .v (.int .i64 x0_5), .v (.int .i64 x0_6), .v (.int .i64 x0_7), .row 177 (x0_8.map c176)]))), (3, .c (.own 202 x3.length)), (4, .c (.own 203 x4.length)), (5, vI x5), (6, vI x6)] [(202, .row 2 (x3.map c2)), (203, .row 2 (x4.map c2))]) ⟨hK0, _, _, _, _, _, _, _, _, _, _, _, _, _, H, rfl⟩ ?_ ?_) ⟨rfl, rfl, rfl, rfl, rfl, trivial⟩ ⟨rfl, rfl, trivial⟩ rfl
 ·rintro _ ⟨_, _, _, _, _, _, _, _, _, _, _, _, _, _, H, _⟩
  cases H
 ·clear H hK0
  rintro k ih0 _ ⟨hK0, x0_0, x0_1, x0_2, x0_3, x0_4, x0_5, x0_6, x0_7, x0_8, x3, x4, x5, x6, H, rfl⟩
  unfold spec_l09Usable.l0 at H
  refine AG.seq ?_
  refine AG.seq ?_
  refine AG.region HM ?_
  refine a_move (v := vI _) ?_
  refine a_move (v := .c (.own _ _)) ?_
  refine a_lenO ?_ Tryz.underlying29
  refine a_int (u := .bool (decide (x6 < (x3.length : Int)))) ?_
  refine RA.nil nofun ?_
  by_cases hc5 : x6 < (x3.length : Int)
  ·rw [if_pos hc5] at H
   refine AG.yes rfl (decide_eq_true hc5) ?_
   refine AG.skip ?_
   refine AG.seq ?_
   refine AG.block ?_
   refine AG.seq ?_
   refine AG.region HM ?_
   refine a_move (v := vI _) ?_
   refine RA.nil nofun ?_
   refine AG.block ?_
   refine AG.loop ?_
   obtain ⟨K1, hK1, gK1⟩ : ∃ K, k ≤ K ∧ K ≤ k := ⟨k, Nat.le_refl k, Nat.le_refl k⟩
   refine AGr.canon (fun κ => cond (Nat.beq κ 204) 202 (cond (Nat.beq κ 205) 203 (κ))) (AGr.loopI (n := k) (fun k s => k ≤ K1 ∧ ∃ (x0_0 : ByteArray) (x0_1 : ByteArray) (x0_2 : Int) (x0_3 : ByteArray) (x0_4 : Int) (x0_5 : Int) (x0_6 : Int) (x0_7 : Int) (x0_8 : List S176) (x3 : List Int) (x4 : List Int) (x5 : Int) (x6 : Int) (x7 : Int), spec_l09Usable.l1 k x0_0 x0_1 x0_2 x0_3 x0_4 x0_5 x0_6 x0_7 x0_8 x3 x4 x5 x6 x7 = some r ∧ s = St.of [(0, .c (.d (.ro [.v (.string x0_0), .v (.string x0_1), .v (.int .i64 x0_2), .v (.string x0_3), .v (.int .i64 x0_4), .v (.int .i64 x0_5), .v (.int .i64 x0_6), .v (.int .i64 x0_7), .row 177 (x0_8.map c176)]))), (3, .c (.own 204 x3.length)), (4, .c (.own 205 x4.length)), (5, vI x5), (6, vI x6), (7, vI x7)] [(204, .row 2 (x3.map c2)), (205, .row 2 (x4.map c2))]) ⟨hK1, _, _, _, _, _, _, _, _, _, _, _, _, _, _, H, rfl⟩ ?_ ?_) ⟨rfl, rfl, rfl, rfl, rfl, rfl, trivial⟩ ⟨rfl, rfl, trivial⟩ rfl
   ·rintro _ ⟨_, _, _, _, _, _, _, _, _, _, _, _, _, _, _, H, _⟩
    cases H
   ·clear H hK1
    rintro k ih1 _ ⟨hK1, x0_0, x0_1, x0_2, x0_3, x0_4, x0_5, x0_6, x0_7, x0_8, x3, x4, x5, x6, x7, H, rfl⟩
    unfold spec_l09Usable.l1 at H
    refine AG.seq ?_
    refine AG.seq ?_
    refine AG.region HM ?_
    refine a_move (v := vI _) ?_
    refine a_move (v := .c (.own _ _)) ?_
    refine a_lenO ?_ Tryz.underlying29
    refine a_int (u := .bool (decide (x7 < (x4.length : Int)))) ?_
    refine RA.nil nofun ?_
    by_cases hc6 : x7 < (x4.length : Int)
    ·rw [if_pos hc6] at H
     refine AG.yes rfl (decide_eq_true hc6) ?_
     refine AG.skip ?_
     refine AG.seq ?_
     refine AG.block ?_
     refine AG.seq ?_
     refine AG.region HM ?_
     refine a_move (v := .c (.own _ _)) ?_
     refine a_move (v := vI _) ?_
     refine a_int (u := .int .i64 (wrap64 (x6 - 1))) ?_
     by_cases hc7 : 0 ≤ (wrap64 (x6 - 1))
     ·rw [if_pos hc7] at H
      by_cases hc8 : (wrap64 (x6 - 1)) < (x3.length : Int)
      ·rw [if_pos hc8] at H
       refine a_ixO ?_ ⟨hc7, hc8⟩ T2 Tryz.underlying29
       refine a_ldE (v := vI _) ?_ (G2 hc7 hc8) T2
       refine a_move (v := .c (.own _ _)) ?_
       refine a_move (v := vI _) ?_
       refine a_int (u := .int .i64 (wrap64 (x7 - 1))) ?_
       by_cases hc9 : 0 ≤ (wrap64 (x7 - 1))
       ·rw [if_pos hc9] at H
        by_cases hc10 : (wrap64 (x7 - 1)) < (x4.length : Int)
        ·rw [if_pos hc10] at H
         refine a_ixO ?_ ⟨hc9, hc10⟩ T2 Tryz.underlying29
         refine a_ldE (v := vI _) ?_ (G2 hc9 hc10) T2
         refine a_move (v := .c (.own _ _)) ?_
         refine a_move (v := vI _) ?_
         by_cases hc11 : 0 ≤ x6
         ·rw [if_pos hc11] at H
          by_cases hc12 : x6 < (x3.length : Int)
          ·rw [if_pos hc12] at H
           refine a_ixO ?_ ⟨hc11, hc12⟩ T2 Tryz.underlying29
           refine a_ldE (v := vI _) ?_ (G2 hc11 hc12) T2
           refine a_move (v := .c (.own _ _)) ?_
           refine a_move (v := vI _) ?_
           refine a_int (u := .int .i64 (wrap64 (x6 - 1))) ?_
           refine a_ixO ?_ ⟨hc7, hc8⟩ T2 Tryz.underlying29
           refine a_ldE (v := vI _) ?_ (G2 hc7 hc8) T2
           refine a_int (u := .int .i64 (wrap64 ((rd2 x3 x6) - (rd2 x3 (wrap64 (x6 - 1)))))) ?_
           refine a_move (v := .c (.own _ _)) ?_
           refine a_move (v := vI _) ?_
           by_cases hc13 : 0 ≤ x7
           ·rw [if_pos hc13] at H
            refine a_ixO ?_ ⟨hc13, hc6⟩ T2 Tryz.underlying29
            refine a_ldE (v := vI _) ?_ (G2 hc13 hc6) T2
            refine a_move (v := .c (.own _ _)) ?_
            refine a_move (v := vI _) ?_
            refine a_int (u := .int .i64 (wrap64 (x7 - 1))) ?_
            refine a_ixO ?_ ⟨hc9, hc10⟩ T2 Tryz.underlying29
            refine a_ldE (v := vI _) ?_ (G2 hc9 hc10) T2
            refine a_int (u := .int .i64 (wrap64 ((rd2 x4 x7) - (rd2 x4 (wrap64 (x7 - 1)))))) ?_
            refine a_build (cs := [_, _, _, _]) ?_ T177 rfl (hin := I177)
            refine a_alloc (cs := [_, _, _, _]) 206 ?_ T177
            refine a_stB (cs' := [_, _, _, _]) ?_ T177
            refine RA.nil (fun _ => by kernel_rfl) ?_
            refine AG.seq ?_
            refine AG.region HM ?_
            refine a_move (v := vO [_, _, _, _, _, _, _, _, _]) ?_
            obtain ⟨t14, e15, H⟩ := bindO H
            refine a_call (v := vB t14) (nk := []) (L := [(206, _)]) ?_ rfl (spec_l09Clear.ok e15) id (qd (qc (rP (pD (pD (pD (pD p0))))) qn)) ⟨rfl, trivial⟩ trivial trivial rfl
            refine RA.nil nofun ?_
            by_cases hc16 : t14 = true
            ·rw [if_pos hc16] at H
             refine AG.yes rfl hc16 ?_
             refine AG.region HM ?_
             refine a_move (v := vI _) ?_
             refine a_faB (q := 2) ?_ D177_2
             refine a_ldB (v := vI _) ?_ T2
             refine a_faB (q := 3) ?_ D177_3
             refine a_ldB (v := vI _) ?_ T2
             refine a_int (u := .int .i64 (wrap64 ((wrap64 ((rd2 x3 x6) - (rd2 x3 (wrap64 (x6 - 1))))) * (wrap64 ((rd2 x4 x7) - (rd2 x4 (wrap64 (x7 - 1)))))))) ?_
             refine a_int (u := .int .i64 (wrap64 (x5 + (wrap64 ((wrap64 ((rd2 x3 x6) - (rd2 x3 (wrap64 (x6 - 1))))) * (wrap64 ((rd2 x4 x7) - (rd2 x4 (wrap64 (x7 - 1)))))))))) ?_
             refine a_move (v := vI _) ?_
             refine RA.nil nofun ?_
             refine AG.region HM ?_
             refine a_move (v := vI _) ?_
             refine a_int (u := .int .i64 (wrap64 (x7 + 1))) ?_
             refine a_move (v := vI _) ?_
             refine RA.nil nofun ?_
             exact AGr.canon id (ih1 _ (by omega) _ ⟨by omega, _, _, _, _, _, _, _, _, _, _, _, _, _, _, H, rfl⟩) ⟨rfl, rfl, rfl, rfl, rfl, rfl, trivial⟩ ⟨rfl, rfl, trivial⟩ rfl
            ·rw [if_neg hc16] at H
             refine AG.no rfl (Bool.eq_false_iff.2 hc16) ?_
             refine AG.skip ?_
             refine AG.region HM ?_
             refine a_move (v := vI _) ?_
             refine a_int (u := .int .i64 (wrap64 (x7 + 1))) ?_
             refine a_move (v := vI _) ?_
             refine RA.nil nofun ?_
             exact AGr.canon id (ih1 _ (by omega) _ ⟨by omega, _, _, _, _, _, _, _, _, _, _, _, _, _, _, H, rfl⟩) ⟨rfl, rfl, rfl, rfl, rfl, rfl, trivial⟩ ⟨rfl, rfl, trivial⟩ rfl
           ·rw [if_neg hc13] at H
            cases H
          ·rw [if_neg hc12] at H
           cases H
         ·rw [if_neg hc11] at H
          cases H
        ·rw [if_neg hc10] at H
         cases H
       ·rw [if_neg hc9] at H
        cases H
      ·rw [if_neg hc8] at H
       cases H
     ·rw [if_neg hc7] at H
      cases H
    ·rw [if_neg hc6] at H
     refine AG.no rfl (decide_eq_false hc6) ?_
     refine AG.exit ?_
     refine AG.region HM ?_
     refine a_move (v := vI _) ?_
     refine a_int (u := .int .i64 (wrap64 (x6 + 1))) ?_
     refine a_move (v := vI _) ?_
     refine RA.nil nofun ?_
     exact AGr.canon (fun κ => cond (Nat.beq κ 202) 204 (cond (Nat.beq κ 203) 205 (κ))) (ih0 _ (by omega) _ ⟨by omega, _, _, _, _, _, _, _, _, _, _, _, _, _, H, rfl⟩) ⟨rfl, rfl, rfl, rfl, rfl, trivial⟩ ⟨rfl, rfl, trivial⟩ rfl
  ·rw [if_neg hc5] at H
   refine AG.no rfl (decide_eq_false hc5) ?_
   refine AG.exit ?_
   refine AG.seq ?_
   refine AG.region HM ?_
   refine a_move (v := vI _) ?_
   refine a_move (v := vI _) ?_
   refine RA.nil nofun ?_
   refine AG.ret ?_
   obtain rfl := Option.some.inj H
   exact RetP.mk id ⟨rfl, trivial⟩ trivial rfl
def spec_l00Own.f (l0 : List Int) : Option ((List Int)) := if ([] : List Int).length + l0.length < 17592186044416 then (some (([] : List Int) ++ l0)) else (none)
set_option maxRecDepth 100000 in
theorem spec_l00Own.ok {l0 : List Int} {r : List Int} (H : spec_l00Own.f l0 = some r) : OkF Tryz.prog 173 [vR 2 (l0.map c2)] [] (.c (.own 100 r.length)) [(100, .row 2 (r.map c2))] := by
 unfold spec_l00Own.f at H
 refine OkF.of (N := 6) (rs := [2]) (avs := [.c (.own 100 r.length)]) Tryz.func173 rfl rfl (fun _ _ => results_tmp rfl _ _ _) (by decide) rfl rfl rfl rfl (fun w0 S => ?_)
 refine AG.seq ?_
 refine AG.region HM ?_
 refine a_nilO (e := 2) 200 ?_ T2
 refine RA.nil nofun ?_
 refine AG.seq ?_
 refine AG.region HM ?_
 refine a_lit (cs := []) (D := []) (css := (([] : List Int)).map c2) 201 ?_ N29 T2
 refine a_move (v := vR _ _) ?_
 by_cases hc1 : ([] : List Int).length + l0.length < 17592186044416
 ·rw [if_pos hc1] at H
  refine a_appR (css2 := l0.map c2) (css' := (([] : List Int) ++ l0).map c2) (n' := (([] : List Int) ++ l0).length) ?_ (by simp [c2, isV, Value.oneCell']) T2 (by simp [maxLen]; omega) (by simp; omega) Tryz.underlying29 (hc := by exact List.map_append.symm) (hn := by exact List.length_map _)
  refine a_move (v := .c (.own _ _)) ?_
  refine RA.nil nofun ?_
  refine AG.ret ?_
  obtain rfl := Option.some.inj H
  exact RetP.mk (fun κ => cond (Nat.beq κ 100) 201 (κ)) ⟨rfl, trivial⟩ ⟨rfl, trivial⟩ rfl
 ·rw [if_neg hc1] at H
  cases H
mutual
def spec_AreaBound.l0 : Nat → List Int → List Int → Int → Int → Option (Int × Int)
 | 0, _, _, _, _ => none
 | k + 1, x0, x1, x6, x7 => if x7 < (x0.length : Int) then (if 0 ≤ x7 then ((spec_l00In.f (rd2 x0 x7) 0 1000000000000).bind fun t3 => (if t3 = true then (spec_AreaBound.l0 k x0 x1 (wrap64 (x6 + (rd2 x0 x7))) (wrap64 (x7 + 1))) else (some (0, 2)))) else (none)) else ((spec_l00Own.f x1).bind fun t6 => (spec_AreaBound.l1 k x0 x1 x6 t6 0))
def spec_AreaBound.l1 : Nat → List Int → List Int → Int → List Int → Int → Option (Int × Int)
 | 0, _, _, _, _, _ => none
 | k + 1, x0, x1, x6, x8, x9 => if x9 < (x8.length : Int) then (if 0 ≤ x9 then ((spec_l00In.f (rd2 x8 x9) 0 1000000000000).bind fun t10 => (if t10 = true then (spec_AreaBound.l1 k x0 x1 x6 x8 (wrap64 (x9 + 1))) else (some (0, 2)))) else (none)) else (if (x0.length : Int) > 64 then (spec_AreaBound.j0 k x6 x8 true) else (spec_AreaBound.j0 k x6 x8 (decide ((x1.length : Int) > 64))))
def spec_AreaBound.j0 : Nat → Int → List Int → Bool → Option (Int × Int)
 | 0, _, _, _ => none
 | k + 1, x6, x8, x55 => if x55 = true then (some (0, 5)) else (spec_AreaBound.l2 k x8 (wrap64 (Int.tdiv (wrap64 (x6 + 1)) 2)) 0 0)
def spec_AreaBound.l2 : Nat → List Int → Int → Int → Int → Option (Int × Int)
 | 0, _, _, _, _ => none
 | k + 1, x8, x10, x11, x12 => if x11 < x10 then (if (x8.length : Int) = 0 then (some (0, 3)) else (spec_AreaBound.l3 k x8 x10 x11 x12 0 1)) else (some (x12, 0))
def spec_AreaBound.l3 : Nat → List Int → Int → Int → Int → Int → Int → Option (Int × Int)
 | 0, _, _, _, _, _, _ => none
 | k + 1, x8, x10, x11, x12, x13, x14 => if x14 < (x8.length : Int) then (if 0 ≤ x14 then (if 0 ≤ x13 then (if x13 < (x8.length : Int) then (if (rd2 x8 x14) > (rd2 x8 x13) then (spec_AreaBound.l3 k x8 x10 x11 x12 x14 (wrap64 (x14 + 1))) else (spec_AreaBound.l3 k x8 x10 x11 x12 x13 (wrap64 (x14 + 1)))) else (none)) else (none)) else (none)) else (if 0 ≤ x13 then (if x13 < (x8.length : Int) then (if x13 ≤ (x8.length : Int) then ((spec_l00Own.f (x8.take ((x13 : Int).toNat))).bind fun t25 => (if 0 ≤ (wrap64 (x13 + 1)) then (if wrap64 (x13 + 1) ≤ (x8.length : Int) then (if t25.length + (x8.length - (wrap64 (x13 + 1) : Int).toNat) < 17592186044416 then (spec_AreaBound.l2 k (t25 ++ (x8.drop ((wrap64 (x13 + 1) : Int).toNat)).take (x8.length - (wrap64 (x13 + 1) : Int).toNat)) x10 (wrap64 (x11 + (rd2 x8 x13))) (wrap64 (x12 + 1))) else (none)) else (none)) else (none))) else (none)) else (none)) else (none))
end
def spec_AreaBound.f (k : Nat) (l0 : List Int) (l1 : List Int) : Option (Int × Int) := spec_AreaBound.l0 k l0 l1 0 0
set_option maxRecDepth 100000 in
theorem spec_AreaBound.ok {k : Nat} {l0 : List Int} {l1 : List Int} {r0 : Int} {r1 : Int} (H : spec_AreaBound.f k l0 l1 = some (r0, r1)) : OkF Tryz.prog 124 [vR 2 (l0.map c2), vR 2 (l1.map c2)] [] (.tup [.c (.d (.v (.int .i64 r0))), .c (.d (.v (.int .i64 r1)))]) [] := by
 unfold spec_AreaBound.f at H
 refine OkF.of (N := 100) (rs := [4, 5]) (avs := [.c (.d (.v (.int .i64 r0))), .c (.d (.v (.int .i64 r1)))]) Tryz.func124 rfl rfl (fun _ _ => results_tmp2 rfl _ _ _) (by decide) rfl rfl rfl rfl (fun w0 S => ?_)
 refine AG.seq ?_
 refine AG.region HM ?_
 refine a_move (v := vI _) ?_
 refine a_move (v := vI _) ?_
 refine RA.nil nofun ?_
 refine AG.seq ?_
 refine AG.region HM ?_
 refine a_move (v := vI _) ?_
 refine RA.nil nofun ?_
 refine AG.seq ?_
 refine AG.seq ?_
 refine AG.region HM ?_
 refine a_move (v := vI _) ?_
 refine RA.nil nofun ?_
 refine AG.block ?_
 refine AG.loop ?_
 obtain ⟨K0, hK0, gK0⟩ : ∃ K, k ≤ K ∧ K ≤ k := ⟨k, Nat.le_refl k, Nat.le_refl k⟩
 refine AGr.canon id (AGr.loopI (n := k) (fun k s => k ≤ K0 ∧ ∃ (x0 : List Int) (x1 : List Int) (x6 : Int) (x7 : Int), spec_AreaBound.l0 k x0 x1 x6 x7 = some (r0, r1) ∧ s = St.of [(0, vR 2 (x0.map c2)), (1, vR 2 (x1.map c2)), (6, vI x6), (7, vI x7)] []) ⟨hK0, _, _, _, _, H, rfl⟩ ?_ ?_) ⟨rfl, rfl, rfl, rfl, trivial⟩ trivial rfl
 ·rintro _ ⟨_, _, _, _, _, H, _⟩
  cases H
 ·clear H hK0
  rintro k ih0 _ ⟨hK0, x0, x1, x6, x7, H, rfl⟩
  unfold spec_AreaBound.l0 at H
  refine AG.seq ?_
  refine AG.seq ?_
  refine AG.region HM ?_
  refine a_move (v := vI _) ?_
  refine a_move (v := vR _ _) ?_
  refine a_lenR ?_ Tryz.underlying29
  refine a_int (u := .bool (decide (x7 < (x0.length : Int)))) ?_
  refine RA.nil nofun ?_
  by_cases hc1 : x7 < (x0.length : Int)
  ·rw [if_pos hc1] at H
   refine AG.yes rfl (decide_eq_true hc1) ?_
   refine AG.skip ?_
   refine AG.seq ?_
   refine AG.block ?_
   refine AG.seq ?_
   refine AG.seq ?_
   refine AG.region HM ?_
   refine a_move (v := vR _ _) ?_
   refine a_move (v := vI _) ?_
   by_cases hc2 : 0 ≤ x7
   ·rw [if_pos hc2] at H
    refine a_ixR (el := c2 (rd2 x0 x7)) ?_ ⟨hc2, hc1⟩ T2 Tryz.underlying29 (hel := R2 hc2 hc1)
    refine a_ldR (v := vI _) ?_ T2
    obtain ⟨t3, e4, H⟩ := bindO H
    refine a_call (v := vB t3) (nk := []) (L := []) ?_ rfl (spec_l00In.ok e4) id (qd (qd (qd qn))) trivial trivial trivial rfl
    refine a_un (u := .bool (!t3)) ?_
    refine RA.nil nofun ?_
    by_cases hc5 : t3 = true
    ·rw [if_pos hc5] at H
     refine AG.no rfl (congrArg Bool.not hc5) ?_
     refine AG.skip ?_
     refine AG.region HM ?_
     refine a_move (v := vI _) ?_
     refine a_move (v := vR _ _) ?_
     refine a_move (v := vI _) ?_
     refine a_ixR (el := c2 (rd2 x0 x7)) ?_ ⟨hc2, hc1⟩ T2 Tryz.underlying29 (hel := R2 hc2 hc1)
     refine a_ldR (v := vI _) ?_ T2
     refine a_int (u := .int .i64 (wrap64 (x6 + (rd2 x0 x7)))) ?_
     refine a_move (v := vI _) ?_
     refine RA.nil nofun ?_
     refine AG.region HM ?_
     refine a_move (v := vI _) ?_
     refine a_int (u := .int .i64 (wrap64 (x7 + 1))) ?_
     refine a_move (v := vI _) ?_
     refine RA.nil nofun ?_
     exact AGr.canon id (ih0 _ (by omega) _ ⟨by omega, _, _, _, _, H, rfl⟩) ⟨rfl, rfl, rfl, rfl, trivial⟩ trivial rfl
    ·rw [if_neg hc5] at H
     refine AG.yes rfl (congrArg Bool.not (Bool.eq_false_iff.2 hc5)) ?_
     refine AG.seq ?_
     refine AG.region HM ?_
     refine a_move (v := vI _) ?_
     refine a_move (v := vI _) ?_
     refine RA.nil nofun ?_
     refine AG.ret ?_
     simp only [Option.some.injEq, Prod.mk.injEq] at H
     obtain ⟨rfl, rfl⟩ := H
     exact RetP.mk id ⟨rfl, rfl, trivial⟩ trivial rfl
   ·rw [if_neg hc2] at H
    cases H
  ·rw [if_neg hc1] at H
   refine AG.no rfl (decide_eq_false hc1) ?_
   refine AG.exit ?_
   refine AG.seq ?_
   refine AG.region HM ?_
   refine a_move (v := vR _ _) ?_
   obtain ⟨t6, e7, H⟩ := bindO H
   refine a_call (v := .c (.own 201 t6.length)) (nk := [(201, .row 2 (t6.map c2))]) (L := []) ?_ rfl (spec_l00Own.ok e7) (fun κ => cond (Nat.beq κ 201) 100 (κ)) (qd qn) trivial ⟨rfl, trivial⟩ ⟨rfl, trivial⟩ rfl
   refine a_move (v := .c (.own _ _)) ?_
   refine RA.nil nofun ?_
   refine AG.seq ?_
   refine AG.seq ?_
   refine AG.region HM ?_
   refine a_move (v := vI _) ?_
   refine RA.nil nofun ?_
   refine AG.block ?_
   refine AG.loop ?_
   obtain ⟨K1, hK1, gK1⟩ : ∃ K, k ≤ K ∧ K ≤ k := ⟨k, Nat.le_refl k, Nat.le_refl k⟩
   refine AGr.canon (fun κ => cond (Nat.beq κ 202) 201 (κ)) (AGr.loopI (n := k) (fun k s => k ≤ K1 ∧ ∃ (x0 : List Int) (x1 : List Int) (x6 : Int) (x8 : List Int) (x9 : Int), spec_AreaBound.l1 k x0 x1 x6 x8 x9 = some (r0, r1) ∧ s = St.of [(0, vR 2 (x0.map c2)), (1, vR 2 (x1.map c2)), (6, vI x6), (8, .c (.own 202 x8.length)), (9, vI x9)] [(202, .row 2 (x8.map c2))]) ⟨hK1, _, _, _, _, _, H, rfl⟩ ?_ ?_) ⟨rfl, rfl, rfl, rfl, rfl, trivial⟩ ⟨rfl, trivial⟩ rfl
   ·rintro _ ⟨_, _, _, _, _, _, H, _⟩
    cases H
   ·clear H hK1
    rintro k ih1 _ ⟨hK1, x0, x1, x6, x8, x9, H, rfl⟩
    unfold spec_AreaBound.l1 at H
    refine AG.seq ?_
    refine AG.seq ?_
    refine AG.region HM ?_
    refine a_move (v := vI _) ?_
    refine a_move (v := .c (.own _ _)) ?_
    refine a_lenO ?_ Tryz.underlying29
    refine a_int (u := .bool (decide (x9 < (x8.length : Int)))) ?_
    refine RA.nil nofun ?_
    by_cases hc8 : x9 < (x8.length : Int)
    ·rw [if_pos hc8] at H
     refine AG.yes rfl (decide_eq_true hc8) ?_
     refine AG.skip ?_
     refine AG.seq ?_
     refine AG.block ?_
     refine AG.seq ?_
     refine AG.region HM ?_
     refine a_move (v := .c (.own _ _)) ?_
     refine a_move (v := vI _) ?_
     by_cases hc9 : 0 ≤ x9
     ·rw [if_pos hc9] at H
      refine a_ixO ?_ ⟨hc9, hc8⟩ T2 Tryz.underlying29
      refine a_ldE (v := vI _) ?_ (G2 hc9 hc8) T2
      obtain ⟨t10, e11, H⟩ := bindO H
      refine a_call (v := vB t10) (nk := []) (L := []) ?_ rfl (spec_l00In.ok e11) id (qd (qd (qd qn))) trivial trivial trivial rfl
      refine a_un (u := .bool (!t10)) ?_
      refine RA.nil nofun ?_
      by_cases hc12 : t10 = true
      ·rw [if_pos hc12] at H
       refine AG.no rfl (congrArg Bool.not hc12) ?_
       refine AG.skip ?_
       refine AG.region HM ?_
       refine a_move (v := vI _) ?_
       refine a_int (u := .int .i64 (wrap64 (x9 + 1))) ?_
       refine a_move (v := vI _) ?_
       refine RA.nil nofun ?_
       exact AGr.canon id (ih1 _ (by omega) _ ⟨by omega, _, _, _, _, _, H, rfl⟩) ⟨rfl, rfl, rfl, rfl, rfl, trivial⟩ ⟨rfl, trivial⟩ rfl
      ·rw [if_neg hc12] at H
       refine AG.yes rfl (congrArg Bool.not (Bool.eq_false_iff.2 hc12)) ?_
       refine AG.seq ?_
       refine AG.region HM ?_
       refine a_move (v := vI _) ?_
       refine a_move (v := vI _) ?_
       refine RA.nil nofun ?_
       refine AG.ret ?_
       simp only [Option.some.injEq, Prod.mk.injEq] at H
       obtain ⟨rfl, rfl⟩ := H
       exact RetP.mk id ⟨rfl, rfl, trivial⟩ trivial rfl
     ·rw [if_neg hc9] at H
      cases H
    ·rw [if_neg hc8] at H
     refine AG.no rfl (decide_eq_false hc8) ?_
     refine AG.exit ?_
     refine AG.seq ?_
     refine AG.seq ?_
     refine AG.joinR (fun s => ∃ q, q ≤ k ∧ ∃ (x6 : Int) (x8 : List Int) (x55 : Bool), spec_AreaBound.j0 q x6 x8 x55 = some (r0, r1) ∧ s = St.of [(6, vI x6), (8, .c (.own 204 x8.length)), (55, vB x55)] [(204, .row 2 (x8.map c2))]) ?_ ?_
     ·skip
      refine AG.region HM ?_
      refine a_move (v := vR _ _) ?_
      refine a_lenR ?_ Tryz.underlying29
      refine a_int (u := .bool (decide ((x0.length : Int) > 64))) ?_
      refine a_move (v := vB _) ?_
      by_cases hc13 : (x0.length : Int) > 64
      ·rw [if_pos hc13] at H
       refine RA.skip rfl rfl rfl rfl rfl (decide_eq_true hc13) (by decide) ?_
       refine RA.skip rfl rfl rfl rfl rfl (decide_eq_true hc13) (by decide) ?_
       refine RA.skip rfl rfl rfl rfl rfl (decide_eq_true hc13) (by decide) ?_
       refine a_pick (b := true) (v := vB _) ?_ (decide_eq_true hc13)
       refine RA.nil nofun ?_
       exact CanR.mk (fun κ => cond (Nat.beq κ 204) 202 (κ)) ⟨_, (by omega), _, _, _, H, rfl⟩ ⟨rfl, rfl, rfl, trivial⟩ ⟨rfl, trivial⟩ rfl
      ·rw [if_neg hc13] at H
       refine a_move (v := vR _ _) ?_ (hg := Gs.yes rfl rfl rfl (decide_eq_false hc13))
       refine a_lenR ?_ Tryz.underlying29 (hg := Gs.yes rfl rfl rfl (decide_eq_false hc13))
       refine a_int (u := .bool (decide ((x1.length : Int) > 64))) ?_ (hg := Gs.yes rfl rfl rfl (decide_eq_false hc13))
       refine a_pick (b := false) (v := vB _) ?_ (decide_eq_false hc13)
       refine RA.nil nofun ?_
       exact CanR.mk (fun κ => cond (Nat.beq κ 204) 202 (κ)) ⟨_, (by omega), _, _, _, H, rfl⟩ ⟨rfl, rfl, rfl, trivial⟩ ⟨rfl, trivial⟩ rfl
     ·clear H
      rintro _ ⟨k, hj0, x6, x8, x55, H, rfl⟩
      cases k with
      | zero => cases H
      | succ k =>
       rw [spec_AreaBound.j0] at H
       by_cases hc14 : x55 = true
       ·rw [if_pos hc14] at H
        refine AG.yes rfl hc14 ?_
        refine AG.seq ?_
        refine AG.region HM ?_
        refine a_move (v := vI _) ?_
        refine a_move (v := vI _) ?_
        refine RA.nil nofun ?_
        refine AG.ret ?_
        simp only [Option.some.injEq, Prod.mk.injEq] at H
        obtain ⟨rfl, rfl⟩ := H
        exact RetP.mk id ⟨rfl, rfl, trivial⟩ trivial rfl
       ·rw [if_neg hc14] at H
        refine AG.no rfl (Bool.eq_false_iff.2 hc14) ?_
        refine AG.skip ?_
        refine AG.seq ?_
        refine AG.region HM ?_
        refine a_move (v := vI _) ?_
        refine a_int (u := .int .i64 (wrap64 (x6 + 1))) ?_
        refine a_quo (r := wrap64 (Int.tdiv (wrap64 (x6 + 1)) 2)) ?_ (show ¬ (2 : Int) = 0 from by decide)
        refine a_move (v := vI _) ?_
        refine RA.nil nofun ?_
        refine AG.seq ?_
        refine AG.region HM ?_
        refine a_move (v := vI _) ?_
        refine RA.nil nofun ?_
        refine AG.seq ?_
        refine AG.region HM ?_
        refine a_move (v := vI _) ?_
        refine RA.nil nofun ?_
        refine AG.seq ?_
        refine AG.block ?_
        refine AG.loop ?_
        obtain ⟨K2, hK2, gK2⟩ : ∃ K, k ≤ K ∧ K ≤ k := ⟨k, Nat.le_refl k, Nat.le_refl k⟩
        refine AGr.canon (fun κ => cond (Nat.beq κ 205) 204 (κ)) (AGr.loopI (n := k) (fun k s => k ≤ K2 ∧ ∃ (x8 : List Int) (x10 : Int) (x11 : Int) (x12 : Int), spec_AreaBound.l2 k x8 x10 x11 x12 = some (r0, r1) ∧ s = St.of [(8, .c (.own 205 x8.length)), (10, vI x10), (11, vI x11), (12, vI x12)] [(205, .row 2 (x8.map c2))]) ⟨hK2, _, _, _, _, H, rfl⟩ ?_ ?_) ⟨rfl, rfl, rfl, rfl, trivial⟩ ⟨rfl, trivial⟩ rfl
        ·rintro _ ⟨_, _, _, _, _, H, _⟩
         cases H
        ·clear H hK2
         rintro k ih2 _ ⟨hK2, x8, x10, x11, x12, H, rfl⟩
         unfold spec_AreaBound.l2 at H
         refine AG.seq ?_
         refine AG.seq ?_
         refine AG.region HM ?_
         refine a_move (v := vI _) ?_
         refine a_move (v := vI _) ?_
         refine a_int (u := .bool (decide (x11 < x10))) ?_
         refine RA.nil nofun ?_
         by_cases hc15 : x11 < x10
         ·rw [if_pos hc15] at H
          refine AG.yes rfl (decide_eq_true hc15) ?_
          refine AG.skip ?_
          refine AG.block ?_
          refine AG.seq ?_
          refine AG.seq ?_
          refine AG.region HM ?_
          refine a_move (v := .c (.own _ _)) ?_
          refine a_lenO ?_ Tryz.underlying29
          refine a_int (u := .bool (((x8.length : Int) == 0))) ?_
          refine RA.nil nofun ?_
          by_cases hc16 : (x8.length : Int) = 0
          ·rw [if_pos hc16] at H
           refine AG.yes rfl (beq_iff_eq.2 hc16) ?_
           refine AG.seq ?_
           refine AG.region HM ?_
           refine a_move (v := vI _) ?_
           refine a_move (v := vI _) ?_
           refine RA.nil nofun ?_
           refine AG.ret ?_
           simp only [Option.some.injEq, Prod.mk.injEq] at H
           obtain ⟨rfl, rfl⟩ := H
           exact RetP.mk id ⟨rfl, rfl, trivial⟩ trivial rfl
          ·rw [if_neg hc16] at H
           refine AG.no rfl (beq_eq_false_iff_ne.2 hc16) ?_
           refine AG.skip ?_
           refine AG.seq ?_
           refine AG.region HM ?_
           refine a_move (v := vI _) ?_
           refine RA.nil nofun ?_
           refine AG.seq ?_
           refine AG.seq ?_
           refine AG.region HM ?_
           refine a_move (v := vI _) ?_
           refine RA.nil nofun ?_
           refine AG.block ?_
           refine AG.loop ?_
           obtain ⟨K3, hK3, gK3⟩ : ∃ K, k ≤ K ∧ K ≤ k := ⟨k, Nat.le_refl k, Nat.le_refl k⟩
           refine AGr.canon (fun κ => cond (Nat.beq κ 206) 205 (κ)) (AGr.loopI (n := k) (fun k s => k ≤ K3 ∧ ∃ (x8 : List Int) (x10 : Int) (x11 : Int) (x12 : Int) (x13 : Int) (x14 : Int), spec_AreaBound.l3 k x8 x10 x11 x12 x13 x14 = some (r0, r1) ∧ s = St.of [(8, .c (.own 206 x8.length)), (10, vI x10), (11, vI x11), (12, vI x12), (13, vI x13), (14, vI x14)] [(206, .row 2 (x8.map c2))]) ⟨hK3, _, _, _, _, _, _, H, rfl⟩ ?_ ?_) ⟨rfl, rfl, rfl, rfl, rfl, rfl, trivial⟩ ⟨rfl, trivial⟩ rfl
           ·rintro _ ⟨_, _, _, _, _, _, _, H, _⟩
            cases H
           ·clear H hK3
            rintro k ih3 _ ⟨hK3, x8, x10, x11, x12, x13, x14, H, rfl⟩
            unfold spec_AreaBound.l3 at H
            refine AG.seq ?_
            refine AG.seq ?_
            refine AG.region HM ?_
            refine a_move (v := vI _) ?_
            refine a_move (v := .c (.own _ _)) ?_
            refine a_lenO ?_ Tryz.underlying29
            refine a_int (u := .bool (decide (x14 < (x8.length : Int)))) ?_
            refine RA.nil nofun ?_
            by_cases hc17 : x14 < (x8.length : Int)
            ·rw [if_pos hc17] at H
             refine AG.yes rfl (decide_eq_true hc17) ?_
             refine AG.skip ?_
             refine AG.seq ?_
             refine AG.block ?_
             refine AG.seq ?_
             refine AG.region HM ?_
             refine a_move (v := .c (.own _ _)) ?_
             refine a_move (v := vI _) ?_
             by_cases hc18 : 0 ≤ x14
             ·rw [if_pos hc18] at H
              refine a_ixO ?_ ⟨hc18, hc17⟩ T2 Tryz.underlying29
              refine a_ldE (v := vI _) ?_ (G2 hc18 hc17) T2
              refine a_move (v := .c (.own _ _)) ?_
              refine a_move (v := vI _) ?_
              by_cases hc19 : 0 ≤ x13
              ·rw [if_pos hc19] at H
               by_cases hc20 : x13 < (x8.length : Int)
               ·rw [if_pos hc20] at H
                refine a_ixO ?_ ⟨hc19, hc20⟩ T2 Tryz.underlying29
                refine a_ldE (v := vI _) ?_ (G2 hc19 hc20) T2
                refine a_int (u := .bool (decide ((rd2 x8 x14) > (rd2 x8 x13)))) ?_
                refine RA.nil (fun _ => by kernel_rfl) ?_
                by_cases hc21 : (rd2 x8 x14) > (rd2 x8 x13)
                ·rw [if_pos hc21] at H
                 refine AG.yes rfl (decide_eq_true hc21) ?_
                 refine AG.region HM ?_
                 refine a_move (v := vI _) ?_
                 refine a_move (v := vI _) ?_
                 refine RA.nil nofun ?_
                 refine AG.region HM ?_
                 refine a_move (v := vI _) ?_
                 refine a_int (u := .int .i64 (wrap64 (x14 + 1))) ?_
                 refine a_move (v := vI _) ?_
                 refine RA.nil nofun ?_
                 exact AGr.canon id (ih3 _ (by omega) _ ⟨by omega, _, _, _, _, _, _, H, rfl⟩) ⟨rfl, rfl, rfl, rfl, rfl, rfl, trivial⟩ ⟨rfl, trivial⟩ rfl
                ·rw [if_neg hc21] at H
                 refine AG.no rfl (decide_eq_false hc21) ?_
                 refine AG.skip ?_
                 refine AG.region HM ?_
                 refine a_move (v := vI _) ?_
                 refine a_int (u := .int .i64 (wrap64 (x14 + 1))) ?_
                 refine a_move (v := vI _) ?_
                 refine RA.nil nofun ?_
                 exact AGr.canon id (ih3 _ (by omega) _ ⟨by omega, _, _, _, _, _, _, H, rfl⟩) ⟨rfl, rfl, rfl, rfl, rfl, rfl, trivial⟩ ⟨rfl, trivial⟩ rfl
               ·rw [if_neg hc20] at H
                cases H
              ·rw [if_neg hc19] at H
               cases H
             ·rw [if_neg hc18] at H
              cases H
            ·rw [if_neg hc17] at H
             refine AG.no rfl (decide_eq_false hc17) ?_
             refine AG.exit ?_
             refine AG.seq ?_
             refine AG.region HM ?_
             refine a_move (v := vI _) ?_
             refine a_move (v := .c (.own _ _)) ?_
             refine a_move (v := vI _) ?_
             by_cases hc22 : 0 ≤ x13
             ·rw [if_pos hc22] at H
              by_cases hc23 : x13 < (x8.length : Int)
              ·rw [if_pos hc23] at H
               refine a_ixO ?_ ⟨hc22, hc23⟩ T2 Tryz.underlying29
               refine a_ldE (v := vI _) ?_ (G2 hc22 hc23) T2
               refine a_int (u := .int .i64 (wrap64 (x11 + (rd2 x8 x13)))) ?_
               refine a_move (v := vI _) ?_
               refine RA.nil nofun ?_
               refine AG.seq ?_
               refine AG.region HM ?_
               refine a_move (v := vI _) ?_
               refine a_int (u := .int .i64 (wrap64 (x12 + 1))) ?_
               refine a_move (v := vI _) ?_
               refine RA.nil nofun ?_
               refine AG.seq ?_
               refine AG.region HM ?_
               refine a_move (v := .c (.own _ _)) ?_
               refine a_move (v := vI _) ?_
               by_cases hc24 : x13 ≤ (x8.length : Int)
               ·rw [if_pos hc24] at H
                refine a_slO (l := none) (h := some x13) ?_ Tryz.underlying29 T2 ⟨(Int.le_refl 0), hc22, hc24⟩
                obtain ⟨t25, e26, H⟩ := bindO H
                refine a_call (v := .c (.own 207 t25.length)) (nk := [(207, .row 2 (t25.map c2))]) (L := [(206, _)]) ?_ rfl (spec_l00Own.ok e26) (fun κ => cond (Nat.beq κ 207) 100 (κ)) (qc (rC (map_drop_take _ _ _ _)) qn) ⟨rfl, trivial⟩ ⟨rfl, trivial⟩ ⟨rfl, trivial⟩ rfl
                refine a_move (v := .c (.own _ _)) ?_
                refine RA.nil nofun ?_
                refine AG.region HM ?_
                refine a_move (v := .c (.own _ _)) ?_
                refine a_move (v := .c (.own _ _)) ?_
                refine a_move (v := vI _) ?_
                refine a_int (u := .int .i64 (wrap64 (x13 + 1))) ?_
                by_cases hc27 : 0 ≤ (wrap64 (x13 + 1))
                ·rw [if_pos hc27] at H
                 by_cases hc28 : wrap64 (x13 + 1) ≤ (x8.length : Int)
                 ·rw [if_pos hc28] at H
                  refine a_slO (l := some (wrap64 (x13 + 1))) (h := none) ?_ Tryz.underlying29 T2 ⟨hc27, hc28, (Int.le_refl _)⟩
                  by_cases hc29 : t25.length + (x8.length - (wrap64 (x13 + 1) : Int).toNat) < 17592186044416
                  ·rw [if_pos hc29] at H
                   refine a_appC (css2 := x8.map c2) (css' := (t25 ++ (x8.drop ((wrap64 (x13 + 1) : Int).toNat)).take (x8.length - (wrap64 (x13 + 1) : Int).toNat)).map c2) (n' := (t25 ++ (x8.drop ((wrap64 (x13 + 1) : Int).toNat)).take (x8.length - (wrap64 (x13 + 1) : Int).toNat)).length) ?_ (by simp [c2, isV, Value.oneCell']) T2 (by simp [maxLen]; omega) (by simp; omega) (by rw [List.map_append, List.map_take, List.map_drop]) (by exact List.length_map _) Tryz.underlying29
                   refine a_move (v := .c (.own _ _)) ?_
                   refine RA.nil nofun ?_
                   exact AGr.canon (fun κ => cond (Nat.beq κ 205) 207 (κ)) (ih2 _ (by omega) _ ⟨by omega, _, _, _, _, H, rfl⟩) ⟨rfl, rfl, rfl, rfl, trivial⟩ ⟨rfl, trivial⟩ rfl
                  ·rw [if_neg hc29] at H
                   cases H
                 ·rw [if_neg hc28] at H
                  cases H
                ·rw [if_neg hc27] at H
                 cases H
               ·rw [if_neg hc24] at H
                cases H
              ·rw [if_neg hc23] at H
               cases H
             ·rw [if_neg hc22] at H
              cases H
         ·rw [if_neg hc15] at H
          refine AG.no rfl (decide_eq_false hc15) ?_
          refine AG.exit ?_
          refine AG.seq ?_
          refine AG.region HM ?_
          refine a_move (v := vI _) ?_
          refine a_move (v := vI _) ?_
          refine a_move (v := vI _) ?_
          refine RA.nil nofun ?_
          refine AG.ret ?_
          simp only [Option.some.injEq, Prod.mk.injEq] at H
          obtain ⟨rfl, rfl⟩ := H
          exact RetP.mk id ⟨rfl, rfl, trivial⟩ trivial rfl
def spec_l12Areas.l0 : Nat → Int → Int → List S159 → List S146 → List Int → Int → Option ((List Int))
 | 0, _, _, _, _, _, _ => none
 | k + 1, x0_0, x0_1, x0_2, x0_3, x3, x4 => if x4 < (x0_3.length : Int) then ((spec_l05Polygon.f k x0_0 x0_1 x0_2 x0_3 x4).bind fun t3 => ((spec_l03Area.f k t3).bind fun t5 => (if x3.length < 17592186044416 then (spec_l12Areas.l0 k x0_0 x0_1 x0_2 x0_3 (x3 ++ [t5]) (wrap64 (x4 + 1))) else (none)))) else (some x3)
def spec_l12Areas.f (k : Nat) (a0_0 : Int) (a0_1 : Int) (l0_2 : List S159) (l0_3 : List S146) : Option ((List Int)) := spec_l12Areas.l0 k a0_0 a0_1 l0_2 l0_3 (([] : List Int) : List Int) 0
set_option maxRecDepth 100000 in
theorem spec_l12Areas.ok {k : Nat} {a0_0 : Int} {a0_1 : Int} {l0_2 : List S159} {l0_3 : List S146} {r : List Int} (H : spec_l12Areas.f k a0_0 a0_1 l0_2 l0_3 = some r) : OkF Tryz.prog 125 [.c (.d (.ro [.v (.int .i64 a0_0), .v (.int .i64 a0_1), .row 160 (l0_2.map c159), .row 152 (l0_3.map c146)]))] [] (.c (.own 100 r.length)) [(100, .row 2 (r.map c2))] := by
 unfold spec_l12Areas.f at H
 refine OkF.of (N := 23) (rs := [2]) (avs := [.c (.own 100 r.length)]) Tryz.func125 rfl rfl (fun _ _ => results_tmp rfl _ _ _) (by decide) rfl rfl rfl rfl (fun w0 S => ?_)
 refine AG.seq ?_
 refine AG.region HM ?_
 refine a_nilO (e := 2) 200 ?_ T2
 refine RA.nil nofun ?_
 refine AG.seq ?_
 refine AG.region HM ?_
 refine a_lit (cs := []) (D := []) (css := (([] : List Int) : List Int).map c2) 201 ?_ N29 T2 (hcss := by rfl)
 refine a_move (v := .c (.own _ _)) ?_
 refine RA.nil nofun ?_
 refine AG.seq ?_
 refine AG.seq ?_
 refine AG.region HM ?_
 refine a_move (v := vI _) ?_
 refine RA.nil nofun ?_
 refine AG.block ?_
 refine AG.loop ?_
 obtain ⟨K0, hK0, gK0⟩ : ∃ K, k ≤ K ∧ K ≤ k := ⟨k, Nat.le_refl k, Nat.le_refl k⟩
 refine AGr.canon (fun κ => cond (Nat.beq κ 202) 201 (κ)) (AGr.loopI (n := k) (fun k s => k ≤ K0 ∧ ∃ (x0_0 : Int) (x0_1 : Int) (x0_2 : List S159) (x0_3 : List S146) (x3 : List Int) (x4 : Int), spec_l12Areas.l0 k x0_0 x0_1 x0_2 x0_3 x3 x4 = some r ∧ s = St.of [(0, .c (.d (.ro [.v (.int .i64 x0_0), .v (.int .i64 x0_1), .row 160 (x0_2.map c159), .row 152 (x0_3.map c146)]))), (3, .c (.own 202 x3.length)), (4, vI x4)] [(202, .row 2 (x3.map c2))]) ⟨hK0, _, _, _, _, _, _, H, rfl⟩ ?_ ?_) ⟨rfl, (ownE rfl (by simp)), rfl, trivial⟩ ⟨rfl, trivial⟩ rfl
 ·rintro _ ⟨_, _, _, _, _, _, _, H, _⟩
  cases H
 ·clear H hK0
  rintro k ih0 _ ⟨hK0, x0_0, x0_1, x0_2, x0_3, x3, x4, H, rfl⟩
  unfold spec_l12Areas.l0 at H
  refine AG.seq ?_
  refine AG.seq ?_
  refine AG.region HM ?_
  refine a_move (v := vI _) ?_
  refine a_move (v := vO [_, _, _, _]) ?_
  refine a_nil (v := vO [_, _, _, _]) ?_
  refine a_faR (cells' := [_]) ?_ D35_3
  refine a_ldR (v := vR _ _) ?_ T33
  refine a_lenR ?_ Tryz.underlying33
  refine a_int (u := .bool (decide (x4 < (x0_3.length : Int)))) ?_
  refine RA.nil nofun ?_
  by_cases hc2 : x4 < (x0_3.length : Int)
  ·rw [if_pos hc2] at H
   refine AG.yes rfl (decide_eq_true hc2) ?_
   refine AG.skip ?_
   refine AG.seq ?_
   refine AG.block ?_
   refine AG.region HM ?_
   refine a_move (v := .c (.own _ _)) ?_
   refine a_move (v := vO [_, _, _, _]) ?_
   refine a_move (v := vI _) ?_
   obtain ⟨t3, e4, H⟩ := bindO H
   refine a_call (v := .c (.own 203 t3.length)) (nk := [(203, .row 160 (t3.map c159))]) (L := []) ?_ rfl (spec_l05Polygon.ok e4) (fun κ => cond (Nat.beq κ 203) 100 (κ)) (qd (qd qn)) trivial ⟨rfl, trivial⟩ ⟨rfl, trivial⟩ rfl
   obtain ⟨t5, e6, H⟩ := bindO H
   refine a_call (v := vI t5) (nk := []) (L := [(203, _)]) ?_ rfl (spec_l03Area.ok e6) id (qc rO qn) ⟨rfl, trivial⟩ trivial trivial rfl
   refine a_lit (cs := [_]) (D := []) (css := ([t5]).map c2) 205 ?_ N29 T2
   by_cases hc7 : x3.length < 17592186044416
   ·rw [if_pos hc7] at H
    refine a_appO (css' := (x3 ++ [t5]).map c2) (n' := (x3 ++ [t5]).length) ?_ T2 (by simp [maxLen]; omega) (by simp; omega) Tryz.underlying29 (hc := by exact List.map_append.symm) (hn := by exact List.length_map _)
    refine a_move (v := .c (.own _ _)) ?_
    refine RA.nil nofun ?_
    refine AG.region HM ?_
    refine a_move (v := vI _) ?_
    refine a_int (u := .int .i64 (wrap64 (x4 + 1))) ?_
    refine a_move (v := vI _) ?_
    refine RA.nil nofun ?_
    exact AGr.canon id (ih0 _ (by omega) _ ⟨by omega, _, _, _, _, _, _, H, rfl⟩) ⟨rfl, rfl, rfl, trivial⟩ ⟨rfl, trivial⟩ rfl
   ·rw [if_neg hc7] at H
    cases H
  ·rw [if_neg hc2] at H
   refine AG.no rfl (decide_eq_false hc2) ?_
   refine AG.exit ?_
   refine AG.seq ?_
   refine AG.region HM ?_
   refine a_move (v := .c (.own _ _)) ?_
   refine a_move (v := .c (.own _ _)) ?_
   refine RA.nil nofun ?_
   refine AG.ret ?_
   obtain rfl := Option.some.inj H
   exact RetP.mk (fun κ => cond (Nat.beq κ 100) 202 (κ)) ⟨rfl, trivial⟩ ⟨rfl, trivial⟩ rfl
def spec_l12Bound.l0 : Nat → Int → Int → List S159 → List S146 → List S94 → List Int → Int → Option (Int × Int)
 | 0, _, _, _, _, _, _, _ => none
 | k + 1, x0_0, x0_1, x0_2, x0_3, x1, x6, x7 => if x7 < (x1.length : Int) then (if 0 ≤ x7 then ((spec_l09Usable.f k ((rd94 x1 x7).f0) ((rd94 x1 x7).f1) ((rd94 x1 x7).f2) ((rd94 x1 x7).f3.f0) ((rd94 x1 x7).f3.f1) ((rd94 x1 x7).f3.f2) ((rd94 x1 x7).f4) ((rd94 x1 x7).f5) ((rd94 x1 x7).f6)).bind fun t7 => (if x6.length < 17592186044416 then (spec_l12Bound.l0 k x0_0 x0_1 x0_2 x0_3 x1 (x6 ++ [t7]) (wrap64 (x7 + 1))) else (none))) else (none)) else ((spec_l12Areas.f k x0_0 x0_1 x0_2 x0_3).bind fun t11 => ((spec_AreaBound.f k t11 x6).bind fun bt13 => (some (bt13.1, bt13.2))))
def spec_l12Bound.f (k : Nat) (a0_0 : Int) (a0_1 : Int) (l0_2 : List S159) (l0_3 : List S146) (l1 : List S94) : Option (Int × Int) := (spec_l12Unfit.f k a0_0 a0_1 l0_2 l0_3 l1).bind fun t1 => (if (t1.length : Int) > 0 then (some (0, 3)) else (spec_l12Bound.l0 k a0_0 a0_1 l0_2 l0_3 l1 (([] : List Int) : List Int) 0))
set_option maxRecDepth 100000 in
theorem spec_l12Bound.ok {k : Nat} {a0_0 : Int} {a0_1 : Int} {l0_2 : List S159} {l0_3 : List S146} {l1 : List S94} {r0 : Int} {r1 : Int} (H : spec_l12Bound.f k a0_0 a0_1 l0_2 l0_3 l1 = some (r0, r1)) : OkF Tryz.prog 63 [.c (.d (.ro [.v (.int .i64 a0_0), .v (.int .i64 a0_1), .row 160 (l0_2.map c159), .row 152 (l0_3.map c146)])), vR 95 (l1.map c94)] [] (.tup [.c (.d (.v (.int .i64 r0))), .c (.d (.v (.int .i64 r1)))]) [] := by
 unfold spec_l12Bound.f at H
 refine OkF.of (N := 33) (rs := [4, 5]) (avs := [.c (.d (.v (.int .i64 r0))), .c (.d (.v (.int .i64 r1)))]) Tryz.func63 rfl rfl (fun _ _ => results_tmp2 rfl _ _ _) (by decide) rfl rfl rfl rfl (fun w0 S => ?_)
 refine AG.seq ?_
 refine AG.region HM ?_
 refine a_move (v := vI _) ?_
 refine a_move (v := vI _) ?_
 refine RA.nil nofun ?_
 refine AG.seq ?_
 refine AG.seq ?_
 refine AG.region HM ?_
 refine a_move (v := vO [_, _, _, _]) ?_
 refine a_move (v := vR _ _) ?_
 obtain ⟨t1, e2, H⟩ := bindO H
 refine a_call (v := .c (.own 200 t1.length)) (nk := [(200, .row 2 (t1.map c2))]) (L := []) ?_ rfl (spec_l12Unfit.ok e2) (fun κ => cond (Nat.beq κ 200) 100 (κ)) (qd (qd qn)) trivial ⟨rfl, trivial⟩ ⟨rfl, trivial⟩ rfl
 refine a_lenO ?_ Tryz.underlying29
 refine a_int (u := .bool (decide ((t1.length : Int) > 0))) ?_
 refine RA.nil nofun ?_
 by_cases hc3 : (t1.length : Int) > 0
 ·rw [if_pos hc3] at H
  refine AG.yes rfl (decide_eq_true hc3) ?_
  refine AG.seq ?_
  refine AG.region HM ?_
  refine a_move (v := vI _) ?_
  refine a_move (v := vI _) ?_
  refine RA.nil nofun ?_
  refine AG.ret ?_
  simp only [Option.some.injEq, Prod.mk.injEq] at H
  obtain ⟨rfl, rfl⟩ := H
  exact RetP.mk id ⟨rfl, rfl, trivial⟩ trivial rfl
 ·rw [if_neg hc3] at H
  refine AG.no rfl (decide_eq_false hc3) ?_
  refine AG.skip ?_
  refine AG.seq ?_
  refine AG.region HM ?_
  refine a_lit (cs := []) (D := []) (css := (([] : List Int) : List Int).map c2) 201 ?_ N29 T2 (hcss := by rfl)
  refine a_move (v := .c (.own _ _)) ?_
  refine RA.nil nofun ?_
  refine AG.seq ?_
  refine AG.seq ?_
  refine AG.region HM ?_
  refine a_move (v := vI _) ?_
  refine RA.nil nofun ?_
  refine AG.block ?_
  refine AG.loop ?_
  obtain ⟨K0, hK0, gK0⟩ : ∃ K, k ≤ K ∧ K ≤ k := ⟨k, Nat.le_refl k, Nat.le_refl k⟩
  refine AGr.canon (fun κ => cond (Nat.beq κ 202) 201 (κ)) (AGr.loopI (n := k) (fun k s => k ≤ K0 ∧ ∃ (x0_0 : Int) (x0_1 : Int) (x0_2 : List S159) (x0_3 : List S146) (x1 : List S94) (x6 : List Int) (x7 : Int), spec_l12Bound.l0 k x0_0 x0_1 x0_2 x0_3 x1 x6 x7 = some (r0, r1) ∧ s = St.of [(0, .c (.d (.ro [.v (.int .i64 x0_0), .v (.int .i64 x0_1), .row 160 (x0_2.map c159), .row 152 (x0_3.map c146)]))), (1, vR 95 (x1.map c94)), (6, .c (.own 202 x6.length)), (7, vI x7)] [(202, .row 2 (x6.map c2))]) ⟨hK0, _, _, _, _, _, _, _, H, rfl⟩ ?_ ?_) ⟨rfl, rfl, (ownE rfl (by simp)), rfl, trivial⟩ ⟨rfl, trivial⟩ rfl
  ·rintro _ ⟨_, _, _, _, _, _, _, _, H, _⟩
   cases H
  ·clear H hK0
   rintro k ih0 _ ⟨hK0, x0_0, x0_1, x0_2, x0_3, x1, x6, x7, H, rfl⟩
   unfold spec_l12Bound.l0 at H
   refine AG.seq ?_
   refine AG.seq ?_
   refine AG.region HM ?_
   refine a_move (v := vI _) ?_
   refine a_move (v := vR _ _) ?_
   refine a_lenR ?_ Tryz.underlying37
   refine a_int (u := .bool (decide (x7 < (x1.length : Int)))) ?_
   refine RA.nil nofun ?_
   by_cases hc5 : x7 < (x1.length : Int)
   ·rw [if_pos hc5] at H
    refine AG.yes rfl (decide_eq_true hc5) ?_
    refine AG.skip ?_
    refine AG.seq ?_
    refine AG.block ?_
    refine AG.region HM ?_
    refine a_move (v := .c (.own _ _)) ?_
    refine a_move (v := vR _ _) ?_
    refine a_move (v := vI _) ?_
    by_cases hc6 : 0 ≤ x7
    ·rw [if_pos hc6] at H
     refine a_ixR (el := c94 (rd94 x1 x7)) ?_ ⟨hc6, hc5⟩ T95 Tryz.underlying37 (hel := R94 hc6 hc5)
     obtain ⟨t7, e8, H⟩ := bindO H
     refine a_call (v := vI t7) (nk := []) (L := []) ?_ rfl (spec_l09Usable.ok e8) id (qd qn) trivial trivial trivial rfl
     refine a_lit (cs := [_]) (D := []) (css := ([t7]).map c2) 204 ?_ N29 T2
     by_cases hc9 : x6.length < 17592186044416
     ·rw [if_pos hc9] at H
      refine a_appO (css' := (x6 ++ [t7]).map c2) (n' := (x6 ++ [t7]).length) ?_ T2 (by simp [maxLen]; omega) (by simp; omega) Tryz.underlying29 (hc := by exact List.map_append.symm) (hn := by exact List.length_map _)
      refine a_move (v := .c (.own _ _)) ?_
      refine RA.nil nofun ?_
      refine AG.region HM ?_
      refine a_move (v := vI _) ?_
      refine a_int (u := .int .i64 (wrap64 (x7 + 1))) ?_
      refine a_move (v := vI _) ?_
      refine RA.nil nofun ?_
      exact AGr.canon id (ih0 _ (by omega) _ ⟨by omega, _, _, _, _, _, _, _, H, rfl⟩) ⟨rfl, rfl, rfl, rfl, trivial⟩ ⟨rfl, trivial⟩ rfl
     ·rw [if_neg hc9] at H
      cases H
    ·rw [if_neg hc6] at H
     cases H
   ·rw [if_neg hc5] at H
    refine AG.no rfl (decide_eq_false hc5) ?_
    refine AG.exit ?_
    refine AG.seq ?_
    refine AG.region HM ?_
    refine a_move (v := vO [_, _, _, _]) ?_
    obtain ⟨t11, e12, H⟩ := bindO H
    refine a_call (v := .c (.own 205 t11.length)) (nk := [(205, .row 2 (t11.map c2))]) (L := []) ?_ rfl (spec_l12Areas.ok e12) (fun κ => cond (Nat.beq κ 205) 100 (κ)) (qd qn) trivial ⟨rfl, trivial⟩ ⟨rfl, trivial⟩ rfl
    refine a_move (v := .c (.own _ _)) ?_
    obtain ⟨⟨t13, t14⟩, e15, H⟩ := bindO H
    refine a_call (v := .tup [.c (.d (.v (.int .i64 t13))), .c (.d (.v (.int .i64 t14)))]) (nk := []) (L := [(205, _), (202, _)]) ?_ rfl (spec_AreaBound.ok e15) id (qc rO (qc rO qn)) ⟨rfl, rfl, trivial⟩ trivial trivial rfl
    refine a_ext (v := vI _) ?_
    refine a_ext (v := vI _) ?_
    refine a_move (v := vI _) ?_
    refine a_move (v := vI _) ?_
    refine RA.nil nofun ?_
    refine AG.ret ?_
    simp only [Option.some.injEq, Prod.mk.injEq] at H
    obtain ⟨rfl, rfl⟩ := H
    exact RetP.mk id ⟨rfl, rfl, trivial⟩ trivial rfl
def spec_EnoughStock.f (k : Nat) (a0_0 : Int) (a0_1 : Int) (l0_2 : List S159) (l0_3 : List S146) (l1 : List S94) : Option (Bool) := (spec_l05Ok.f k a0_0 a0_1 l0_2 l0_3).bind fun t1 => (if t1 = true then ((spec_l09Ok.f k l1).bind fun t4 => (if t4 = true then ((spec_l12Bound.f k a0_0 a0_1 l0_2 l0_3 l1).bind fun bt7 => (some (bt7.2 == 0))) else (some false))) else (some false))
set_option maxRecDepth 100000 in
theorem spec_EnoughStock.ok {k : Nat} {a0_0 : Int} {a0_1 : Int} {l0_2 : List S159} {l0_3 : List S146} {l1 : List S94} {r : Bool} (H : spec_EnoughStock.f k a0_0 a0_1 l0_2 l0_3 l1 = some r) : OkF Tryz.prog 24 [.agg [.d (.v (.int .i64 a0_0)), .d (.v (.int .i64 a0_1)), .d (.row 160 (l0_2.map c159)), .d (.row 152 (l0_3.map c146))], vR 95 (l1.map c94)] [] (.c (.d (.v (.bool r)))) [] := by
 unfold spec_EnoughStock.f at H
 refine OkF.of (N := 21) (rs := [4]) (avs := [.c (.d (.v (.bool r)))]) Tryz.func24 rfl rfl (fun _ _ => results_tmp rfl _ _ _) (by decide) rfl rfl rfl rfl (fun w0 S => ?_)
 refine AG.seq ?_
 refine AG.region HM ?_
 refine a_box 200 ?_
 refine a_move (v := vB _) ?_
 refine RA.nil nofun ?_
 refine AG.seq ?_
 refine AG.seq ?_
 refine AG.region HM ?_
 obtain ⟨t1, e2, H⟩ := bindO H
 refine a_call (v := vB t1) (nk := []) (L := [(200, _)]) ?_ rfl (spec_l05Ok.ok e2) id (qc (rP (pD (pD (pD (pD p0))))) qn) ⟨rfl, trivial⟩ trivial trivial rfl
 refine a_un (u := .bool (!t1)) ?_
 refine a_move (v := vB _) ?_
 by_cases hc3 : t1 = true
 ·rw [if_pos hc3] at H
  refine a_move (v := vR _ _) ?_ (hg := Gs.yes rfl rfl rfl (congrArg Bool.not hc3))
  obtain ⟨t4, e5, H⟩ := bindO H
  refine a_call (v := vB t4) (nk := []) (L := []) ?_ rfl (spec_l09Ok.ok e5) id (qd qn) trivial trivial trivial rfl (hg := Gs.yes rfl rfl rfl (congrArg Bool.not hc3))
  refine a_un (u := .bool (!t4)) ?_ (hg := Gs.yes rfl rfl rfl (congrArg Bool.not hc3))
  refine a_pick (b := false) (v := vB _) ?_ (congrArg Bool.not hc3)
  refine RA.nil nofun ?_
  by_cases hc6 : t4 = true
  ·rw [if_pos hc6] at H
   refine AG.no rfl (congrArg Bool.not hc6) ?_
   refine AG.skip ?_
   refine AG.seq ?_
   refine AG.region HM ?_
   refine a_move (v := vR _ _) ?_
   obtain ⟨⟨t7, t8⟩, e9, H⟩ := bindO H
   refine a_call (v := .tup [.c (.d (.v (.int .i64 t7))), .c (.d (.v (.int .i64 t8)))]) (nk := []) (L := [(200, _)]) ?_ rfl (spec_l12Bound.ok e9) id (qc (rP (pD (pD (pD (pD p0))))) (qd qn)) ⟨rfl, trivial⟩ trivial trivial rfl
   refine a_move (v := .tup [_, _]) ?_
   refine a_ext (v := vI _) ?_
   refine a_ext (v := vI _) ?_
   refine a_move (v := vI _) ?_
   refine a_move (v := vI _) ?_
   refine RA.nil nofun ?_
   refine AG.seq ?_
   refine AG.region HM ?_
   refine a_move (v := vI _) ?_
   refine a_int (u := .bool ((t8 == 0))) ?_
   refine a_move (v := vB _) ?_
   refine RA.nil nofun ?_
   refine AG.ret ?_
   obtain rfl := Option.some.inj H
   exact RetP.mk id ⟨rfl, trivial⟩ trivial rfl
  ·rw [if_neg hc6] at H
   refine AG.yes rfl (congrArg Bool.not (Bool.eq_false_iff.2 hc6)) ?_
   refine AG.seq ?_
   refine AG.region HM ?_
   refine a_move (v := vB _) ?_
   refine RA.nil nofun ?_
   refine AG.ret ?_
   obtain rfl := Option.some.inj H
   exact RetP.mk id ⟨rfl, trivial⟩ trivial rfl
 ·rw [if_neg hc3] at H
  refine RA.skip rfl rfl rfl rfl rfl (congrArg Bool.not (Bool.eq_false_iff.2 hc3)) (by decide) ?_
  refine RA.skip rfl rfl rfl rfl rfl (congrArg Bool.not (Bool.eq_false_iff.2 hc3)) (by decide) ?_
  refine RA.skip rfl rfl rfl rfl rfl (congrArg Bool.not (Bool.eq_false_iff.2 hc3)) (by decide) ?_
  refine a_pick (b := true) (v := vB _) ?_ (congrArg Bool.not (Bool.eq_false_iff.2 hc3))
  refine RA.nil nofun ?_
  refine AG.yes rfl rfl ?_
  refine AG.seq ?_
  refine AG.region HM ?_
  refine a_move (v := vB _) ?_
  refine RA.nil nofun ?_
  refine AG.ret ?_
  obtain rfl := Option.some.inj H
  exact RetP.mk id ⟨rfl, trivial⟩ trivial rfl
def impl_within.f (a0 : Int) (a1 : Int) (a2 : Int) : Option (Bool) := if a0 ≥ a1 then (some (decide (a0 ≤ a2))) else (some false)
set_option maxRecDepth 100000 in
theorem impl_within.ok {a0 : Int} {a1 : Int} {a2 : Int} {r : Bool} (H : impl_within.f a0 a1 a2 = some r) : OkF Tryz.prog 110 [vI a0, vI a1, vI a2] [] (.c (.d (.v (.bool r)))) [] := by
 unfold impl_within.f at H
 refine OkF.of (N := 15) (rs := [6]) (avs := [.c (.d (.v (.bool r)))]) Tryz.func110 rfl rfl (fun _ _ => results_tmp rfl _ _ _) (by decide) rfl rfl rfl rfl (fun w0 S => ?_)
 refine AG.seq ?_
 refine AG.region HM ?_
 refine a_move (v := vB _) ?_
 refine RA.nil nofun ?_
 refine AG.seq ?_
 refine AG.region HM ?_
 refine a_move (v := vI _) ?_
 refine a_move (v := vI _) ?_
 refine a_int (u := .bool (decide (a0 ≥ a1))) ?_
 refine a_move (v := vB _) ?_
 by_cases hc1 : a0 ≥ a1
 ·rw [if_pos hc1] at H
  refine a_move (v := vI _) ?_ (hg := Gs.yes rfl rfl rfl (decide_eq_true hc1))
  refine a_move (v := vI _) ?_ (hg := Gs.yes rfl rfl rfl (decide_eq_true hc1))
  refine a_int (u := .bool (decide (a0 ≤ a2))) ?_ (hg := Gs.yes rfl rfl rfl (decide_eq_true hc1))
  refine a_pick (b := true) (v := vB _) ?_ (decide_eq_true hc1)
  refine a_move (v := vB _) ?_
  refine RA.nil nofun ?_
  refine AG.ret ?_
  obtain rfl := Option.some.inj H
  exact RetP.mk id ⟨rfl, trivial⟩ trivial rfl
 ·rw [if_neg hc1] at H
  refine RA.skip rfl rfl rfl rfl rfl (decide_eq_false hc1) (by decide) ?_
  refine RA.skip rfl rfl rfl rfl rfl (decide_eq_false hc1) (by decide) ?_
  refine RA.skip rfl rfl rfl rfl rfl (decide_eq_false hc1) (by decide) ?_
  refine a_pick (b := false) (v := vB _) ?_ (decide_eq_false hc1)
  refine a_move (v := vB _) ?_
  refine RA.nil nofun ?_
  refine AG.ret ?_
  obtain rfl := Option.some.inj H
  exact RetP.mk id ⟨rfl, trivial⟩ trivial rfl
def slices_Index_impl_Point.l0 : Nat → List S159 → Int → Int → Int → Int → Option (Int)
 | 0, _, _, _, _, _ => none
 | k + 1, x0, y201_0, y201_1, x7, x8 => if x8 < x7 then (if 0 ≤ x8 then (if x8 < (x0.length : Int) then (if (y201_0 == ((rd159 x0 x8).f0) && (y201_1 == ((rd159 x0 x8).f1))) = true then (some x8) else (slices_Index_impl_Point.l0 k x0 y201_0 y201_1 x7 (wrap64 (x8 + 1)))) else (none)) else (none)) else (some (-1))
def slices_Index_impl_Point.f (k : Nat) (l0 : List S159) (a1_0 : Int) (a1_1 : Int) : Option (Int) := slices_Index_impl_Point.l0 k l0 a1_0 a1_1 (l0.length : Int) 0
set_option maxRecDepth 100000 in
theorem slices_Index_impl_Point.ok {k : Nat} {l0 : List S159} {a1_0 : Int} {a1_1 : Int} {r : Int} (H : slices_Index_impl_Point.f k l0 a1_0 a1_1 = some r) : OkF Tryz.prog 161 [vR 160 (l0.map c159), .agg [.d (.v (.int .i64 a1_0)), .d (.v (.int .i64 a1_1))]] [] (.c (.d (.v (.int .i64 r)))) [] := by
 unfold slices_Index_impl_Point.f at H
 refine OkF.of (N := 19) (rs := [4]) (avs := [.c (.d (.v (.int .i64 r)))]) Tryz.func161 rfl rfl (fun _ _ => results_tmp rfl _ _ _) (by decide) rfl rfl rfl rfl (fun w0 S => ?_)
 refine AG.seq ?_
 refine AG.region HM ?_
 refine a_box 200 ?_
 refine a_move (v := vI _) ?_
 refine RA.nil nofun ?_
 refine AG.seq ?_
 refine AG.seq ?_
 refine AG.region HM ?_
 refine a_move (v := vR _ _) ?_
 refine a_lenR ?_ Tryz.underlying32
 refine a_move (v := vI _) ?_
 refine RA.nil nofun ?_
 refine AG.block ?_
 refine AG.loop ?_
 obtain ⟨K0, hK0, gK0⟩ : ∃ K, k ≤ K ∧ K ≤ k := ⟨k, Nat.le_refl k, Nat.le_refl k⟩
 refine AGr.canon (fun κ => cond (Nat.beq κ 201) 200 (κ)) (AGr.loopI (n := k) (fun k s => k ≤ K0 ∧ ∃ (x0 : List S159) (y201_0 : Int) (y201_1 : Int) (x7 : Int) (x8 : Int), slices_Index_impl_Point.l0 k x0 y201_0 y201_1 x7 x8 = some r ∧ s = St.of [(0, vR 160 (x0.map c159)), (3, .c (.ptr 201 0)), (7, vI x7), (8, vI x8)] [(201, .box 160 [.d (.v (.int .i64 y201_0)), .d (.v (.int .i64 y201_1))])]) ⟨hK0, _, _, _, _, _, H, rfl⟩ ?_ ?_) ⟨rfl, rfl, rfl, rfl, trivial⟩ ⟨rfl, trivial⟩ rfl
 ·rintro _ ⟨_, _, _, _, _, _, H, _⟩
  cases H
 ·clear H hK0
  rintro k ih0 _ ⟨hK0, x0, y201_0, y201_1, x7, x8, H, rfl⟩
  unfold slices_Index_impl_Point.l0 at H
  refine AG.seq ?_
  refine AG.region HM ?_
  refine a_int (u := .bool (decide (x8 < x7))) ?_
  refine RA.nil nofun ?_
  refine AG.seq ?_
  by_cases hc1 : x8 < x7
  ·rw [if_pos hc1] at H
   refine AG.yes rfl (decide_eq_true hc1) ?_
   refine AG.skip ?_
   refine AG.seq ?_
   refine AG.block ?_
   refine AG.seq ?_
   refine AG.region HM ?_
   refine a_move (v := vI _) ?_
   refine a_move (v := vI _) ?_
   refine RA.nil nofun ?_
   refine AG.seq ?_
   refine AG.region HM ?_
   refine a_ldB (v := .agg [_, _]) ?_ T160
   refine a_move (v := vR _ _) ?_
   refine a_move (v := vI _) ?_
   by_cases hc2 : 0 ≤ x8
   ·rw [if_pos hc2] at H
    by_cases hc3 : x8 < (x0.length : Int)
    ·rw [if_pos hc3] at H
     refine a_ixR (el := c159 (rd159 x0 x8)) ?_ ⟨hc2, hc3⟩ T160 Tryz.underlying32 (hel := R159 hc2 hc3)
     refine a_ldR (v := .agg [_, _]) ?_ T160
     refine a_eqS (b := (y201_0 == ((rd159 x0 x8).f0) && (y201_1 == ((rd159 x0 x8).f1)))) ?_ (.inl ⟨rfl, rfl⟩) (Q160 y201_0 ((rd159 x0 x8).f0) y201_1 ((rd159 x0 x8).f1)).1
     refine RA.nil (fun _ => by kernel_rfl) ?_
     by_cases hc4 : (y201_0 == ((rd159 x0 x8).f0) && (y201_1 == ((rd159 x0 x8).f1))) = true
     ·rw [if_pos hc4] at H
      refine AG.yes rfl hc4 ?_
      refine AG.seq ?_
      refine AG.region HM ?_
      refine a_move (v := vI _) ?_
      refine a_move (v := vI _) ?_
      refine RA.nil nofun ?_
      refine AG.ret ?_
      obtain rfl := Option.some.inj H
      exact RetP.mk id ⟨rfl, trivial⟩ trivial rfl
     ·rw [if_neg hc4] at H
      refine AG.no rfl (Bool.eq_false_iff.2 hc4) ?_
      refine AG.skip ?_
      refine AG.region HM ?_
      refine a_int (u := .int .i64 (wrap64 (x8 + 1))) ?_
      refine a_move (v := vI _) ?_
      refine RA.nil nofun ?_
      exact AGr.canon id (ih0 _ (by omega) _ ⟨by omega, _, _, _, _, _, H, rfl⟩) ⟨rfl, rfl, rfl, rfl, trivial⟩ ⟨rfl, trivial⟩ rfl
    ·rw [if_neg hc3] at H
     cases H
   ·rw [if_neg hc2] at H
    cases H
  ·rw [if_neg hc1] at H
   refine AG.no rfl (decide_eq_false hc1) ?_
   refine AG.exit ?_
   refine AG.seq ?_
   refine AG.region HM ?_
   refine a_move (v := vI _) ?_
   refine RA.nil nofun ?_
   refine AG.ret ?_
   obtain rfl := Option.some.inj H
   exact RetP.mk id ⟨rfl, trivial⟩ trivial rfl
def slices_Contains_impl_Point.f (k : Nat) (l0 : List S159) (a1_0 : Int) (a1_1 : Int) : Option (Bool) := (slices_Index_impl_Point.f k l0 a1_0 a1_1).bind fun t1 => (some (decide (t1 ≥ 0)))
set_option maxRecDepth 100000 in
theorem slices_Contains_impl_Point.ok {k : Nat} {l0 : List S159} {a1_0 : Int} {a1_1 : Int} {r : Bool} (H : slices_Contains_impl_Point.f k l0 a1_0 a1_1 = some r) : OkF Tryz.prog 111 [vR 160 (l0.map c159), .agg [.d (.v (.int .i64 a1_0)), .d (.v (.int .i64 a1_1))]] [] (.c (.d (.v (.bool r)))) [] := by
 unfold slices_Contains_impl_Point.f at H
 refine OkF.of (N := 9) (rs := [4]) (avs := [.c (.d (.v (.bool r)))]) Tryz.func111 rfl rfl (fun _ _ => results_tmp rfl _ _ _) (by decide) rfl rfl rfl rfl (fun w0 S => ?_)
 refine AG.seq ?_
 refine AG.region HM ?_
 refine a_box 200 ?_
 refine a_move (v := vB _) ?_
 refine RA.nil nofun ?_
 refine AG.seq ?_
 refine AG.region HM ?_
 refine a_move (v := vR _ _) ?_
 refine a_ldB (v := .agg [_, _]) ?_ T160
 obtain ⟨t1, e2, H⟩ := bindO H
 refine a_call (v := vI t1) (nk := []) (L := []) ?_ rfl (slices_Index_impl_Point.ok e2) id (qd (qg qn)) trivial trivial trivial rfl
 refine a_int (u := .bool (decide (t1 ≥ 0))) ?_
 refine a_move (v := vB _) ?_
 refine RA.nil nofun ?_
 refine AG.ret ?_
 obtain rfl := Option.some.inj H
 exact RetP.mk id ⟨rfl, trivial⟩ trivial rfl
mutual
def impl_IsName.j0 : Nat → ByteArray → Bool → Option (Bool)
 | 0, _, _ => none
 | k + 1, x0, x21 => if x21 = true then (some false) else (impl_IsName.l0 k x0 0)
def impl_IsName.l0 : Nat → ByteArray → Int → Option (Bool)
 | 0, _, _ => none
 | k + 1, x0, x3 => if x3 < (x0.size : Int) then (if 0 ≤ x3 then (if (bt x0 x3) < 97 then (if (bt x0 x3) < 48 then (some false) else (if (bt x0 x3) > 57 then (some false) else (impl_IsName.l0 k x0 (wrap64 (x3 + 1))))) else (if (bt x0 x3) > 122 then (if (bt x0 x3) < 48 then (some false) else (if (bt x0 x3) > 57 then (some false) else (impl_IsName.l0 k x0 (wrap64 (x3 + 1))))) else (impl_IsName.l0 k x0 (wrap64 (x3 + 1))))) else (none)) else (some true)
end
def impl_IsName.f (k : Nat) (a0 : ByteArray) : Option (Bool) := if (a0.size : Int) < 1 then (impl_IsName.j0 k a0 true) else (if (a0.size : Int) > 10 then (impl_IsName.j0 k a0 true) else (if 0 < (a0.size : Int) then (if (bt a0 0) < 97 then (impl_IsName.j0 k a0 true) else (impl_IsName.j0 k a0 (decide ((bt a0 0) > 122)))) else (none)))
set_option maxRecDepth 100000 in
theorem impl_IsName.ok {k : Nat} {a0 : ByteArray} {r : Bool} (H : impl_IsName.f k a0 = some r) : OkF Tryz.prog 112 [vS a0] [] (.c (.d (.v (.bool r)))) [] := by
 unfold impl_IsName.f at H
 refine OkF.of (N := 50) (rs := [2]) (avs := [.c (.d (.v (.bool r)))]) Tryz.func112 rfl rfl (fun _ _ => results_tmp rfl _ _ _) (by decide) rfl rfl rfl rfl (fun w0 S => ?_)
 refine AG.seq ?_
 refine AG.region HM ?_
 refine a_move (v := vB _) ?_
 refine RA.nil nofun ?_
 refine AG.seq ?_
 refine AG.seq ?_
 refine AG.joinR (fun s => ∃ q, q ≤ k ∧ ∃ (x0 : ByteArray) (x21 : Bool), impl_IsName.j0 q x0 x21 = some r ∧ s = St.of [(0, vS x0), (21, vB x21)] []) ?_ ?_
 ·skip
  refine AG.region HM ?_
  refine a_move (v := vS _) ?_
  refine a_lenS ?_ Tryz.underlying9
  refine a_int (u := .bool (decide ((a0.size : Int) < 1))) ?_
  refine a_move (v := vB _) ?_
  by_cases hc1 : (a0.size : Int) < 1
  ·rw [if_pos hc1] at H
   refine RA.skip rfl rfl rfl rfl rfl (decide_eq_true hc1) (by decide) ?_
   refine RA.skip rfl rfl rfl rfl rfl (decide_eq_true hc1) (by decide) ?_
   refine RA.skip rfl rfl rfl rfl rfl (decide_eq_true hc1) (by decide) ?_
   refine a_pick (b := true) (v := vB _) ?_ (decide_eq_true hc1)
   refine a_move (v := vB _) ?_
   refine RA.skip rfl rfl rfl rfl rfl rfl (by decide) ?_
   refine RA.skip rfl rfl rfl rfl rfl rfl (by decide) ?_
   refine RA.skip rfl rfl rfl rfl rfl rfl (by decide) ?_
   refine a_pick (b := true) (v := vB _) ?_ rfl
   refine a_move (v := vB _) ?_
   refine RA.skip rfl rfl rfl rfl rfl rfl (by decide) ?_
   refine RA.skip rfl rfl rfl rfl rfl rfl (by decide) ?_
   refine RA.skip rfl rfl rfl rfl rfl rfl (by decide) ?_
   refine a_pick (b := true) (v := vB _) ?_ rfl
   refine RA.nil nofun ?_
   exact CanR.mk id ⟨_, (by omega), _, _, H, rfl⟩ ⟨rfl, rfl, trivial⟩ trivial rfl
  ·rw [if_neg hc1] at H
   refine a_move (v := vS _) ?_ (hg := Gs.yes rfl rfl rfl (decide_eq_false hc1))
   refine a_lenS ?_ Tryz.underlying9 (hg := Gs.yes rfl rfl rfl (decide_eq_false hc1))
   refine a_int (u := .bool (decide ((a0.size : Int) > 10))) ?_ (hg := Gs.yes rfl rfl rfl (decide_eq_false hc1))
   refine a_pick (b := false) (v := vB _) ?_ (decide_eq_false hc1)
   refine a_move (v := vB _) ?_
   by_cases hc2 : (a0.size : Int) > 10
   ·rw [if_pos hc2] at H
    refine RA.skip rfl rfl rfl rfl rfl (decide_eq_true hc2) (by decide) ?_
    refine RA.skip rfl rfl rfl rfl rfl (decide_eq_true hc2) (by decide) ?_
    refine RA.skip rfl rfl rfl rfl rfl (decide_eq_true hc2) (by decide) ?_
    refine a_pick (b := true) (v := vB _) ?_ (decide_eq_true hc2)
    refine a_move (v := vB _) ?_
    refine RA.skip rfl rfl rfl rfl rfl rfl (by decide) ?_
    refine RA.skip rfl rfl rfl rfl rfl rfl (by decide) ?_
    refine RA.skip rfl rfl rfl rfl rfl rfl (by decide) ?_
    refine a_pick (b := true) (v := vB _) ?_ rfl
    refine RA.nil nofun ?_
    exact CanR.mk id ⟨_, (by omega), _, _, H, rfl⟩ ⟨rfl, rfl, trivial⟩ trivial rfl
   ·rw [if_neg hc2] at H
    refine a_move (v := vS _) ?_ (hg := Gs.yes rfl rfl rfl (decide_eq_false hc2))
    by_cases hc3 : 0 < (a0.size : Int)
    ·rw [if_pos hc3] at H
     refine a_str ?_ ⟨(by decide), hc3⟩ Tryz.underlying9 (hg := Gs.yes rfl rfl rfl (decide_eq_false hc2))
     refine a_int (u := .bool (decide ((bt a0 0) < 97))) ?_ (hg := Gs.yes rfl rfl rfl (decide_eq_false hc2))
     refine a_pick (b := false) (v := vB _) ?_ (decide_eq_false hc2)
     refine a_move (v := vB _) ?_
     by_cases hc4 : (bt a0 0) < 97
     ·rw [if_pos hc4] at H
      refine RA.skip rfl rfl rfl rfl rfl (decide_eq_true hc4) (by decide) ?_
      refine RA.skip rfl rfl rfl rfl rfl (decide_eq_true hc4) (by decide) ?_
      refine RA.skip rfl rfl rfl rfl rfl (decide_eq_true hc4) (by decide) ?_
      refine a_pick (b := true) (v := vB _) ?_ (decide_eq_true hc4)
      refine RA.nil nofun ?_
      exact CanR.mk id ⟨_, (by omega), _, _, H, rfl⟩ ⟨rfl, rfl, trivial⟩ trivial rfl
     ·rw [if_neg hc4] at H
      refine a_move (v := vS _) ?_ (hg := Gs.yes rfl rfl rfl (decide_eq_false hc4))
      refine a_str ?_ ⟨(by decide), hc3⟩ Tryz.underlying9 (hg := Gs.yes rfl rfl rfl (decide_eq_false hc4))
      refine a_int (u := .bool (decide ((bt a0 0) > 122))) ?_ (hg := Gs.yes rfl rfl rfl (decide_eq_false hc4))
      refine a_pick (b := false) (v := vB _) ?_ (decide_eq_false hc4)
      refine RA.nil nofun ?_
      exact CanR.mk id ⟨_, (by omega), _, _, H, rfl⟩ ⟨rfl, rfl, trivial⟩ trivial rfl
    ·rw [if_neg hc3] at H
     cases H
 ·clear H
  rintro _ ⟨k, hj0, x0, x21, H, rfl⟩
  cases k with
  | zero => cases H
  | succ k =>
   rw [impl_IsName.j0] at H
   by_cases hc5 : x21 = true
   ·rw [if_pos hc5] at H
    refine AG.yes rfl hc5 ?_
    refine AG.seq ?_
    refine AG.region HM ?_
    refine a_move (v := vB _) ?_
    refine RA.nil nofun ?_
    refine AG.ret ?_
    obtain rfl := Option.some.inj H
    exact RetP.mk id ⟨rfl, trivial⟩ trivial rfl
   ·rw [if_neg hc5] at H
    refine AG.no rfl (Bool.eq_false_iff.2 hc5) ?_
    refine AG.skip ?_
    refine AG.seq ?_
    refine AG.seq ?_
    refine AG.region HM ?_
    refine a_move (v := vI _) ?_
    refine RA.nil nofun ?_
    refine AG.block ?_
    refine AG.loop ?_
    obtain ⟨K0, hK0, gK0⟩ : ∃ K, k ≤ K ∧ K ≤ k := ⟨k, Nat.le_refl k, Nat.le_refl k⟩
    refine AGr.canon id (AGr.loopI (n := k) (fun k s => k ≤ K0 ∧ ∃ (x0 : ByteArray) (x3 : Int), impl_IsName.l0 k x0 x3 = some r ∧ s = St.of [(0, vS x0), (3, vI x3)] []) ⟨hK0, _, _, H, rfl⟩ ?_ ?_) ⟨rfl, rfl, trivial⟩ trivial rfl
    ·rintro _ ⟨_, _, _, H, _⟩
     cases H
    ·clear H hK0
     rintro k ih0 _ ⟨hK0, x0, x3, H, rfl⟩
     unfold impl_IsName.l0 at H
     refine AG.seq ?_
     refine AG.seq ?_
     refine AG.region HM ?_
     refine a_move (v := vI _) ?_
     refine a_move (v := vS _) ?_
     refine a_lenS ?_ Tryz.underlying9
     refine a_int (u := .bool (decide (x3 < (x0.size : Int)))) ?_
     refine RA.nil nofun ?_
     by_cases hc6 : x3 < (x0.size : Int)
     ·rw [if_pos hc6] at H
      refine AG.yes rfl (decide_eq_true hc6) ?_
      refine AG.skip ?_
      refine AG.seq ?_
      refine AG.block ?_
      refine AG.seq ?_
      refine AG.region HM ?_
      refine a_move (v := vS _) ?_
      refine a_move (v := vI _) ?_
      by_cases hc7 : 0 ≤ x3
      ·rw [if_pos hc7] at H
       refine a_str ?_ ⟨hc7, hc6⟩ Tryz.underlying9
       refine a_int (u := .bool (decide ((bt x0 x3) < 97))) ?_
       refine a_move (v := vB _) ?_
       by_cases hc8 : (bt x0 x3) < 97
       ·rw [if_pos hc8] at H
        refine RA.skip rfl rfl rfl rfl rfl (decide_eq_true hc8) (by decide) ?_
        refine RA.skip rfl rfl rfl rfl rfl (decide_eq_true hc8) (by decide) ?_
        refine RA.skip rfl rfl rfl rfl rfl (decide_eq_true hc8) (by decide) ?_
        refine RA.skip rfl rfl rfl rfl rfl (decide_eq_true hc8) (by decide) ?_
        refine a_pick (b := true) (v := vB _) ?_ (decide_eq_true hc8)
        refine a_move (v := vB _) ?_
        refine a_move (v := vS _) ?_ (hg := Gs.yes rfl rfl rfl rfl)
        refine a_move (v := vI _) ?_ (hg := Gs.yes rfl rfl rfl rfl)
        refine a_str ?_ ⟨hc7, hc6⟩ Tryz.underlying9 (hg := Gs.yes rfl rfl rfl rfl)
        refine a_int (u := .bool (decide ((bt x0 x3) < 48))) ?_ (hg := Gs.yes rfl rfl rfl rfl)
        refine a_move (v := vB _) ?_ (hg := Gs.yes rfl rfl rfl rfl)
        by_cases hc9 : (bt x0 x3) < 48
        ·rw [if_pos hc9] at H
         refine RA.skip rfl rfl rfl rfl rfl (decide_eq_true hc9) (by decide) ?_
         refine RA.skip rfl rfl rfl rfl rfl (decide_eq_true hc9) (by decide) ?_
         refine RA.skip rfl rfl rfl rfl rfl (decide_eq_true hc9) (by decide) ?_
         refine RA.skip rfl rfl rfl rfl rfl (decide_eq_true hc9) (by decide) ?_
         refine a_pick (b := true) (v := vB _) ?_ (decide_eq_true hc9) (hg := Gs.yes rfl rfl rfl rfl)
         refine a_pick (b := true) (v := vB _) ?_ rfl
         refine RA.nil nofun ?_
         refine AG.yes rfl rfl ?_
         refine AG.seq ?_
         refine AG.region HM ?_
         refine a_move (v := vB _) ?_
         refine RA.nil nofun ?_
         refine AG.ret ?_
         obtain rfl := Option.some.inj H
         exact RetP.mk id ⟨rfl, trivial⟩ trivial rfl
        ·rw [if_neg hc9] at H
         refine a_move (v := vS _) ?_ (hg := Gs.yes rfl rfl rfl (decide_eq_false hc9))
         refine a_move (v := vI _) ?_ (hg := Gs.yes rfl rfl rfl (decide_eq_false hc9))
         refine a_str ?_ ⟨hc7, hc6⟩ Tryz.underlying9 (hg := Gs.yes rfl rfl rfl (decide_eq_false hc9))
         refine a_int (u := .bool (decide ((bt x0 x3) > 57))) ?_ (hg := Gs.yes rfl rfl rfl (decide_eq_false hc9))
         refine a_pick (b := false) (v := vB _) ?_ (decide_eq_false hc9) (hg := Gs.yes rfl rfl rfl rfl)
         refine a_pick (b := true) (v := vB _) ?_ rfl
         refine RA.nil nofun ?_
         by_cases hc10 : (bt x0 x3) > 57
         ·rw [if_pos hc10] at H
          refine AG.yes rfl (decide_eq_true hc10) ?_
          refine AG.seq ?_
          refine AG.region HM ?_
          refine a_move (v := vB _) ?_
          refine RA.nil nofun ?_
          refine AG.ret ?_
          obtain rfl := Option.some.inj H
          exact RetP.mk id ⟨rfl, trivial⟩ trivial rfl
         ·rw [if_neg hc10] at H
          refine AG.no rfl (decide_eq_false hc10) ?_
          refine AG.skip ?_
          refine AG.region HM ?_
          refine a_move (v := vI _) ?_
          refine a_int (u := .int .i64 (wrap64 (x3 + 1))) ?_
          refine a_move (v := vI _) ?_
          refine RA.nil nofun ?_
          exact AGr.canon id (ih0 _ (by omega) _ ⟨by omega, _, _, H, rfl⟩) ⟨rfl, rfl, trivial⟩ trivial rfl
       ·rw [if_neg hc8] at H
        refine a_move (v := vS _) ?_ (hg := Gs.yes rfl rfl rfl (decide_eq_false hc8))
        refine a_move (v := vI _) ?_ (hg := Gs.yes rfl rfl rfl (decide_eq_false hc8))
        refine a_str ?_ ⟨hc7, hc6⟩ Tryz.underlying9 (hg := Gs.yes rfl rfl rfl (decide_eq_false hc8))
        refine a_int (u := .bool (decide ((bt x0 x3) > 122))) ?_ (hg := Gs.yes rfl rfl rfl (decide_eq_false hc8))
        refine a_pick (b := false) (v := vB _) ?_ (decide_eq_false hc8)
        refine a_move (v := vB _) ?_
        by_cases hc11 : (bt x0 x3) > 122
        ·rw [if_pos hc11] at H
         refine a_move (v := vS _) ?_ (hg := Gs.yes rfl rfl rfl (decide_eq_true hc11))
         refine a_move (v := vI _) ?_ (hg := Gs.yes rfl rfl rfl (decide_eq_true hc11))
         refine a_str ?_ ⟨hc7, hc6⟩ Tryz.underlying9 (hg := Gs.yes rfl rfl rfl (decide_eq_true hc11))
         refine a_int (u := .bool (decide ((bt x0 x3) < 48))) ?_ (hg := Gs.yes rfl rfl rfl (decide_eq_true hc11))
         refine a_move (v := vB _) ?_ (hg := Gs.yes rfl rfl rfl (decide_eq_true hc11))
         by_cases hc12 : (bt x0 x3) < 48
         ·rw [if_pos hc12] at H
          refine RA.skip rfl rfl rfl rfl rfl (decide_eq_true hc12) (by decide) ?_
          refine RA.skip rfl rfl rfl rfl rfl (decide_eq_true hc12) (by decide) ?_
          refine RA.skip rfl rfl rfl rfl rfl (decide_eq_true hc12) (by decide) ?_
          refine RA.skip rfl rfl rfl rfl rfl (decide_eq_true hc12) (by decide) ?_
          refine a_pick (b := true) (v := vB _) ?_ (decide_eq_true hc12) (hg := Gs.yes rfl rfl rfl (decide_eq_true hc11))
          refine a_pick (b := true) (v := vB _) ?_ (decide_eq_true hc11)
          refine RA.nil nofun ?_
          refine AG.yes rfl rfl ?_
          refine AG.seq ?_
          refine AG.region HM ?_
          refine a_move (v := vB _) ?_
          refine RA.nil nofun ?_
          refine AG.ret ?_
          obtain rfl := Option.some.inj H
          exact RetP.mk id ⟨rfl, trivial⟩ trivial rfl
         ·rw [if_neg hc12] at H
          refine a_move (v := vS _) ?_ (hg := Gs.yes rfl rfl rfl (decide_eq_false hc12))
          refine a_move (v := vI _) ?_ (hg := Gs.yes rfl rfl rfl (decide_eq_false hc12))
          refine a_str ?_ ⟨hc7, hc6⟩ Tryz.underlying9 (hg := Gs.yes rfl rfl rfl (decide_eq_false hc12))
          refine a_int (u := .bool (decide ((bt x0 x3) > 57))) ?_ (hg := Gs.yes rfl rfl rfl (decide_eq_false hc12))
          refine a_pick (b := false) (v := vB _) ?_ (decide_eq_false hc12) (hg := Gs.yes rfl rfl rfl (decide_eq_true hc11))
          refine a_pick (b := true) (v := vB _) ?_ (decide_eq_true hc11)
          refine RA.nil nofun ?_
          by_cases hc13 : (bt x0 x3) > 57
          ·rw [if_pos hc13] at H
           refine AG.yes rfl (decide_eq_true hc13) ?_
           refine AG.seq ?_
           refine AG.region HM ?_
           refine a_move (v := vB _) ?_
           refine RA.nil nofun ?_
           refine AG.ret ?_
           obtain rfl := Option.some.inj H
           exact RetP.mk id ⟨rfl, trivial⟩ trivial rfl
          ·rw [if_neg hc13] at H
           refine AG.no rfl (decide_eq_false hc13) ?_
           refine AG.skip ?_
           refine AG.region HM ?_
           refine a_move (v := vI _) ?_
           refine a_int (u := .int .i64 (wrap64 (x3 + 1))) ?_
           refine a_move (v := vI _) ?_
           refine RA.nil nofun ?_
           exact AGr.canon id (ih0 _ (by omega) _ ⟨by omega, _, _, H, rfl⟩) ⟨rfl, rfl, trivial⟩ trivial rfl
        ·rw [if_neg hc11] at H
         refine RA.skip rfl rfl rfl rfl rfl (decide_eq_false hc11) (by decide) ?_
         refine RA.skip rfl rfl rfl rfl rfl (decide_eq_false hc11) (by decide) ?_
         refine RA.skip rfl rfl rfl rfl rfl (decide_eq_false hc11) (by decide) ?_
         refine RA.skip rfl rfl rfl rfl rfl (decide_eq_false hc11) (by decide) ?_
         refine RA.skip rfl rfl rfl rfl rfl (decide_eq_false hc11) (by decide) ?_
         refine RA.skip0 rfl rfl rfl rfl rfl ?_
         refine RA.skip0 rfl rfl rfl rfl rfl ?_
         refine RA.skip0 rfl rfl rfl rfl rfl ?_
         refine RA.skip0 rfl rfl rfl rfl rfl ?_
         refine RA.skip rfl rfl rfl rfl rfl (decide_eq_false hc11) (by decide) ?_
         refine a_pick (b := false) (v := vB _) ?_ (decide_eq_false hc11)
         refine RA.nil nofun ?_
         refine AG.no rfl rfl ?_
         refine AG.skip ?_
         refine AG.region HM ?_
         refine a_move (v := vI _) ?_
         refine a_int (u := .int .i64 (wrap64 (x3 + 1))) ?_
         refine a_move (v := vI _) ?_
         refine RA.nil nofun ?_
         exact AGr.canon id (ih0 _ (by omega) _ ⟨by omega, _, _, H, rfl⟩) ⟨rfl, rfl, trivial⟩ trivial rfl
      ·rw [if_neg hc7] at H
       cases H
     ·rw [if_neg hc6] at H
      refine AG.no rfl (decide_eq_false hc6) ?_
      refine AG.exit ?_
      refine AG.seq ?_
      refine AG.region HM ?_
      refine a_move (v := vB _) ?_
      refine RA.nil nofun ?_
      refine AG.ret ?_
      obtain rfl := Option.some.inj H
      exact RetP.mk id ⟨rfl, trivial⟩ trivial rfl
def impl_ringPolygon.l0 : Nat → List S159 → List S159 → List Int → Int → Int → Option ((List S159) × Bool)
 | 0, _, _, _, _, _ => none
 | k + 1, x0, x6, x10, x11, x12 => if x12 < x11 then (if 0 ≤ x12 then (if x12 < (x10.length : Int) then ((impl_within.f (rd2 x10 x12) 0 (wrap64 ((x0.length : Int) - 1))).bind fun t5 => (if t5 = true then (if 0 ≤ (rd2 x10 x12) then (if (rd2 x10 x12) < (x0.length : Int) then (if x6.length < 8796093022208 then (impl_ringPolygon.l0 k x0 (x6 ++ [(⟨(rd159 x0 (rd2 x10 x12)).f0, (rd159 x0 (rd2 x10 x12)).f1⟩ : S159)]) x10 x11 (wrap64 (x12 + 1))) else (none)) else (none)) else (none)) else (some (([] : List S159), false)))) else (none)) else (none)) else (some (x6, true))
def impl_ringPolygon.f (k : Nat) (l0 : List S159) (l1 : List Int) : Option ((List S159) × Bool) := impl_ringPolygon.l0 k l0 (([] : List S159) : List S159) l1 (l1.length : Int) 0
set_option maxRecDepth 100000 in
theorem impl_ringPolygon.ok {k : Nat} {l0 : List S159} {l1 : List Int} {r0 : List S159} {r1 : Bool} (H : impl_ringPolygon.f k l0 l1 = some (r0, r1)) : OkF Tryz.prog 113 [vR 160 (l0.map c159), vR 2 (l1.map c2)] [] (.tup [.c (.own 100 r0.length), .c (.d (.v (.bool r1)))]) [(100, .row 160 (r0.map c159))] := by
 unfold impl_ringPolygon.f at H
 refine OkF.of (N := 31) (rs := [4, 5]) (avs := [.c (.own 100 r0.length), .c (.d (.v (.bool r1)))]) Tryz.func113 rfl rfl (fun _ _ => results_tmp2 rfl _ _ _) (by decide) rfl rfl rfl rfl (fun w0 S => ?_)
 refine AG.seq ?_
 refine AG.region HM ?_
 refine a_nilO (e := 160) 200 ?_ T160
 refine a_move (v := vB _) ?_
 refine RA.nil nofun ?_
 refine AG.seq ?_
 refine AG.region HM ?_
 refine a_lit (cs := []) (D := []) (css := (([] : List S159) : List S159).map c159) 201 ?_ N32 T160 (hcss := by rfl)
 refine a_move (v := .c (.own _ _)) ?_
 refine RA.nil nofun ?_
 refine AG.seq ?_
 refine AG.seq ?_
 refine AG.region HM ?_
 refine a_move (v := vR _ _) ?_
 refine a_lenR ?_ Tryz.underlying29
 refine a_move (v := vI _) ?_
 refine RA.nil nofun ?_
 refine AG.block ?_
 refine AG.loop ?_
 obtain ⟨K0, hK0, gK0⟩ : ∃ K, k ≤ K ∧ K ≤ k := ⟨k, Nat.le_refl k, Nat.le_refl k⟩
 refine AGr.canon (fun κ => cond (Nat.beq κ 202) 201 (κ)) (AGr.loopI (n := k) (fun k s => k ≤ K0 ∧ ∃ (x0 : List S159) (x6 : List S159) (x10 : List Int) (x11 : Int) (x12 : Int), impl_ringPolygon.l0 k x0 x6 x10 x11 x12 = some (r0, r1) ∧ s = St.of [(0, vR 160 (x0.map c159)), (6, .c (.own 202 x6.length)), (10, vR 2 (x10.map c2)), (11, vI x11), (12, vI x12)] [(202, .row 160 (x6.map c159))]) ⟨hK0, _, _, _, _, _, H, rfl⟩ ?_ ?_) ⟨rfl, (ownE rfl (by simp)), rfl, rfl, rfl, trivial⟩ ⟨rfl, trivial⟩ rfl
 ·rintro _ ⟨_, _, _, _, _, _, H, _⟩
  cases H
 ·clear H hK0
  rintro k ih0 _ ⟨hK0, x0, x6, x10, x11, x12, H, rfl⟩
  unfold impl_ringPolygon.l0 at H
  refine AG.seq ?_
  refine AG.region HM ?_
  refine a_int (u := .bool (decide (x12 < x11))) ?_
  refine RA.nil nofun ?_
  refine AG.seq ?_
  by_cases hc2 : x12 < x11
  ·rw [if_pos hc2] at H
   refine AG.yes rfl (decide_eq_true hc2) ?_
   refine AG.skip ?_
   refine AG.seq ?_
   refine AG.block ?_
   refine AG.seq ?_
   refine AG.region HM ?_
   by_cases hc3 : 0 ≤ x12
   ·rw [if_pos hc3] at H
    by_cases hc4 : x12 < (x10.length : Int)
    ·rw [if_pos hc4] at H
     refine a_ixR (el := c2 (rd2 x10 x12)) ?_ ⟨hc3, hc4⟩ T2 Tryz.underlying29 (hel := R2 hc3 hc4)
     refine a_ldR (v := vI _) ?_ T2
     refine a_move (v := vI _) ?_
     refine RA.nil nofun ?_
     refine AG.seq ?_
     refine AG.seq ?_
     refine AG.region HM ?_
     refine a_move (v := vI _) ?_
     refine a_move (v := vR _ _) ?_
     refine a_lenR ?_ Tryz.underlying32
     refine a_int (u := .int .i64 (wrap64 ((x0.length : Int) - 1))) ?_
     obtain ⟨t5, e6, H⟩ := bindO H
     refine a_call (v := vB t5) (nk := []) (L := []) ?_ rfl (impl_within.ok e6) id (qd (qd (qd qn))) trivial trivial trivial rfl
     refine a_un (u := .bool (!t5)) ?_
     refine RA.nil nofun ?_
     by_cases hc7 : t5 = true
     ·rw [if_pos hc7] at H
      refine AG.no rfl (congrArg Bool.not hc7) ?_
      refine AG.skip ?_
      refine AG.region HM ?_
      refine a_move (v := .c (.own _ _)) ?_
      refine a_move (v := vR _ _) ?_
      refine a_move (v := vI _) ?_
      by_cases hc8 : 0 ≤ (rd2 x10 x12)
      ·rw [if_pos hc8] at H
       by_cases hc9 : (rd2 x10 x12) < (x0.length : Int)
       ·rw [if_pos hc9] at H
        refine a_ixR (el := c159 (rd159 x0 (rd2 x10 x12))) ?_ ⟨hc8, hc9⟩ T160 Tryz.underlying32 (hel := R159 hc8 hc9)
        refine a_ldR (v := .agg [_, _]) ?_ T160
        refine a_lit (cs := [_, _]) (D := []) (css := ([(⟨(rd159 x0 (rd2 x10 x12)).f0, (rd159 x0 (rd2 x10 x12)).f1⟩ : S159)]).map c159) 204 ?_ N32 T160
        by_cases hc10 : x6.length < 8796093022208
        ·rw [if_pos hc10] at H
         refine a_appO (css' := (x6 ++ [(⟨(rd159 x0 (rd2 x10 x12)).f0, (rd159 x0 (rd2 x10 x12)).f1⟩ : S159)]).map c159) (n' := (x6 ++ [(⟨(rd159 x0 (rd2 x10 x12)).f0, (rd159 x0 (rd2 x10 x12)).f1⟩ : S159)]).length) ?_ T160 (by simp [maxLen]; omega) (by simp; omega) Tryz.underlying32 (hc := by exact List.map_append.symm) (hn := by exact List.length_map _)
         refine a_move (v := .c (.own _ _)) ?_
         refine RA.nil nofun ?_
         refine AG.region HM ?_
         refine a_int (u := .int .i64 (wrap64 (x12 + 1))) ?_
         refine a_move (v := vI _) ?_
         refine RA.nil nofun ?_
         exact AGr.canon id (ih0 _ (by omega) _ ⟨by omega, _, _, _, _, _, H, rfl⟩) ⟨rfl, rfl, rfl, rfl, rfl, trivial⟩ ⟨rfl, trivial⟩ rfl
        ·rw [if_neg hc10] at H
         cases H
       ·rw [if_neg hc9] at H
        cases H
      ·rw [if_neg hc8] at H
       cases H
     ·rw [if_neg hc7] at H
      refine AG.yes rfl (congrArg Bool.not (Bool.eq_false_iff.2 hc7)) ?_
      refine AG.seq ?_
      refine AG.region HM ?_
      refine a_nilO (e := 160) 205 ?_ T160
      refine a_move (v := vB _) ?_
      refine RA.nil nofun ?_
      refine AG.ret ?_
      simp only [Option.some.injEq, Prod.mk.injEq] at H
      obtain ⟨rfl, rfl⟩ := H
      exact RetP.mk (fun κ => cond (Nat.beq κ 100) 205 (κ)) ⟨(ownE rfl (by simp)), rfl, trivial⟩ ⟨rfl, trivial⟩ rfl
    ·rw [if_neg hc4] at H
     cases H
   ·rw [if_neg hc3] at H
    cases H
  ·rw [if_neg hc2] at H
   refine AG.no rfl (decide_eq_false hc2) ?_
   refine AG.exit ?_
   refine AG.seq ?_
   refine AG.region HM ?_
   refine a_move (v := .c (.own _ _)) ?_
   refine a_move (v := .c (.own _ _)) ?_
   refine a_move (v := vB _) ?_
   refine RA.nil nofun ?_
   refine AG.ret ?_
   simp only [Option.some.injEq, Prod.mk.injEq] at H
   obtain ⟨rfl, rfl⟩ := H
   exact RetP.mk (fun κ => cond (Nat.beq κ 100) 202 (κ)) ⟨rfl, rfl, trivial⟩ ⟨rfl, trivial⟩ rfl
def impl_doubled.l0 : Nat → List S159 → Int → List S159 → Int → Int → Option (Int)
 | 0, _, _, _, _, _ => none
 | k + 1, x0, x3, x7, x8, x9 => if x9 < x8 then (if 0 ≤ x9 then (if x9 < (x7.length : Int) then (if (x0.length : Int) = 0 then (none) else (if 0 ≤ (Int.tmod (wrap64 (x9 + 1)) (x0.length : Int)) then (if (Int.tmod (wrap64 (x9 + 1)) (x0.length : Int)) < (x0.length : Int) then (impl_doubled.l0 k x0 (wrap64 (x3 + (wrap64 ((wrap64 (((rd159 x7 x9).f0) * ((rd159 x0 (Int.tmod (wrap64 (x9 + 1)) (x0.length : Int))).f1))) - (wrap64 (((rd159 x7 x9).f1) * ((rd159 x0 (Int.tmod (wrap64 (x9 + 1)) (x0.length : Int))).f0))))))) x7 x8 (wrap64 (x9 + 1))) else (none)) else (none))) else (none)) else (none)) else (some x3)
def impl_doubled.f (k : Nat) (l0 : List S159) : Option (Int) := impl_doubled.l0 k l0 0 l0 (l0.length : Int) 0
set_option maxRecDepth 100000 in
theorem impl_doubled.ok {k : Nat} {l0 : List S159} {r : Int} (H : impl_doubled.f k l0 = some r) : OkF Tryz.prog 78 [vR 160 (l0.map c159)] [] (.c (.d (.v (.int .i64 r)))) [] := by
 unfold impl_doubled.f at H
 refine OkF.of (N := 37) (rs := [2]) (avs := [.c (.d (.v (.int .i64 r)))]) Tryz.func78 rfl rfl (fun _ _ => results_tmp rfl _ _ _) (by decide) rfl rfl rfl rfl (fun w0 S => ?_)
 refine AG.seq ?_
 refine AG.region HM ?_
 refine a_move (v := vI _) ?_
 refine RA.nil nofun ?_
 refine AG.seq ?_
 refine AG.region HM ?_
 refine a_move (v := vI _) ?_
 refine RA.nil nofun ?_
 refine AG.seq ?_
 refine AG.seq ?_
 refine AG.region HM ?_
 refine a_move (v := vR _ _) ?_
 refine a_lenR ?_ Tryz.underlying32
 refine a_move (v := vI _) ?_
 refine RA.nil nofun ?_
 refine AG.block ?_
 refine AG.loop ?_
 obtain ⟨K0, hK0, gK0⟩ : ∃ K, k ≤ K ∧ K ≤ k := ⟨k, Nat.le_refl k, Nat.le_refl k⟩
 refine AGr.canon id (AGr.loopI (n := k) (fun k s => k ≤ K0 ∧ ∃ (x0 : List S159) (x3 : Int) (x7 : List S159) (x8 : Int) (x9 : Int), impl_doubled.l0 k x0 x3 x7 x8 x9 = some r ∧ s = St.of [(0, vR 160 (x0.map c159)), (3, vI x3), (7, vR 160 (x7.map c159)), (8, vI x8), (9, vI x9)] []) ⟨hK0, _, _, _, _, _, H, rfl⟩ ?_ ?_) ⟨rfl, rfl, rfl, rfl, rfl, trivial⟩ trivial rfl
 ·rintro _ ⟨_, _, _, _, _, _, H, _⟩
  cases H
 ·clear H hK0
  rintro k ih0 _ ⟨hK0, x0, x3, x7, x8, x9, H, rfl⟩
  unfold impl_doubled.l0 at H
  refine AG.seq ?_
  refine AG.region HM ?_
  refine a_int (u := .bool (decide (x9 < x8))) ?_
  refine RA.nil nofun ?_
  refine AG.seq ?_
  by_cases hc1 : x9 < x8
  ·rw [if_pos hc1] at H
   refine AG.yes rfl (decide_eq_true hc1) ?_
   refine AG.skip ?_
   refine AG.seq ?_
   refine AG.block ?_
   refine AG.seq ?_
   refine AG.region HM ?_
   refine a_move (v := vI _) ?_
   by_cases hc2 : 0 ≤ x9
   ·rw [if_pos hc2] at H
    by_cases hc3 : x9 < (x7.length : Int)
    ·rw [if_pos hc3] at H
     refine a_ixR (el := c159 (rd159 x7 x9)) ?_ ⟨hc2, hc3⟩ T160 Tryz.underlying32 (hel := R159 hc2 hc3)
     refine a_ldR (v := .agg [_, _]) ?_ T160
     refine a_alloc (cs := [_, _]) 200 ?_ T160
     refine a_move (v := vI _) ?_
     refine a_stB (cs' := [_, _]) ?_ T160
     refine RA.nil nofun ?_
     refine AG.seq ?_
     refine AG.region HM ?_
     refine a_move (v := vR _ _) ?_
     refine a_move (v := vI _) ?_
     refine a_int (u := .int .i64 (wrap64 (x9 + 1))) ?_
     refine a_move (v := vR _ _) ?_
     refine a_lenR ?_ Tryz.underlying32
     by_cases hc4 : (x0.length : Int) = 0
     ·rw [if_pos hc4] at H
      cases H
     ·rw [if_neg hc4] at H
      refine a_rem (r := Int.tmod (wrap64 (x9 + 1)) (x0.length : Int)) ?_ hc4
      by_cases hc5 : 0 ≤ (Int.tmod (wrap64 (x9 + 1)) (x0.length : Int))
      ·rw [if_pos hc5] at H
       by_cases hc6 : (Int.tmod (wrap64 (x9 + 1)) (x0.length : Int)) < (x0.length : Int)
       ·rw [if_pos hc6] at H
        refine a_ixR (el := c159 (rd159 x0 (Int.tmod (wrap64 (x9 + 1)) (x0.length : Int)))) ?_ ⟨hc5, hc6⟩ T160 Tryz.underlying32 (hel := R159 hc5 hc6)
        refine a_ldR (v := .agg [_, _]) ?_ T160
        refine a_alloc (cs := [_, _]) 201 ?_ T160
        refine a_stB (cs' := [_, _]) ?_ T160
        refine RA.nil nofun ?_
        refine AG.region HM ?_
        refine a_move (v := vI _) ?_
        refine a_faB (q := 0) ?_ D160_0
        refine a_ldB (v := vI _) ?_ T2
        refine a_faB (q := 1) ?_ D160_1
        refine a_ldB (v := vI _) ?_ T2
        refine a_int (u := .int .i64 (wrap64 (((rd159 x7 x9).f0) * ((rd159 x0 (Int.tmod (wrap64 (x9 + 1)) (x0.length : Int))).f1)))) ?_
        refine a_faB (q := 1) ?_ D160_1
        refine a_ldB (v := vI _) ?_ T2
        refine a_faB (q := 0) ?_ D160_0
        refine a_ldB (v := vI _) ?_ T2
        refine a_int (u := .int .i64 (wrap64 (((rd159 x7 x9).f1) * ((rd159 x0 (Int.tmod (wrap64 (x9 + 1)) (x0.length : Int))).f0)))) ?_
        refine a_int (u := .int .i64 (wrap64 ((wrap64 (((rd159 x7 x9).f0) * ((rd159 x0 (Int.tmod (wrap64 (x9 + 1)) (x0.length : Int))).f1))) - (wrap64 (((rd159 x7 x9).f1) * ((rd159 x0 (Int.tmod (wrap64 (x9 + 1)) (x0.length : Int))).f0)))))) ?_
        refine a_int (u := .int .i64 (wrap64 (x3 + (wrap64 ((wrap64 (((rd159 x7 x9).f0) * ((rd159 x0 (Int.tmod (wrap64 (x9 + 1)) (x0.length : Int))).f1))) - (wrap64 (((rd159 x7 x9).f1) * ((rd159 x0 (Int.tmod (wrap64 (x9 + 1)) (x0.length : Int))).f0)))))))) ?_
        refine a_move (v := vI _) ?_
        refine RA.nil nofun ?_
        refine AG.region HM ?_
        refine a_int (u := .int .i64 (wrap64 (x9 + 1))) ?_
        refine a_move (v := vI _) ?_
        refine RA.nil nofun ?_
        exact AGr.canon id (ih0 _ (by omega) _ ⟨by omega, _, _, _, _, _, H, rfl⟩) ⟨rfl, rfl, rfl, rfl, rfl, trivial⟩ trivial rfl
       ·rw [if_neg hc6] at H
        cases H
      ·rw [if_neg hc5] at H
       cases H
    ·rw [if_neg hc3] at H
     cases H
   ·rw [if_neg hc2] at H
    cases H
  ·rw [if_neg hc1] at H
   refine AG.no rfl (decide_eq_false hc1) ?_
   refine AG.exit ?_
   refine AG.seq ?_
   refine AG.region HM ?_
   refine a_move (v := vI _) ?_
   refine a_move (v := vI _) ?_
   refine RA.nil nofun ?_
   refine AG.ret ?_
   obtain rfl := Option.some.inj H
   exact RetP.mk id ⟨rfl, trivial⟩ trivial rfl
def impl_ValidPoint.f (a0_0 : Int) (a0_1 : Int) : Option (Bool) := (impl_within.f a0_0 0 20000).bind fun t1 => (if t1 = true then ((impl_within.f a0_1 0 20000).bind fun t4 => (some t4)) else (some false))
set_option maxRecDepth 100000 in
theorem impl_ValidPoint.ok {a0_0 : Int} {a0_1 : Int} {r : Bool} (H : impl_ValidPoint.f a0_0 a0_1 = some r) : OkF Tryz.prog 200 [.agg [.d (.v (.int .i64 a0_0)), .d (.v (.int .i64 a0_1))]] [] (.c (.d (.v (.bool r)))) [] := by
 unfold impl_ValidPoint.f at H
 refine OkF.of (N := 11) (rs := [2]) (avs := [.c (.d (.v (.bool r)))]) Tryz.func200 rfl rfl (fun _ _ => results_tmp rfl _ _ _) (by decide) rfl rfl rfl rfl (fun w0 S => ?_)
 refine AG.seq ?_
 refine AG.region HM ?_
 refine a_box 200 ?_
 refine a_move (v := vB _) ?_
 refine RA.nil nofun ?_
 refine AG.seq ?_
 refine AG.region HM ?_
 refine a_faB (q := 0) ?_ D160_0
 refine a_ldB (v := vI _) ?_ T2
 obtain ⟨t1, e2, H⟩ := bindO H
 refine a_call (v := vB t1) (nk := []) (L := []) ?_ rfl (impl_within.ok e2) id (qd (qd (qd qn))) trivial trivial trivial rfl
 refine a_move (v := vB _) ?_
 by_cases hc3 : t1 = true
 ·rw [if_pos hc3] at H
  refine a_faB (q := 1) ?_ D160_1 (hg := Gs.yes rfl rfl rfl hc3)
  refine a_ldB (v := vI _) ?_ T2 (hg := Gs.yes rfl rfl rfl hc3)
  obtain ⟨t4, e5, H⟩ := bindO H
  refine a_call (v := vB t4) (nk := []) (L := []) ?_ rfl (impl_within.ok e5) id (qd (qd (qd qn))) trivial trivial trivial rfl (hg := Gs.yes rfl rfl rfl hc3)
  refine a_pick (b := true) (v := vB _) ?_ hc3
  refine a_move (v := vB _) ?_
  refine RA.nil nofun ?_
  refine AG.ret ?_
  obtain rfl := Option.some.inj H
  exact RetP.mk id ⟨rfl, trivial⟩ trivial rfl
 ·rw [if_neg hc3] at H
  refine RA.skip rfl rfl rfl rfl rfl (Bool.eq_false_iff.2 hc3) (by decide) ?_
  refine RA.skip rfl rfl rfl rfl rfl (Bool.eq_false_iff.2 hc3) (by decide) ?_
  refine RA.skip rfl rfl rfl rfl rfl (Bool.eq_false_iff.2 hc3) (by decide) ?_
  refine a_pick (b := false) (v := vB _) ?_ (Bool.eq_false_iff.2 hc3)
  refine a_move (v := vB _) ?_
  refine RA.nil nofun ?_
  refine AG.ret ?_
  obtain rfl := Option.some.inj H
  exact RetP.mk id ⟨rfl, trivial⟩ trivial rfl
end Go.Proofs.YtadjbffiomkljaaGreat.PFnExactEnoughStock

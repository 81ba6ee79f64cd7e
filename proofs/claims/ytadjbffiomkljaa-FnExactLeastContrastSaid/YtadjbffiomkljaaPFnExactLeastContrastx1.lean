/- What each function that the law FnExactLeastContrast reaches comes to, and the proof that its walk comes to it; laid by a program of this session. No condition. -/
import Derived.Test.YtadjbffiomkljaaPFnExactLeastContrastx0
import Derived.KernelRfl
import Derived.OwnWalk
import Derived.Test.YtadjbffiomkljaaProg
set_option linter.unusedVariables false
set_option linter.unusedSimpArgs false
namespace Go.Proofs.Ytadjbffiomkljaa.PFnExactLeastContrast
open Go Go.RowKit Go.Proofs.YtadjbffiomkljaaM Go.Proofs
/-! ### spec_l05Ok: function 37 -/
mutual
def spec_l05Ok.j0 : Nat → Int → Int → List S107 → List S98 → Bool → Option (Bool)
 | 0, _, _, _, _, _ => none
 | k + 1, x0_0, x0_1, x0_2, x0_3, x32 => if x32 = true then (some false) else (spec_l05Ok.l0 k x0_0 x0_1 x0_2 x0_3 0)
def spec_l05Ok.l0 : Nat → Int → Int → List S107 → List S98 → Int → Option (Bool)
 | 0, _, _, _, _, _ => none
 | k + 1, x0_0, x0_1, x0_2, x0_3, x3 => if x3 < (x0_3.length : Int) then (if 0 ≤ x3 then ((spec_l01Name.f k ((rd98 x0_3 x3).f0)).bind fun t13 => (if t13 = true then (if x3 > 0 then (if 0 ≤ (wrap64 (x3 - 1)) then (if (wrap64 (x3 - 1)) < (x0_3.length : Int) then (spec_l05Ok.j1 k x0_0 x0_1 x0_2 x0_3 x3 (!(Op.bytesLess (((rd98 x0_3 (wrap64 (x3 - 1))).f0).toList) (((rd98 x0_3 x3).f0).toList)))) else (none)) else (none)) else (spec_l05Ok.j1 k x0_0 x0_1 x0_2 x0_3 x3 false)) else (spec_l05Ok.j1 k x0_0 x0_1 x0_2 x0_3 x3 true))) else (none)) else (some true)
def spec_l05Ok.j1 : Nat → Int → Int → List S107 → List S98 → Int → Bool → Option (Bool)
 | 0, _, _, _, _, _, _ => none
 | k + 1, x0_0, x0_1, x0_2, x0_3, x3, x75 => if x75 = true then (some false) else (if 0 ≤ x3 then (if x3 < (x0_3.length : Int) then ((spec_l05Ring.f k x0_0 x0_1 x0_2 x0_3 ((rd98 x0_3 x3).f1)).bind fun bt22 => (if bt22.2 = true then ((spec_l03Ok.f k bt22.1).bind fun t26 => (if t26 = true then (spec_l05Ok.l0 k x0_0 x0_1 x0_2 x0_3 (wrap64 (x3 + 1))) else (some false))) else (some false))) else (none)) else (none))
end
def spec_l05Ok.f (k : Nat) (a0_0 : Int) (a0_1 : Int) (l0_2 : List S107) (l0_3 : List S98) : Option (Bool) := (spec_l00In.f a0_0 10 20000).bind fun t1 => (if t1 = true then ((spec_l00In.f a0_1 10 20000).bind fun t4 => (if t4 = true then ((spec_l05Points.f k a0_0 a0_1 l0_2 l0_3).bind fun t7 => (if t7 = true then (spec_l05Ok.j0 k a0_0 a0_1 l0_2 l0_3 (decide ((l0_3.length : Int) > 24))) else (spec_l05Ok.j0 k a0_0 a0_1 l0_2 l0_3 true))) else (spec_l05Ok.j0 k a0_0 a0_1 l0_2 l0_3 true))) else (spec_l05Ok.j0 k a0_0 a0_1 l0_2 l0_3 true))
set_option maxRecDepth 100000 in
theorem spec_l05Ok.ok {k : Nat} {a0_0 : Int} {a0_1 : Int} {l0_2 : List S107} {l0_3 : List S98} {r : Bool} (H : spec_l05Ok.f k a0_0 a0_1 l0_2 l0_3 = some r) : OkF Try.prog 37 [.c (.d (.ro [.v (.int .i64 a0_0), .v (.int .i64 a0_1), .row 108 (l0_2.map c107), .row 101 (l0_3.map c98)]))] [] (.c (.d (.v (.bool r)))) [] := by
 unfold spec_l05Ok.f at H
 refine OkF.of (N := 96) (rs := [2]) (avs := [.c (.d (.v (.bool r)))]) Try.func37 rfl rfl (fun _ _ => results_tmp rfl _ _ _) (by decide) rfl rfl rfl rfl (fun w0 S => ?_)
 refine AG.seq ?_
 refine AG.region HM ?_
 refine a_move (v := vB _) ?_
 refine RA.nil nofun ?_
 refine AG.seq ?_
 refine AG.seq ?_
 refine AG.joinR (fun s => ∃ q, q ≤ k ∧ ∃ (x0_0 : Int) (x0_1 : Int) (x0_2 : List S107) (x0_3 : List S98) (x32 : Bool), spec_l05Ok.j0 q x0_0 x0_1 x0_2 x0_3 x32 = some r ∧ s = St.of [(0, .c (.d (.ro [.v (.int .i64 x0_0), .v (.int .i64 x0_1), .row 108 (x0_2.map c107), .row 101 (x0_3.map c98)]))), (32, vB x32)] []) ?_ ?_
 ·skip
  refine AG.region HM ?_
  refine a_move (v := vO [_, _, _, _]) ?_
  refine a_nil (v := vO [_, _, _, _]) ?_
  refine a_faR (cells' := [_, _, _, _]) ?_ D49_0
  refine a_ldR (v := vI _) ?_ T2
  obtain ⟨t1, e2, H⟩ := bindO H
  refine a_call (v := vB t1) (nk := []) (L := []) ?_ rfl (spec_l00In.ok e2) id (qd (qd (qd qn))) trivial trivial trivial rfl
  refine a_un (u := .bool (!t1)) ?_
  refine a_move (v := vB _) ?_
  by_cases hc3 : t1 = true
  ·rw [if_pos hc3] at H
   refine a_move (v := vO [_, _, _, _]) ?_ (hg := Gs.yes rfl rfl rfl (congrArg Bool.not hc3))
   refine a_nil (v := vO [_, _, _, _]) ?_ (hg := Gs.yes rfl rfl rfl (congrArg Bool.not hc3))
   refine a_faR (cells' := [_, _, _]) ?_ D49_1 (hg := Gs.yes rfl rfl rfl (congrArg Bool.not hc3))
   refine a_ldR (v := vI _) ?_ T2 (hg := Gs.yes rfl rfl rfl (congrArg Bool.not hc3))
   obtain ⟨t4, e5, H⟩ := bindO H
   refine a_call (v := vB t4) (nk := []) (L := []) ?_ rfl (spec_l00In.ok e5) id (qd (qd (qd qn))) trivial trivial trivial rfl (hg := Gs.yes rfl rfl rfl (congrArg Bool.not hc3))
   refine a_un (u := .bool (!t4)) ?_ (hg := Gs.yes rfl rfl rfl (congrArg Bool.not hc3))
   refine a_pick (b := false) (v := vB _) ?_ (congrArg Bool.not hc3)
   refine a_move (v := vB _) ?_
   by_cases hc6 : t4 = true
   ·rw [if_pos hc6] at H
    refine a_move (v := vO [_, _, _, _]) ?_ (hg := Gs.yes rfl rfl rfl (congrArg Bool.not hc6))
    obtain ⟨t7, e8, H⟩ := bindO H
    refine a_call (v := vB t7) (nk := []) (L := []) ?_ rfl (spec_l05Points.ok e8) id (qd qn) trivial trivial trivial rfl (hg := Gs.yes rfl rfl rfl (congrArg Bool.not hc6))
    refine a_un (u := .bool (!t7)) ?_ (hg := Gs.yes rfl rfl rfl (congrArg Bool.not hc6))
    refine a_pick (b := false) (v := vB _) ?_ (congrArg Bool.not hc6)
    refine a_move (v := vB _) ?_
    by_cases hc9 : t7 = true
    ·rw [if_pos hc9] at H
     refine a_move (v := vO [_, _, _, _]) ?_ (hg := Gs.yes rfl rfl rfl (congrArg Bool.not hc9))
     refine a_nil (v := vO [_, _, _, _]) ?_ (hg := Gs.yes rfl rfl rfl (congrArg Bool.not hc9))
     refine a_faR (cells' := [_]) ?_ D49_3 (hg := Gs.yes rfl rfl rfl (congrArg Bool.not hc9))
     refine a_ldR (v := vR _ _) ?_ T47 (hg := Gs.yes rfl rfl rfl (congrArg Bool.not hc9))
     refine a_lenR ?_ Try.underlying47 (hg := Gs.yes rfl rfl rfl (congrArg Bool.not hc9))
     refine a_int (u := .bool (decide ((l0_3.length : Int) > 24))) ?_ (hg := Gs.yes rfl rfl rfl (congrArg Bool.not hc9))
     refine a_pick (b := false) (v := vB _) ?_ (congrArg Bool.not hc9)
     refine RA.nil nofun ?_
     exact CanR.mk id ⟨_, (by omega), _, _, _, _, _, H, rfl⟩ ⟨rfl, rfl, trivial⟩ trivial rfl
    ·rw [if_neg hc9] at H
     refine RA.skip rfl rfl rfl rfl rfl (congrArg Bool.not (Bool.eq_false_iff.2 hc9)) (by decide) ?_
     refine RA.skip rfl rfl rfl rfl rfl (congrArg Bool.not (Bool.eq_false_iff.2 hc9)) (by decide) ?_
     refine RA.skip rfl rfl rfl rfl rfl (congrArg Bool.not (Bool.eq_false_iff.2 hc9)) (by decide) ?_
     refine RA.skip rfl rfl rfl rfl rfl (congrArg Bool.not (Bool.eq_false_iff.2 hc9)) (by decide) ?_
     refine RA.skip rfl rfl rfl rfl rfl (congrArg Bool.not (Bool.eq_false_iff.2 hc9)) (by decide) ?_
     refine RA.skip rfl rfl rfl rfl rfl (congrArg Bool.not (Bool.eq_false_iff.2 hc9)) (by decide) ?_
     refine a_pick (b := true) (v := vB _) ?_ (congrArg Bool.not (Bool.eq_false_iff.2 hc9))
     refine RA.nil nofun ?_
     exact CanR.mk id ⟨_, (by omega), _, _, _, _, _, H, rfl⟩ ⟨rfl, rfl, trivial⟩ trivial rfl
   ·rw [if_neg hc6] at H
    refine RA.skip rfl rfl rfl rfl rfl (congrArg Bool.not (Bool.eq_false_iff.2 hc6)) (by decide) ?_
    refine RA.skip rfl rfl rfl rfl rfl (congrArg Bool.not (Bool.eq_false_iff.2 hc6)) (by decide) ?_
    refine RA.skip rfl rfl rfl rfl rfl (congrArg Bool.not (Bool.eq_false_iff.2 hc6)) (by decide) ?_
    refine a_pick (b := true) (v := vB _) ?_ (congrArg Bool.not (Bool.eq_false_iff.2 hc6))
    refine a_move (v := vB _) ?_
    refine RA.skip rfl rfl rfl rfl rfl rfl (by decide) ?_
    refine RA.skip rfl rfl rfl rfl rfl rfl (by decide) ?_
    refine RA.skip rfl rfl rfl rfl rfl rfl (by decide) ?_
    refine RA.skip rfl rfl rfl rfl rfl rfl (by decide) ?_
    refine RA.skip rfl rfl rfl rfl rfl rfl (by decide) ?_
    refine RA.skip rfl rfl rfl rfl rfl rfl (by decide) ?_
    refine a_pick (b := true) (v := vB _) ?_ rfl
    refine RA.nil nofun ?_
    exact CanR.mk id ⟨_, (by omega), _, _, _, _, _, H, rfl⟩ ⟨rfl, rfl, trivial⟩ trivial rfl
  ·rw [if_neg hc3] at H
   refine RA.skip rfl rfl rfl rfl rfl (congrArg Bool.not (Bool.eq_false_iff.2 hc3)) (by decide) ?_
   refine RA.skip rfl rfl rfl rfl rfl (congrArg Bool.not (Bool.eq_false_iff.2 hc3)) (by decide) ?_
   refine RA.skip rfl rfl rfl rfl rfl (congrArg Bool.not (Bool.eq_false_iff.2 hc3)) (by decide) ?_
   refine RA.skip rfl rfl rfl rfl rfl (congrArg Bool.not (Bool.eq_false_iff.2 hc3)) (by decide) ?_
   refine RA.skip rfl rfl rfl rfl rfl (congrArg Bool.not (Bool.eq_false_iff.2 hc3)) (by decide) ?_
   refine RA.skip rfl rfl rfl rfl rfl (congrArg Bool.not (Bool.eq_false_iff.2 hc3)) (by decide) ?_
   refine a_pick (b := true) (v := vB _) ?_ (congrArg Bool.not (Bool.eq_false_iff.2 hc3))
   refine a_move (v := vB _) ?_
   refine RA.skip rfl rfl rfl rfl rfl rfl (by decide) ?_
   refine RA.skip rfl rfl rfl rfl rfl rfl (by decide) ?_
   refine RA.skip rfl rfl rfl rfl rfl rfl (by decide) ?_
   refine a_pick (b := true) (v := vB _) ?_ rfl
   refine a_move (v := vB _) ?_
   refine RA.skip rfl rfl rfl rfl rfl rfl (by decide) ?_
   refine RA.skip rfl rfl rfl rfl rfl rfl (by decide) ?_
   refine RA.skip rfl rfl rfl rfl rfl rfl (by decide) ?_
   refine RA.skip rfl rfl rfl rfl rfl rfl (by decide) ?_
   refine RA.skip rfl rfl rfl rfl rfl rfl (by decide) ?_
   refine RA.skip rfl rfl rfl rfl rfl rfl (by decide) ?_
   refine a_pick (b := true) (v := vB _) ?_ rfl
   refine RA.nil nofun ?_
   exact CanR.mk id ⟨_, (by omega), _, _, _, _, _, H, rfl⟩ ⟨rfl, rfl, trivial⟩ trivial rfl
 ·clear H
  rintro _ ⟨k, hj0, x0_0, x0_1, x0_2, x0_3, x32, H, rfl⟩
  cases k with
  | zero => cases H
  | succ k =>
   rw [spec_l05Ok.j0] at H
   by_cases hc10 : x32 = true
   ·rw [if_pos hc10] at H
    refine AG.yes rfl hc10 ?_
    refine AG.seq ?_
    refine AG.region HM ?_
    refine a_move (v := vB _) ?_
    refine RA.nil nofun ?_
    refine AG.ret ?_
    obtain rfl := Option.some.inj H
    exact RetP.mk id ⟨rfl, trivial⟩ trivial rfl
   ·rw [if_neg hc10] at H
    refine AG.no rfl (Bool.eq_false_iff.2 hc10) ?_
    refine AG.skip ?_
    refine AG.seq ?_
    refine AG.seq ?_
    refine AG.region HM ?_
    refine a_move (v := vI _) ?_
    refine RA.nil nofun ?_
    refine AG.block ?_
    refine AG.loop ?_
    obtain ⟨K0, hK0, gK0⟩ : ∃ K, k ≤ K ∧ K ≤ k := ⟨k, Nat.le_refl k, Nat.le_refl k⟩
    refine AGr.canon id (AGr.loopI (n := k) (fun k s => k ≤ K0 ∧ ∃ (x0_0 : Int) (x0_1 : Int) (x0_2 : List S107) (x0_3 : List S98) (x3 : Int), spec_l05Ok.l0 k x0_0 x0_1 x0_2 x0_3 x3 = some r ∧ s = St.of [(0, .c (.d (.ro [.v (.int .i64 x0_0), .v (.int .i64 x0_1), .row 108 (x0_2.map c107), .row 101 (x0_3.map c98)]))), (3, vI x3)] []) ⟨hK0, _, _, _, _, _, H, rfl⟩ ?_ ?_) ⟨rfl, rfl, trivial⟩ trivial rfl
    ·rintro _ ⟨_, _, _, _, _, _, H, _⟩
     cases H
    ·clear H hK0
     rintro k ih0 _ ⟨hK0, x0_0, x0_1, x0_2, x0_3, x3, H, rfl⟩
     unfold spec_l05Ok.l0 at H
     refine AG.seq ?_
     refine AG.seq ?_
     refine AG.region HM ?_
     refine a_move (v := vI _) ?_
     refine a_move (v := vO [_, _, _, _]) ?_
     refine a_nil (v := vO [_, _, _, _]) ?_
     refine a_faR (cells' := [_]) ?_ D49_3
     refine a_ldR (v := vR _ _) ?_ T47
     refine a_lenR ?_ Try.underlying47
     refine a_int (u := .bool (decide (x3 < (x0_3.length : Int)))) ?_
     refine RA.nil nofun ?_
     by_cases hc11 : x3 < (x0_3.length : Int)
     ·rw [if_pos hc11] at H
      refine AG.yes rfl (decide_eq_true hc11) ?_
      refine AG.skip ?_
      refine AG.seq ?_
      refine AG.block ?_
      refine AG.seq ?_
      refine AG.seq ?_
      refine AG.joinR (fun s => ∃ q, q ≤ k ∧ ∃ (x0_0 : Int) (x0_1 : Int) (x0_2 : List S107) (x0_3 : List S98) (x3 : Int) (x75 : Bool), spec_l05Ok.j1 q x0_0 x0_1 x0_2 x0_3 x3 x75 = some r ∧ s = St.of [(0, .c (.d (.ro [.v (.int .i64 x0_0), .v (.int .i64 x0_1), .row 108 (x0_2.map c107), .row 101 (x0_3.map c98)]))), (3, vI x3), (75, vB x75)] []) ?_ ?_
      ·skip
       refine AG.region HM ?_
       refine a_move (v := vO [_, _, _, _]) ?_
       refine a_nil (v := vO [_, _, _, _]) ?_
       refine a_faR (cells' := [_]) ?_ D49_3
       refine a_ldR (v := vR _ _) ?_ T47
       refine a_move (v := vI _) ?_
       by_cases hc12 : 0 ≤ x3
       ·rw [if_pos hc12] at H
        refine a_ixR (el := c98 (rd98 x0_3 x3)) ?_ ⟨hc12, hc11⟩ T101 Try.underlying47 (hel := R98 hc12 hc11)
        refine a_faR (cells' := [_, _]) ?_ D101_0
        refine a_ldR (v := vS _) ?_ T9
        obtain ⟨t13, e14, H⟩ := bindO H
        refine a_call (v := vB t13) (nk := []) (L := []) ?_ rfl (spec_l01Name.ok e14) id (qd qn) trivial trivial trivial rfl
        refine a_un (u := .bool (!t13)) ?_
        refine a_move (v := vB _) ?_
        by_cases hc15 : t13 = true
        ·rw [if_pos hc15] at H
         refine a_move (v := vI _) ?_ (hg := Gs.yes rfl rfl rfl (congrArg Bool.not hc15))
         refine a_int (u := .bool (decide (x3 > 0))) ?_ (hg := Gs.yes rfl rfl rfl (congrArg Bool.not hc15))
         refine a_move (v := vB _) ?_ (hg := Gs.yes rfl rfl rfl (congrArg Bool.not hc15))
         by_cases hc16 : x3 > 0
         ·rw [if_pos hc16] at H
          refine a_move (v := vO [_, _, _, _]) ?_ (hg := Gs.yes rfl rfl rfl (decide_eq_true hc16))
          refine a_nil (v := vO [_, _, _, _]) ?_ (hg := Gs.yes rfl rfl rfl (decide_eq_true hc16))
          refine a_faR (cells' := [_]) ?_ D49_3 (hg := Gs.yes rfl rfl rfl (decide_eq_true hc16))
          refine a_ldR (v := vR _ _) ?_ T47 (hg := Gs.yes rfl rfl rfl (decide_eq_true hc16))
          refine a_move (v := vI _) ?_ (hg := Gs.yes rfl rfl rfl (decide_eq_true hc16))
          refine a_int (u := .int .i64 (wrap64 (x3 - 1))) ?_ (hg := Gs.yes rfl rfl rfl (decide_eq_true hc16))
          by_cases hc17 : 0 ≤ (wrap64 (x3 - 1))
          ·rw [if_pos hc17] at H
           by_cases hc18 : (wrap64 (x3 - 1)) < (x0_3.length : Int)
           ·rw [if_pos hc18] at H
            refine a_ixR (el := c98 (rd98 x0_3 (wrap64 (x3 - 1)))) ?_ ⟨hc17, hc18⟩ T101 Try.underlying47 (hel := R98 hc17 hc18) (hg := Gs.yes rfl rfl rfl (decide_eq_true hc16))
            refine a_faR (cells' := [_, _]) ?_ D101_0 (hg := Gs.yes rfl rfl rfl (decide_eq_true hc16))
            refine a_ldR (v := vS _) ?_ T9 (hg := Gs.yes rfl rfl rfl (decide_eq_true hc16))
            refine a_move (v := vO [_, _, _, _]) ?_ (hg := Gs.yes rfl rfl rfl (decide_eq_true hc16))
            refine a_nil (v := vO [_, _, _, _]) ?_ (hg := Gs.yes rfl rfl rfl (decide_eq_true hc16))
            refine a_faR (cells' := [_]) ?_ D49_3 (hg := Gs.yes rfl rfl rfl (decide_eq_true hc16))
            refine a_ldR (v := vR _ _) ?_ T47 (hg := Gs.yes rfl rfl rfl (decide_eq_true hc16))
            refine a_move (v := vI _) ?_ (hg := Gs.yes rfl rfl rfl (decide_eq_true hc16))
            refine a_ixR (el := c98 (rd98 x0_3 x3)) ?_ ⟨hc12, hc11⟩ T101 Try.underlying47 (hel := R98 hc12 hc11) (hg := Gs.yes rfl rfl rfl (decide_eq_true hc16))
            refine a_faR (cells' := [_, _]) ?_ D101_0 (hg := Gs.yes rfl rfl rfl (decide_eq_true hc16))
            refine a_ldR (v := vS _) ?_ T9 (hg := Gs.yes rfl rfl rfl (decide_eq_true hc16))
            refine a_bin (u := .bool (!(Op.bytesLess (((rd98 x0_3 (wrap64 (x3 - 1))).f0).toList) (((rd98 x0_3 x3).f0).toList)))) ?_ (hg := Gs.yes rfl rfl rfl (decide_eq_true hc16))
            refine a_pick (b := true) (v := vB _) ?_ (decide_eq_true hc16) (hg := Gs.yes rfl rfl rfl (congrArg Bool.not hc15))
            refine a_pick (b := false) (v := vB _) ?_ (congrArg Bool.not hc15)
            refine RA.nil (fun _ => by kernel_rfl) ?_
            exact CanR.mk id ⟨_, (by omega), _, _, _, _, _, _, H, rfl⟩ ⟨rfl, rfl, rfl, trivial⟩ trivial rfl
           ·rw [if_neg hc18] at H
            cases H
          ·rw [if_neg hc17] at H
           cases H
         ·rw [if_neg hc16] at H
          refine RA.skip rfl rfl rfl rfl rfl (decide_eq_false hc16) (by decide) ?_
          refine RA.skip rfl rfl rfl rfl rfl (decide_eq_false hc16) (by decide) ?_
          refine RA.skip rfl rfl rfl rfl rfl (decide_eq_false hc16) (by decide) ?_
          refine RA.skip rfl rfl rfl rfl rfl (decide_eq_false hc16) (by decide) ?_
          refine RA.skip rfl rfl rfl rfl rfl (decide_eq_false hc16) (by decide) ?_
          refine RA.skip rfl rfl rfl rfl rfl (decide_eq_false hc16) (by decide) ?_
          refine RA.skip rfl rfl rfl rfl rfl (decide_eq_false hc16) (by decide) ?_
          refine RA.skip rfl rfl rfl rfl rfl (decide_eq_false hc16) (by decide) ?_
          refine RA.skip rfl rfl rfl rfl rfl (decide_eq_false hc16) (by decide) ?_
          refine RA.skip rfl rfl rfl rfl rfl (decide_eq_false hc16) (by decide) ?_
          refine RA.skip rfl rfl rfl rfl rfl (decide_eq_false hc16) (by decide) ?_
          refine RA.skip rfl rfl rfl rfl rfl (decide_eq_false hc16) (by decide) ?_
          refine RA.skip rfl rfl rfl rfl rfl (decide_eq_false hc16) (by decide) ?_
          refine RA.skip rfl rfl rfl rfl rfl (decide_eq_false hc16) (by decide) ?_
          refine RA.skip rfl rfl rfl rfl rfl (decide_eq_false hc16) (by decide) ?_
          refine RA.skip rfl rfl rfl rfl rfl (decide_eq_false hc16) (by decide) ?_
          refine RA.skip rfl rfl rfl rfl rfl (decide_eq_false hc16) (by decide) ?_
          refine RA.skip rfl rfl rfl rfl rfl (decide_eq_false hc16) (by decide) ?_
          refine a_pick (b := false) (v := vB _) ?_ (decide_eq_false hc16) (hg := Gs.yes rfl rfl rfl (congrArg Bool.not hc15))
          refine a_pick (b := false) (v := vB _) ?_ (congrArg Bool.not hc15)
          refine RA.nil (fun _ => by kernel_rfl) ?_
          exact CanR.mk id ⟨_, (by omega), _, _, _, _, _, _, H, rfl⟩ ⟨rfl, rfl, rfl, trivial⟩ trivial rfl
        ·rw [if_neg hc15] at H
         refine RA.skip rfl rfl rfl rfl rfl (congrArg Bool.not (Bool.eq_false_iff.2 hc15)) (by decide) ?_
         refine RA.skip rfl rfl rfl rfl rfl (congrArg Bool.not (Bool.eq_false_iff.2 hc15)) (by decide) ?_
         refine RA.skip rfl rfl rfl rfl rfl (congrArg Bool.not (Bool.eq_false_iff.2 hc15)) (by decide) ?_
         refine RA.skip0 rfl rfl rfl rfl rfl ?_
         refine RA.skip0 rfl rfl rfl rfl rfl ?_
         refine RA.skip0 rfl rfl rfl rfl rfl ?_
         refine RA.skip0 rfl rfl rfl rfl rfl ?_
         refine RA.skip0 rfl rfl rfl rfl rfl ?_
         refine RA.skip0 rfl rfl rfl rfl rfl ?_
         refine RA.skip0 rfl rfl rfl rfl rfl ?_
         refine RA.skip0 rfl rfl rfl rfl rfl ?_
         refine RA.skip0 rfl rfl rfl rfl rfl ?_
         refine RA.skip0 rfl rfl rfl rfl rfl ?_
         refine RA.skip0 rfl rfl rfl rfl rfl ?_
         refine RA.skip0 rfl rfl rfl rfl rfl ?_
         refine RA.skip0 rfl rfl rfl rfl rfl ?_
         refine RA.skip0 rfl rfl rfl rfl rfl ?_
         refine RA.skip0 rfl rfl rfl rfl rfl ?_
         refine RA.skip0 rfl rfl rfl rfl rfl ?_
         refine RA.skip0 rfl rfl rfl rfl rfl ?_
         refine RA.skip0 rfl rfl rfl rfl rfl ?_
         refine RA.skip rfl rfl rfl rfl rfl (congrArg Bool.not (Bool.eq_false_iff.2 hc15)) (by decide) ?_
         refine a_pick (b := true) (v := vB _) ?_ (congrArg Bool.not (Bool.eq_false_iff.2 hc15))
         refine RA.nil (fun _ => by kernel_rfl) ?_
         exact CanR.mk id ⟨_, (by omega), _, _, _, _, _, _, H, rfl⟩ ⟨rfl, rfl, rfl, trivial⟩ trivial rfl
       ·rw [if_neg hc12] at H
        cases H
      ·clear H
       rintro _ ⟨k, hj1, x0_0, x0_1, x0_2, x0_3, x3, x75, H, rfl⟩
       cases k with
       | zero => cases H
       | succ k =>
        rw [spec_l05Ok.j1] at H
        by_cases hc19 : x75 = true
        ·rw [if_pos hc19] at H
         refine AG.yes rfl hc19 ?_
         refine AG.seq ?_
         refine AG.region HM ?_
         refine a_move (v := vB _) ?_
         refine RA.nil nofun ?_
         refine AG.ret ?_
         obtain rfl := Option.some.inj H
         exact RetP.mk id ⟨rfl, trivial⟩ trivial rfl
        ·rw [if_neg hc19] at H
         refine AG.no rfl (Bool.eq_false_iff.2 hc19) ?_
         refine AG.skip ?_
         refine AG.seq ?_
         refine AG.region HM ?_
         refine a_move (v := vO [_, _, _, _]) ?_
         refine a_move (v := vO [_, _, _, _]) ?_
         refine a_nil (v := vO [_, _, _, _]) ?_
         refine a_faR (cells' := [_]) ?_ D49_3
         refine a_ldR (v := vR _ _) ?_ T47
         refine a_move (v := vI _) ?_
         by_cases hc20 : 0 ≤ x3
         ·rw [if_pos hc20] at H
          by_cases hc21 : x3 < (x0_3.length : Int)
          ·rw [if_pos hc21] at H
           refine a_ixR (el := c98 (rd98 x0_3 x3)) ?_ ⟨hc20, hc21⟩ T101 Try.underlying47 (hel := R98 hc20 hc21)
           refine a_faR (cells' := [_]) ?_ D101_1
           refine a_ldR (v := vR _ _) ?_ T23
           obtain ⟨⟨t22, t23⟩, e24, H⟩ := bindO H
           refine a_call (v := .tup [.c (.own 204 t22.length), .c (.d (.v (.bool t23)))]) (nk := [(204, .row 108 (t22.map c107))]) (L := []) ?_ rfl (spec_l05Ring.ok e24) (fun κ => cond (Nat.beq κ 204) 100 (κ)) (qd (qd qn)) trivial ⟨rfl, trivial⟩ ⟨rfl, trivial⟩ rfl
           refine a_move (v := .tup [_, _]) ?_
           refine a_ext (v := .c (.own _ _)) ?_
           refine a_ext (v := vB _) ?_
           refine a_move (v := .c (.own _ _)) ?_
           refine a_move (v := vB _) ?_
           refine RA.nil nofun ?_
           refine AG.seq ?_
           refine AG.region HM ?_
           refine a_move (v := vB _) ?_
           refine a_un (u := .bool (!t23)) ?_
           refine a_move (v := vB _) ?_
           by_cases hc25 : t23 = true
           ·rw [if_pos hc25] at H
            refine a_move (v := .c (.own _ _)) ?_ (hg := Gs.yes rfl rfl rfl (congrArg Bool.not hc25))
            obtain ⟨t26, e27, H⟩ := bindO H
            refine a_call (v := vB t26) (nk := []) (L := [(204, _)]) ?_ rfl (spec_l03Ok.ok e27) id (qc rO qn) ⟨rfl, trivial⟩ trivial trivial rfl (hg := Gs.yes rfl rfl rfl (congrArg Bool.not hc25))
            refine a_un (u := .bool (!t26)) ?_ (hg := Gs.yes rfl rfl rfl (congrArg Bool.not hc25))
            refine a_pick (b := false) (v := vB _) ?_ (congrArg Bool.not hc25)
            refine RA.nil nofun ?_
            by_cases hc28 : t26 = true
            ·rw [if_pos hc28] at H
             refine AG.no rfl (congrArg Bool.not hc28) ?_
             refine AG.skip ?_
             refine AG.region HM ?_
             refine a_move (v := vI _) ?_
             refine a_int (u := .int .i64 (wrap64 (x3 + 1))) ?_
             refine a_move (v := vI _) ?_
             refine RA.nil nofun ?_
             exact AGr.canon id (ih0 _ (by omega) _ ⟨by omega, _, _, _, _, _, H, rfl⟩) ⟨rfl, rfl, trivial⟩ trivial rfl
            ·rw [if_neg hc28] at H
             refine AG.yes rfl (congrArg Bool.not (Bool.eq_false_iff.2 hc28)) ?_
             refine AG.seq ?_
             refine AG.region HM ?_
             refine a_move (v := vB _) ?_
             refine RA.nil nofun ?_
             refine AG.ret ?_
             obtain rfl := Option.some.inj H
             exact RetP.mk id ⟨rfl, trivial⟩ trivial rfl
           ·rw [if_neg hc25] at H
            refine RA.skip rfl rfl rfl rfl rfl (congrArg Bool.not (Bool.eq_false_iff.2 hc25)) (by decide) ?_
            refine RA.skip rfl rfl rfl rfl rfl (congrArg Bool.not (Bool.eq_false_iff.2 hc25)) (by decide) ?_
            refine RA.skip rfl rfl rfl rfl rfl (congrArg Bool.not (Bool.eq_false_iff.2 hc25)) (by decide) ?_
            refine a_pick (b := true) (v := vB _) ?_ (congrArg Bool.not (Bool.eq_false_iff.2 hc25))
            refine RA.nil nofun ?_
            refine AG.yes rfl rfl ?_
            refine AG.seq ?_
            refine AG.region HM ?_
            refine a_move (v := vB _) ?_
            refine RA.nil nofun ?_
            refine AG.ret ?_
            obtain rfl := Option.some.inj H
            exact RetP.mk id ⟨rfl, trivial⟩ trivial rfl
          ·rw [if_neg hc21] at H
           cases H
         ·rw [if_neg hc20] at H
          cases H
     ·rw [if_neg hc11] at H
      refine AG.no rfl (decide_eq_false hc11) ?_
      refine AG.exit ?_
      refine AG.seq ?_
      refine AG.region HM ?_
      refine a_move (v := vB _) ?_
      refine RA.nil nofun ?_
      refine AG.ret ?_
      obtain rfl := Option.some.inj H
      exact RetP.mk id ⟨rfl, trivial⟩ trivial rfl
/-! ### spec_l05HasEdge: function 98 -/
def spec_l05HasEdge.l0 : Nat → List Int → Int → Int → Int → Option (Bool)
 | 0, _, _, _, _ => none
 | k + 1, x0, x1, x2, x7 => if x7 < (x0.length : Int) then (if 0 ≤ x7 then (if (x0.length : Int) = 0 then (none) else (if 0 ≤ (Int.tmod (wrap64 (x7 + 1)) (x0.length : Int)) then (if (Int.tmod (wrap64 (x7 + 1)) (x0.length : Int)) < (x0.length : Int) then (if (rd2 x0 x7) = x1 then (if (rd2 x0 (Int.tmod (wrap64 (x7 + 1)) (x0.length : Int))) = x2 then (some true) else (if (rd2 x0 x7) = x2 then (if (rd2 x0 (Int.tmod (wrap64 (x7 + 1)) (x0.length : Int))) = x1 then (some true) else (spec_l05HasEdge.l0 k x0 x1 x2 (wrap64 (x7 + 1)))) else (spec_l05HasEdge.l0 k x0 x1 x2 (wrap64 (x7 + 1))))) else (if (rd2 x0 x7) = x2 then (if (rd2 x0 (Int.tmod (wrap64 (x7 + 1)) (x0.length : Int))) = x1 then (some true) else (spec_l05HasEdge.l0 k x0 x1 x2 (wrap64 (x7 + 1)))) else (spec_l05HasEdge.l0 k x0 x1 x2 (wrap64 (x7 + 1))))) else (none)) else (none))) else (none)) else (some false)
def spec_l05HasEdge.f (k : Nat) (l0 : List Int) (a1 : Int) (a2 : Int) : Option (Bool) := spec_l05HasEdge.l0 k l0 a1 a2 0
set_option maxRecDepth 100000 in
theorem spec_l05HasEdge.ok {k : Nat} {l0 : List Int} {a1 : Int} {a2 : Int} {r : Bool} (H : spec_l05HasEdge.f k l0 a1 a2 = some r) : OkF Try.prog 98 [vR 2 (l0.map c2), vI a1, vI a2] [] (.c (.d (.v (.bool r)))) [] := by
 unfold spec_l05HasEdge.f at H
 refine OkF.of (N := 46) (rs := [6]) (avs := [.c (.d (.v (.bool r)))]) Try.func98 rfl rfl (fun _ _ => results_tmp rfl _ _ _) (by decide) rfl rfl rfl rfl (fun w0 S => ?_)
 refine AG.seq ?_
 refine AG.region HM ?_
 refine a_move (v := vB _) ?_
 refine RA.nil nofun ?_
 refine AG.seq ?_
 refine AG.seq ?_
 refine AG.region HM ?_
 refine a_move (v := vI _) ?_
 refine RA.nil nofun ?_
 refine AG.block ?_
 refine AG.loop ?_
 obtain ⟨K0, hK0, gK0⟩ : ∃ K, k ≤ K ∧ K ≤ k := ⟨k, Nat.le_refl k, Nat.le_refl k⟩
 refine AGr.canon id (AGr.loopI (n := k) (fun k s => k ≤ K0 ∧ ∃ (x0 : List Int) (x1 : Int) (x2 : Int) (x7 : Int), spec_l05HasEdge.l0 k x0 x1 x2 x7 = some r ∧ s = St.of [(0, vR 2 (x0.map c2)), (1, vI x1), (2, vI x2), (7, vI x7)] []) ⟨hK0, _, _, _, _, H, rfl⟩ ?_ ?_) ⟨rfl, rfl, rfl, rfl, trivial⟩ trivial rfl
 ·rintro _ ⟨_, _, _, _, _, H, _⟩
  cases H
 ·clear H hK0
  rintro k ih0 _ ⟨hK0, x0, x1, x2, x7, H, rfl⟩
  unfold spec_l05HasEdge.l0 at H
  refine AG.seq ?_
  refine AG.seq ?_
  refine AG.region HM ?_
  refine a_move (v := vI _) ?_
  refine a_move (v := vR _ _) ?_
  refine a_lenR ?_ Try.underlying23
  refine a_int (u := .bool (decide (x7 < (x0.length : Int)))) ?_
  refine RA.nil nofun ?_
  by_cases hc1 : x7 < (x0.length : Int)
  ·rw [if_pos hc1] at H
   refine AG.yes rfl (decide_eq_true hc1) ?_
   refine AG.skip ?_
   refine AG.seq ?_
   refine AG.block ?_
   refine AG.seq ?_
   refine AG.region HM ?_
   refine a_move (v := vR _ _) ?_
   refine a_move (v := vI _) ?_
   by_cases hc2 : 0 ≤ x7
   ·rw [if_pos hc2] at H
    refine a_ixR (el := c2 (rd2 x0 x7)) ?_ ⟨hc2, hc1⟩ T2 Try.underlying23 (hel := R2 hc2 hc1)
    refine a_ldR (v := vI _) ?_ T2
    refine a_move (v := vI _) ?_
    refine RA.nil nofun ?_
    refine AG.seq ?_
    refine AG.region HM ?_
    refine a_move (v := vR _ _) ?_
    refine a_move (v := vI _) ?_
    refine a_int (u := .int .i64 (wrap64 (x7 + 1))) ?_
    refine a_move (v := vR _ _) ?_
    refine a_lenR ?_ Try.underlying23
    by_cases hc3 : (x0.length : Int) = 0
    ·rw [if_pos hc3] at H
     cases H
    ·rw [if_neg hc3] at H
     refine a_rem (r := Int.tmod (wrap64 (x7 + 1)) (x0.length : Int)) ?_ hc3
     by_cases hc4 : 0 ≤ (Int.tmod (wrap64 (x7 + 1)) (x0.length : Int))
     ·rw [if_pos hc4] at H
      by_cases hc5 : (Int.tmod (wrap64 (x7 + 1)) (x0.length : Int)) < (x0.length : Int)
      ·rw [if_pos hc5] at H
       refine a_ixR (el := c2 (rd2 x0 (Int.tmod (wrap64 (x7 + 1)) (x0.length : Int)))) ?_ ⟨hc4, hc5⟩ T2 Try.underlying23 (hel := R2 hc4 hc5)
       refine a_ldR (v := vI _) ?_ T2
       refine a_move (v := vI _) ?_
       refine RA.nil nofun ?_
       refine AG.seq ?_
       refine AG.region HM ?_
       refine a_move (v := vI _) ?_
       refine a_move (v := vI _) ?_
       refine a_int (u := .bool (((rd2 x0 x7) == x1))) ?_
       refine a_move (v := vB _) ?_
       by_cases hc6 : (rd2 x0 x7) = x1
       ·rw [if_pos hc6] at H
        refine a_move (v := vI _) ?_ (hg := Gs.yes rfl rfl rfl (beq_iff_eq.2 hc6))
        refine a_move (v := vI _) ?_ (hg := Gs.yes rfl rfl rfl (beq_iff_eq.2 hc6))
        refine a_int (u := .bool (((rd2 x0 (Int.tmod (wrap64 (x7 + 1)) (x0.length : Int))) == x2))) ?_ (hg := Gs.yes rfl rfl rfl (beq_iff_eq.2 hc6))
        refine a_pick (b := true) (v := vB _) ?_ (beq_iff_eq.2 hc6)
        refine a_move (v := vB _) ?_
        by_cases hc7 : (rd2 x0 (Int.tmod (wrap64 (x7 + 1)) (x0.length : Int))) = x2
        ·rw [if_pos hc7] at H
         refine RA.skip rfl rfl rfl rfl rfl (beq_iff_eq.2 hc7) (by decide) ?_
         refine RA.skip rfl rfl rfl rfl rfl (beq_iff_eq.2 hc7) (by decide) ?_
         refine RA.skip rfl rfl rfl rfl rfl (beq_iff_eq.2 hc7) (by decide) ?_
         refine RA.skip rfl rfl rfl rfl rfl (beq_iff_eq.2 hc7) (by decide) ?_
         refine RA.skip0 rfl rfl rfl rfl rfl ?_
         refine RA.skip0 rfl rfl rfl rfl rfl ?_
         refine RA.skip0 rfl rfl rfl rfl rfl ?_
         refine RA.skip rfl rfl rfl rfl rfl (beq_iff_eq.2 hc7) (by decide) ?_
         refine a_pick (b := true) (v := vB _) ?_ (beq_iff_eq.2 hc7)
         refine RA.nil nofun ?_
         refine AG.yes rfl rfl ?_
         refine AG.seq ?_
         refine AG.region HM ?_
         refine a_move (v := vB _) ?_
         refine RA.nil nofun ?_
         refine AG.ret ?_
         obtain rfl := Option.some.inj H
         exact RetP.mk id ⟨rfl, trivial⟩ trivial rfl
        ·rw [if_neg hc7] at H
         refine a_move (v := vI _) ?_ (hg := Gs.yes rfl rfl rfl (beq_eq_false_iff_ne.2 hc7))
         refine a_move (v := vI _) ?_ (hg := Gs.yes rfl rfl rfl (beq_eq_false_iff_ne.2 hc7))
         refine a_int (u := .bool (((rd2 x0 x7) == x2))) ?_ (hg := Gs.yes rfl rfl rfl (beq_eq_false_iff_ne.2 hc7))
         refine a_move (v := vB _) ?_ (hg := Gs.yes rfl rfl rfl (beq_eq_false_iff_ne.2 hc7))
         by_cases hc8 : (rd2 x0 x7) = x2
         ·rw [if_pos hc8] at H
          refine a_move (v := vI _) ?_ (hg := Gs.yes rfl rfl rfl (beq_iff_eq.2 hc8))
          refine a_move (v := vI _) ?_ (hg := Gs.yes rfl rfl rfl (beq_iff_eq.2 hc8))
          refine a_int (u := .bool (((rd2 x0 (Int.tmod (wrap64 (x7 + 1)) (x0.length : Int))) == x1))) ?_ (hg := Gs.yes rfl rfl rfl (beq_iff_eq.2 hc8))
          refine a_pick (b := true) (v := vB _) ?_ (beq_iff_eq.2 hc8) (hg := Gs.yes rfl rfl rfl (beq_eq_false_iff_ne.2 hc7))
          refine a_pick (b := false) (v := vB _) ?_ (beq_eq_false_iff_ne.2 hc7)
          refine RA.nil nofun ?_
          by_cases hc9 : (rd2 x0 (Int.tmod (wrap64 (x7 + 1)) (x0.length : Int))) = x1
          ·rw [if_pos hc9] at H
           refine AG.yes rfl (beq_iff_eq.2 hc9) ?_
           refine AG.seq ?_
           refine AG.region HM ?_
           refine a_move (v := vB _) ?_
           refine RA.nil nofun ?_
           refine AG.ret ?_
           obtain rfl := Option.some.inj H
           exact RetP.mk id ⟨rfl, trivial⟩ trivial rfl
          ·rw [if_neg hc9] at H
           refine AG.no rfl (beq_eq_false_iff_ne.2 hc9) ?_
           refine AG.skip ?_
           refine AG.region HM ?_
           refine a_move (v := vI _) ?_
           refine a_int (u := .int .i64 (wrap64 (x7 + 1))) ?_
           refine a_move (v := vI _) ?_
           refine RA.nil nofun ?_
           exact AGr.canon id (ih0 _ (by omega) _ ⟨by omega, _, _, _, _, H, rfl⟩) ⟨rfl, rfl, rfl, rfl, trivial⟩ trivial rfl
         ·rw [if_neg hc8] at H
          refine RA.skip rfl rfl rfl rfl rfl (beq_eq_false_iff_ne.2 hc8) (by decide) ?_
          refine RA.skip rfl rfl rfl rfl rfl (beq_eq_false_iff_ne.2 hc8) (by decide) ?_
          refine RA.skip rfl rfl rfl rfl rfl (beq_eq_false_iff_ne.2 hc8) (by decide) ?_
          refine a_pick (b := false) (v := vB _) ?_ (beq_eq_false_iff_ne.2 hc8) (hg := Gs.yes rfl rfl rfl (beq_eq_false_iff_ne.2 hc7))
          refine a_pick (b := false) (v := vB _) ?_ (beq_eq_false_iff_ne.2 hc7)
          refine RA.nil nofun ?_
          refine AG.no rfl rfl ?_
          refine AG.skip ?_
          refine AG.region HM ?_
          refine a_move (v := vI _) ?_
          refine a_int (u := .int .i64 (wrap64 (x7 + 1))) ?_
          refine a_move (v := vI _) ?_
          refine RA.nil nofun ?_
          exact AGr.canon id (ih0 _ (by omega) _ ⟨by omega, _, _, _, _, H, rfl⟩) ⟨rfl, rfl, rfl, rfl, trivial⟩ trivial rfl
       ·rw [if_neg hc6] at H
        refine RA.skip rfl rfl rfl rfl rfl (beq_eq_false_iff_ne.2 hc6) (by decide) ?_
        refine RA.skip rfl rfl rfl rfl rfl (beq_eq_false_iff_ne.2 hc6) (by decide) ?_
        refine RA.skip rfl rfl rfl rfl rfl (beq_eq_false_iff_ne.2 hc6) (by decide) ?_
        refine a_pick (b := false) (v := vB _) ?_ (beq_eq_false_iff_ne.2 hc6)
        refine a_move (v := vB _) ?_
        refine a_move (v := vI _) ?_ (hg := Gs.yes rfl rfl rfl rfl)
        refine a_move (v := vI _) ?_ (hg := Gs.yes rfl rfl rfl rfl)
        refine a_int (u := .bool (((rd2 x0 x7) == x2))) ?_ (hg := Gs.yes rfl rfl rfl rfl)
        refine a_move (v := vB _) ?_ (hg := Gs.yes rfl rfl rfl rfl)
        by_cases hc10 : (rd2 x0 x7) = x2
        ·rw [if_pos hc10] at H
         refine a_move (v := vI _) ?_ (hg := Gs.yes rfl rfl rfl (beq_iff_eq.2 hc10))
         refine a_move (v := vI _) ?_ (hg := Gs.yes rfl rfl rfl (beq_iff_eq.2 hc10))
         refine a_int (u := .bool (((rd2 x0 (Int.tmod (wrap64 (x7 + 1)) (x0.length : Int))) == x1))) ?_ (hg := Gs.yes rfl rfl rfl (beq_iff_eq.2 hc10))
         refine a_pick (b := true) (v := vB _) ?_ (beq_iff_eq.2 hc10) (hg := Gs.yes rfl rfl rfl rfl)
         refine a_pick (b := false) (v := vB _) ?_ rfl
         refine RA.nil nofun ?_
         by_cases hc11 : (rd2 x0 (Int.tmod (wrap64 (x7 + 1)) (x0.length : Int))) = x1
         ·rw [if_pos hc11] at H
          refine AG.yes rfl (beq_iff_eq.2 hc11) ?_
          refine AG.seq ?_
          refine AG.region HM ?_
          refine a_move (v := vB _) ?_
          refine RA.nil nofun ?_
          refine AG.ret ?_
          obtain rfl := Option.some.inj H
          exact RetP.mk id ⟨rfl, trivial⟩ trivial rfl
         ·rw [if_neg hc11] at H
          refine AG.no rfl (beq_eq_false_iff_ne.2 hc11) ?_
          refine AG.skip ?_
          refine AG.region HM ?_
          refine a_move (v := vI _) ?_
          refine a_int (u := .int .i64 (wrap64 (x7 + 1))) ?_
          refine a_move (v := vI _) ?_
          refine RA.nil nofun ?_
          exact AGr.canon id (ih0 _ (by omega) _ ⟨by omega, _, _, _, _, H, rfl⟩) ⟨rfl, rfl, rfl, rfl, trivial⟩ trivial rfl
        ·rw [if_neg hc10] at H
         refine RA.skip rfl rfl rfl rfl rfl (beq_eq_false_iff_ne.2 hc10) (by decide) ?_
         refine RA.skip rfl rfl rfl rfl rfl (beq_eq_false_iff_ne.2 hc10) (by decide) ?_
         refine RA.skip rfl rfl rfl rfl rfl (beq_eq_false_iff_ne.2 hc10) (by decide) ?_
         refine a_pick (b := false) (v := vB _) ?_ (beq_eq_false_iff_ne.2 hc10) (hg := Gs.yes rfl rfl rfl rfl)
         refine a_pick (b := false) (v := vB _) ?_ rfl
         refine RA.nil nofun ?_
         refine AG.no rfl rfl ?_
         refine AG.skip ?_
         refine AG.region HM ?_
         refine a_move (v := vI _) ?_
         refine a_int (u := .int .i64 (wrap64 (x7 + 1))) ?_
         refine a_move (v := vI _) ?_
         refine RA.nil nofun ?_
         exact AGr.canon id (ih0 _ (by omega) _ ⟨by omega, _, _, _, _, H, rfl⟩) ⟨rfl, rfl, rfl, rfl, trivial⟩ trivial rfl
      ·rw [if_neg hc5] at H
       cases H
     ·rw [if_neg hc4] at H
      cases H
   ·rw [if_neg hc2] at H
    cases H
  ·rw [if_neg hc1] at H
   refine AG.no rfl (decide_eq_false hc1) ?_
   refine AG.exit ?_
   refine AG.seq ?_
   refine AG.region HM ?_
   refine a_move (v := vB _) ?_
   refine RA.nil nofun ?_
   refine AG.ret ?_
   obtain rfl := Option.some.inj H
   exact RetP.mk id ⟨rfl, trivial⟩ trivial rfl
/-! ### spec_l05Near: function 79 -/
mutual
def spec_l05Near.l0 : Nat → List S98 → Int → List Int → List Int → Int → Option ((List Int))
 | 0, _, _, _, _, _ => none
 | k + 1, x0_3, x1, x5, x6, x7 => if x7 < (x0_3.length : Int) then (spec_l05Near.l1 k x0_3 x1 x5 x6 x7 false 0) else (some x5)
def spec_l05Near.l1 : Nat → List S98 → Int → List Int → List Int → Int → Bool → Int → Option ((List Int))
 | 0, _, _, _, _, _, _, _ => none
 | k + 1, x0_3, x1, x5, x6, x7, x8, x9 => if x9 < (x6.length : Int) then (if x8 = true then (spec_l05Near.l1 k x0_3 x1 x5 x6 x7 true (wrap64 (x9 + 1))) else (if 0 ≤ x7 then (if x7 < (x0_3.length : Int) then (if 0 ≤ x9 then (if (x6.length : Int) = 0 then (none) else (if 0 ≤ (Int.tmod (wrap64 (x9 + 1)) (x6.length : Int)) then (if (Int.tmod (wrap64 (x9 + 1)) (x6.length : Int)) < (x6.length : Int) then ((spec_l05HasEdge.f k ((rd98 x0_3 x7).f1) (rd2 x6 x9) (rd2 x6 (Int.tmod (wrap64 (x9 + 1)) (x6.length : Int)))).bind fun t13 => (spec_l05Near.l1 k x0_3 x1 x5 x6 x7 t13 (wrap64 (x9 + 1)))) else (none)) else (none))) else (none)) else (none)) else (none))) else (if x7 = x1 then (spec_l05Near.l0 k x0_3 x1 x5 x6 (wrap64 (x7 + 1))) else (if x8 = true then (if x5.length < 17592186044416 then (spec_l05Near.l0 k x0_3 x1 (x5 ++ [x7]) x6 (wrap64 (x7 + 1))) else (none)) else (spec_l05Near.l0 k x0_3 x1 x5 x6 (wrap64 (x7 + 1)))))
end
def spec_l05Near.f (k : Nat) (a0_0 : Int) (a0_1 : Int) (l0_2 : List S107) (l0_3 : List S98) (a1 : Int) : Option ((List Int)) := if 0 ≤ a1 then (if a1 < (l0_3.length : Int) then (spec_l05Near.l0 k l0_3 a1 (([] : List Int) : List Int) ((rd98 l0_3 a1).f1) 0) else (none)) else (none)
set_option maxRecDepth 100000 in
theorem spec_l05Near.ok {k : Nat} {a0_0 : Int} {a0_1 : Int} {l0_2 : List S107} {l0_3 : List S98} {a1 : Int} {r : List Int} (H : spec_l05Near.f k a0_0 a0_1 l0_2 l0_3 a1 = some r) : OkF Try.prog 79 [.c (.d (.ro [.v (.int .i64 a0_0), .v (.int .i64 a0_1), .row 108 (l0_2.map c107), .row 101 (l0_3.map c98)])), vI a1] [] (.c (.own 100 r.length)) [(100, .row 2 (r.map c2))] := by
 unfold spec_l05Near.f at H
 refine OkF.of (N := 69) (rs := [4]) (avs := [.c (.own 100 r.length)]) Try.func79 rfl rfl (fun _ _ => results_tmp rfl _ _ _) (by decide) rfl rfl rfl rfl (fun w0 S => ?_)
 refine AG.seq ?_
 refine AG.region HM ?_
 refine a_nilO (e := 2) 200 ?_ T2
 refine RA.nil nofun ?_
 refine AG.seq ?_
 refine AG.region HM ?_
 refine a_lit (cs := []) (D := []) (css := (([] : List Int) : List Int).map c2) 201 ?_ N23 T2 (hcss := by rfl)
 refine a_move (v := .c (.own _ _)) ?_
 refine RA.nil nofun ?_
 refine AG.seq ?_
 refine AG.region HM ?_
 refine a_move (v := vO [_, _, _, _]) ?_
 refine a_nil (v := vO [_, _, _, _]) ?_
 refine a_faR (cells' := [_]) ?_ D49_3
 refine a_ldR (v := vR _ _) ?_ T47
 refine a_move (v := vI _) ?_
 by_cases hc2 : 0 ≤ a1
 ·rw [if_pos hc2] at H
  by_cases hc3 : a1 < (l0_3.length : Int)
  ·rw [if_pos hc3] at H
   refine a_ixR (el := c98 (rd98 l0_3 a1)) ?_ ⟨hc2, hc3⟩ T101 Try.underlying47 (hel := R98 hc2 hc3)
   refine a_faR (cells' := [_]) ?_ D101_1
   refine a_ldR (v := vR _ _) ?_ T23
   refine a_move (v := vR _ _) ?_
   refine RA.nil nofun ?_
   refine AG.seq ?_
   refine AG.seq ?_
   refine AG.region HM ?_
   refine a_move (v := vI _) ?_
   refine RA.nil nofun ?_
   refine AG.block ?_
   refine AG.loop ?_
   obtain ⟨K0, hK0, gK0⟩ : ∃ K, k ≤ K ∧ K ≤ k := ⟨k, Nat.le_refl k, Nat.le_refl k⟩
   refine AGr.canon (fun κ => cond (Nat.beq κ 202) 201 (κ)) (AGr.loopI (n := k) (fun k s => k ≤ K0 ∧ ∃ (x0_0 : Int) (x0_1 : Int) (x0_2 : List S107) (x0_3 : List S98) (x1 : Int) (x5 : List Int) (x6 : List Int) (x7 : Int), spec_l05Near.l0 k x0_3 x1 x5 x6 x7 = some r ∧ s = St.of [(0, .c (.d (.ro [.v (.int .i64 x0_0), .v (.int .i64 x0_1), .row 108 (x0_2.map c107), .row 101 (x0_3.map c98)]))), (1, vI x1), (5, .c (.own 202 x5.length)), (6, vR 2 (x6.map c2)), (7, vI x7)] [(202, .row 2 (x5.map c2))]) ⟨hK0, _, _, _, _, _, _, _, _, H, rfl⟩ ?_ ?_) ⟨rfl, rfl, (ownE rfl (by simp)), rfl, rfl, trivial⟩ ⟨rfl, trivial⟩ rfl
   ·rintro _ ⟨_, _, _, _, _, _, _, _, _, H, _⟩
    cases H
   ·clear H hK0
    rintro k ih0 _ ⟨hK0, x0_0, x0_1, x0_2, x0_3, x1, x5, x6, x7, H, rfl⟩
    unfold spec_l05Near.l0 at H
    refine AG.seq ?_
    refine AG.seq ?_
    refine AG.region HM ?_
    refine a_move (v := vI _) ?_
    refine a_move (v := vO [_, _, _, _]) ?_
    refine a_nil (v := vO [_, _, _, _]) ?_
    refine a_faR (cells' := [_]) ?_ D49_3
    refine a_ldR (v := vR _ _) ?_ T47
    refine a_lenR ?_ Try.underlying47
    refine a_int (u := .bool (decide (x7 < (x0_3.length : Int)))) ?_
    refine RA.nil nofun ?_
    by_cases hc4 : x7 < (x0_3.length : Int)
    ·rw [if_pos hc4] at H
     refine AG.yes rfl (decide_eq_true hc4) ?_
     refine AG.skip ?_
     refine AG.seq ?_
     refine AG.block ?_
     refine AG.seq ?_
     refine AG.region HM ?_
     refine a_move (v := vB _) ?_
     refine RA.nil nofun ?_
     refine AG.seq ?_
     refine AG.seq ?_
     refine AG.region HM ?_
     refine a_move (v := vI _) ?_
     refine RA.nil nofun ?_
     refine AG.block ?_
     refine AG.loop ?_
     obtain ⟨K1, hK1, gK1⟩ : ∃ K, k ≤ K ∧ K ≤ k := ⟨k, Nat.le_refl k, Nat.le_refl k⟩
     refine AGr.canon (fun κ => cond (Nat.beq κ 203) 202 (κ)) (AGr.loopI (n := k) (fun k s => k ≤ K1 ∧ ∃ (x0_0 : Int) (x0_1 : Int) (x0_2 : List S107) (x0_3 : List S98) (x1 : Int) (x5 : List Int) (x6 : List Int) (x7 : Int) (x8 : Bool) (x9 : Int), spec_l05Near.l1 k x0_3 x1 x5 x6 x7 x8 x9 = some r ∧ s = St.of [(0, .c (.d (.ro [.v (.int .i64 x0_0), .v (.int .i64 x0_1), .row 108 (x0_2.map c107), .row 101 (x0_3.map c98)]))), (1, vI x1), (5, .c (.own 203 x5.length)), (6, vR 2 (x6.map c2)), (7, vI x7), (8, vB x8), (9, vI x9)] [(203, .row 2 (x5.map c2))]) ⟨hK1, _, _, _, _, _, _, _, _, _, _, H, rfl⟩ ?_ ?_) ⟨rfl, rfl, rfl, rfl, rfl, rfl, rfl, trivial⟩ ⟨rfl, trivial⟩ rfl
     ·rintro _ ⟨_, _, _, _, _, _, _, _, _, _, _, H, _⟩
      cases H
     ·clear H hK1
      rintro k ih1 _ ⟨hK1, x0_0, x0_1, x0_2, x0_3, x1, x5, x6, x7, x8, x9, H, rfl⟩
      unfold spec_l05Near.l1 at H
      refine AG.seq ?_
      refine AG.seq ?_
      refine AG.region HM ?_
      refine a_move (v := vI _) ?_
      refine a_move (v := vR _ _) ?_
      refine a_lenR ?_ Try.underlying23
      refine a_int (u := .bool (decide (x9 < (x6.length : Int)))) ?_
      refine RA.nil nofun ?_
      by_cases hc5 : x9 < (x6.length : Int)
      ·rw [if_pos hc5] at H
       refine AG.yes rfl (decide_eq_true hc5) ?_
       refine AG.skip ?_
       refine AG.seq ?_
       refine AG.block ?_
       refine AG.region HM ?_
       refine a_move (v := vB _) ?_
       refine a_move (v := vB _) ?_
       by_cases hc6 : x8 = true
       ·rw [if_pos hc6] at H
        refine RA.skip rfl rfl rfl rfl rfl hc6 (by decide) ?_
        refine RA.skip rfl rfl rfl rfl rfl hc6 (by decide) ?_
        refine RA.skip rfl rfl rfl rfl rfl hc6 (by decide) ?_
        refine RA.skip rfl rfl rfl rfl rfl hc6 (by decide) ?_
        refine RA.skip rfl rfl rfl rfl rfl hc6 (by decide) ?_
        refine RA.skip rfl rfl rfl rfl rfl hc6 (by decide) ?_
        refine RA.skip rfl rfl rfl rfl rfl hc6 (by decide) ?_
        refine RA.skip rfl rfl rfl rfl rfl hc6 (by decide) ?_
        refine RA.skip rfl rfl rfl rfl rfl hc6 (by decide) ?_
        refine RA.skip rfl rfl rfl rfl rfl hc6 (by decide) ?_
        refine RA.skip rfl rfl rfl rfl rfl hc6 (by decide) ?_
        refine RA.skip rfl rfl rfl rfl rfl hc6 (by decide) ?_
        refine RA.skip rfl rfl rfl rfl rfl hc6 (by decide) ?_
        refine RA.skip rfl rfl rfl rfl rfl hc6 (by decide) ?_
        refine RA.skip rfl rfl rfl rfl rfl hc6 (by decide) ?_
        refine RA.skip rfl rfl rfl rfl rfl hc6 (by decide) ?_
        refine RA.skip rfl rfl rfl rfl rfl hc6 (by decide) ?_
        refine RA.skip rfl rfl rfl rfl rfl hc6 (by decide) ?_
        refine RA.skip rfl rfl rfl rfl rfl hc6 (by decide) ?_
        refine RA.skip rfl rfl rfl rfl rfl hc6 (by decide) ?_
        refine RA.skip rfl rfl rfl rfl rfl hc6 (by decide) ?_
        refine a_pick (b := true) (v := vB _) ?_ hc6
        refine a_move (v := vB _) ?_
        refine RA.nil (fun _ => by kernel_rfl) ?_
        refine AG.region HM ?_
        refine a_move (v := vI _) ?_
        refine a_int (u := .int .i64 (wrap64 (x9 + 1))) ?_
        refine a_move (v := vI _) ?_
        refine RA.nil nofun ?_
        exact AGr.canon id (ih1 _ (by omega) _ ⟨by omega, _, _, _, _, _, _, _, _, _, _, H, rfl⟩) ⟨rfl, rfl, rfl, rfl, rfl, rfl, rfl, trivial⟩ ⟨rfl, trivial⟩ rfl
       ·rw [if_neg hc6] at H
        refine a_move (v := vO [_, _, _, _]) ?_ (hg := Gs.yes rfl rfl rfl (Bool.eq_false_iff.2 hc6))
        refine a_nil (v := vO [_, _, _, _]) ?_ (hg := Gs.yes rfl rfl rfl (Bool.eq_false_iff.2 hc6))
        refine a_faR (cells' := [_]) ?_ D49_3 (hg := Gs.yes rfl rfl rfl (Bool.eq_false_iff.2 hc6))
        refine a_ldR (v := vR _ _) ?_ T47 (hg := Gs.yes rfl rfl rfl (Bool.eq_false_iff.2 hc6))
        refine a_move (v := vI _) ?_ (hg := Gs.yes rfl rfl rfl (Bool.eq_false_iff.2 hc6))
        by_cases hc7 : 0 ≤ x7
        ·rw [if_pos hc7] at H
         by_cases hc8 : x7 < (x0_3.length : Int)
         ·rw [if_pos hc8] at H
          refine a_ixR (el := c98 (rd98 x0_3 x7)) ?_ ⟨hc7, hc8⟩ T101 Try.underlying47 (hel := R98 hc7 hc8) (hg := Gs.yes rfl rfl rfl (Bool.eq_false_iff.2 hc6))
          refine a_faR (cells' := [_]) ?_ D101_1 (hg := Gs.yes rfl rfl rfl (Bool.eq_false_iff.2 hc6))
          refine a_ldR (v := vR _ _) ?_ T23 (hg := Gs.yes rfl rfl rfl (Bool.eq_false_iff.2 hc6))
          refine a_move (v := vR _ _) ?_ (hg := Gs.yes rfl rfl rfl (Bool.eq_false_iff.2 hc6))
          refine a_move (v := vI _) ?_ (hg := Gs.yes rfl rfl rfl (Bool.eq_false_iff.2 hc6))
          by_cases hc9 : 0 ≤ x9
          ·rw [if_pos hc9] at H
           refine a_ixR (el := c2 (rd2 x6 x9)) ?_ ⟨hc9, hc5⟩ T2 Try.underlying23 (hel := R2 hc9 hc5) (hg := Gs.yes rfl rfl rfl (Bool.eq_false_iff.2 hc6))
           refine a_ldR (v := vI _) ?_ T2 (hg := Gs.yes rfl rfl rfl (Bool.eq_false_iff.2 hc6))
           refine a_move (v := vR _ _) ?_ (hg := Gs.yes rfl rfl rfl (Bool.eq_false_iff.2 hc6))
           refine a_move (v := vI _) ?_ (hg := Gs.yes rfl rfl rfl (Bool.eq_false_iff.2 hc6))
           refine a_int (u := .int .i64 (wrap64 (x9 + 1))) ?_ (hg := Gs.yes rfl rfl rfl (Bool.eq_false_iff.2 hc6))
           refine a_move (v := vR _ _) ?_ (hg := Gs.yes rfl rfl rfl (Bool.eq_false_iff.2 hc6))
           refine a_lenR ?_ Try.underlying23 (hg := Gs.yes rfl rfl rfl (Bool.eq_false_iff.2 hc6))
           by_cases hc10 : (x6.length : Int) = 0
           ·rw [if_pos hc10] at H
            cases H
           ·rw [if_neg hc10] at H
            refine a_rem (r := Int.tmod (wrap64 (x9 + 1)) (x6.length : Int)) ?_ hc10 (hg := Gs.yes rfl rfl rfl (Bool.eq_false_iff.2 hc6))
            by_cases hc11 : 0 ≤ (Int.tmod (wrap64 (x9 + 1)) (x6.length : Int))
            ·rw [if_pos hc11] at H
             by_cases hc12 : (Int.tmod (wrap64 (x9 + 1)) (x6.length : Int)) < (x6.length : Int)
             ·rw [if_pos hc12] at H
              refine a_ixR (el := c2 (rd2 x6 (Int.tmod (wrap64 (x9 + 1)) (x6.length : Int)))) ?_ ⟨hc11, hc12⟩ T2 Try.underlying23 (hel := R2 hc11 hc12) (hg := Gs.yes rfl rfl rfl (Bool.eq_false_iff.2 hc6))
              refine a_ldR (v := vI _) ?_ T2 (hg := Gs.yes rfl rfl rfl (Bool.eq_false_iff.2 hc6))
              obtain ⟨t13, e14, H⟩ := bindO H
              refine a_call (v := vB t13) (nk := []) (L := []) ?_ rfl (spec_l05HasEdge.ok e14) id (qd (qd (qd qn))) trivial trivial trivial rfl (hg := Gs.yes rfl rfl rfl (Bool.eq_false_iff.2 hc6))
              refine a_pick (b := false) (v := vB _) ?_ (Bool.eq_false_iff.2 hc6)
              refine a_move (v := vB _) ?_
              refine RA.nil (fun _ => by kernel_rfl) ?_
              refine AG.region HM ?_
              refine a_move (v := vI _) ?_
              refine a_int (u := .int .i64 (wrap64 (x9 + 1))) ?_
              refine a_move (v := vI _) ?_
              refine RA.nil nofun ?_
              exact AGr.canon id (ih1 _ (by omega) _ ⟨by omega, _, _, _, _, _, _, _, _, _, _, H, rfl⟩) ⟨rfl, rfl, rfl, rfl, rfl, rfl, rfl, trivial⟩ ⟨rfl, trivial⟩ rfl
             ·rw [if_neg hc12] at H
              cases H
            ·rw [if_neg hc11] at H
             cases H
          ·rw [if_neg hc9] at H
           cases H
         ·rw [if_neg hc8] at H
          cases H
        ·rw [if_neg hc7] at H
         cases H
      ·rw [if_neg hc5] at H
       refine AG.no rfl (decide_eq_false hc5) ?_
       refine AG.exit ?_
       refine AG.seq ?_
       refine AG.region HM ?_
       refine a_move (v := vI _) ?_
       refine a_move (v := vI _) ?_
       refine a_int (u := .bool ((x7 != x1))) ?_
       refine a_move (v := vB _) ?_
       by_cases hc15 : x7 = x1
       ·rw [if_pos hc15] at H
        refine RA.skip rfl rfl rfl rfl rfl (bne_eq_false_iff_eq.2 hc15) (by decide) ?_
        refine a_pick (b := false) (v := vB _) ?_ (bne_eq_false_iff_eq.2 hc15)
        refine RA.nil nofun ?_
        refine AG.no rfl rfl ?_
        refine AG.skip ?_
        refine AG.region HM ?_
        refine a_move (v := vI _) ?_
        refine a_int (u := .int .i64 (wrap64 (x7 + 1))) ?_
        refine a_move (v := vI _) ?_
        refine RA.nil nofun ?_
        exact AGr.canon (fun κ => cond (Nat.beq κ 202) 203 (κ)) (ih0 _ (by omega) _ ⟨by omega, _, _, _, _, _, _, _, _, H, rfl⟩) ⟨rfl, rfl, rfl, rfl, rfl, trivial⟩ ⟨rfl, trivial⟩ rfl
       ·rw [if_neg hc15] at H
        refine a_move (v := vB _) ?_ (hg := Gs.yes rfl rfl rfl (bne_iff_ne.2 hc15))
        refine a_pick (b := true) (v := vB _) ?_ (bne_iff_ne.2 hc15)
        refine RA.nil nofun ?_
        by_cases hc16 : x8 = true
        ·rw [if_pos hc16] at H
         refine AG.yes rfl hc16 ?_
         refine AG.region HM ?_
         refine a_move (v := .c (.own _ _)) ?_
         refine a_move (v := vI _) ?_
         refine a_lit (cs := [_]) (D := []) (css := ([x7]).map c2) 205 ?_ N23 T2
         by_cases hc17 : x5.length < 17592186044416
         ·rw [if_pos hc17] at H
          refine a_appO (css' := (x5 ++ [x7]).map c2) (n' := (x5 ++ [x7]).length) ?_ T2 (by simp [maxLen]; omega) (by simp; omega) Try.underlying23 (hc := by exact List.map_append.symm) (hn := by exact List.length_map _)
          refine a_move (v := .c (.own _ _)) ?_
          refine RA.nil nofun ?_
          refine AG.region HM ?_
          refine a_move (v := vI _) ?_
          refine a_int (u := .int .i64 (wrap64 (x7 + 1))) ?_
          refine a_move (v := vI _) ?_
          refine RA.nil nofun ?_
          exact AGr.canon (fun κ => cond (Nat.beq κ 202) 203 (κ)) (ih0 _ (by omega) _ ⟨by omega, _, _, _, _, _, _, _, _, H, rfl⟩) ⟨rfl, rfl, rfl, rfl, rfl, trivial⟩ ⟨rfl, trivial⟩ rfl
         ·rw [if_neg hc17] at H
          cases H
        ·rw [if_neg hc16] at H
         refine AG.no rfl (Bool.eq_false_iff.2 hc16) ?_
         refine AG.skip ?_
         refine AG.region HM ?_
         refine a_move (v := vI _) ?_
         refine a_int (u := .int .i64 (wrap64 (x7 + 1))) ?_
         refine a_move (v := vI _) ?_
         refine RA.nil nofun ?_
         exact AGr.canon (fun κ => cond (Nat.beq κ 202) 203 (κ)) (ih0 _ (by omega) _ ⟨by omega, _, _, _, _, _, _, _, _, H, rfl⟩) ⟨rfl, rfl, rfl, rfl, rfl, trivial⟩ ⟨rfl, trivial⟩ rfl
    ·rw [if_neg hc4] at H
     refine AG.no rfl (decide_eq_false hc4) ?_
     refine AG.exit ?_
     refine AG.seq ?_
     refine AG.region HM ?_
     refine a_move (v := .c (.own _ _)) ?_
     refine a_move (v := .c (.own _ _)) ?_
     refine RA.nil nofun ?_
     refine AG.ret ?_
     obtain rfl := Option.some.inj H
     exact RetP.mk (fun κ => cond (Nat.beq κ 100) 202 (κ)) ⟨rfl, trivial⟩ ⟨rfl, trivial⟩ rfl
  ·rw [if_neg hc3] at H
   cases H
 ·rw [if_neg hc2] at H
  cases H
/-! ### spec_l15Pairs: function 47 -/
mutual
def spec_l15Pairs.l0 : Nat → Int → Int → List S107 → List S98 → List (List Int) → Int → Option ((List (List Int)))
 | 0, _, _, _, _, _, _ => none
 | k + 1, x0_0, x0_1, x0_2, x0_3, x3, x4 => if x4 < (x0_3.length : Int) then ((spec_l05Near.f k x0_0 x0_1 x0_2 x0_3 x4).bind fun t3 => (spec_l15Pairs.l1 k x0_0 x0_1 x0_2 x0_3 x3 x4 t3 0)) else (some x3)
def spec_l15Pairs.l1 : Nat → Int → Int → List S107 → List S98 → List (List Int) → Int → List Int → Int → Option ((List (List Int)))
 | 0, _, _, _, _, _, _, _, _ => none
 | k + 1, x0_0, x0_1, x0_2, x0_3, x3, x4, x5, x6 => if x6 < (x5.length : Int) then (if 0 ≤ x6 then (if (rd2 x5 x6) > x4 then (if x3.length < 5864062014805 then (spec_l15Pairs.l1 k x0_0 x0_1 x0_2 x0_3 (x3 ++ [[x4, (rd2 x5 x6)]]) x4 x5 (wrap64 (x6 + 1))) else (none)) else (spec_l15Pairs.l1 k x0_0 x0_1 x0_2 x0_3 x3 x4 x5 (wrap64 (x6 + 1)))) else (none)) else (spec_l15Pairs.l0 k x0_0 x0_1 x0_2 x0_3 x3 (wrap64 (x4 + 1)))
end
def spec_l15Pairs.f (k : Nat) (a0_0 : Int) (a0_1 : Int) (l0_2 : List S107) (l0_3 : List S98) : Option ((List (List Int))) := spec_l15Pairs.l0 k a0_0 a0_1 l0_2 l0_3 (([] : List (List Int)) : List (List Int)) 0
set_option maxRecDepth 100000 in
theorem spec_l15Pairs.ok {k : Nat} {a0_0 : Int} {a0_1 : Int} {l0_2 : List S107} {l0_3 : List S98} {r : List (List Int)} (H : spec_l15Pairs.f k a0_0 a0_1 l0_2 l0_3 = some r) : OkF Try.prog 47 [.c (.d (.ro [.v (.int .i64 a0_0), .v (.int .i64 a0_1), .row 108 (l0_2.map c107), .row 101 (l0_3.map c98)]))] [] (.c (.own 100 r.length)) [(100, .row 23 (r.map c23))] := by
 unfold spec_l15Pairs.f at H
 refine OkF.of (N := 42) (rs := [2]) (avs := [.c (.own 100 r.length)]) Try.func47 rfl rfl (fun _ _ => results_tmp rfl _ _ _) (by decide) rfl rfl rfl rfl (fun w0 S => ?_)
 refine AG.seq ?_
 refine AG.region HM ?_
 refine a_nilO (e := 23) 200 ?_ T23
 refine RA.nil nofun ?_
 refine AG.seq ?_
 refine AG.region HM ?_
 refine a_lit (cs := []) (D := []) (css := (([] : List (List Int)) : List (List Int)).map c23) 201 ?_ N27 T23 (hcss := by rfl)
 refine a_move (v := .c (.own _ _)) ?_
 refine RA.nil nofun ?_
 refine AG.seq ?_
 refine AG.seq ?_
 refine AG.region HM ?_
 refine a_move (v := vI _) ?_
 refine RA.nil nofun ?_
 refine AG.block ?_
 refine AG.loop ?_
 obtain ⟨K0, hK0, gK0⟩ : ∃ K, k ≤ K ∧ K ≤ k := ⟨k, Nat.le_refl k, Nat.le_refl k⟩
 refine AGr.canon (fun κ => cond (Nat.beq κ 202) 201 (κ)) (AGr.loopI (n := k) (fun k s => k ≤ K0 ∧ ∃ (x0_0 : Int) (x0_1 : Int) (x0_2 : List S107) (x0_3 : List S98) (x3 : List (List Int)) (x4 : Int), spec_l15Pairs.l0 k x0_0 x0_1 x0_2 x0_3 x3 x4 = some r ∧ s = St.of [(0, .c (.d (.ro [.v (.int .i64 x0_0), .v (.int .i64 x0_1), .row 108 (x0_2.map c107), .row 101 (x0_3.map c98)]))), (3, .c (.own 202 x3.length)), (4, vI x4)] [(202, .row 23 (x3.map c23))]) ⟨hK0, _, _, _, _, _, _, H, rfl⟩ ?_ ?_) ⟨rfl, (ownE rfl (by simp)), rfl, trivial⟩ ⟨rfl, trivial⟩ rfl
 ·rintro _ ⟨_, _, _, _, _, _, _, H, _⟩
  cases H
 ·clear H hK0
  rintro k ih0 _ ⟨hK0, x0_0, x0_1, x0_2, x0_3, x3, x4, H, rfl⟩
  unfold spec_l15Pairs.l0 at H
  refine AG.seq ?_
  refine AG.seq ?_
  refine AG.region HM ?_
  refine a_move (v := vI _) ?_
  refine a_move (v := vO [_, _, _, _]) ?_
  refine a_nil (v := vO [_, _, _, _]) ?_
  refine a_faR (cells' := [_]) ?_ D49_3
  refine a_ldR (v := vR _ _) ?_ T47
  refine a_lenR ?_ Try.underlying47
  refine a_int (u := .bool (decide (x4 < (x0_3.length : Int)))) ?_
  refine RA.nil nofun ?_
  by_cases hc2 : x4 < (x0_3.length : Int)
  ·rw [if_pos hc2] at H
   refine AG.yes rfl (decide_eq_true hc2) ?_
   refine AG.skip ?_
   refine AG.seq ?_
   refine AG.block ?_
   refine AG.seq ?_
   refine AG.region HM ?_
   refine a_move (v := vO [_, _, _, _]) ?_
   refine a_move (v := vI _) ?_
   obtain ⟨t3, e4, H⟩ := bindO H
   refine a_call (v := .c (.own 203 t3.length)) (nk := [(203, .row 2 (t3.map c2))]) (L := []) ?_ rfl (spec_l05Near.ok e4) (fun κ => cond (Nat.beq κ 203) 100 (κ)) (qd (qd qn)) trivial ⟨rfl, trivial⟩ ⟨rfl, trivial⟩ rfl
   refine a_move (v := .c (.own _ _)) ?_
   refine RA.nil nofun ?_
   refine AG.seq ?_
   refine AG.region HM ?_
   refine a_move (v := vI _) ?_
   refine RA.nil nofun ?_
   refine AG.block ?_
   refine AG.loop ?_
   obtain ⟨K1, hK1, gK1⟩ : ∃ K, k ≤ K ∧ K ≤ k := ⟨k, Nat.le_refl k, Nat.le_refl k⟩
   refine AGr.canon (fun κ => cond (Nat.beq κ 204) 202 (cond (Nat.beq κ 205) 203 (κ))) (AGr.loopI (n := k) (fun k s => k ≤ K1 ∧ ∃ (x0_0 : Int) (x0_1 : Int) (x0_2 : List S107) (x0_3 : List S98) (x3 : List (List Int)) (x4 : Int) (x5 : List Int) (x6 : Int), spec_l15Pairs.l1 k x0_0 x0_1 x0_2 x0_3 x3 x4 x5 x6 = some r ∧ s = St.of [(0, .c (.d (.ro [.v (.int .i64 x0_0), .v (.int .i64 x0_1), .row 108 (x0_2.map c107), .row 101 (x0_3.map c98)]))), (3, .c (.own 204 x3.length)), (4, vI x4), (5, .c (.own 205 x5.length)), (6, vI x6)] [(204, .row 23 (x3.map c23)), (205, .row 2 (x5.map c2))]) ⟨hK1, _, _, _, _, _, _, _, _, H, rfl⟩ ?_ ?_) ⟨rfl, rfl, rfl, rfl, rfl, trivial⟩ ⟨rfl, rfl, trivial⟩ rfl
   ·rintro _ ⟨_, _, _, _, _, _, _, _, _, H, _⟩
    cases H
   ·clear H hK1
    rintro k ih1 _ ⟨hK1, x0_0, x0_1, x0_2, x0_3, x3, x4, x5, x6, H, rfl⟩
    unfold spec_l15Pairs.l1 at H
    refine AG.seq ?_
    refine AG.seq ?_
    refine AG.region HM ?_
    refine a_move (v := vI _) ?_
    refine a_move (v := .c (.own _ _)) ?_
    refine a_lenO ?_ Try.underlying23
    refine a_int (u := .bool (decide (x6 < (x5.length : Int)))) ?_
    refine RA.nil nofun ?_
    by_cases hc5 : x6 < (x5.length : Int)
    ·rw [if_pos hc5] at H
     refine AG.yes rfl (decide_eq_true hc5) ?_
     refine AG.skip ?_
     refine AG.seq ?_
     refine AG.block ?_
     refine AG.seq ?_
     refine AG.region HM ?_
     refine a_move (v := .c (.own _ _)) ?_
     refine a_move (v := vI _) ?_
     by_cases hc6 : 0 ≤ x6
     ·rw [if_pos hc6] at H
      refine a_ixO ?_ ⟨hc6, hc5⟩ T2 Try.underlying23
      refine a_ldE (v := vI _) ?_ (G2 hc6 hc5) T2
      refine a_move (v := vI _) ?_
      refine a_int (u := .bool (decide ((rd2 x5 x6) > x4))) ?_
      refine RA.nil nofun ?_
      by_cases hc7 : (rd2 x5 x6) > x4
      ·rw [if_pos hc7] at H
       refine AG.yes rfl (decide_eq_true hc7) ?_
       refine AG.region HM ?_
       refine a_move (v := .c (.own _ _)) ?_
       refine a_move (v := vI _) ?_
       refine a_move (v := .c (.own _ _)) ?_
       refine a_move (v := vI _) ?_
       refine a_ixO ?_ ⟨hc6, hc5⟩ T2 Try.underlying23
       refine a_ldE (v := vI _) ?_ (G2 hc6 hc5) T2
       refine a_lit (cs := [_, _]) (D := []) (css := ([x4, (rd2 x5 x6)]).map c2) 206 ?_ N23 T2
       refine a_lit (cs := [_]) (D := [206]) (css := ([[x4, (rd2 x5 x6)]]).map c23) 207 ?_ N27 T23
       by_cases hc8 : x3.length < 5864062014805
       ·rw [if_pos hc8] at H
        refine a_appO (css' := (x3 ++ [[x4, (rd2 x5 x6)]]).map c23) (n' := (x3 ++ [[x4, (rd2 x5 x6)]]).length) ?_ T23 (by simp [maxLen]; omega) (by simp; omega) Try.underlying27 (hc := by exact List.map_append.symm) (hn := by exact List.length_map _)
        refine a_move (v := .c (.own _ _)) ?_
        refine RA.nil nofun ?_
        refine AG.region HM ?_
        refine a_move (v := vI _) ?_
        refine a_int (u := .int .i64 (wrap64 (x6 + 1))) ?_
        refine a_move (v := vI _) ?_
        refine RA.nil nofun ?_
        exact AGr.canon id (ih1 _ (by omega) _ ⟨by omega, _, _, _, _, _, _, _, _, H, rfl⟩) ⟨rfl, rfl, rfl, rfl, rfl, trivial⟩ ⟨rfl, rfl, trivial⟩ rfl
       ·rw [if_neg hc8] at H
        cases H
      ·rw [if_neg hc7] at H
       refine AG.no rfl (decide_eq_false hc7) ?_
       refine AG.skip ?_
       refine AG.region HM ?_
       refine a_move (v := vI _) ?_
       refine a_int (u := .int .i64 (wrap64 (x6 + 1))) ?_
       refine a_move (v := vI _) ?_
       refine RA.nil nofun ?_
       exact AGr.canon id (ih1 _ (by omega) _ ⟨by omega, _, _, _, _, _, _, _, _, H, rfl⟩) ⟨rfl, rfl, rfl, rfl, rfl, trivial⟩ ⟨rfl, rfl, trivial⟩ rfl
     ·rw [if_neg hc6] at H
      cases H
    ·rw [if_neg hc5] at H
     refine AG.no rfl (decide_eq_false hc5) ?_
     refine AG.exit ?_
     refine AG.region HM ?_
     refine a_move (v := vI _) ?_
     refine a_int (u := .int .i64 (wrap64 (x4 + 1))) ?_
     refine a_move (v := vI _) ?_
     refine RA.nil nofun ?_
     exact AGr.canon (fun κ => cond (Nat.beq κ 202) 204 (κ)) (ih0 _ (by omega) _ ⟨by omega, _, _, _, _, _, _, H, rfl⟩) ⟨rfl, rfl, rfl, trivial⟩ ⟨rfl, trivial⟩ rfl
  ·rw [if_neg hc2] at H
   refine AG.no rfl (decide_eq_false hc2) ?_
   refine AG.exit ?_
   refine AG.seq ?_
   refine AG.region HM ?_
   refine a_move (v := .c (.own _ _)) ?_
   refine a_move (v := .c (.own _ _)) ?_
   refine RA.nil nofun ?_
   refine AG.ret ?_
   obtain rfl := Option.some.inj H
   exact RetP.mk (fun κ => cond (Nat.beq κ 100) 202 (κ)) ⟨rfl, trivial⟩ ⟨rfl, trivial⟩ rfl
/-! ### spec_l07Angle: function 100 -/
def spec_l07Angle.f (a0 : Int) (a1 : Int) : Option (Int) := (spec_l00Max.f (wrap64 (a0 - a1)) (wrap64 (a1 - a0))).bind fun t1 => ((spec_l00Min.f t1 (wrap64 (180 - t1))).bind fun t3 => (some t3))
set_option maxRecDepth 100000 in
theorem spec_l07Angle.ok {a0 : Int} {a1 : Int} {r : Int} (H : spec_l07Angle.f a0 a1 = some r) : OkF Try.prog 100 [vI a0, vI a1] [] (.c (.d (.v (.int .i64 r)))) [] := by
 unfold spec_l07Angle.f at H
 refine OkF.of (N := 17) (rs := [4]) (avs := [.c (.d (.v (.int .i64 r)))]) Try.func100 rfl rfl (fun _ _ => results_tmp rfl _ _ _) (by decide) rfl rfl rfl rfl (fun w0 S => ?_)
 refine AG.seq ?_
 refine AG.region HM ?_
 refine a_move (v := vI _) ?_
 refine RA.nil nofun ?_
 refine AG.seq ?_
 refine AG.region HM ?_
 refine a_move (v := vI _) ?_
 refine a_move (v := vI _) ?_
 refine a_int (u := .int .i64 (wrap64 (a0 - a1))) ?_
 refine a_move (v := vI _) ?_
 refine a_move (v := vI _) ?_
 refine a_int (u := .int .i64 (wrap64 (a1 - a0))) ?_
 obtain ⟨t1, e2, H⟩ := bindO H
 refine a_call (v := vI t1) (nk := []) (L := []) ?_ rfl (spec_l00Max.ok e2) id (qd (qd qn)) trivial trivial trivial rfl
 refine a_move (v := vI _) ?_
 refine RA.nil nofun ?_
 refine AG.seq ?_
 refine AG.region HM ?_
 refine a_move (v := vI _) ?_
 refine a_move (v := vI _) ?_
 refine a_int (u := .int .i64 (wrap64 (180 - t1))) ?_
 obtain ⟨t3, e4, H⟩ := bindO H
 refine a_call (v := vI t3) (nk := []) (L := []) ?_ rfl (spec_l00Min.ok e4) id (qd (qd qn)) trivial trivial trivial rfl
 refine a_move (v := vI _) ?_
 refine RA.nil nofun ?_
 refine AG.ret ?_
 obtain rfl := Option.some.inj H
 exact RetP.mk id ⟨rfl, trivial⟩ trivial rfl
/-! ### spec_l07Contrast: function 80 -/
def spec_l07Contrast.f (a0_0 : ByteArray) (a0_1 : Int) (a0_2 : Int) (a1_0 : ByteArray) (a1_1 : Int) (a1_2 : Int) : Option (Int) := (spec_l00Max.f (wrap64 (a0_1 - a1_1)) (wrap64 (a1_1 - a0_1))).bind fun t1 => ((spec_l07Angle.f a0_2 a1_2).bind fun t3 => (some (wrap64 (t1 + (wrap64 (Int.tdiv t3 6))))))
set_option maxRecDepth 100000 in
theorem spec_l07Contrast.ok {a0_0 : ByteArray} {a0_1 : Int} {a0_2 : Int} {a1_0 : ByteArray} {a1_1 : Int} {a1_2 : Int} {r : Int} (H : spec_l07Contrast.f a0_0 a0_1 a0_2 a1_0 a1_1 a1_2 = some r) : OkF Try.prog 80 [.c (.d (.ro [.v (.string a0_0), .v (.int .i64 a0_1), .v (.int .i64 a0_2)])), .c (.d (.ro [.v (.string a1_0), .v (.int .i64 a1_1), .v (.int .i64 a1_2)]))] [] (.c (.d (.v (.int .i64 r)))) [] := by
 unfold spec_l07Contrast.f at H
 refine OkF.of (N := 35) (rs := [4]) (avs := [.c (.d (.v (.int .i64 r)))]) Try.func80 rfl rfl (fun _ _ => results_tmp rfl _ _ _) (by decide) rfl rfl rfl rfl (fun w0 S => ?_)
 refine AG.seq ?_
 refine AG.region HM ?_
 refine a_move (v := vI _) ?_
 refine RA.nil nofun ?_
 refine AG.seq ?_
 refine AG.region HM ?_
 refine a_move (v := vO [_, _, _]) ?_
 refine a_nil (v := vO [_, _, _]) ?_
 refine a_faR (cells' := [_, _]) ?_ D90_1
 refine a_ldR (v := vI _) ?_ T2
 refine a_move (v := vO [_, _, _]) ?_
 refine a_nil (v := vO [_, _, _]) ?_
 refine a_faR (cells' := [_, _]) ?_ D90_1
 refine a_ldR (v := vI _) ?_ T2
 refine a_int (u := .int .i64 (wrap64 (a0_1 - a1_1))) ?_
 refine a_move (v := vO [_, _, _]) ?_
 refine a_nil (v := vO [_, _, _]) ?_
 refine a_faR (cells' := [_, _]) ?_ D90_1
 refine a_ldR (v := vI _) ?_ T2
 refine a_move (v := vO [_, _, _]) ?_
 refine a_nil (v := vO [_, _, _]) ?_
 refine a_faR (cells' := [_, _]) ?_ D90_1
 refine a_ldR (v := vI _) ?_ T2
 refine a_int (u := .int .i64 (wrap64 (a1_1 - a0_1))) ?_
 obtain ⟨t1, e2, H⟩ := bindO H
 refine a_call (v := vI t1) (nk := []) (L := []) ?_ rfl (spec_l00Max.ok e2) id (qd (qd qn)) trivial trivial trivial rfl
 refine a_move (v := vO [_, _, _]) ?_
 refine a_nil (v := vO [_, _, _]) ?_
 refine a_faR (cells' := [_]) ?_ D90_2
 refine a_ldR (v := vI _) ?_ T2
 refine a_move (v := vO [_, _, _]) ?_
 refine a_nil (v := vO [_, _, _]) ?_
 refine a_faR (cells' := [_]) ?_ D90_2
 refine a_ldR (v := vI _) ?_ T2
 obtain ⟨t3, e4, H⟩ := bindO H
 refine a_call (v := vI t3) (nk := []) (L := []) ?_ rfl (spec_l07Angle.ok e4) id (qd (qd qn)) trivial trivial trivial rfl
 refine a_quo (r := wrap64 (Int.tdiv t3 6)) ?_ (show ¬ (6 : Int) = 0 from by decide)
 refine a_int (u := .int .i64 (wrap64 (t1 + (wrap64 (Int.tdiv t3 6))))) ?_
 refine a_move (v := vI _) ?_
 refine RA.nil (fun _ => by kernel_rfl) ?_
 refine AG.ret ?_
 obtain rfl := Option.some.inj H
 exact RetP.mk id ⟨rfl, trivial⟩ trivial rfl
/-! ### spec_l15Contrast: function 48 -/
def spec_l15Contrast.l0 : Nat → List S86 → Int → Int → Int → Int → Int → Option (Int)
 | 0, _, _, _, _, _, _ => none
 | k + 1, x0, x1, x2, x7, x8, x9 => if x9 < x7 then (if x7 = 0 then (none) else (if 0 ≤ (Int.tmod (wrap64 (x9 + x1)) x7) then (if (Int.tmod (wrap64 (x9 + x1)) x7) < (x0.length : Int) then (if 0 ≤ (Int.tmod (wrap64 (x9 + x2)) x7) then (if (Int.tmod (wrap64 (x9 + x2)) x7) < (x0.length : Int) then ((spec_l07Contrast.f ((rd86 x0 (Int.tmod (wrap64 (x9 + x1)) x7)).f0) ((rd86 x0 (Int.tmod (wrap64 (x9 + x1)) x7)).f1) ((rd86 x0 (Int.tmod (wrap64 (x9 + x1)) x7)).f2) ((rd86 x0 (Int.tmod (wrap64 (x9 + x2)) x7)).f0) ((rd86 x0 (Int.tmod (wrap64 (x9 + x2)) x7)).f1) ((rd86 x0 (Int.tmod (wrap64 (x9 + x2)) x7)).f2)).bind fun t7 => (if x9 = 0 then (spec_l15Contrast.l0 k x0 x1 x2 x7 t7 (wrap64 (x9 + 1))) else (if t7 < x8 then (spec_l15Contrast.l0 k x0 x1 x2 x7 t7 (wrap64 (x9 + 1))) else (spec_l15Contrast.l0 k x0 x1 x2 x7 x8 (wrap64 (x9 + 1)))))) else (none)) else (none)) else (none)) else (none))) else (some x8)
def spec_l15Contrast.f (k : Nat) (l0 : List S86) (a1 : Int) (a2 : Int) : Option (Int) := spec_l15Contrast.l0 k l0 a1 a2 (l0.length : Int) 0 0
set_option maxRecDepth 100000 in
theorem spec_l15Contrast.ok {k : Nat} {l0 : List S86} {a1 : Int} {a2 : Int} {r : Int} (H : spec_l15Contrast.f k l0 a1 a2 = some r) : OkF Try.prog 48 [vR 90 (l0.map c86), vI a1, vI a2] [] (.c (.d (.v (.int .i64 r)))) [] := by
 unfold spec_l15Contrast.f at H
 refine OkF.of (N := 42) (rs := [6]) (avs := [.c (.d (.v (.int .i64 r)))]) Try.func48 rfl rfl (fun _ _ => results_tmp rfl _ _ _) (by decide) rfl rfl rfl rfl (fun w0 S => ?_)
 refine AG.seq ?_
 refine AG.region HM ?_
 refine a_move (v := vI _) ?_
 refine RA.nil nofun ?_
 refine AG.seq ?_
 refine AG.region HM ?_
 refine a_move (v := vR _ _) ?_
 refine a_lenR ?_ Try.underlying30
 refine a_move (v := vI _) ?_
 refine RA.nil nofun ?_
 refine AG.seq ?_
 refine AG.region HM ?_
 refine a_move (v := vI _) ?_
 refine RA.nil nofun ?_
 refine AG.seq ?_
 refine AG.seq ?_
 refine AG.region HM ?_
 refine a_move (v := vI _) ?_
 refine RA.nil nofun ?_
 refine AG.block ?_
 refine AG.loop ?_
 obtain ⟨K0, hK0, gK0⟩ : ∃ K, k ≤ K ∧ K ≤ k := ⟨k, Nat.le_refl k, Nat.le_refl k⟩
 refine AGr.canon id (AGr.loopI (n := k) (fun k s => k ≤ K0 ∧ ∃ (x0 : List S86) (x1 : Int) (x2 : Int) (x7 : Int) (x8 : Int) (x9 : Int), spec_l15Contrast.l0 k x0 x1 x2 x7 x8 x9 = some r ∧ s = St.of [(0, vR 90 (x0.map c86)), (1, vI x1), (2, vI x2), (7, vI x7), (8, vI x8), (9, vI x9)] []) ⟨hK0, _, _, _, _, _, _, H, rfl⟩ ?_ ?_) ⟨rfl, rfl, rfl, rfl, rfl, rfl, trivial⟩ trivial rfl
 ·rintro _ ⟨_, _, _, _, _, _, _, H, _⟩
  cases H
 ·clear H hK0
  rintro k ih0 _ ⟨hK0, x0, x1, x2, x7, x8, x9, H, rfl⟩
  unfold spec_l15Contrast.l0 at H
  refine AG.seq ?_
  refine AG.seq ?_
  refine AG.region HM ?_
  refine a_move (v := vI _) ?_
  refine a_move (v := vI _) ?_
  refine a_int (u := .bool (decide (x9 < x7))) ?_
  refine RA.nil nofun ?_
  by_cases hc1 : x9 < x7
  ·rw [if_pos hc1] at H
   refine AG.yes rfl (decide_eq_true hc1) ?_
   refine AG.skip ?_
   refine AG.seq ?_
   refine AG.block ?_
   refine AG.seq ?_
   refine AG.region HM ?_
   refine a_move (v := vR _ _) ?_
   refine a_move (v := vI _) ?_
   refine a_move (v := vI _) ?_
   refine a_int (u := .int .i64 (wrap64 (x9 + x1))) ?_
   refine a_move (v := vI _) ?_
   by_cases hc2 : x7 = 0
   ·rw [if_pos hc2] at H
    cases H
   ·rw [if_neg hc2] at H
    refine a_rem (r := Int.tmod (wrap64 (x9 + x1)) x7) ?_ hc2
    by_cases hc3 : 0 ≤ (Int.tmod (wrap64 (x9 + x1)) x7)
    ·rw [if_pos hc3] at H
     by_cases hc4 : (Int.tmod (wrap64 (x9 + x1)) x7) < (x0.length : Int)
     ·rw [if_pos hc4] at H
      refine a_ixR (el := c86 (rd86 x0 (Int.tmod (wrap64 (x9 + x1)) x7))) ?_ ⟨hc3, hc4⟩ T90 Try.underlying30 (hel := R86 hc3 hc4)
      refine a_move (v := vR _ _) ?_
      refine a_move (v := vI _) ?_
      refine a_move (v := vI _) ?_
      refine a_int (u := .int .i64 (wrap64 (x9 + x2))) ?_
      refine a_move (v := vI _) ?_
      refine a_rem (r := Int.tmod (wrap64 (x9 + x2)) x7) ?_ hc2
      by_cases hc5 : 0 ≤ (Int.tmod (wrap64 (x9 + x2)) x7)
      ·rw [if_pos hc5] at H
       by_cases hc6 : (Int.tmod (wrap64 (x9 + x2)) x7) < (x0.length : Int)
       ·rw [if_pos hc6] at H
        refine a_ixR (el := c86 (rd86 x0 (Int.tmod (wrap64 (x9 + x2)) x7))) ?_ ⟨hc5, hc6⟩ T90 Try.underlying30 (hel := R86 hc5 hc6)
        obtain ⟨t7, e8, H⟩ := bindO H
        refine a_call (v := vI t7) (nk := []) (L := []) ?_ rfl (spec_l07Contrast.ok e8) id (qd (qd qn)) trivial trivial trivial rfl
        refine a_move (v := vI _) ?_
        refine RA.nil (fun _ => by kernel_rfl) ?_
        refine AG.seq ?_
        refine AG.region HM ?_
        refine a_move (v := vI _) ?_
        refine a_int (u := .bool ((x9 == 0))) ?_
        refine a_move (v := vB _) ?_
        by_cases hc9 : x9 = 0
        ·rw [if_pos hc9] at H
         refine RA.skip rfl rfl rfl rfl rfl (beq_iff_eq.2 hc9) (by decide) ?_
         refine RA.skip rfl rfl rfl rfl rfl (beq_iff_eq.2 hc9) (by decide) ?_
         refine RA.skip rfl rfl rfl rfl rfl (beq_iff_eq.2 hc9) (by decide) ?_
         refine a_pick (b := true) (v := vB _) ?_ (beq_iff_eq.2 hc9)
         refine RA.nil nofun ?_
         refine AG.yes rfl rfl ?_
         refine AG.region HM ?_
         refine a_move (v := vI _) ?_
         refine a_move (v := vI _) ?_
         refine RA.nil nofun ?_
         refine AG.region HM ?_
         refine a_move (v := vI _) ?_
         refine a_int (u := .int .i64 (wrap64 (x9 + 1))) ?_
         refine a_move (v := vI _) ?_
         refine RA.nil nofun ?_
         exact AGr.canon id (ih0 _ (by omega) _ ⟨by omega, _, _, _, _, _, _, H, rfl⟩) ⟨rfl, rfl, rfl, rfl, rfl, rfl, trivial⟩ trivial rfl
        ·rw [if_neg hc9] at H
         refine a_move (v := vI _) ?_ (hg := Gs.yes rfl rfl rfl (beq_eq_false_iff_ne.2 hc9))
         refine a_move (v := vI _) ?_ (hg := Gs.yes rfl rfl rfl (beq_eq_false_iff_ne.2 hc9))
         refine a_int (u := .bool (decide (t7 < x8))) ?_ (hg := Gs.yes rfl rfl rfl (beq_eq_false_iff_ne.2 hc9))
         refine a_pick (b := false) (v := vB _) ?_ (beq_eq_false_iff_ne.2 hc9)
         refine RA.nil nofun ?_
         by_cases hc10 : t7 < x8
         ·rw [if_pos hc10] at H
          refine AG.yes rfl (decide_eq_true hc10) ?_
          refine AG.region HM ?_
          refine a_move (v := vI _) ?_
          refine a_move (v := vI _) ?_
          refine RA.nil nofun ?_
          refine AG.region HM ?_
          refine a_move (v := vI _) ?_
          refine a_int (u := .int .i64 (wrap64 (x9 + 1))) ?_
          refine a_move (v := vI _) ?_
          refine RA.nil nofun ?_
          exact AGr.canon id (ih0 _ (by omega) _ ⟨by omega, _, _, _, _, _, _, H, rfl⟩) ⟨rfl, rfl, rfl, rfl, rfl, rfl, trivial⟩ trivial rfl
         ·rw [if_neg hc10] at H
          refine AG.no rfl (decide_eq_false hc10) ?_
          refine AG.skip ?_
          refine AG.region HM ?_
          refine a_move (v := vI _) ?_
          refine a_int (u := .int .i64 (wrap64 (x9 + 1))) ?_
          refine a_move (v := vI _) ?_
          refine RA.nil nofun ?_
          exact AGr.canon id (ih0 _ (by omega) _ ⟨by omega, _, _, _, _, _, _, H, rfl⟩) ⟨rfl, rfl, rfl, rfl, rfl, rfl, trivial⟩ trivial rfl
       ·rw [if_neg hc6] at H
        cases H
      ·rw [if_neg hc5] at H
       cases H
     ·rw [if_neg hc4] at H
      cases H
    ·rw [if_neg hc3] at H
     cases H
  ·rw [if_neg hc1] at H
   refine AG.no rfl (decide_eq_false hc1) ?_
   refine AG.exit ?_
   refine AG.seq ?_
   refine AG.region HM ?_
   refine a_move (v := vI _) ?_
   refine a_move (v := vI _) ?_
   refine RA.nil nofun ?_
   refine AG.ret ?_
   obtain rfl := Option.some.inj H
   exact RetP.mk id ⟨rfl, trivial⟩ trivial rfl
/-! ### spec_LeastContrast: function 24 -/
mutual
def spec_LeastContrast.j0 : Nat → Int → Int → List S107 → List S98 → List S86 → List Int → Bool → Option (Int × Int)
 | 0, _, _, _, _, _, _, _ => none
 | k + 1, y204_0, y204_1, y204_2, y204_3, y205_0, y205_1, x15 => if x15 = true then (some (0, 1)) else (if (y204_3.length : Int) = (y205_1.length : Int) then ((spec_l15Pairs.f k y204_0 y204_1 y204_2 y204_3).bind fun t8 => (if (t8.length : Int) = 0 then (some (0, 6)) else (spec_LeastContrast.l0 k y205_0 y205_1 t8 0 0))) else (some (0, 7)))
def spec_LeastContrast.l0 : Nat → List S86 → List Int → List (List Int) → Int → Int → Option (Int × Int)
 | 0, _, _, _, _, _ => none
 | k + 1, y206_0, y206_1, x6, x7, x8 => if x8 < (x6.length : Int) then (if 0 ≤ x8 then (if 0 < ((rd23 x6 x8).length : Int) then (if 0 ≤ (rd2 (rd23 x6 x8) 0) then (if (rd2 (rd23 x6 x8) 0) < (y206_1.length : Int) then (if 1 < ((rd23 x6 x8).length : Int) then (if 0 ≤ (rd2 (rd23 x6 x8) 1) then (if (rd2 (rd23 x6 x8) 1) < (y206_1.length : Int) then ((spec_l15Contrast.f k y206_0 (rd2 y206_1 (rd2 (rd23 x6 x8) 0)) (rd2 y206_1 (rd2 (rd23 x6 x8) 1))).bind fun t18 => (if x8 = 0 then (spec_LeastContrast.l0 k y206_0 y206_1 x6 t18 (wrap64 (x8 + 1))) else (if t18 < x7 then (spec_LeastContrast.l0 k y206_0 y206_1 x6 t18 (wrap64 (x8 + 1))) else (spec_LeastContrast.l0 k y206_0 y206_1 x6 x7 (wrap64 (x8 + 1)))))) else (none)) else (none)) else (none)) else (none)) else (none)) else (none)) else (none)) else (some (x7, 0))
end
def spec_LeastContrast.f (k : Nat) (a0_0 : Int) (a0_1 : Int) (l0_2 : List S107) (l0_3 : List S98) (l1_0 : List S86) (l1_1 : List Int) : Option (Int × Int) := (spec_l05Ok.f k a0_0 a0_1 l0_2 l0_3).bind fun t1 => (if t1 = true then ((spec_l15Ok.f k l1_0 l1_1).bind fun t4 => (spec_LeastContrast.j0 k a0_0 a0_1 l0_2 l0_3 l1_0 l1_1 (!t4))) else (spec_LeastContrast.j0 k a0_0 a0_1 l0_2 l0_3 l1_0 l1_1 true))
set_option maxRecDepth 100000 in
theorem spec_LeastContrast.ok {k : Nat} {a0_0 : Int} {a0_1 : Int} {l0_2 : List S107} {l0_3 : List S98} {l1_0 : List S86} {l1_1 : List Int} {r0 : Int} {r1 : Int} (H : spec_LeastContrast.f k a0_0 a0_1 l0_2 l0_3 l1_0 l1_1 = some (r0, r1)) : OkF Try.prog 24 [.agg [.d (.v (.int .i64 a0_0)), .d (.v (.int .i64 a0_1)), .d (.row 108 (l0_2.map c107)), .d (.row 101 (l0_3.map c98))], .agg [.d (.row 90 (l1_0.map c86)), .d (.row 2 (l1_1.map c2))]] [] (.tup [.c (.d (.v (.int .i64 r0))), .c (.d (.v (.int .i64 r1)))]) [] := by
 unfold spec_LeastContrast.f at H
 refine OkF.of (N := 65) (rs := [4, 5]) (avs := [.c (.d (.v (.int .i64 r0))), .c (.d (.v (.int .i64 r1)))]) Try.func24 rfl rfl (fun _ _ => results_tmp2 rfl _ _ _) (by decide) rfl rfl rfl rfl (fun w0 S => ?_)
 refine AG.seq ?_
 refine AG.region HM ?_
 refine a_box 200 ?_
 refine a_box 201 ?_
 refine a_move (v := vI _) ?_
 refine a_move (v := vI _) ?_
 refine RA.nil nofun ?_
 refine AG.seq ?_
 refine AG.seq ?_
 refine AG.joinR (fun s => ∃ q, q ≤ k ∧ ∃ (y204_0 : Int) (y204_1 : Int) (y204_2 : List S107) (y204_3 : List S98) (y205_0 : List S86) (y205_1 : List Int) (x15 : Bool), spec_LeastContrast.j0 q y204_0 y204_1 y204_2 y204_3 y205_0 y205_1 x15 = some (r0, r1) ∧ s = St.of [(2, .c (.ptr 204 0)), (3, .c (.ptr 205 0)), (15, vB x15)] [(204, .box 49 [.d (.v (.int .i64 y204_0)), .d (.v (.int .i64 y204_1)), .d (.row 108 (y204_2.map c107)), .d (.row 101 (y204_3.map c98))]), (205, .box 32 [.d (.row 90 (y205_0.map c86)), .d (.row 2 (y205_1.map c2))])]) ?_ ?_
 ·skip
  refine AG.region HM ?_
  obtain ⟨t1, e2, H⟩ := bindO H
  refine a_call (v := vB t1) (nk := []) (L := [(200, _)]) ?_ rfl (spec_l05Ok.ok e2) id (qc (rP (pD (pD (pD (pD p0))))) qn) ⟨rfl, trivial⟩ trivial trivial rfl
  refine a_un (u := .bool (!t1)) ?_
  refine a_move (v := vB _) ?_
  by_cases hc3 : t1 = true
  ·rw [if_pos hc3] at H
   obtain ⟨t4, e5, H⟩ := bindO H
   refine a_call (v := vB t4) (nk := []) (L := [(201, _)]) ?_ rfl (spec_l15Ok.ok e5) id (qc (rP (pD (pD p0))) qn) ⟨rfl, trivial⟩ trivial trivial rfl (hg := Gs.yes rfl rfl rfl (congrArg Bool.not hc3))
   refine a_un (u := .bool (!t4)) ?_ (hg := Gs.yes rfl rfl rfl (congrArg Bool.not hc3))
   refine a_pick (b := false) (v := vB _) ?_ (congrArg Bool.not hc3)
   refine RA.nil nofun ?_
   exact CanR.mk (fun κ => cond (Nat.beq κ 204) 200 (cond (Nat.beq κ 205) 201 (κ))) ⟨_, (by omega), _, _, _, _, _, _, _, H, rfl⟩ ⟨rfl, rfl, rfl, trivial⟩ ⟨rfl, rfl, trivial⟩ rfl
  ·rw [if_neg hc3] at H
   refine RA.skip rfl rfl rfl rfl rfl (congrArg Bool.not (Bool.eq_false_iff.2 hc3)) (by decide) ?_
   refine RA.skip rfl rfl rfl rfl rfl (congrArg Bool.not (Bool.eq_false_iff.2 hc3)) (by decide) ?_
   refine a_pick (b := true) (v := vB _) ?_ (congrArg Bool.not (Bool.eq_false_iff.2 hc3))
   refine RA.nil nofun ?_
   exact CanR.mk (fun κ => cond (Nat.beq κ 204) 200 (cond (Nat.beq κ 205) 201 (κ))) ⟨_, (by omega), _, _, _, _, _, _, _, H, rfl⟩ ⟨rfl, rfl, rfl, trivial⟩ ⟨rfl, rfl, trivial⟩ rfl
 ·clear H
  rintro _ ⟨k, hj0, y204_0, y204_1, y204_2, y204_3, y205_0, y205_1, x15, H, rfl⟩
  cases k with
  | zero => cases H
  | succ k =>
   rw [spec_LeastContrast.j0] at H
   by_cases hc6 : x15 = true
   ·rw [if_pos hc6] at H
    refine AG.yes rfl hc6 ?_
    refine AG.seq ?_
    refine AG.region HM ?_
    refine a_move (v := vI _) ?_
    refine a_move (v := vI _) ?_
    refine RA.nil nofun ?_
    refine AG.ret ?_
    simp only [Option.some.injEq, Prod.mk.injEq] at H
    obtain ⟨rfl, rfl⟩ := H
    exact RetP.mk id ⟨rfl, rfl, trivial⟩ trivial rfl
   ·rw [if_neg hc6] at H
    refine AG.no rfl (Bool.eq_false_iff.2 hc6) ?_
    refine AG.skip ?_
    refine AG.seq ?_
    refine AG.seq ?_
    refine AG.region HM ?_
    refine a_faB (q := 3) ?_ D49_3
    refine a_ldB (v := vR _ _) ?_ T47
    refine a_lenR ?_ Try.underlying47
    refine a_faB (q := 1) ?_ D32_1
    refine a_ldB (v := vR _ _) ?_ T23
    refine a_lenR ?_ Try.underlying23
    refine a_int (u := .bool (((y204_3.length : Int) != (y205_1.length : Int)))) ?_
    refine RA.nil nofun ?_
    by_cases hc7 : (y204_3.length : Int) = (y205_1.length : Int)
    ·rw [if_pos hc7] at H
     refine AG.no rfl (bne_eq_false_iff_eq.2 hc7) ?_
     refine AG.skip ?_
     refine AG.seq ?_
     refine AG.region HM ?_
     obtain ⟨t8, et8, H⟩ := bindO H
     refine a_callF (L := [(204, _)]) ?_ rfl (spec_l15Pairs.ok et8) (qc (rP (pD (pD (pD (pD p0))))) qn) ⟨rfl, trivial⟩
     refine a_move (v := vR _ _) ?_
     refine RA.nil nofun ?_
     refine AG.seq ?_
     refine AG.seq ?_
     refine AG.region HM ?_
     refine a_move (v := vR _ _) ?_
     refine a_lenR ?_ Try.underlying27
     refine a_int (u := .bool (((t8.length : Int) == 0))) ?_
     refine RA.nil nofun ?_
     by_cases hc9 : (t8.length : Int) = 0
     ·rw [if_pos hc9] at H
      refine AG.yes rfl (beq_iff_eq.2 hc9) ?_
      refine AG.seq ?_
      refine AG.region HM ?_
      refine a_move (v := vI _) ?_
      refine a_move (v := vI _) ?_
      refine RA.nil nofun ?_
      refine AG.ret ?_
      simp only [Option.some.injEq, Prod.mk.injEq] at H
      obtain ⟨rfl, rfl⟩ := H
      exact RetP.mk id ⟨rfl, rfl, trivial⟩ trivial rfl
     ·rw [if_neg hc9] at H
      refine AG.no rfl (beq_eq_false_iff_ne.2 hc9) ?_
      refine AG.skip ?_
      refine AG.seq ?_
      refine AG.region HM ?_
      refine a_move (v := vI _) ?_
      refine RA.nil nofun ?_
      refine AG.seq ?_
      refine AG.seq ?_
      refine AG.region HM ?_
      refine a_move (v := vI _) ?_
      refine RA.nil nofun ?_
      refine AG.block ?_
      refine AG.loop ?_
      obtain ⟨K0, hK0, gK0⟩ : ∃ K, k ≤ K ∧ K ≤ k := ⟨k, Nat.le_refl k, Nat.le_refl k⟩
      refine AGr.canon (fun κ => cond (Nat.beq κ 206) 205 (κ)) (AGr.loopI (n := k) (fun k s => k ≤ K0 ∧ ∃ (y206_0 : List S86) (y206_1 : List Int) (x6 : List (List Int)) (x7 : Int) (x8 : Int), spec_LeastContrast.l0 k y206_0 y206_1 x6 x7 x8 = some (r0, r1) ∧ s = St.of [(3, .c (.ptr 206 0)), (6, vR 23 (x6.map c23)), (7, vI x7), (8, vI x8)] [(206, .box 32 [.d (.row 90 (y206_0.map c86)), .d (.row 2 (y206_1.map c2))])]) ⟨hK0, _, _, _, _, _, H, rfl⟩ ?_ ?_) ⟨rfl, rfl, rfl, rfl, trivial⟩ ⟨rfl, trivial⟩ rfl
      ·rintro _ ⟨_, _, _, _, _, _, H, _⟩
       cases H
      ·clear H hK0
       rintro k ih0 _ ⟨hK0, y206_0, y206_1, x6, x7, x8, H, rfl⟩
       unfold spec_LeastContrast.l0 at H
       refine AG.seq ?_
       refine AG.seq ?_
       refine AG.region HM ?_
       refine a_move (v := vI _) ?_
       refine a_move (v := vR _ _) ?_
       refine a_lenR ?_ Try.underlying27
       refine a_int (u := .bool (decide (x8 < (x6.length : Int)))) ?_
       refine RA.nil nofun ?_
       by_cases hc10 : x8 < (x6.length : Int)
       ·rw [if_pos hc10] at H
        refine AG.yes rfl (decide_eq_true hc10) ?_
        refine AG.skip ?_
        refine AG.seq ?_
        refine AG.block ?_
        refine AG.seq ?_
        refine AG.region HM ?_
        refine a_faB (q := 0) ?_ D32_0
        refine a_ldB (v := vR _ _) ?_ T30
        refine a_faB (q := 1) ?_ D32_1
        refine a_ldB (v := vR _ _) ?_ T23
        refine a_move (v := vR _ _) ?_
        refine a_move (v := vI _) ?_
        by_cases hc11 : 0 ≤ x8
        ·rw [if_pos hc11] at H
         refine a_ixR (el := c23 (rd23 x6 x8)) ?_ ⟨hc11, hc10⟩ T23 Try.underlying27 (hel := R23 hc11 hc10)
         refine a_ldR (v := vR _ _) ?_ T23
         by_cases hc12 : 0 < ((rd23 x6 x8).length : Int)
         ·rw [if_pos hc12] at H
          refine a_ixR (el := c2 (rd2 (rd23 x6 x8) 0)) ?_ ⟨(by decide), hc12⟩ T2 Try.underlying23 (hel := R2 (by decide) hc12)
          refine a_ldR (v := vI _) ?_ T2
          by_cases hc13 : 0 ≤ (rd2 (rd23 x6 x8) 0)
          ·rw [if_pos hc13] at H
           by_cases hc14 : (rd2 (rd23 x6 x8) 0) < (y206_1.length : Int)
           ·rw [if_pos hc14] at H
            refine a_ixR (el := c2 (rd2 y206_1 (rd2 (rd23 x6 x8) 0))) ?_ ⟨hc13, hc14⟩ T2 Try.underlying23 (hel := R2 hc13 hc14)
            refine a_ldR (v := vI _) ?_ T2
            refine a_faB (q := 1) ?_ D32_1
            refine a_ldB (v := vR _ _) ?_ T23
            refine a_move (v := vR _ _) ?_
            refine a_move (v := vI _) ?_
            refine a_ixR (el := c23 (rd23 x6 x8)) ?_ ⟨hc11, hc10⟩ T23 Try.underlying27 (hel := R23 hc11 hc10)
            refine a_ldR (v := vR _ _) ?_ T23
            by_cases hc15 : 1 < ((rd23 x6 x8).length : Int)
            ·rw [if_pos hc15] at H
             refine a_ixR (el := c2 (rd2 (rd23 x6 x8) 1)) ?_ ⟨(by decide), hc15⟩ T2 Try.underlying23 (hel := R2 (by decide) hc15)
             refine a_ldR (v := vI _) ?_ T2
             by_cases hc16 : 0 ≤ (rd2 (rd23 x6 x8) 1)
             ·rw [if_pos hc16] at H
              by_cases hc17 : (rd2 (rd23 x6 x8) 1) < (y206_1.length : Int)
              ·rw [if_pos hc17] at H
               refine a_ixR (el := c2 (rd2 y206_1 (rd2 (rd23 x6 x8) 1))) ?_ ⟨hc16, hc17⟩ T2 Try.underlying23 (hel := R2 hc16 hc17)
               refine a_ldR (v := vI _) ?_ T2
               obtain ⟨t18, e19, H⟩ := bindO H
               refine a_call (v := vI t18) (nk := []) (L := []) ?_ rfl (spec_l15Contrast.ok e19) id (qd (qd (qd qn))) trivial trivial trivial rfl
               refine a_move (v := vI _) ?_
               refine RA.nil (fun _ => by kernel_rfl) ?_
               refine AG.seq ?_
               refine AG.region HM ?_
               refine a_move (v := vI _) ?_
               refine a_int (u := .bool ((x8 == 0))) ?_
               refine a_move (v := vB _) ?_
               by_cases hc20 : x8 = 0
               ·rw [if_pos hc20] at H
                refine RA.skip rfl rfl rfl rfl rfl (beq_iff_eq.2 hc20) (by decide) ?_
                refine RA.skip rfl rfl rfl rfl rfl (beq_iff_eq.2 hc20) (by decide) ?_
                refine RA.skip rfl rfl rfl rfl rfl (beq_iff_eq.2 hc20) (by decide) ?_
                refine a_pick (b := true) (v := vB _) ?_ (beq_iff_eq.2 hc20)
                refine RA.nil nofun ?_
                refine AG.yes rfl rfl ?_
                refine AG.region HM ?_
                refine a_move (v := vI _) ?_
                refine a_move (v := vI _) ?_
                refine RA.nil nofun ?_
                refine AG.region HM ?_
                refine a_move (v := vI _) ?_
                refine a_int (u := .int .i64 (wrap64 (x8 + 1))) ?_
                refine a_move (v := vI _) ?_
                refine RA.nil nofun ?_
                exact AGr.canon id (ih0 _ (by omega) _ ⟨by omega, _, _, _, _, _, H, rfl⟩) ⟨rfl, rfl, rfl, rfl, trivial⟩ ⟨rfl, trivial⟩ rfl
               ·rw [if_neg hc20] at H
                refine a_move (v := vI _) ?_ (hg := Gs.yes rfl rfl rfl (beq_eq_false_iff_ne.2 hc20))
                refine a_move (v := vI _) ?_ (hg := Gs.yes rfl rfl rfl (beq_eq_false_iff_ne.2 hc20))
                refine a_int (u := .bool (decide (t18 < x7))) ?_ (hg := Gs.yes rfl rfl rfl (beq_eq_false_iff_ne.2 hc20))
                refine a_pick (b := false) (v := vB _) ?_ (beq_eq_false_iff_ne.2 hc20)
                refine RA.nil nofun ?_
                by_cases hc21 : t18 < x7
                ·rw [if_pos hc21] at H
                 refine AG.yes rfl (decide_eq_true hc21) ?_
                 refine AG.region HM ?_
                 refine a_move (v := vI _) ?_
                 refine a_move (v := vI _) ?_
                 refine RA.nil nofun ?_
                 refine AG.region HM ?_
                 refine a_move (v := vI _) ?_
                 refine a_int (u := .int .i64 (wrap64 (x8 + 1))) ?_
                 refine a_move (v := vI _) ?_
                 refine RA.nil nofun ?_
                 exact AGr.canon id (ih0 _ (by omega) _ ⟨by omega, _, _, _, _, _, H, rfl⟩) ⟨rfl, rfl, rfl, rfl, trivial⟩ ⟨rfl, trivial⟩ rfl
                ·rw [if_neg hc21] at H
                 refine AG.no rfl (decide_eq_false hc21) ?_
                 refine AG.skip ?_
                 refine AG.region HM ?_
                 refine a_move (v := vI _) ?_
                 refine a_int (u := .int .i64 (wrap64 (x8 + 1))) ?_
                 refine a_move (v := vI _) ?_
                 refine RA.nil nofun ?_
                 exact AGr.canon id (ih0 _ (by omega) _ ⟨by omega, _, _, _, _, _, H, rfl⟩) ⟨rfl, rfl, rfl, rfl, trivial⟩ ⟨rfl, trivial⟩ rfl
              ·rw [if_neg hc17] at H
               cases H
             ·rw [if_neg hc16] at H
              cases H
            ·rw [if_neg hc15] at H
             cases H
           ·rw [if_neg hc14] at H
            cases H
          ·rw [if_neg hc13] at H
           cases H
         ·rw [if_neg hc12] at H
          cases H
        ·rw [if_neg hc11] at H
         cases H
       ·rw [if_neg hc10] at H
        refine AG.no rfl (decide_eq_false hc10) ?_
        refine AG.exit ?_
        refine AG.seq ?_
        refine AG.region HM ?_
        refine a_move (v := vI _) ?_
        refine a_move (v := vI _) ?_
        refine a_move (v := vI _) ?_
        refine RA.nil nofun ?_
        refine AG.ret ?_
        simp only [Option.some.injEq, Prod.mk.injEq] at H
        obtain ⟨rfl, rfl⟩ := H
        exact RetP.mk id ⟨rfl, rfl, trivial⟩ trivial rfl
    ·rw [if_neg hc7] at H
     refine AG.yes rfl (bne_iff_ne.2 hc7) ?_
     refine AG.seq ?_
     refine AG.region HM ?_
     refine a_move (v := vI _) ?_
     refine a_move (v := vI _) ?_
     refine RA.nil nofun ?_
     refine AG.ret ?_
     simp only [Option.some.injEq, Prod.mk.injEq] at H
     obtain ⟨rfl, rfl⟩ := H
     exact RetP.mk id ⟨rfl, rfl, trivial⟩ trivial rfl
/-! ### impl_within: function 58 -/
def impl_within.f (a0 : Int) (a1 : Int) (a2 : Int) : Option (Bool) := if a0 ≥ a1 then (some (decide (a0 ≤ a2))) else (some false)
set_option maxRecDepth 100000 in
theorem impl_within.ok {a0 : Int} {a1 : Int} {a2 : Int} {r : Bool} (H : impl_within.f a0 a1 a2 = some r) : OkF Try.prog 58 [vI a0, vI a1, vI a2] [] (.c (.d (.v (.bool r)))) [] := by
 unfold impl_within.f at H
 refine OkF.of (N := 15) (rs := [6]) (avs := [.c (.d (.v (.bool r)))]) Try.func58 rfl rfl (fun _ _ => results_tmp rfl _ _ _) (by decide) rfl rfl rfl rfl (fun w0 S => ?_)
 refine AG.seq ?_
 refine AG.region HM ?_
 refine a_move (v := vB _) ?_
 refine RA.nil nofun ?_
 refine AG.seq ?_
 refine AG.region HM ?_
 refine a_move (v := vI _) ?_
 refine a_move (v := vI _) ?_
 refine a_int (u := .bool (decide (a0 ≥ a1))) ?_
 refine a_move (v := vB _) ?_
 by_cases hc1 : a0 ≥ a1
 ·rw [if_pos hc1] at H
  refine a_move (v := vI _) ?_ (hg := Gs.yes rfl rfl rfl (decide_eq_true hc1))
  refine a_move (v := vI _) ?_ (hg := Gs.yes rfl rfl rfl (decide_eq_true hc1))
  refine a_int (u := .bool (decide (a0 ≤ a2))) ?_ (hg := Gs.yes rfl rfl rfl (decide_eq_true hc1))
  refine a_pick (b := true) (v := vB _) ?_ (decide_eq_true hc1)
  refine a_move (v := vB _) ?_
  refine RA.nil nofun ?_
  refine AG.ret ?_
  obtain rfl := Option.some.inj H
  exact RetP.mk id ⟨rfl, trivial⟩ trivial rfl
 ·rw [if_neg hc1] at H
  refine RA.skip rfl rfl rfl rfl rfl (decide_eq_false hc1) (by decide) ?_
  refine RA.skip rfl rfl rfl rfl rfl (decide_eq_false hc1) (by decide) ?_
  refine RA.skip rfl rfl rfl rfl rfl (decide_eq_false hc1) (by decide) ?_
  refine a_pick (b := false) (v := vB _) ?_ (decide_eq_false hc1)
  refine a_move (v := vB _) ?_
  refine RA.nil nofun ?_
  refine AG.ret ?_
  obtain rfl := Option.some.inj H
  exact RetP.mk id ⟨rfl, trivial⟩ trivial rfl
/-! ### impl_SpeciesData: function 120 -/
def impl_SpeciesData.f (a0 : ByteArray) : Option (Int × Int × Int × Int) := if a0.toList = (⟨#[97, 115, 104]⟩ : ByteArray).toList then (some (20, 40, 310, 0)) else (if a0.toList = (⟨#[98, 101, 101, 99, 104]⟩ : ByteArray).toList then (some (35, 45, 410, 0)) else (if a0.toList = (⟨#[98, 105, 114, 99, 104]⟩ : ByteArray).toList then (some (15, 33, 280, 0)) else (if a0.toList = (⟨#[99, 104, 101, 114, 114, 121]⟩ : ByteArray).toList then (some (50, 36, 240, 0)) else (if a0.toList = (⟨#[101, 98, 111, 110, 121]⟩ : ByteArray).toList then (some (95, 85, 270, 0)) else (if a0.toList = (⟨#[104, 111, 108, 108, 121]⟩ : ByteArray).toList then (some (5, 35, 370, 0)) else (if a0.toList = (⟨#[109, 97, 112, 108, 101]⟩ : ByteArray).toList then (some (10, 42, 290, 0)) else (if a0.toList = (⟨#[111, 97, 107]⟩ : ByteArray).toList then (some (40, 40, 330, 0)) else (if a0.toList = (⟨#[114, 111, 115, 101, 119, 111, 111, 100]⟩ : ByteArray).toList then (some (80, 60, 220, 0)) else (if a0.toList = (⟨#[119, 97, 108, 110, 117, 116]⟩ : ByteArray).toList then (some (70, 38, 260, 0)) else (some (0, 0, 0, 3)))))))))))
set_option maxRecDepth 100000 in
theorem impl_SpeciesData.ok {a0 : ByteArray} {r0 : Int} {r1 : Int} {r2 : Int} {r3 : Int} (H : impl_SpeciesData.f a0 = some (r0, r1, r2, r3)) : OkF Try.prog 120 [vS a0] [] (.tup [.c (.d (.v (.int .i64 r0))), .c (.d (.v (.int .i64 r1))), .c (.d (.v (.int .i64 r2))), .c (.d (.v (.int .i64 r3)))]) [] := by
 unfold impl_SpeciesData.f at H
 refine OkF.of (N := 27) (rs := [2, 3, 4, 5]) (avs := [.c (.d (.v (.int .i64 r0))), .c (.d (.v (.int .i64 r1))), .c (.d (.v (.int .i64 r2))), .c (.d (.v (.int .i64 r3)))]) Try.func120 rfl rfl (fun _ _ => results_tmp4 rfl _ _ _) (by decide) rfl rfl rfl rfl (fun w0 S => ?_)
 refine AG.seq ?_
 refine AG.region HM ?_
 refine a_move (v := vI _) ?_
 refine a_move (v := vI _) ?_
 refine a_move (v := vI _) ?_
 refine a_move (v := vI _) ?_
 refine RA.nil nofun ?_
 refine AG.seq ?_
 refine AG.seq ?_
 refine AG.region HM ?_
 refine a_move (v := vS _) ?_
 refine RA.nil nofun ?_
 refine AG.block ?_
 refine AG.seq ?_
 refine AG.region HM ?_
 refine a_bin (u := .bool (a0.toList == (⟨#[97, 115, 104]⟩ : ByteArray).toList)) ?_
 refine a_move (v := vB _) ?_
 refine RA.nil nofun ?_
 by_cases hc1 : a0.toList = (⟨#[97, 115, 104]⟩ : ByteArray).toList
 ·rw [if_pos hc1] at H
  refine AG.yes rfl (beq_iff_eq.2 hc1) ?_
  refine AG.seq ?_
  refine AG.region HM ?_
  refine a_move (v := vI _) ?_
  refine a_move (v := vI _) ?_
  refine a_move (v := vI _) ?_
  refine a_move (v := vI _) ?_
  refine RA.nil nofun ?_
  refine AG.ret ?_
  simp only [Option.some.injEq, Prod.mk.injEq] at H
  obtain ⟨rfl, rfl, rfl, rfl⟩ := H
  exact RetP.mk id ⟨rfl, rfl, rfl, rfl, trivial⟩ trivial rfl
 ·rw [if_neg hc1] at H
  refine AG.no rfl (beq_eq_false_iff_ne.2 hc1) ?_
  refine AG.seq ?_
  refine AG.region HM ?_
  refine a_bin (u := .bool (a0.toList == (⟨#[98, 101, 101, 99, 104]⟩ : ByteArray).toList)) ?_
  refine a_move (v := vB _) ?_
  refine RA.nil nofun ?_
  by_cases hc2 : a0.toList = (⟨#[98, 101, 101, 99, 104]⟩ : ByteArray).toList
  ·rw [if_pos hc2] at H
   refine AG.yes rfl (beq_iff_eq.2 hc2) ?_
   refine AG.seq ?_
   refine AG.region HM ?_
   refine a_move (v := vI _) ?_
   refine a_move (v := vI _) ?_
   refine a_move (v := vI _) ?_
   refine a_move (v := vI _) ?_
   refine RA.nil nofun ?_
   refine AG.ret ?_
   simp only [Option.some.injEq, Prod.mk.injEq] at H
   obtain ⟨rfl, rfl, rfl, rfl⟩ := H
   exact RetP.mk id ⟨rfl, rfl, rfl, rfl, trivial⟩ trivial rfl
  ·rw [if_neg hc2] at H
   refine AG.no rfl (beq_eq_false_iff_ne.2 hc2) ?_
   refine AG.seq ?_
   refine AG.region HM ?_
   refine a_bin (u := .bool (a0.toList == (⟨#[98, 105, 114, 99, 104]⟩ : ByteArray).toList)) ?_
   refine a_move (v := vB _) ?_
   refine RA.nil nofun ?_
   by_cases hc3 : a0.toList = (⟨#[98, 105, 114, 99, 104]⟩ : ByteArray).toList
   ·rw [if_pos hc3] at H
    refine AG.yes rfl (beq_iff_eq.2 hc3) ?_
    refine AG.seq ?_
    refine AG.region HM ?_
    refine a_move (v := vI _) ?_
    refine a_move (v := vI _) ?_
    refine a_move (v := vI _) ?_
    refine a_move (v := vI _) ?_
    refine RA.nil nofun ?_
    refine AG.ret ?_
    simp only [Option.some.injEq, Prod.mk.injEq] at H
    obtain ⟨rfl, rfl, rfl, rfl⟩ := H
    exact RetP.mk id ⟨rfl, rfl, rfl, rfl, trivial⟩ trivial rfl
   ·rw [if_neg hc3] at H
    refine AG.no rfl (beq_eq_false_iff_ne.2 hc3) ?_
    refine AG.seq ?_
    refine AG.region HM ?_
    refine a_bin (u := .bool (a0.toList == (⟨#[99, 104, 101, 114, 114, 121]⟩ : ByteArray).toList)) ?_
    refine a_move (v := vB _) ?_
    refine RA.nil nofun ?_
    by_cases hc4 : a0.toList = (⟨#[99, 104, 101, 114, 114, 121]⟩ : ByteArray).toList
    ·rw [if_pos hc4] at H
     refine AG.yes rfl (beq_iff_eq.2 hc4) ?_
     refine AG.seq ?_
     refine AG.region HM ?_
     refine a_move (v := vI _) ?_
     refine a_move (v := vI _) ?_
     refine a_move (v := vI _) ?_
     refine a_move (v := vI _) ?_
     refine RA.nil nofun ?_
     refine AG.ret ?_
     simp only [Option.some.injEq, Prod.mk.injEq] at H
     obtain ⟨rfl, rfl, rfl, rfl⟩ := H
     exact RetP.mk id ⟨rfl, rfl, rfl, rfl, trivial⟩ trivial rfl
    ·rw [if_neg hc4] at H
     refine AG.no rfl (beq_eq_false_iff_ne.2 hc4) ?_
     refine AG.seq ?_
     refine AG.region HM ?_
     refine a_bin (u := .bool (a0.toList == (⟨#[101, 98, 111, 110, 121]⟩ : ByteArray).toList)) ?_
     refine a_move (v := vB _) ?_
     refine RA.nil nofun ?_
     by_cases hc5 : a0.toList = (⟨#[101, 98, 111, 110, 121]⟩ : ByteArray).toList
     ·rw [if_pos hc5] at H
      refine AG.yes rfl (beq_iff_eq.2 hc5) ?_
      refine AG.seq ?_
      refine AG.region HM ?_
      refine a_move (v := vI _) ?_
      refine a_move (v := vI _) ?_
      refine a_move (v := vI _) ?_
      refine a_move (v := vI _) ?_
      refine RA.nil nofun ?_
      refine AG.ret ?_
      simp only [Option.some.injEq, Prod.mk.injEq] at H
      obtain ⟨rfl, rfl, rfl, rfl⟩ := H
      exact RetP.mk id ⟨rfl, rfl, rfl, rfl, trivial⟩ trivial rfl
     ·rw [if_neg hc5] at H
      refine AG.no rfl (beq_eq_false_iff_ne.2 hc5) ?_
      refine AG.seq ?_
      refine AG.region HM ?_
      refine a_bin (u := .bool (a0.toList == (⟨#[104, 111, 108, 108, 121]⟩ : ByteArray).toList)) ?_
      refine a_move (v := vB _) ?_
      refine RA.nil nofun ?_
      by_cases hc6 : a0.toList = (⟨#[104, 111, 108, 108, 121]⟩ : ByteArray).toList
      ·rw [if_pos hc6] at H
       refine AG.yes rfl (beq_iff_eq.2 hc6) ?_
       refine AG.seq ?_
       refine AG.region HM ?_
       refine a_move (v := vI _) ?_
       refine a_move (v := vI _) ?_
       refine a_move (v := vI _) ?_
       refine a_move (v := vI _) ?_
       refine RA.nil nofun ?_
       refine AG.ret ?_
       simp only [Option.some.injEq, Prod.mk.injEq] at H
       obtain ⟨rfl, rfl, rfl, rfl⟩ := H
       exact RetP.mk id ⟨rfl, rfl, rfl, rfl, trivial⟩ trivial rfl
      ·rw [if_neg hc6] at H
       refine AG.no rfl (beq_eq_false_iff_ne.2 hc6) ?_
       refine AG.seq ?_
       refine AG.region HM ?_
       refine a_bin (u := .bool (a0.toList == (⟨#[109, 97, 112, 108, 101]⟩ : ByteArray).toList)) ?_
       refine a_move (v := vB _) ?_
       refine RA.nil nofun ?_
       by_cases hc7 : a0.toList = (⟨#[109, 97, 112, 108, 101]⟩ : ByteArray).toList
       ·rw [if_pos hc7] at H
        refine AG.yes rfl (beq_iff_eq.2 hc7) ?_
        refine AG.seq ?_
        refine AG.region HM ?_
        refine a_move (v := vI _) ?_
        refine a_move (v := vI _) ?_
        refine a_move (v := vI _) ?_
        refine a_move (v := vI _) ?_
        refine RA.nil nofun ?_
        refine AG.ret ?_
        simp only [Option.some.injEq, Prod.mk.injEq] at H
        obtain ⟨rfl, rfl, rfl, rfl⟩ := H
        exact RetP.mk id ⟨rfl, rfl, rfl, rfl, trivial⟩ trivial rfl
       ·rw [if_neg hc7] at H
        refine AG.no rfl (beq_eq_false_iff_ne.2 hc7) ?_
        refine AG.seq ?_
        refine AG.region HM ?_
        refine a_bin (u := .bool (a0.toList == (⟨#[111, 97, 107]⟩ : ByteArray).toList)) ?_
        refine a_move (v := vB _) ?_
        refine RA.nil nofun ?_
        by_cases hc8 : a0.toList = (⟨#[111, 97, 107]⟩ : ByteArray).toList
        ·rw [if_pos hc8] at H
         refine AG.yes rfl (beq_iff_eq.2 hc8) ?_
         refine AG.seq ?_
         refine AG.region HM ?_
         refine a_move (v := vI _) ?_
         refine a_move (v := vI _) ?_
         refine a_move (v := vI _) ?_
         refine a_move (v := vI _) ?_
         refine RA.nil nofun ?_
         refine AG.ret ?_
         simp only [Option.some.injEq, Prod.mk.injEq] at H
         obtain ⟨rfl, rfl, rfl, rfl⟩ := H
         exact RetP.mk id ⟨rfl, rfl, rfl, rfl, trivial⟩ trivial rfl
        ·rw [if_neg hc8] at H
         refine AG.no rfl (beq_eq_false_iff_ne.2 hc8) ?_
         refine AG.seq ?_
         refine AG.region HM ?_
         refine a_bin (u := .bool (a0.toList == (⟨#[114, 111, 115, 101, 119, 111, 111, 100]⟩ : ByteArray).toList)) ?_
         refine a_move (v := vB _) ?_
         refine RA.nil nofun ?_
         by_cases hc9 : a0.toList = (⟨#[114, 111, 115, 101, 119, 111, 111, 100]⟩ : ByteArray).toList
         ·rw [if_pos hc9] at H
          refine AG.yes rfl (beq_iff_eq.2 hc9) ?_
          refine AG.seq ?_
          refine AG.region HM ?_
          refine a_move (v := vI _) ?_
          refine a_move (v := vI _) ?_
          refine a_move (v := vI _) ?_
          refine a_move (v := vI _) ?_
          refine RA.nil nofun ?_
          refine AG.ret ?_
          simp only [Option.some.injEq, Prod.mk.injEq] at H
          obtain ⟨rfl, rfl, rfl, rfl⟩ := H
          exact RetP.mk id ⟨rfl, rfl, rfl, rfl, trivial⟩ trivial rfl
         ·rw [if_neg hc9] at H
          refine AG.no rfl (beq_eq_false_iff_ne.2 hc9) ?_
          refine AG.seq ?_
          refine AG.region HM ?_
          refine a_bin (u := .bool (a0.toList == (⟨#[119, 97, 108, 110, 117, 116]⟩ : ByteArray).toList)) ?_
          refine a_move (v := vB _) ?_
          refine RA.nil nofun ?_
          by_cases hc10 : a0.toList = (⟨#[119, 97, 108, 110, 117, 116]⟩ : ByteArray).toList
          ·rw [if_pos hc10] at H
           refine AG.yes rfl (beq_iff_eq.2 hc10) ?_
           refine AG.seq ?_
           refine AG.region HM ?_
           refine a_move (v := vI _) ?_
           refine a_move (v := vI _) ?_
           refine a_move (v := vI _) ?_
           refine a_move (v := vI _) ?_
           refine RA.nil nofun ?_
           refine AG.ret ?_
           simp only [Option.some.injEq, Prod.mk.injEq] at H
           obtain ⟨rfl, rfl, rfl, rfl⟩ := H
           exact RetP.mk id ⟨rfl, rfl, rfl, rfl, trivial⟩ trivial rfl
          ·rw [if_neg hc10] at H
           refine AG.no rfl (beq_eq_false_iff_ne.2 hc10) ?_
           refine AG.skip ?_
           refine AG.seq ?_
           refine AG.region HM ?_
           refine a_move (v := vI _) ?_
           refine a_move (v := vI _) ?_
           refine a_move (v := vI _) ?_
           refine a_move (v := vI _) ?_
           refine RA.nil nofun ?_
           refine AG.ret ?_
           simp only [Option.some.injEq, Prod.mk.injEq] at H
           obtain ⟨rfl, rfl, rfl, rfl⟩ := H
           exact RetP.mk id ⟨rfl, rfl, rfl, rfl, trivial⟩ trivial rfl
/-! ### impl_speciesShade: function 118 -/
def impl_speciesShade.f (a0 : ByteArray) : Option (Int × Bool) := (impl_SpeciesData.f a0).bind fun bt1 => (some (bt1.1, (bt1.2.2.2 == 0)))
set_option maxRecDepth 100000 in
theorem impl_speciesShade.ok {a0 : ByteArray} {r0 : Int} {r1 : Bool} (H : impl_speciesShade.f a0 = some (r0, r1)) : OkF Try.prog 118 [vS a0] [] (.tup [.c (.d (.v (.int .i64 r0))), .c (.d (.v (.bool r1)))]) [] := by
 unfold impl_speciesShade.f at H
 refine OkF.of (N := 18) (rs := [2, 3]) (avs := [.c (.d (.v (.int .i64 r0))), .c (.d (.v (.bool r1)))]) Try.func118 rfl rfl (fun _ _ => results_tmp2 rfl _ _ _) (by decide) rfl rfl rfl rfl (fun w0 S => ?_)
 refine AG.seq ?_
 refine AG.region HM ?_
 refine a_move (v := vI _) ?_
 refine a_move (v := vB _) ?_
 refine RA.nil nofun ?_
 refine AG.seq ?_
 refine AG.region HM ?_
 refine a_move (v := vS _) ?_
 obtain ⟨⟨t1, t2, t3, t4⟩, e5, H⟩ := bindO H
 refine a_call (v := .tup [.c (.d (.v (.int .i64 t1))), .c (.d (.v (.int .i64 t2))), .c (.d (.v (.int .i64 t3))), .c (.d (.v (.int .i64 t4)))]) (nk := []) (L := []) ?_ rfl (impl_SpeciesData.ok e5) id (qd qn) trivial trivial trivial rfl
 refine a_move (v := .tup [_, _, _, _]) ?_
 refine a_ext (v := vI _) ?_
 refine a_ext (v := vI _) ?_
 refine a_ext (v := vI _) ?_
 refine a_ext (v := vI _) ?_
 refine a_move (v := vI _) ?_
 refine a_move (v := vI _) ?_
 refine a_move (v := vI _) ?_
 refine a_move (v := vI _) ?_
 refine RA.nil nofun ?_
 refine AG.seq ?_
 refine AG.region HM ?_
 refine a_move (v := vI _) ?_
 refine a_move (v := vI _) ?_
 refine a_int (u := .bool ((t4 == 0))) ?_
 refine a_move (v := vI _) ?_
 refine a_move (v := vB _) ?_
 refine RA.nil nofun ?_
 refine AG.ret ?_
 simp only [Option.some.injEq, Prod.mk.injEq] at H
 obtain ⟨rfl, rfl⟩ := H
 exact RetP.mk id ⟨rfl, rfl, trivial⟩ trivial rfl
/-! ### impl_ValidVeneer: function 109 -/
def impl_ValidVeneer.f (a0_0 : ByteArray) (a0_1 : Int) (a0_2 : Int) : Option (Bool) := (impl_speciesShade.f a0_0).bind fun bt1 => (if bt1.2 = true then ((impl_within.f a0_1 0 100).bind fun t5 => (if t5 = true then ((impl_within.f (wrap64 (a0_1 - bt1.1)) (-15) 15).bind fun t8 => (if t8 = true then ((impl_within.f a0_2 0 179).bind fun t11 => (some t11)) else (some false))) else (some false))) else (some false))
set_option maxRecDepth 100000 in
theorem impl_ValidVeneer.ok {a0_0 : ByteArray} {a0_1 : Int} {a0_2 : Int} {r : Bool} (H : impl_ValidVeneer.f a0_0 a0_1 a0_2 = some r) : OkF Try.prog 109 [.agg [.d (.v (.string a0_0)), .d (.v (.int .i64 a0_1)), .d (.v (.int .i64 a0_2))]] [] (.c (.d (.v (.bool r)))) [] := by
 unfold impl_ValidVeneer.f at H
 refine OkF.of (N := 29) (rs := [2]) (avs := [.c (.d (.v (.bool r)))]) Try.func109 rfl rfl (fun _ _ => results_tmp rfl _ _ _) (by decide) rfl rfl rfl rfl (fun w0 S => ?_)
 refine AG.seq ?_
 refine AG.region HM ?_
 refine a_box 200 ?_
 refine a_move (v := vB _) ?_
 refine RA.nil nofun ?_
 refine AG.seq ?_
 refine AG.region HM ?_
 refine a_faB (q := 0) ?_ D90_0
 refine a_ldB (v := vS _) ?_ T9
 obtain ⟨⟨t1, t2⟩, e3, H⟩ := bindO H
 refine a_call (v := .tup [.c (.d (.v (.int .i64 t1))), .c (.d (.v (.bool t2)))]) (nk := []) (L := []) ?_ rfl (impl_speciesShade.ok e3) id (qd qn) trivial trivial trivial rfl
 refine a_move (v := .tup [_, _]) ?_
 refine a_ext (v := vI _) ?_
 refine a_ext (v := vB _) ?_
 refine a_move (v := vI _) ?_
 refine a_move (v := vB _) ?_
 refine RA.nil nofun ?_
 refine AG.seq ?_
 refine AG.region HM ?_
 refine a_move (v := vB _) ?_
 refine a_move (v := vB _) ?_
 by_cases hc4 : t2 = true
 ·rw [if_pos hc4] at H
  refine a_faB (q := 1) ?_ D90_1 (hg := Gs.yes rfl rfl rfl hc4)
  refine a_ldB (v := vI _) ?_ T2 (hg := Gs.yes rfl rfl rfl hc4)
  obtain ⟨t5, e6, H⟩ := bindO H
  refine a_call (v := vB t5) (nk := []) (L := []) ?_ rfl (impl_within.ok e6) id (qd (qd (qd qn))) trivial trivial trivial rfl (hg := Gs.yes rfl rfl rfl hc4)
  refine a_pick (b := true) (v := vB _) ?_ hc4
  refine a_move (v := vB _) ?_
  by_cases hc7 : t5 = true
  ·rw [if_pos hc7] at H
   refine a_faB (q := 1) ?_ D90_1 (hg := Gs.yes rfl rfl rfl hc7)
   refine a_ldB (v := vI _) ?_ T2 (hg := Gs.yes rfl rfl rfl hc7)
   refine a_move (v := vI _) ?_ (hg := Gs.yes rfl rfl rfl hc7)
   refine a_int (u := .int .i64 (wrap64 (a0_1 - t1))) ?_ (hg := Gs.yes rfl rfl rfl hc7)
   obtain ⟨t8, e9, H⟩ := bindO H
   refine a_call (v := vB t8) (nk := []) (L := []) ?_ rfl (impl_within.ok e9) id (qd (qd (qd qn))) trivial trivial trivial rfl (hg := Gs.yes rfl rfl rfl hc7)
   refine a_pick (b := true) (v := vB _) ?_ hc7
   refine a_move (v := vB _) ?_
   by_cases hc10 : t8 = true
   ·rw [if_pos hc10] at H
    refine a_faB (q := 2) ?_ D90_2 (hg := Gs.yes rfl rfl rfl hc10)
    refine a_ldB (v := vI _) ?_ T2 (hg := Gs.yes rfl rfl rfl hc10)
    obtain ⟨t11, e12, H⟩ := bindO H
    refine a_call (v := vB t11) (nk := []) (L := []) ?_ rfl (impl_within.ok e12) id (qd (qd (qd qn))) trivial trivial trivial rfl (hg := Gs.yes rfl rfl rfl hc10)
    refine a_pick (b := true) (v := vB _) ?_ hc10
    refine a_move (v := vB _) ?_
    refine RA.nil nofun ?_
    refine AG.ret ?_
    obtain rfl := Option.some.inj H
    exact RetP.mk id ⟨rfl, trivial⟩ trivial rfl
   ·rw [if_neg hc10] at H
    refine RA.skip rfl rfl rfl rfl rfl (Bool.eq_false_iff.2 hc10) (by decide) ?_
    refine RA.skip rfl rfl rfl rfl rfl (Bool.eq_false_iff.2 hc10) (by decide) ?_
    refine RA.skip rfl rfl rfl rfl rfl (Bool.eq_false_iff.2 hc10) (by decide) ?_
    refine a_pick (b := false) (v := vB _) ?_ (Bool.eq_false_iff.2 hc10)
    refine a_move (v := vB _) ?_
    refine RA.nil nofun ?_
    refine AG.ret ?_
    obtain rfl := Option.some.inj H
    exact RetP.mk id ⟨rfl, trivial⟩ trivial rfl
  ·rw [if_neg hc7] at H
   refine RA.skip rfl rfl rfl rfl rfl (Bool.eq_false_iff.2 hc7) (by decide) ?_
   refine RA.skip rfl rfl rfl rfl rfl (Bool.eq_false_iff.2 hc7) (by decide) ?_
   refine RA.skip rfl rfl rfl rfl rfl (Bool.eq_false_iff.2 hc7) (by decide) ?_
   refine RA.skip rfl rfl rfl rfl rfl (Bool.eq_false_iff.2 hc7) (by decide) ?_
   refine RA.skip rfl rfl rfl rfl rfl (Bool.eq_false_iff.2 hc7) (by decide) ?_
   refine a_pick (b := false) (v := vB _) ?_ (Bool.eq_false_iff.2 hc7)
   refine a_move (v := vB _) ?_
   refine RA.skip rfl rfl rfl rfl rfl rfl (by decide) ?_
   refine RA.skip rfl rfl rfl rfl rfl rfl (by decide) ?_
   refine RA.skip rfl rfl rfl rfl rfl rfl (by decide) ?_
   refine a_pick (b := false) (v := vB _) ?_ rfl
   refine a_move (v := vB _) ?_
   refine RA.nil nofun ?_
   refine AG.ret ?_
   obtain rfl := Option.some.inj H
   exact RetP.mk id ⟨rfl, trivial⟩ trivial rfl
 ·rw [if_neg hc4] at H
  refine RA.skip rfl rfl rfl rfl rfl (Bool.eq_false_iff.2 hc4) (by decide) ?_
  refine RA.skip rfl rfl rfl rfl rfl (Bool.eq_false_iff.2 hc4) (by decide) ?_
  refine RA.skip rfl rfl rfl rfl rfl (Bool.eq_false_iff.2 hc4) (by decide) ?_
  refine a_pick (b := false) (v := vB _) ?_ (Bool.eq_false_iff.2 hc4)
  refine a_move (v := vB _) ?_
  refine RA.skip rfl rfl rfl rfl rfl rfl (by decide) ?_
  refine RA.skip rfl rfl rfl rfl rfl rfl (by decide) ?_
  refine RA.skip rfl rfl rfl rfl rfl rfl (by decide) ?_
  refine RA.skip rfl rfl rfl rfl rfl rfl (by decide) ?_
  refine RA.skip rfl rfl rfl rfl rfl rfl (by decide) ?_
  refine a_pick (b := false) (v := vB _) ?_ rfl
  refine a_move (v := vB _) ?_
  refine RA.skip rfl rfl rfl rfl rfl rfl (by decide) ?_
  refine RA.skip rfl rfl rfl rfl rfl rfl (by decide) ?_
  refine RA.skip rfl rfl rfl rfl rfl rfl (by decide) ?_
  refine a_pick (b := false) (v := vB _) ?_ rfl
  refine a_move (v := vB _) ?_
  refine RA.nil nofun ?_
  refine AG.ret ?_
  obtain rfl := Option.some.inj H
  exact RetP.mk id ⟨rfl, trivial⟩ trivial rfl
/-! ### impl_validVeneers_1: function 108 -/
def impl_validVeneers_1.f (a0_0 : ByteArray) (a0_1 : Int) (a0_2 : Int) : Option (Bool) := (impl_ValidVeneer.f a0_0 a0_1 a0_2).bind fun t1 => (some (!t1))
set_option maxRecDepth 100000 in
theorem impl_validVeneers_1.ok {a0_0 : ByteArray} {a0_1 : Int} {a0_2 : Int} {r : Bool} (H : impl_validVeneers_1.f a0_0 a0_1 a0_2 = some r) : OkF Try.prog 108 [.agg [.d (.v (.string a0_0)), .d (.v (.int .i64 a0_1)), .d (.v (.int .i64 a0_2))]] [] (.c (.d (.v (.bool r)))) [] := by
 unfold impl_validVeneers_1.f at H
 refine OkF.of (N := 6) (rs := [2]) (avs := [.c (.d (.v (.bool r)))]) Try.func108 rfl rfl (fun _ _ => results_tmp rfl _ _ _) (by decide) rfl rfl rfl rfl (fun w0 S => ?_)
 refine AG.seq ?_
 refine AG.region HM ?_
 refine a_box 200 ?_
 refine a_move (v := vB _) ?_
 refine RA.nil nofun ?_
 refine AG.seq ?_
 refine AG.region HM ?_
 refine a_ldB (v := .agg [_, _, _]) ?_ T90
 obtain ⟨t1, e2, H⟩ := bindO H
 refine a_call (v := vB t1) (nk := []) (L := []) ?_ rfl (impl_ValidVeneer.ok e2) id (qg qn) trivial trivial trivial rfl
 refine a_un (u := .bool (!t1)) ?_
 refine a_move (v := vB _) ?_
 refine RA.nil nofun ?_
 refine AG.ret ?_
 obtain rfl := Option.some.inj H
 exact RetP.mk id ⟨rfl, trivial⟩ trivial rfl
/-! ### slices_IndexFunc_impl_Veneer__impl_validVeneers_1: function 117 -/
def slices_IndexFunc_impl_Veneer__impl_validVeneers_1.l0 : Nat → List S86 → Int → Int → Option (Int)
 | 0, _, _, _ => none
 | k + 1, x0, x7, x8 => if x8 < x7 then (if 0 ≤ x8 then (if x8 < (x0.length : Int) then ((impl_validVeneers_1.f ((rd86 x0 x8).f0) ((rd86 x0 x8).f1) ((rd86 x0 x8).f2)).bind fun t4 => (if t4 = true then (some x8) else (slices_IndexFunc_impl_Veneer__impl_validVeneers_1.l0 k x0 x7 (wrap64 (x8 + 1))))) else (none)) else (none)) else (some (-1))
def slices_IndexFunc_impl_Veneer__impl_validVeneers_1.f (k : Nat) (l0 : List S86) : Option (Int) := slices_IndexFunc_impl_Veneer__impl_validVeneers_1.l0 k l0 (l0.length : Int) 0
set_option maxRecDepth 100000 in
theorem slices_IndexFunc_impl_Veneer__impl_validVeneers_1.ok {k : Nat} {l0 : List S86} {r : Int} (H : slices_IndexFunc_impl_Veneer__impl_validVeneers_1.f k l0 = some r) : OkF Try.prog 117 [vR 90 (l0.map c86), .c (.d (.fn 108 []))] [] (.c (.d (.v (.int .i64 r)))) [] := by
 unfold slices_IndexFunc_impl_Veneer__impl_validVeneers_1.f at H
 refine OkF.of (N := 19) (rs := [4]) (avs := [.c (.d (.v (.int .i64 r)))]) Try.func117 rfl rfl (fun _ _ => results_tmp rfl _ _ _) (by decide) rfl rfl rfl rfl (fun w0 S => ?_)
 refine AG.seq ?_
 refine AG.region HM ?_
 refine a_move (v := vI _) ?_
 refine RA.nil nofun ?_
 refine AG.seq ?_
 refine AG.seq ?_
 refine AG.region HM ?_
 refine a_move (v := vR _ _) ?_
 refine a_lenR ?_ Try.underlying30
 refine a_move (v := vI _) ?_
 refine RA.nil nofun ?_
 refine AG.block ?_
 refine AG.loop ?_
 obtain ⟨K0, hK0, gK0⟩ : ∃ K, k ≤ K ∧ K ≤ k := ⟨k, Nat.le_refl k, Nat.le_refl k⟩
 refine AGr.canon id (AGr.loopI (n := k) (fun k s => k ≤ K0 ∧ ∃ (x0 : List S86) (x7 : Int) (x8 : Int), slices_IndexFunc_impl_Veneer__impl_validVeneers_1.l0 k x0 x7 x8 = some r ∧ s = St.of [(0, vR 90 (x0.map c86)), (1, .c (.d (.fn 108 []))), (7, vI x7), (8, vI x8)] []) ⟨hK0, _, _, _, H, rfl⟩ ?_ ?_) ⟨rfl, rfl, rfl, rfl, trivial⟩ trivial rfl
 ·rintro _ ⟨_, _, _, _, H, _⟩
  cases H
 ·clear H hK0
  rintro k ih0 _ ⟨hK0, x0, x7, x8, H, rfl⟩
  unfold slices_IndexFunc_impl_Veneer__impl_validVeneers_1.l0 at H
  refine AG.seq ?_
  refine AG.region HM ?_
  refine a_int (u := .bool (decide (x8 < x7))) ?_
  refine RA.nil nofun ?_
  refine AG.seq ?_
  by_cases hc1 : x8 < x7
  ·rw [if_pos hc1] at H
   refine AG.yes rfl (decide_eq_true hc1) ?_
   refine AG.skip ?_
   refine AG.seq ?_
   refine AG.block ?_
   refine AG.seq ?_
   refine AG.region HM ?_
   refine a_move (v := vI _) ?_
   refine a_move (v := vI _) ?_
   refine RA.nil nofun ?_
   refine AG.seq ?_
   refine AG.region HM ?_
   refine a_move (v := .c (.d (.fn _ _))) ?_
   refine a_move (v := vR _ _) ?_
   refine a_move (v := vI _) ?_
   by_cases hc2 : 0 ≤ x8
   ·rw [if_pos hc2] at H
    by_cases hc3 : x8 < (x0.length : Int)
    ·rw [if_pos hc3] at H
     refine a_ixR (el := c86 (rd86 x0 x8)) ?_ ⟨hc2, hc3⟩ T90 Try.underlying30 (hel := R86 hc2 hc3)
     refine a_ldR (v := .agg [_, _, _]) ?_ T90
     obtain ⟨t4, e5, H⟩ := bindO H
     refine a_callV (v := vB t4) (nk := []) (L := []) ?_ rfl (impl_validVeneers_1.ok e5) id (qg qn) trivial trivial trivial rfl
     refine RA.nil nofun ?_
     by_cases hc6 : t4 = true
     ·rw [if_pos hc6] at H
      refine AG.yes rfl hc6 ?_
      refine AG.seq ?_
      refine AG.region HM ?_
      refine a_move (v := vI _) ?_
      refine a_move (v := vI _) ?_
      refine RA.nil nofun ?_
      refine AG.ret ?_
      obtain rfl := Option.some.inj H
      exact RetP.mk id ⟨rfl, trivial⟩ trivial rfl
     ·rw [if_neg hc6] at H
      refine AG.no rfl (Bool.eq_false_iff.2 hc6) ?_
      refine AG.skip ?_
      refine AG.region HM ?_
      refine a_int (u := .int .i64 (wrap64 (x8 + 1))) ?_
      refine a_move (v := vI _) ?_
      refine RA.nil nofun ?_
      exact AGr.canon id (ih0 _ (by omega) _ ⟨by omega, _, _, _, H, rfl⟩) ⟨rfl, rfl, rfl, rfl, trivial⟩ trivial rfl
    ·rw [if_neg hc3] at H
     cases H
   ·rw [if_neg hc2] at H
    cases H
  ·rw [if_neg hc1] at H
   refine AG.no rfl (decide_eq_false hc1) ?_
   refine AG.exit ?_
   refine AG.seq ?_
   refine AG.region HM ?_
   refine a_move (v := vI _) ?_
   refine RA.nil nofun ?_
   refine AG.ret ?_
   obtain rfl := Option.some.inj H
   exact RetP.mk id ⟨rfl, trivial⟩ trivial rfl
/-! ### slices_ContainsFunc_impl_Veneer__impl_validVeneers_1: function 107 -/
def slices_ContainsFunc_impl_Veneer__impl_validVeneers_1.f (k : Nat) (l0 : List S86) : Option (Bool) := (slices_IndexFunc_impl_Veneer__impl_validVeneers_1.f k l0).bind fun t1 => (some (decide (t1 ≥ 0)))
set_option maxRecDepth 100000 in
theorem slices_ContainsFunc_impl_Veneer__impl_validVeneers_1.ok {k : Nat} {l0 : List S86} {r : Bool} (H : slices_ContainsFunc_impl_Veneer__impl_validVeneers_1.f k l0 = some r) : OkF Try.prog 107 [vR 90 (l0.map c86), .c (.d (.fn 108 []))] [] (.c (.d (.v (.bool r)))) [] := by
 unfold slices_ContainsFunc_impl_Veneer__impl_validVeneers_1.f at H
 refine OkF.of (N := 9) (rs := [4]) (avs := [.c (.d (.v (.bool r)))]) Try.func107 rfl rfl (fun _ _ => results_tmp rfl _ _ _) (by decide) rfl rfl rfl rfl (fun w0 S => ?_)
 refine AG.seq ?_
 refine AG.region HM ?_
 refine a_move (v := vB _) ?_
 refine RA.nil nofun ?_
 refine AG.seq ?_
 refine AG.region HM ?_
 refine a_move (v := vR _ _) ?_
 refine a_move (v := .c (.d (.fn _ _))) ?_
 obtain ⟨t1, e2, H⟩ := bindO H
 refine a_call (v := vI t1) (nk := []) (L := []) ?_ rfl (slices_IndexFunc_impl_Veneer__impl_validVeneers_1.ok e2) id (qd (qd qn)) trivial trivial trivial rfl
 refine a_int (u := .bool (decide (t1 ≥ 0))) ?_
 refine a_move (v := vB _) ?_
 refine RA.nil nofun ?_
 refine AG.ret ?_
 obtain rfl := Option.some.inj H
 exact RetP.mk id ⟨rfl, trivial⟩ trivial rfl
/-! ### impl_validVeneers: function 87 -/
def impl_validVeneers.f (k : Nat) (l0 : List S86) : Option (Bool) := (slices_ContainsFunc_impl_Veneer__impl_validVeneers_1.f k l0).bind fun t1 => (some (!t1))
set_option maxRecDepth 100000 in
theorem impl_validVeneers.ok {k : Nat} {l0 : List S86} {r : Bool} (H : impl_validVeneers.f k l0 = some r) : OkF Try.prog 87 [vR 90 (l0.map c86)] [] (.c (.d (.v (.bool r)))) [] := by
 unfold impl_validVeneers.f at H
 refine OkF.of (N := 6) (rs := [2]) (avs := [.c (.d (.v (.bool r)))]) Try.func87 rfl rfl (fun _ _ => results_tmp rfl _ _ _) (by decide) rfl rfl rfl rfl (fun w0 S => ?_)
 refine AG.seq ?_
 refine AG.region HM ?_
 refine a_move (v := vB _) ?_
 refine RA.nil nofun ?_
 refine AG.seq ?_
 refine AG.region HM ?_
 refine a_move (v := vR _ _) ?_
 obtain ⟨t1, e2, H⟩ := bindO H
 refine a_call (v := vB t1) (nk := []) (L := []) ?_ rfl (slices_ContainsFunc_impl_Veneer__impl_validVeneers_1.ok e2) id (qd (qd qn)) trivial trivial trivial rfl
 refine a_un (u := .bool (!t1)) ?_
 refine a_move (v := vB _) ?_
 refine RA.nil nofun ?_
 refine AG.ret ?_
 obtain rfl := Option.some.inj H
 exact RetP.mk id ⟨rfl, trivial⟩ trivial rfl
/-! ### impl_validSheets: function 55 -/
def impl_validSheets.f (k : Nat) (l0 : List S86) : Option (Bool) := (impl_within.f (l0.length : Int) 1 8).bind fun t1 => (if t1 = true then ((impl_validVeneers.f k l0).bind fun t4 => (some t4)) else (some false))
set_option maxRecDepth 100000 in
theorem impl_validSheets.ok {k : Nat} {l0 : List S86} {r : Bool} (H : impl_validSheets.f k l0 = some r) : OkF Try.prog 55 [vR 90 (l0.map c86)] [] (.c (.d (.v (.bool r)))) [] := by
 unfold impl_validSheets.f at H
 refine OkF.of (N := 10) (rs := [2]) (avs := [.c (.d (.v (.bool r)))]) Try.func55 rfl rfl (fun _ _ => results_tmp rfl _ _ _) (by decide) rfl rfl rfl rfl (fun w0 S => ?_)
 refine AG.seq ?_
 refine AG.region HM ?_
 refine a_move (v := vB _) ?_
 refine RA.nil nofun ?_
 refine AG.seq ?_
 refine AG.region HM ?_
 refine a_move (v := vR _ _) ?_
 refine a_lenR ?_ Try.underlying30
 obtain ⟨t1, e2, H⟩ := bindO H
 refine a_call (v := vB t1) (nk := []) (L := []) ?_ rfl (impl_within.ok e2) id (qd (qd (qd qn))) trivial trivial trivial rfl
 refine a_move (v := vB _) ?_
 by_cases hc3 : t1 = true
 ·rw [if_pos hc3] at H
  refine a_move (v := vR _ _) ?_ (hg := Gs.yes rfl rfl rfl hc3)
  obtain ⟨t4, e5, H⟩ := bindO H
  refine a_call (v := vB t4) (nk := []) (L := []) ?_ rfl (impl_validVeneers.ok e5) id (qd qn) trivial trivial trivial rfl (hg := Gs.yes rfl rfl rfl hc3)
  refine a_pick (b := true) (v := vB _) ?_ hc3
  refine a_move (v := vB _) ?_
  refine RA.nil nofun ?_
  refine AG.ret ?_
  obtain rfl := Option.some.inj H
  exact RetP.mk id ⟨rfl, trivial⟩ trivial rfl
 ·rw [if_neg hc3] at H
  refine RA.skip rfl rfl rfl rfl rfl (Bool.eq_false_iff.2 hc3) (by decide) ?_
  refine RA.skip rfl rfl rfl rfl rfl (Bool.eq_false_iff.2 hc3) (by decide) ?_
  refine a_pick (b := false) (v := vB _) ?_ (Bool.eq_false_iff.2 hc3)
  refine a_move (v := vB _) ?_
  refine RA.nil nofun ?_
  refine AG.ret ?_
  obtain rfl := Option.some.inj H
  exact RetP.mk id ⟨rfl, trivial⟩ trivial rfl
/-! ### impl_ValidPacket_1: function 57 -/
def impl_ValidPacket_1.f (a0 : Int) (v_0_0 : List S86) (v_0_1 : List Int) : Option (Bool) := (impl_within.f a0 0 (wrap64 ((v_0_0.length : Int) - 1))).bind fun t1 => (some (!t1))
set_option maxRecDepth 100000 in
theorem impl_ValidPacket_1.ok {a0 : Int} {v_0_0 : List S86} {v_0_1 : List Int} {r : Bool} (H : impl_ValidPacket_1.f a0 v_0_0 v_0_1 = some r) : OkF Try.prog 57 [vI a0, .c (.d (.ro [.row 90 (v_0_0.map c86), .row 2 (v_0_1.map c2)]))] [] (.c (.d (.v (.bool r)))) [] := by
 unfold impl_ValidPacket_1.f at H
 refine OkF.of (N := 11) (rs := [3]) (avs := [.c (.d (.v (.bool r)))]) Try.func57 rfl rfl (fun _ _ => results_tmp rfl _ _ _) (by decide) rfl rfl rfl rfl (fun w0 S => ?_)
 refine AG.seq ?_
 refine AG.region HM ?_
 refine a_move (v := vB _) ?_
 refine RA.nil nofun ?_
 refine AG.seq ?_
 refine AG.region HM ?_
 refine a_move (v := vI _) ?_
 refine a_faR (cells' := [_, _]) ?_ D32_0
 refine a_ldR (v := vR _ _) ?_ T30
 refine a_lenR ?_ Try.underlying30
 refine a_int (u := .int .i64 (wrap64 ((v_0_0.length : Int) - 1))) ?_
 obtain ⟨t1, e2, H⟩ := bindO H
 refine a_call (v := vB t1) (nk := []) (L := []) ?_ rfl (impl_within.ok e2) id (qd (qd (qd qn))) trivial trivial trivial rfl
 refine a_un (u := .bool (!t1)) ?_
 refine a_move (v := vB _) ?_
 refine RA.nil nofun ?_
 refine AG.ret ?_
 obtain rfl := Option.some.inj H
 exact RetP.mk id ⟨rfl, trivial⟩ trivial rfl
/-! ### slices_IndexFunc_int64_int64__impl_ValidPacket_1: function 88 -/
def slices_IndexFunc_int64_int64__impl_ValidPacket_1.l0 : Nat → List Int → List S86 → List Int → Int → Int → Option (Int)
 | 0, _, _, _, _, _ => none
 | k + 1, x0, x1_0_0, x1_0_1, x7, x8 => if x8 < x7 then (if 0 ≤ x8 then (if x8 < (x0.length : Int) then ((impl_ValidPacket_1.f (rd2 x0 x8) x1_0_0 x1_0_1).bind fun t4 => (if t4 = true then (some x8) else (slices_IndexFunc_int64_int64__impl_ValidPacket_1.l0 k x0 x1_0_0 x1_0_1 x7 (wrap64 (x8 + 1))))) else (none)) else (none)) else (some (-1))
def slices_IndexFunc_int64_int64__impl_ValidPacket_1.f (k : Nat) (l0 : List Int) (v1_0_0 : List S86) (v1_0_1 : List Int) : Option (Int) := slices_IndexFunc_int64_int64__impl_ValidPacket_1.l0 k l0 v1_0_0 v1_0_1 (l0.length : Int) 0
set_option maxRecDepth 100000 in
theorem slices_IndexFunc_int64_int64__impl_ValidPacket_1.ok {k : Nat} {l0 : List Int} {v1_0_0 : List S86} {v1_0_1 : List Int} {r : Int} (H : slices_IndexFunc_int64_int64__impl_ValidPacket_1.f k l0 v1_0_0 v1_0_1 = some r) : OkF Try.prog 88 [vR 2 (l0.map c2), .c (.d (.fn 57 [.ro [.row 90 (v1_0_0.map c86), .row 2 (v1_0_1.map c2)]]))] [] (.c (.d (.v (.int .i64 r)))) [] := by
 unfold slices_IndexFunc_int64_int64__impl_ValidPacket_1.f at H
 refine OkF.of (N := 19) (rs := [4]) (avs := [.c (.d (.v (.int .i64 r)))]) Try.func88 rfl rfl (fun _ _ => results_tmp rfl _ _ _) (by decide) rfl rfl rfl rfl (fun w0 S => ?_)
 refine AG.seq ?_
 refine AG.region HM ?_
 refine a_move (v := vI _) ?_
 refine RA.nil nofun ?_
 refine AG.seq ?_
 refine AG.seq ?_
 refine AG.region HM ?_
 refine a_move (v := vR _ _) ?_
 refine a_lenR ?_ Try.underlying23
 refine a_move (v := vI _) ?_
 refine RA.nil nofun ?_
 refine AG.block ?_
 refine AG.loop ?_
 obtain ⟨K0, hK0, gK0⟩ : ∃ K, k ≤ K ∧ K ≤ k := ⟨k, Nat.le_refl k, Nat.le_refl k⟩
 refine AGr.canon id (AGr.loopI (n := k) (fun k s => k ≤ K0 ∧ ∃ (x0 : List Int) (x1_0_0 : List S86) (x1_0_1 : List Int) (x7 : Int) (x8 : Int), slices_IndexFunc_int64_int64__impl_ValidPacket_1.l0 k x0 x1_0_0 x1_0_1 x7 x8 = some r ∧ s = St.of [(0, vR 2 (x0.map c2)), (1, .c (.d (.fn 57 [.ro [.row 90 (x1_0_0.map c86), .row 2 (x1_0_1.map c2)]]))), (7, vI x7), (8, vI x8)] []) ⟨hK0, _, _, _, _, _, H, rfl⟩ ?_ ?_) ⟨rfl, rfl, rfl, rfl, trivial⟩ trivial rfl
 ·rintro _ ⟨_, _, _, _, _, _, H, _⟩
  cases H
 ·clear H hK0
  rintro k ih0 _ ⟨hK0, x0, x1_0_0, x1_0_1, x7, x8, H, rfl⟩
  unfold slices_IndexFunc_int64_int64__impl_ValidPacket_1.l0 at H
  refine AG.seq ?_
  refine AG.region HM ?_
  refine a_int (u := .bool (decide (x8 < x7))) ?_
  refine RA.nil nofun ?_
  refine AG.seq ?_
  by_cases hc1 : x8 < x7
  ·rw [if_pos hc1] at H
   refine AG.yes rfl (decide_eq_true hc1) ?_
   refine AG.skip ?_
   refine AG.seq ?_
   refine AG.block ?_
   refine AG.seq ?_
   refine AG.region HM ?_
   refine a_move (v := vI _) ?_
   refine a_move (v := vI _) ?_
   refine RA.nil nofun ?_
   refine AG.seq ?_
   refine AG.region HM ?_
   refine a_move (v := .c (.d (.fn _ _))) ?_
   refine a_move (v := vR _ _) ?_
   refine a_move (v := vI _) ?_
   by_cases hc2 : 0 ≤ x8
   ·rw [if_pos hc2] at H
    by_cases hc3 : x8 < (x0.length : Int)
    ·rw [if_pos hc3] at H
     refine a_ixR (el := c2 (rd2 x0 x8)) ?_ ⟨hc2, hc3⟩ T2 Try.underlying23 (hel := R2 hc2 hc3)
     refine a_ldR (v := vI _) ?_ T2
     obtain ⟨t4, e5, H⟩ := bindO H
     refine a_callW (v := vB t4) (nk := []) (L := []) ?_ rfl rfl (impl_ValidPacket_1.ok e5) id (qd qn) rfl trivial trivial trivial rfl
     refine RA.nil nofun ?_
     by_cases hc6 : t4 = true
     ·rw [if_pos hc6] at H
      refine AG.yes rfl hc6 ?_
      refine AG.seq ?_
      refine AG.region HM ?_
      refine a_move (v := vI _) ?_
      refine a_move (v := vI _) ?_
      refine RA.nil nofun ?_
      refine AG.ret ?_
      obtain rfl := Option.some.inj H
      exact RetP.mk id ⟨rfl, trivial⟩ trivial rfl
     ·rw [if_neg hc6] at H
      refine AG.no rfl (Bool.eq_false_iff.2 hc6) ?_
      refine AG.skip ?_
      refine AG.region HM ?_
      refine a_int (u := .int .i64 (wrap64 (x8 + 1))) ?_
      refine a_move (v := vI _) ?_
      refine RA.nil nofun ?_
      exact AGr.canon id (ih0 _ (by omega) _ ⟨by omega, _, _, _, _, _, H, rfl⟩) ⟨rfl, rfl, rfl, rfl, trivial⟩ trivial rfl
    ·rw [if_neg hc3] at H
     cases H
   ·rw [if_neg hc2] at H
    cases H
  ·rw [if_neg hc1] at H
   refine AG.no rfl (decide_eq_false hc1) ?_
   refine AG.exit ?_
   refine AG.seq ?_
   refine AG.region HM ?_
   refine a_move (v := vI _) ?_
   refine RA.nil nofun ?_
   refine AG.ret ?_
   obtain rfl := Option.some.inj H
   exact RetP.mk id ⟨rfl, trivial⟩ trivial rfl
/-! ### slices_ContainsFunc_int64_int64__impl_ValidPacket_1: function 56 -/
def slices_ContainsFunc_int64_int64__impl_ValidPacket_1.f (k : Nat) (l0 : List Int) (v1_0_0 : List S86) (v1_0_1 : List Int) : Option (Bool) := (slices_IndexFunc_int64_int64__impl_ValidPacket_1.f k l0 v1_0_0 v1_0_1).bind fun t1 => (some (decide (t1 ≥ 0)))
set_option maxRecDepth 100000 in
theorem slices_ContainsFunc_int64_int64__impl_ValidPacket_1.ok {k : Nat} {l0 : List Int} {v1_0_0 : List S86} {v1_0_1 : List Int} {r : Bool} (H : slices_ContainsFunc_int64_int64__impl_ValidPacket_1.f k l0 v1_0_0 v1_0_1 = some r) : OkF Try.prog 56 [vR 2 (l0.map c2), .c (.d (.fn 57 [.ro [.row 90 (v1_0_0.map c86), .row 2 (v1_0_1.map c2)]]))] [] (.c (.d (.v (.bool r)))) [] := by
 unfold slices_ContainsFunc_int64_int64__impl_ValidPacket_1.f at H
 refine OkF.of (N := 9) (rs := [4]) (avs := [.c (.d (.v (.bool r)))]) Try.func56 rfl rfl (fun _ _ => results_tmp rfl _ _ _) (by decide) rfl rfl rfl rfl (fun w0 S => ?_)
 refine AG.seq ?_
 refine AG.region HM ?_
 refine a_move (v := vB _) ?_
 refine RA.nil nofun ?_
 refine AG.seq ?_
 refine AG.region HM ?_
 refine a_move (v := vR _ _) ?_
 refine a_move (v := .c (.d (.fn _ _))) ?_
 obtain ⟨t1, e2, H⟩ := bindO H
 refine a_call (v := vI t1) (nk := []) (L := []) ?_ rfl (slices_IndexFunc_int64_int64__impl_ValidPacket_1.ok e2) id (qd (qd qn)) trivial trivial trivial rfl
 refine a_int (u := .bool (decide (t1 ≥ 0))) ?_
 refine a_move (v := vB _) ?_
 refine RA.nil nofun ?_
 refine AG.ret ?_
 obtain rfl := Option.some.inj H
 exact RetP.mk id ⟨rfl, trivial⟩ trivial rfl
/-! ### impl_ValidPacket: function 32 -/
def impl_ValidPacket.f (k : Nat) (l0_0 : List S86) (l0_1 : List Int) : Option (Bool) := (impl_validSheets.f k l0_0).bind fun t1 => (if t1 = true then (if (l0_1.length : Int) > 24 then (some false) else ((slices_ContainsFunc_int64_int64__impl_ValidPacket_1.f k l0_1 l0_0 l0_1).bind fun t5 => (some (!t5)))) else (some false))
set_option maxRecDepth 100000 in
theorem impl_ValidPacket.ok {k : Nat} {l0_0 : List S86} {l0_1 : List Int} {r : Bool} (H : impl_ValidPacket.f k l0_0 l0_1 = some r) : OkF Try.prog 32 [.agg [.d (.row 90 (l0_0.map c86)), .d (.row 2 (l0_1.map c2))]] [] (.c (.d (.v (.bool r)))) [] := by
 unfold impl_ValidPacket.f at H
 refine OkF.of (N := 18) (rs := [2]) (avs := [.c (.d (.v (.bool r)))]) Try.func32 rfl rfl (fun _ _ => results_tmp rfl _ _ _) (by decide) rfl rfl rfl rfl (fun w0 S => ?_)
 refine AG.seq ?_
 refine AG.region HM ?_
 refine a_box 200 ?_
 refine a_move (v := vB _) ?_
 refine RA.nil nofun ?_
 refine AG.seq ?_
 refine AG.seq ?_
 refine AG.region HM ?_
 refine a_faB (q := 0) ?_ D32_0
 refine a_ldB (v := vR _ _) ?_ T30
 obtain ⟨t1, e2, H⟩ := bindO H
 refine a_call (v := vB t1) (nk := []) (L := []) ?_ rfl (impl_validSheets.ok e2) id (qd qn) trivial trivial trivial rfl
 refine a_un (u := .bool (!t1)) ?_
 refine a_move (v := vB _) ?_
 by_cases hc3 : t1 = true
 ·rw [if_pos hc3] at H
  refine a_faB (q := 1) ?_ D32_1 (hg := Gs.yes rfl rfl rfl (congrArg Bool.not hc3))
  refine a_ldB (v := vR _ _) ?_ T23 (hg := Gs.yes rfl rfl rfl (congrArg Bool.not hc3))
  refine a_lenR ?_ Try.underlying23 (hg := Gs.yes rfl rfl rfl (congrArg Bool.not hc3))
  refine a_int (u := .bool (decide ((l0_1.length : Int) > 24))) ?_ (hg := Gs.yes rfl rfl rfl (congrArg Bool.not hc3))
  refine a_pick (b := false) (v := vB _) ?_ (congrArg Bool.not hc3)
  refine RA.nil nofun ?_
  by_cases hc4 : (l0_1.length : Int) > 24
  ·rw [if_pos hc4] at H
   refine AG.yes rfl (decide_eq_true hc4) ?_
   refine AG.seq ?_
   refine AG.region HM ?_
   refine a_move (v := vB _) ?_
   refine RA.nil nofun ?_
   refine AG.ret ?_
   obtain rfl := Option.some.inj H
   exact RetP.mk id ⟨rfl, trivial⟩ trivial rfl
  ·rw [if_neg hc4] at H
   refine AG.no rfl (decide_eq_false hc4) ?_
   refine AG.skip ?_
   refine AG.seq ?_
   refine AG.region HM ?_
   refine a_faB (q := 1) ?_ D32_1
   refine a_ldB (v := vR _ _) ?_ T23
   refine a_fnc (ks := [200]) ?_
   obtain ⟨t5, e6, H⟩ := bindO H
   refine a_call (v := vB t5) (nk := []) (L := [(200, _)]) ?_ rfl (slices_ContainsFunc_int64_int64__impl_ValidPacket_1.ok e6) id (qd (qc (rF1 (rP (pD (pD p0)))) qn)) ⟨rfl, trivial⟩ trivial trivial rfl
   refine a_un (u := .bool (!t5)) ?_
   refine a_move (v := vB _) ?_
   refine RA.nil nofun ?_
   refine AG.ret ?_
   obtain rfl := Option.some.inj H
   exact RetP.mk id ⟨rfl, trivial⟩ trivial rfl
 ·rw [if_neg hc3] at H
  refine RA.skip rfl rfl rfl rfl rfl (congrArg Bool.not (Bool.eq_false_iff.2 hc3)) (by decide) ?_
  refine RA.skip rfl rfl rfl rfl rfl (congrArg Bool.not (Bool.eq_false_iff.2 hc3)) (by decide) ?_
  refine RA.skip rfl rfl rfl rfl rfl (congrArg Bool.not (Bool.eq_false_iff.2 hc3)) (by decide) ?_
  refine RA.skip rfl rfl rfl rfl rfl (congrArg Bool.not (Bool.eq_false_iff.2 hc3)) (by decide) ?_
  refine a_pick (b := true) (v := vB _) ?_ (congrArg Bool.not (Bool.eq_false_iff.2 hc3))
  refine RA.nil nofun ?_
  refine AG.yes rfl rfl ?_
  refine AG.seq ?_
  refine AG.region HM ?_
  refine a_move (v := vB _) ?_
  refine RA.nil nofun ?_
  refine AG.ret ?_
  obtain rfl := Option.some.inj H
  exact RetP.mk id ⟨rfl, trivial⟩ trivial rfl
/-! ### slices_Index_impl_Point: function 94 -/
def slices_Index_impl_Point.l0 : Nat → List S107 → Int → Int → Int → Int → Option (Int)
 | 0, _, _, _, _, _ => none
 | k + 1, x0, y201_0, y201_1, x7, x8 => if x8 < x7 then (if 0 ≤ x8 then (if x8 < (x0.length : Int) then (if (y201_0 == ((rd107 x0 x8).f0) && (y201_1 == ((rd107 x0 x8).f1))) = true then (some x8) else (slices_Index_impl_Point.l0 k x0 y201_0 y201_1 x7 (wrap64 (x8 + 1)))) else (none)) else (none)) else (some (-1))
def slices_Index_impl_Point.f (k : Nat) (l0 : List S107) (a1_0 : Int) (a1_1 : Int) : Option (Int) := slices_Index_impl_Point.l0 k l0 a1_0 a1_1 (l0.length : Int) 0
set_option maxRecDepth 100000 in
theorem slices_Index_impl_Point.ok {k : Nat} {l0 : List S107} {a1_0 : Int} {a1_1 : Int} {r : Int} (H : slices_Index_impl_Point.f k l0 a1_0 a1_1 = some r) : OkF Try.prog 94 [vR 108 (l0.map c107), .agg [.d (.v (.int .i64 a1_0)), .d (.v (.int .i64 a1_1))]] [] (.c (.d (.v (.int .i64 r)))) [] := by
 unfold slices_Index_impl_Point.f at H
 refine OkF.of (N := 19) (rs := [4]) (avs := [.c (.d (.v (.int .i64 r)))]) Try.func94 rfl rfl (fun _ _ => results_tmp rfl _ _ _) (by decide) rfl rfl rfl rfl (fun w0 S => ?_)
 refine AG.seq ?_
 refine AG.region HM ?_
 refine a_box 200 ?_
 refine a_move (v := vI _) ?_
 refine RA.nil nofun ?_
 refine AG.seq ?_
 refine AG.seq ?_
 refine AG.region HM ?_
 refine a_move (v := vR _ _) ?_
 refine a_lenR ?_ Try.underlying46
 refine a_move (v := vI _) ?_
 refine RA.nil nofun ?_
 refine AG.block ?_
 refine AG.loop ?_
 obtain ⟨K0, hK0, gK0⟩ : ∃ K, k ≤ K ∧ K ≤ k := ⟨k, Nat.le_refl k, Nat.le_refl k⟩
 refine AGr.canon (fun κ => cond (Nat.beq κ 201) 200 (κ)) (AGr.loopI (n := k) (fun k s => k ≤ K0 ∧ ∃ (x0 : List S107) (y201_0 : Int) (y201_1 : Int) (x7 : Int) (x8 : Int), slices_Index_impl_Point.l0 k x0 y201_0 y201_1 x7 x8 = some r ∧ s = St.of [(0, vR 108 (x0.map c107)), (3, .c (.ptr 201 0)), (7, vI x7), (8, vI x8)] [(201, .box 108 [.d (.v (.int .i64 y201_0)), .d (.v (.int .i64 y201_1))])]) ⟨hK0, _, _, _, _, _, H, rfl⟩ ?_ ?_) ⟨rfl, rfl, rfl, rfl, trivial⟩ ⟨rfl, trivial⟩ rfl
 ·rintro _ ⟨_, _, _, _, _, _, H, _⟩
  cases H
 ·clear H hK0
  rintro k ih0 _ ⟨hK0, x0, y201_0, y201_1, x7, x8, H, rfl⟩
  unfold slices_Index_impl_Point.l0 at H
  refine AG.seq ?_
  refine AG.region HM ?_
  refine a_int (u := .bool (decide (x8 < x7))) ?_
  refine RA.nil nofun ?_
  refine AG.seq ?_
  by_cases hc1 : x8 < x7
  ·rw [if_pos hc1] at H
   refine AG.yes rfl (decide_eq_true hc1) ?_
   refine AG.skip ?_
   refine AG.seq ?_
   refine AG.block ?_
   refine AG.seq ?_
   refine AG.region HM ?_
   refine a_move (v := vI _) ?_
   refine a_move (v := vI _) ?_
   refine RA.nil nofun ?_
   refine AG.seq ?_
   refine AG.region HM ?_
   refine a_ldB (v := .agg [_, _]) ?_ T108
   refine a_move (v := vR _ _) ?_
   refine a_move (v := vI _) ?_
   by_cases hc2 : 0 ≤ x8
   ·rw [if_pos hc2] at H
    by_cases hc3 : x8 < (x0.length : Int)
    ·rw [if_pos hc3] at H
     refine a_ixR (el := c107 (rd107 x0 x8)) ?_ ⟨hc2, hc3⟩ T108 Try.underlying46 (hel := R107 hc2 hc3)
     refine a_ldR (v := .agg [_, _]) ?_ T108
     refine a_eqS (b := (y201_0 == ((rd107 x0 x8).f0) && (y201_1 == ((rd107 x0 x8).f1)))) ?_ (.inl ⟨rfl, rfl⟩) (Q108 y201_0 ((rd107 x0 x8).f0) y201_1 ((rd107 x0 x8).f1)).1
     refine RA.nil (fun _ => by kernel_rfl) ?_
     by_cases hc4 : (y201_0 == ((rd107 x0 x8).f0) && (y201_1 == ((rd107 x0 x8).f1))) = true
     ·rw [if_pos hc4] at H
      refine AG.yes rfl hc4 ?_
      refine AG.seq ?_
      refine AG.region HM ?_
      refine a_move (v := vI _) ?_
      refine a_move (v := vI _) ?_
      refine RA.nil nofun ?_
      refine AG.ret ?_
      obtain rfl := Option.some.inj H
      exact RetP.mk id ⟨rfl, trivial⟩ trivial rfl
     ·rw [if_neg hc4] at H
      refine AG.no rfl (Bool.eq_false_iff.2 hc4) ?_
      refine AG.skip ?_
      refine AG.region HM ?_
      refine a_int (u := .int .i64 (wrap64 (x8 + 1))) ?_
      refine a_move (v := vI _) ?_
      refine RA.nil nofun ?_
      exact AGr.canon id (ih0 _ (by omega) _ ⟨by omega, _, _, _, _, _, H, rfl⟩) ⟨rfl, rfl, rfl, rfl, trivial⟩ ⟨rfl, trivial⟩ rfl
    ·rw [if_neg hc3] at H
     cases H
   ·rw [if_neg hc2] at H
    cases H
  ·rw [if_neg hc1] at H
   refine AG.no rfl (decide_eq_false hc1) ?_
   refine AG.exit ?_
   refine AG.seq ?_
   refine AG.region HM ?_
   refine a_move (v := vI _) ?_
   refine RA.nil nofun ?_
   refine AG.ret ?_
   obtain rfl := Option.some.inj H
   exact RetP.mk id ⟨rfl, trivial⟩ trivial rfl
/-! ### slices_Contains_impl_Point: function 71 -/
def slices_Contains_impl_Point.f (k : Nat) (l0 : List S107) (a1_0 : Int) (a1_1 : Int) : Option (Bool) := (slices_Index_impl_Point.f k l0 a1_0 a1_1).bind fun t1 => (some (decide (t1 ≥ 0)))
set_option maxRecDepth 100000 in
theorem slices_Contains_impl_Point.ok {k : Nat} {l0 : List S107} {a1_0 : Int} {a1_1 : Int} {r : Bool} (H : slices_Contains_impl_Point.f k l0 a1_0 a1_1 = some r) : OkF Try.prog 71 [vR 108 (l0.map c107), .agg [.d (.v (.int .i64 a1_0)), .d (.v (.int .i64 a1_1))]] [] (.c (.d (.v (.bool r)))) [] := by
 unfold slices_Contains_impl_Point.f at H
 refine OkF.of (N := 9) (rs := [4]) (avs := [.c (.d (.v (.bool r)))]) Try.func71 rfl rfl (fun _ _ => results_tmp rfl _ _ _) (by decide) rfl rfl rfl rfl (fun w0 S => ?_)
 refine AG.seq ?_
 refine AG.region HM ?_
 refine a_box 200 ?_
 refine a_move (v := vB _) ?_
 refine RA.nil nofun ?_
 refine AG.seq ?_
 refine AG.region HM ?_
 refine a_move (v := vR _ _) ?_
 refine a_ldB (v := .agg [_, _]) ?_ T108
 obtain ⟨t1, e2, H⟩ := bindO H
 refine a_call (v := vI t1) (nk := []) (L := []) ?_ rfl (slices_Index_impl_Point.ok e2) id (qd (qg qn)) trivial trivial trivial rfl
 refine a_int (u := .bool (decide (t1 ≥ 0))) ?_
 refine a_move (v := vB _) ?_
 refine RA.nil nofun ?_
 refine AG.ret ?_
 obtain rfl := Option.some.inj H
 exact RetP.mk id ⟨rfl, trivial⟩ trivial rfl
/-! ### impl_IsName: function 72 -/
mutual
def impl_IsName.j0 : Nat → ByteArray → Bool → Option (Bool)
 | 0, _, _ => none
 | k + 1, x0, x21 => if x21 = true then (some false) else (impl_IsName.l0 k x0 0)
def impl_IsName.l0 : Nat → ByteArray → Int → Option (Bool)
 | 0, _, _ => none
 | k + 1, x0, x3 => if x3 < (x0.size : Int) then (if 0 ≤ x3 then (if (bt x0 x3) < 97 then (if (bt x0 x3) < 48 then (some false) else (if (bt x0 x3) > 57 then (some false) else (impl_IsName.l0 k x0 (wrap64 (x3 + 1))))) else (if (bt x0 x3) > 122 then (if (bt x0 x3) < 48 then (some false) else (if (bt x0 x3) > 57 then (some false) else (impl_IsName.l0 k x0 (wrap64 (x3 + 1))))) else (impl_IsName.l0 k x0 (wrap64 (x3 + 1))))) else (none)) else (some true)
end
def impl_IsName.f (k : Nat) (a0 : ByteArray) : Option (Bool) := if (a0.size : Int) < 1 then (impl_IsName.j0 k a0 true) else (if (a0.size : Int) > 10 then (impl_IsName.j0 k a0 true) else (if 0 < (a0.size : Int) then (if (bt a0 0) < 97 then (impl_IsName.j0 k a0 true) else (impl_IsName.j0 k a0 (decide ((bt a0 0) > 122)))) else (none)))
set_option maxRecDepth 100000 in
theorem impl_IsName.ok {k : Nat} {a0 : ByteArray} {r : Bool} (H : impl_IsName.f k a0 = some r) : OkF Try.prog 72 [vS a0] [] (.c (.d (.v (.bool r)))) [] := by
 unfold impl_IsName.f at H
 refine OkF.of (N := 50) (rs := [2]) (avs := [.c (.d (.v (.bool r)))]) Try.func72 rfl rfl (fun _ _ => results_tmp rfl _ _ _) (by decide) rfl rfl rfl rfl (fun w0 S => ?_)
 refine AG.seq ?_
 refine AG.region HM ?_
 refine a_move (v := vB _) ?_
 refine RA.nil nofun ?_
 refine AG.seq ?_
 refine AG.seq ?_
 refine AG.joinR (fun s => ∃ q, q ≤ k ∧ ∃ (x0 : ByteArray) (x21 : Bool), impl_IsName.j0 q x0 x21 = some r ∧ s = St.of [(0, vS x0), (21, vB x21)] []) ?_ ?_
 ·skip
  refine AG.region HM ?_
  refine a_move (v := vS _) ?_
  refine a_lenS ?_ Try.underlying9
  refine a_int (u := .bool (decide ((a0.size : Int) < 1))) ?_
  refine a_move (v := vB _) ?_
  by_cases hc1 : (a0.size : Int) < 1
  ·rw [if_pos hc1] at H
   refine RA.skip rfl rfl rfl rfl rfl (decide_eq_true hc1) (by decide) ?_
   refine RA.skip rfl rfl rfl rfl rfl (decide_eq_true hc1) (by decide) ?_
   refine RA.skip rfl rfl rfl rfl rfl (decide_eq_true hc1) (by decide) ?_
   refine a_pick (b := true) (v := vB _) ?_ (decide_eq_true hc1)
   refine a_move (v := vB _) ?_
   refine RA.skip rfl rfl rfl rfl rfl rfl (by decide) ?_
   refine RA.skip rfl rfl rfl rfl rfl rfl (by decide) ?_
   refine RA.skip rfl rfl rfl rfl rfl rfl (by decide) ?_
   refine a_pick (b := true) (v := vB _) ?_ rfl
   refine a_move (v := vB _) ?_
   refine RA.skip rfl rfl rfl rfl rfl rfl (by decide) ?_
   refine RA.skip rfl rfl rfl rfl rfl rfl (by decide) ?_
   refine RA.skip rfl rfl rfl rfl rfl rfl (by decide) ?_
   refine a_pick (b := true) (v := vB _) ?_ rfl
   refine RA.nil nofun ?_
   exact CanR.mk id ⟨_, (by omega), _, _, H, rfl⟩ ⟨rfl, rfl, trivial⟩ trivial rfl
  ·rw [if_neg hc1] at H
   refine a_move (v := vS _) ?_ (hg := Gs.yes rfl rfl rfl (decide_eq_false hc1))
   refine a_lenS ?_ Try.underlying9 (hg := Gs.yes rfl rfl rfl (decide_eq_false hc1))
   refine a_int (u := .bool (decide ((a0.size : Int) > 10))) ?_ (hg := Gs.yes rfl rfl rfl (decide_eq_false hc1))
   refine a_pick (b := false) (v := vB _) ?_ (decide_eq_false hc1)
   refine a_move (v := vB _) ?_
   by_cases hc2 : (a0.size : Int) > 10
   ·rw [if_pos hc2] at H
    refine RA.skip rfl rfl rfl rfl rfl (decide_eq_true hc2) (by decide) ?_
    refine RA.skip rfl rfl rfl rfl rfl (decide_eq_true hc2) (by decide) ?_
    refine RA.skip rfl rfl rfl rfl rfl (decide_eq_true hc2) (by decide) ?_
    refine a_pick (b := true) (v := vB _) ?_ (decide_eq_true hc2)
    refine a_move (v := vB _) ?_
    refine RA.skip rfl rfl rfl rfl rfl rfl (by decide) ?_
    refine RA.skip rfl rfl rfl rfl rfl rfl (by decide) ?_
    refine RA.skip rfl rfl rfl rfl rfl rfl (by decide) ?_
    refine a_pick (b := true) (v := vB _) ?_ rfl
    refine RA.nil nofun ?_
    exact CanR.mk id ⟨_, (by omega), _, _, H, rfl⟩ ⟨rfl, rfl, trivial⟩ trivial rfl
   ·rw [if_neg hc2] at H
    refine a_move (v := vS _) ?_ (hg := Gs.yes rfl rfl rfl (decide_eq_false hc2))
    by_cases hc3 : 0 < (a0.size : Int)
    ·rw [if_pos hc3] at H
     refine a_str ?_ ⟨(by decide), hc3⟩ Try.underlying9 (hg := Gs.yes rfl rfl rfl (decide_eq_false hc2))
     refine a_int (u := .bool (decide ((bt a0 0) < 97))) ?_ (hg := Gs.yes rfl rfl rfl (decide_eq_false hc2))
     refine a_pick (b := false) (v := vB _) ?_ (decide_eq_false hc2)
     refine a_move (v := vB _) ?_
     by_cases hc4 : (bt a0 0) < 97
     ·rw [if_pos hc4] at H
      refine RA.skip rfl rfl rfl rfl rfl (decide_eq_true hc4) (by decide) ?_
      refine RA.skip rfl rfl rfl rfl rfl (decide_eq_true hc4) (by decide) ?_
      refine RA.skip rfl rfl rfl rfl rfl (decide_eq_true hc4) (by decide) ?_
      refine a_pick (b := true) (v := vB _) ?_ (decide_eq_true hc4)
      refine RA.nil nofun ?_
      exact CanR.mk id ⟨_, (by omega), _, _, H, rfl⟩ ⟨rfl, rfl, trivial⟩ trivial rfl
     ·rw [if_neg hc4] at H
      refine a_move (v := vS _) ?_ (hg := Gs.yes rfl rfl rfl (decide_eq_false hc4))
      refine a_str ?_ ⟨(by decide), hc3⟩ Try.underlying9 (hg := Gs.yes rfl rfl rfl (decide_eq_false hc4))
      refine a_int (u := .bool (decide ((bt a0 0) > 122))) ?_ (hg := Gs.yes rfl rfl rfl (decide_eq_false hc4))
      refine a_pick (b := false) (v := vB _) ?_ (decide_eq_false hc4)
      refine RA.nil nofun ?_
      exact CanR.mk id ⟨_, (by omega), _, _, H, rfl⟩ ⟨rfl, rfl, trivial⟩ trivial rfl
    ·rw [if_neg hc3] at H
     cases H
 ·clear H
  rintro _ ⟨k, hj0, x0, x21, H, rfl⟩
  cases k with
  | zero => cases H
  | succ k =>
   rw [impl_IsName.j0] at H
   by_cases hc5 : x21 = true
   ·rw [if_pos hc5] at H
    refine AG.yes rfl hc5 ?_
    refine AG.seq ?_
    refine AG.region HM ?_
    refine a_move (v := vB _) ?_
    refine RA.nil nofun ?_
    refine AG.ret ?_
    obtain rfl := Option.some.inj H
    exact RetP.mk id ⟨rfl, trivial⟩ trivial rfl
   ·rw [if_neg hc5] at H
    refine AG.no rfl (Bool.eq_false_iff.2 hc5) ?_
    refine AG.skip ?_
    refine AG.seq ?_
    refine AG.seq ?_
    refine AG.region HM ?_
    refine a_move (v := vI _) ?_
    refine RA.nil nofun ?_
    refine AG.block ?_
    refine AG.loop ?_
    obtain ⟨K0, hK0, gK0⟩ : ∃ K, k ≤ K ∧ K ≤ k := ⟨k, Nat.le_refl k, Nat.le_refl k⟩
    refine AGr.canon id (AGr.loopI (n := k) (fun k s => k ≤ K0 ∧ ∃ (x0 : ByteArray) (x3 : Int), impl_IsName.l0 k x0 x3 = some r ∧ s = St.of [(0, vS x0), (3, vI x3)] []) ⟨hK0, _, _, H, rfl⟩ ?_ ?_) ⟨rfl, rfl, trivial⟩ trivial rfl
    ·rintro _ ⟨_, _, _, H, _⟩
     cases H
    ·clear H hK0
     rintro k ih0 _ ⟨hK0, x0, x3, H, rfl⟩
     unfold impl_IsName.l0 at H
     refine AG.seq ?_
     refine AG.seq ?_
     refine AG.region HM ?_
     refine a_move (v := vI _) ?_
     refine a_move (v := vS _) ?_
     refine a_lenS ?_ Try.underlying9
     refine a_int (u := .bool (decide (x3 < (x0.size : Int)))) ?_
     refine RA.nil nofun ?_
     by_cases hc6 : x3 < (x0.size : Int)
     ·rw [if_pos hc6] at H
      refine AG.yes rfl (decide_eq_true hc6) ?_
      refine AG.skip ?_
      refine AG.seq ?_
      refine AG.block ?_
      refine AG.seq ?_
      refine AG.region HM ?_
      refine a_move (v := vS _) ?_
      refine a_move (v := vI _) ?_
      by_cases hc7 : 0 ≤ x3
      ·rw [if_pos hc7] at H
       refine a_str ?_ ⟨hc7, hc6⟩ Try.underlying9
       refine a_int (u := .bool (decide ((bt x0 x3) < 97))) ?_
       refine a_move (v := vB _) ?_
       by_cases hc8 : (bt x0 x3) < 97
       ·rw [if_pos hc8] at H
        refine RA.skip rfl rfl rfl rfl rfl (decide_eq_true hc8) (by decide) ?_
        refine RA.skip rfl rfl rfl rfl rfl (decide_eq_true hc8) (by decide) ?_
        refine RA.skip rfl rfl rfl rfl rfl (decide_eq_true hc8) (by decide) ?_
        refine RA.skip rfl rfl rfl rfl rfl (decide_eq_true hc8) (by decide) ?_
        refine a_pick (b := true) (v := vB _) ?_ (decide_eq_true hc8)
        refine a_move (v := vB _) ?_
        refine a_move (v := vS _) ?_ (hg := Gs.yes rfl rfl rfl rfl)
        refine a_move (v := vI _) ?_ (hg := Gs.yes rfl rfl rfl rfl)
        refine a_str ?_ ⟨hc7, hc6⟩ Try.underlying9 (hg := Gs.yes rfl rfl rfl rfl)
        refine a_int (u := .bool (decide ((bt x0 x3) < 48))) ?_ (hg := Gs.yes rfl rfl rfl rfl)
        refine a_move (v := vB _) ?_ (hg := Gs.yes rfl rfl rfl rfl)
        by_cases hc9 : (bt x0 x3) < 48
        ·rw [if_pos hc9] at H
         refine RA.skip rfl rfl rfl rfl rfl (decide_eq_true hc9) (by decide) ?_
         refine RA.skip rfl rfl rfl rfl rfl (decide_eq_true hc9) (by decide) ?_
         refine RA.skip rfl rfl rfl rfl rfl (decide_eq_true hc9) (by decide) ?_
         refine RA.skip rfl rfl rfl rfl rfl (decide_eq_true hc9) (by decide) ?_
         refine a_pick (b := true) (v := vB _) ?_ (decide_eq_true hc9) (hg := Gs.yes rfl rfl rfl rfl)
         refine a_pick (b := true) (v := vB _) ?_ rfl
         refine RA.nil nofun ?_
         refine AG.yes rfl rfl ?_
         refine AG.seq ?_
         refine AG.region HM ?_
         refine a_move (v := vB _) ?_
         refine RA.nil nofun ?_
         refine AG.ret ?_
         obtain rfl := Option.some.inj H
         exact RetP.mk id ⟨rfl, trivial⟩ trivial rfl
        ·rw [if_neg hc9] at H
         refine a_move (v := vS _) ?_ (hg := Gs.yes rfl rfl rfl (decide_eq_false hc9))
         refine a_move (v := vI _) ?_ (hg := Gs.yes rfl rfl rfl (decide_eq_false hc9))
         refine a_str ?_ ⟨hc7, hc6⟩ Try.underlying9 (hg := Gs.yes rfl rfl rfl (decide_eq_false hc9))
         refine a_int (u := .bool (decide ((bt x0 x3) > 57))) ?_ (hg := Gs.yes rfl rfl rfl (decide_eq_false hc9))
         refine a_pick (b := false) (v := vB _) ?_ (decide_eq_false hc9) (hg := Gs.yes rfl rfl rfl rfl)
         refine a_pick (b := true) (v := vB _) ?_ rfl
         refine RA.nil nofun ?_
         by_cases hc10 : (bt x0 x3) > 57
         ·rw [if_pos hc10] at H
          refine AG.yes rfl (decide_eq_true hc10) ?_
          refine AG.seq ?_
          refine AG.region HM ?_
          refine a_move (v := vB _) ?_
          refine RA.nil nofun ?_
          refine AG.ret ?_
          obtain rfl := Option.some.inj H
          exact RetP.mk id ⟨rfl, trivial⟩ trivial rfl
         ·rw [if_neg hc10] at H
          refine AG.no rfl (decide_eq_false hc10) ?_
          refine AG.skip ?_
          refine AG.region HM ?_
          refine a_move (v := vI _) ?_
          refine a_int (u := .int .i64 (wrap64 (x3 + 1))) ?_
          refine a_move (v := vI _) ?_
          refine RA.nil nofun ?_
          exact AGr.canon id (ih0 _ (by omega) _ ⟨by omega, _, _, H, rfl⟩) ⟨rfl, rfl, trivial⟩ trivial rfl
       ·rw [if_neg hc8] at H
        refine a_move (v := vS _) ?_ (hg := Gs.yes rfl rfl rfl (decide_eq_false hc8))
        refine a_move (v := vI _) ?_ (hg := Gs.yes rfl rfl rfl (decide_eq_false hc8))
        refine a_str ?_ ⟨hc7, hc6⟩ Try.underlying9 (hg := Gs.yes rfl rfl rfl (decide_eq_false hc8))
        refine a_int (u := .bool (decide ((bt x0 x3) > 122))) ?_ (hg := Gs.yes rfl rfl rfl (decide_eq_false hc8))
        refine a_pick (b := false) (v := vB _) ?_ (decide_eq_false hc8)
        refine a_move (v := vB _) ?_
        by_cases hc11 : (bt x0 x3) > 122
        ·rw [if_pos hc11] at H
         refine a_move (v := vS _) ?_ (hg := Gs.yes rfl rfl rfl (decide_eq_true hc11))
         refine a_move (v := vI _) ?_ (hg := Gs.yes rfl rfl rfl (decide_eq_true hc11))
         refine a_str ?_ ⟨hc7, hc6⟩ Try.underlying9 (hg := Gs.yes rfl rfl rfl (decide_eq_true hc11))
         refine a_int (u := .bool (decide ((bt x0 x3) < 48))) ?_ (hg := Gs.yes rfl rfl rfl (decide_eq_true hc11))
         refine a_move (v := vB _) ?_ (hg := Gs.yes rfl rfl rfl (decide_eq_true hc11))
         by_cases hc12 : (bt x0 x3) < 48
         ·rw [if_pos hc12] at H
          refine RA.skip rfl rfl rfl rfl rfl (decide_eq_true hc12) (by decide) ?_
          refine RA.skip rfl rfl rfl rfl rfl (decide_eq_true hc12) (by decide) ?_
          refine RA.skip rfl rfl rfl rfl rfl (decide_eq_true hc12) (by decide) ?_
          refine RA.skip rfl rfl rfl rfl rfl (decide_eq_true hc12) (by decide) ?_
          refine a_pick (b := true) (v := vB _) ?_ (decide_eq_true hc12) (hg := Gs.yes rfl rfl rfl (decide_eq_true hc11))
          refine a_pick (b := true) (v := vB _) ?_ (decide_eq_true hc11)
          refine RA.nil nofun ?_
          refine AG.yes rfl rfl ?_
          refine AG.seq ?_
          refine AG.region HM ?_
          refine a_move (v := vB _) ?_
          refine RA.nil nofun ?_
          refine AG.ret ?_
          obtain rfl := Option.some.inj H
          exact RetP.mk id ⟨rfl, trivial⟩ trivial rfl
         ·rw [if_neg hc12] at H
          refine a_move (v := vS _) ?_ (hg := Gs.yes rfl rfl rfl (decide_eq_false hc12))
          refine a_move (v := vI _) ?_ (hg := Gs.yes rfl rfl rfl (decide_eq_false hc12))
          refine a_str ?_ ⟨hc7, hc6⟩ Try.underlying9 (hg := Gs.yes rfl rfl rfl (decide_eq_false hc12))
          refine a_int (u := .bool (decide ((bt x0 x3) > 57))) ?_ (hg := Gs.yes rfl rfl rfl (decide_eq_false hc12))
          refine a_pick (b := false) (v := vB _) ?_ (decide_eq_false hc12) (hg := Gs.yes rfl rfl rfl (decide_eq_true hc11))
          refine a_pick (b := true) (v := vB _) ?_ (decide_eq_true hc11)
          refine RA.nil nofun ?_
          by_cases hc13 : (bt x0 x3) > 57
          ·rw [if_pos hc13] at H
           refine AG.yes rfl (decide_eq_true hc13) ?_
           refine AG.seq ?_
           refine AG.region HM ?_
           refine a_move (v := vB _) ?_
           refine RA.nil nofun ?_
           refine AG.ret ?_
           obtain rfl := Option.some.inj H
           exact RetP.mk id ⟨rfl, trivial⟩ trivial rfl
          ·rw [if_neg hc13] at H
           refine AG.no rfl (decide_eq_false hc13) ?_
           refine AG.skip ?_
           refine AG.region HM ?_
           refine a_move (v := vI _) ?_
           refine a_int (u := .int .i64 (wrap64 (x3 + 1))) ?_
           refine a_move (v := vI _) ?_
           refine RA.nil nofun ?_
           exact AGr.canon id (ih0 _ (by omega) _ ⟨by omega, _, _, H, rfl⟩) ⟨rfl, rfl, trivial⟩ trivial rfl
        ·rw [if_neg hc11] at H
         refine RA.skip rfl rfl rfl rfl rfl (decide_eq_false hc11) (by decide) ?_
         refine RA.skip rfl rfl rfl rfl rfl (decide_eq_false hc11) (by decide) ?_
         refine RA.skip rfl rfl rfl rfl rfl (decide_eq_false hc11) (by decide) ?_
         refine RA.skip rfl rfl rfl rfl rfl (decide_eq_false hc11) (by decide) ?_
         refine RA.skip rfl rfl rfl rfl rfl (decide_eq_false hc11) (by decide) ?_
         refine RA.skip0 rfl rfl rfl rfl rfl ?_
         refine RA.skip0 rfl rfl rfl rfl rfl ?_
         refine RA.skip0 rfl rfl rfl rfl rfl ?_
         refine RA.skip0 rfl rfl rfl rfl rfl ?_
         refine RA.skip rfl rfl rfl rfl rfl (decide_eq_false hc11) (by decide) ?_
         refine a_pick (b := false) (v := vB _) ?_ (decide_eq_false hc11)
         refine RA.nil nofun ?_
         refine AG.no rfl rfl ?_
         refine AG.skip ?_
         refine AG.region HM ?_
         refine a_move (v := vI _) ?_
         refine a_int (u := .int .i64 (wrap64 (x3 + 1))) ?_
         refine a_move (v := vI _) ?_
         refine RA.nil nofun ?_
         exact AGr.canon id (ih0 _ (by omega) _ ⟨by omega, _, _, H, rfl⟩) ⟨rfl, rfl, trivial⟩ trivial rfl
      ·rw [if_neg hc7] at H
       cases H
     ·rw [if_neg hc6] at H
      refine AG.no rfl (decide_eq_false hc6) ?_
      refine AG.exit ?_
      refine AG.seq ?_
      refine AG.region HM ?_
      refine a_move (v := vB _) ?_
      refine RA.nil nofun ?_
      refine AG.ret ?_
      obtain rfl := Option.some.inj H
      exact RetP.mk id ⟨rfl, trivial⟩ trivial rfl
/-! ### impl_ringPolygon: function 73 -/
def impl_ringPolygon.l0 : Nat → List S107 → List S107 → List Int → Int → Int → Option ((List S107) × Bool)
 | 0, _, _, _, _, _ => none
 | k + 1, x0, x6, x10, x11, x12 => if x12 < x11 then (if 0 ≤ x12 then (if x12 < (x10.length : Int) then ((impl_within.f (rd2 x10 x12) 0 (wrap64 ((x0.length : Int) - 1))).bind fun t5 => (if t5 = true then (if 0 ≤ (rd2 x10 x12) then (if (rd2 x10 x12) < (x0.length : Int) then (if x6.length < 8796093022208 then (impl_ringPolygon.l0 k x0 (x6 ++ [(⟨(rd107 x0 (rd2 x10 x12)).f0, (rd107 x0 (rd2 x10 x12)).f1⟩ : S107)]) x10 x11 (wrap64 (x12 + 1))) else (none)) else (none)) else (none)) else (some (([] : List S107), false)))) else (none)) else (none)) else (some (x6, true))
def impl_ringPolygon.f (k : Nat) (l0 : List S107) (l1 : List Int) : Option ((List S107) × Bool) := impl_ringPolygon.l0 k l0 (([] : List S107) : List S107) l1 (l1.length : Int) 0
set_option maxRecDepth 100000 in
theorem impl_ringPolygon.ok {k : Nat} {l0 : List S107} {l1 : List Int} {r0 : List S107} {r1 : Bool} (H : impl_ringPolygon.f k l0 l1 = some (r0, r1)) : OkF Try.prog 73 [vR 108 (l0.map c107), vR 2 (l1.map c2)] [] (.tup [.c (.own 100 r0.length), .c (.d (.v (.bool r1)))]) [(100, .row 108 (r0.map c107))] := by
 unfold impl_ringPolygon.f at H
 refine OkF.of (N := 31) (rs := [4, 5]) (avs := [.c (.own 100 r0.length), .c (.d (.v (.bool r1)))]) Try.func73 rfl rfl (fun _ _ => results_tmp2 rfl _ _ _) (by decide) rfl rfl rfl rfl (fun w0 S => ?_)
 refine AG.seq ?_
 refine AG.region HM ?_
 refine a_nilO (e := 108) 200 ?_ T108
 refine a_move (v := vB _) ?_
 refine RA.nil nofun ?_
 refine AG.seq ?_
 refine AG.region HM ?_
 refine a_lit (cs := []) (D := []) (css := (([] : List S107) : List S107).map c107) 201 ?_ N46 T108 (hcss := by rfl)
 refine a_move (v := .c (.own _ _)) ?_
 refine RA.nil nofun ?_
 refine AG.seq ?_
 refine AG.seq ?_
 refine AG.region HM ?_
 refine a_move (v := vR _ _) ?_
 refine a_lenR ?_ Try.underlying23
 refine a_move (v := vI _) ?_
 refine RA.nil nofun ?_
 refine AG.block ?_
 refine AG.loop ?_
 obtain ⟨K0, hK0, gK0⟩ : ∃ K, k ≤ K ∧ K ≤ k := ⟨k, Nat.le_refl k, Nat.le_refl k⟩
 refine AGr.canon (fun κ => cond (Nat.beq κ 202) 201 (κ)) (AGr.loopI (n := k) (fun k s => k ≤ K0 ∧ ∃ (x0 : List S107) (x6 : List S107) (x10 : List Int) (x11 : Int) (x12 : Int), impl_ringPolygon.l0 k x0 x6 x10 x11 x12 = some (r0, r1) ∧ s = St.of [(0, vR 108 (x0.map c107)), (6, .c (.own 202 x6.length)), (10, vR 2 (x10.map c2)), (11, vI x11), (12, vI x12)] [(202, .row 108 (x6.map c107))]) ⟨hK0, _, _, _, _, _, H, rfl⟩ ?_ ?_) ⟨rfl, (ownE rfl (by simp)), rfl, rfl, rfl, trivial⟩ ⟨rfl, trivial⟩ rfl
 ·rintro _ ⟨_, _, _, _, _, _, H, _⟩
  cases H
 ·clear H hK0
  rintro k ih0 _ ⟨hK0, x0, x6, x10, x11, x12, H, rfl⟩
  unfold impl_ringPolygon.l0 at H
  refine AG.seq ?_
  refine AG.region HM ?_
  refine a_int (u := .bool (decide (x12 < x11))) ?_
  refine RA.nil nofun ?_
  refine AG.seq ?_
  by_cases hc2 : x12 < x11
  ·rw [if_pos hc2] at H
   refine AG.yes rfl (decide_eq_true hc2) ?_
   refine AG.skip ?_
   refine AG.seq ?_
   refine AG.block ?_
   refine AG.seq ?_
   refine AG.region HM ?_
   by_cases hc3 : 0 ≤ x12
   ·rw [if_pos hc3] at H
    by_cases hc4 : x12 < (x10.length : Int)
    ·rw [if_pos hc4] at H
     refine a_ixR (el := c2 (rd2 x10 x12)) ?_ ⟨hc3, hc4⟩ T2 Try.underlying23 (hel := R2 hc3 hc4)
     refine a_ldR (v := vI _) ?_ T2
     refine a_move (v := vI _) ?_
     refine RA.nil nofun ?_
     refine AG.seq ?_
     refine AG.seq ?_
     refine AG.region HM ?_
     refine a_move (v := vI _) ?_
     refine a_move (v := vR _ _) ?_
     refine a_lenR ?_ Try.underlying46
     refine a_int (u := .int .i64 (wrap64 ((x0.length : Int) - 1))) ?_
     obtain ⟨t5, e6, H⟩ := bindO H
     refine a_call (v := vB t5) (nk := []) (L := []) ?_ rfl (impl_within.ok e6) id (qd (qd (qd qn))) trivial trivial trivial rfl
     refine a_un (u := .bool (!t5)) ?_
     refine RA.nil nofun ?_
     by_cases hc7 : t5 = true
     ·rw [if_pos hc7] at H
      refine AG.no rfl (congrArg Bool.not hc7) ?_
      refine AG.skip ?_
      refine AG.region HM ?_
      refine a_move (v := .c (.own _ _)) ?_
      refine a_move (v := vR _ _) ?_
      refine a_move (v := vI _) ?_
      by_cases hc8 : 0 ≤ (rd2 x10 x12)
      ·rw [if_pos hc8] at H
       by_cases hc9 : (rd2 x10 x12) < (x0.length : Int)
       ·rw [if_pos hc9] at H
        refine a_ixR (el := c107 (rd107 x0 (rd2 x10 x12))) ?_ ⟨hc8, hc9⟩ T108 Try.underlying46 (hel := R107 hc8 hc9)
        refine a_ldR (v := .agg [_, _]) ?_ T108
        refine a_lit (cs := [_, _]) (D := []) (css := ([(⟨(rd107 x0 (rd2 x10 x12)).f0, (rd107 x0 (rd2 x10 x12)).f1⟩ : S107)]).map c107) 204 ?_ N46 T108
        by_cases hc10 : x6.length < 8796093022208
        ·rw [if_pos hc10] at H
         refine a_appO (css' := (x6 ++ [(⟨(rd107 x0 (rd2 x10 x12)).f0, (rd107 x0 (rd2 x10 x12)).f1⟩ : S107)]).map c107) (n' := (x6 ++ [(⟨(rd107 x0 (rd2 x10 x12)).f0, (rd107 x0 (rd2 x10 x12)).f1⟩ : S107)]).length) ?_ T108 (by simp [maxLen]; omega) (by simp; omega) Try.underlying46 (hc := by exact List.map_append.symm) (hn := by exact List.length_map _)
         refine a_move (v := .c (.own _ _)) ?_
         refine RA.nil nofun ?_
         refine AG.region HM ?_
         refine a_int (u := .int .i64 (wrap64 (x12 + 1))) ?_
         refine a_move (v := vI _) ?_
         refine RA.nil nofun ?_
         exact AGr.canon id (ih0 _ (by omega) _ ⟨by omega, _, _, _, _, _, H, rfl⟩) ⟨rfl, rfl, rfl, rfl, rfl, trivial⟩ ⟨rfl, trivial⟩ rfl
        ·rw [if_neg hc10] at H
         cases H
       ·rw [if_neg hc9] at H
        cases H
      ·rw [if_neg hc8] at H
       cases H
     ·rw [if_neg hc7] at H
      refine AG.yes rfl (congrArg Bool.not (Bool.eq_false_iff.2 hc7)) ?_
      refine AG.seq ?_
      refine AG.region HM ?_
      refine a_nilO (e := 108) 205 ?_ T108
      refine a_move (v := vB _) ?_
      refine RA.nil nofun ?_
      refine AG.ret ?_
      simp only [Option.some.injEq, Prod.mk.injEq] at H
      obtain ⟨rfl, rfl⟩ := H
      exact RetP.mk (fun κ => cond (Nat.beq κ 100) 205 (κ)) ⟨(ownE rfl (by simp)), rfl, trivial⟩ ⟨rfl, trivial⟩ rfl
    ·rw [if_neg hc4] at H
     cases H
   ·rw [if_neg hc3] at H
    cases H
  ·rw [if_neg hc2] at H
   refine AG.no rfl (decide_eq_false hc2) ?_
   refine AG.exit ?_
   refine AG.seq ?_
   refine AG.region HM ?_
   refine a_move (v := .c (.own _ _)) ?_
   refine a_move (v := .c (.own _ _)) ?_
   refine a_move (v := vB _) ?_
   refine RA.nil nofun ?_
   refine AG.ret ?_
   simp only [Option.some.injEq, Prod.mk.injEq] at H
   obtain ⟨rfl, rfl⟩ := H
   exact RetP.mk (fun κ => cond (Nat.beq κ 100) 202 (κ)) ⟨rfl, rfl, trivial⟩ ⟨rfl, trivial⟩ rfl
/-! ### impl_doubled: function 75 -/
def impl_doubled.l0 : Nat → List S107 → Int → List S107 → Int → Int → Option (Int)
 | 0, _, _, _, _, _ => none
 | k + 1, x0, x3, x7, x8, x9 => if x9 < x8 then (if 0 ≤ x9 then (if x9 < (x7.length : Int) then (if (x0.length : Int) = 0 then (none) else (if 0 ≤ (Int.tmod (wrap64 (x9 + 1)) (x0.length : Int)) then (if (Int.tmod (wrap64 (x9 + 1)) (x0.length : Int)) < (x0.length : Int) then (impl_doubled.l0 k x0 (wrap64 (x3 + (wrap64 ((wrap64 (((rd107 x7 x9).f0) * ((rd107 x0 (Int.tmod (wrap64 (x9 + 1)) (x0.length : Int))).f1))) - (wrap64 (((rd107 x7 x9).f1) * ((rd107 x0 (Int.tmod (wrap64 (x9 + 1)) (x0.length : Int))).f0))))))) x7 x8 (wrap64 (x9 + 1))) else (none)) else (none))) else (none)) else (none)) else (some x3)
def impl_doubled.f (k : Nat) (l0 : List S107) : Option (Int) := impl_doubled.l0 k l0 0 l0 (l0.length : Int) 0
set_option maxRecDepth 100000 in
theorem impl_doubled.ok {k : Nat} {l0 : List S107} {r : Int} (H : impl_doubled.f k l0 = some r) : OkF Try.prog 75 [vR 108 (l0.map c107)] [] (.c (.d (.v (.int .i64 r)))) [] := by
 unfold impl_doubled.f at H
 refine OkF.of (N := 37) (rs := [2]) (avs := [.c (.d (.v (.int .i64 r)))]) Try.func75 rfl rfl (fun _ _ => results_tmp rfl _ _ _) (by decide) rfl rfl rfl rfl (fun w0 S => ?_)
 refine AG.seq ?_
 refine AG.region HM ?_
 refine a_move (v := vI _) ?_
 refine RA.nil nofun ?_
 refine AG.seq ?_
 refine AG.region HM ?_
 refine a_move (v := vI _) ?_
 refine RA.nil nofun ?_
 refine AG.seq ?_
 refine AG.seq ?_
 refine AG.region HM ?_
 refine a_move (v := vR _ _) ?_
 refine a_lenR ?_ Try.underlying46
 refine a_move (v := vI _) ?_
 refine RA.nil nofun ?_
 refine AG.block ?_
 refine AG.loop ?_
 obtain ⟨K0, hK0, gK0⟩ : ∃ K, k ≤ K ∧ K ≤ k := ⟨k, Nat.le_refl k, Nat.le_refl k⟩
 refine AGr.canon id (AGr.loopI (n := k) (fun k s => k ≤ K0 ∧ ∃ (x0 : List S107) (x3 : Int) (x7 : List S107) (x8 : Int) (x9 : Int), impl_doubled.l0 k x0 x3 x7 x8 x9 = some r ∧ s = St.of [(0, vR 108 (x0.map c107)), (3, vI x3), (7, vR 108 (x7.map c107)), (8, vI x8), (9, vI x9)] []) ⟨hK0, _, _, _, _, _, H, rfl⟩ ?_ ?_) ⟨rfl, rfl, rfl, rfl, rfl, trivial⟩ trivial rfl
 ·rintro _ ⟨_, _, _, _, _, _, H, _⟩
  cases H
 ·clear H hK0
  rintro k ih0 _ ⟨hK0, x0, x3, x7, x8, x9, H, rfl⟩
  unfold impl_doubled.l0 at H
  refine AG.seq ?_
  refine AG.region HM ?_
  refine a_int (u := .bool (decide (x9 < x8))) ?_
  refine RA.nil nofun ?_
  refine AG.seq ?_
  by_cases hc1 : x9 < x8
  ·rw [if_pos hc1] at H
   refine AG.yes rfl (decide_eq_true hc1) ?_
   refine AG.skip ?_
   refine AG.seq ?_
   refine AG.block ?_
   refine AG.seq ?_
   refine AG.region HM ?_
   refine a_move (v := vI _) ?_
   by_cases hc2 : 0 ≤ x9
   ·rw [if_pos hc2] at H
    by_cases hc3 : x9 < (x7.length : Int)
    ·rw [if_pos hc3] at H
     refine a_ixR (el := c107 (rd107 x7 x9)) ?_ ⟨hc2, hc3⟩ T108 Try.underlying46 (hel := R107 hc2 hc3)
     refine a_ldR (v := .agg [_, _]) ?_ T108
     refine a_alloc (cs := [_, _]) 200 ?_ T108
     refine a_move (v := vI _) ?_
     refine a_stB (cs' := [_, _]) ?_ T108
     refine RA.nil nofun ?_
     refine AG.seq ?_
     refine AG.region HM ?_
     refine a_move (v := vR _ _) ?_
     refine a_move (v := vI _) ?_
     refine a_int (u := .int .i64 (wrap64 (x9 + 1))) ?_
     refine a_move (v := vR _ _) ?_
     refine a_lenR ?_ Try.underlying46
     by_cases hc4 : (x0.length : Int) = 0
     ·rw [if_pos hc4] at H
      cases H
     ·rw [if_neg hc4] at H
      refine a_rem (r := Int.tmod (wrap64 (x9 + 1)) (x0.length : Int)) ?_ hc4
      by_cases hc5 : 0 ≤ (Int.tmod (wrap64 (x9 + 1)) (x0.length : Int))
      ·rw [if_pos hc5] at H
       by_cases hc6 : (Int.tmod (wrap64 (x9 + 1)) (x0.length : Int)) < (x0.length : Int)
       ·rw [if_pos hc6] at H
        refine a_ixR (el := c107 (rd107 x0 (Int.tmod (wrap64 (x9 + 1)) (x0.length : Int)))) ?_ ⟨hc5, hc6⟩ T108 Try.underlying46 (hel := R107 hc5 hc6)
        refine a_ldR (v := .agg [_, _]) ?_ T108
        refine a_alloc (cs := [_, _]) 201 ?_ T108
        refine a_stB (cs' := [_, _]) ?_ T108
        refine RA.nil nofun ?_
        refine AG.region HM ?_
        refine a_move (v := vI _) ?_
        refine a_faB (q := 0) ?_ D108_0
        refine a_ldB (v := vI _) ?_ T2
        refine a_faB (q := 1) ?_ D108_1
        refine a_ldB (v := vI _) ?_ T2
        refine a_int (u := .int .i64 (wrap64 (((rd107 x7 x9).f0) * ((rd107 x0 (Int.tmod (wrap64 (x9 + 1)) (x0.length : Int))).f1)))) ?_
        refine a_faB (q := 1) ?_ D108_1
        refine a_ldB (v := vI _) ?_ T2
        refine a_faB (q := 0) ?_ D108_0
        refine a_ldB (v := vI _) ?_ T2
        refine a_int (u := .int .i64 (wrap64 (((rd107 x7 x9).f1) * ((rd107 x0 (Int.tmod (wrap64 (x9 + 1)) (x0.length : Int))).f0)))) ?_
        refine a_int (u := .int .i64 (wrap64 ((wrap64 (((rd107 x7 x9).f0) * ((rd107 x0 (Int.tmod (wrap64 (x9 + 1)) (x0.length : Int))).f1))) - (wrap64 (((rd107 x7 x9).f1) * ((rd107 x0 (Int.tmod (wrap64 (x9 + 1)) (x0.length : Int))).f0)))))) ?_
        refine a_int (u := .int .i64 (wrap64 (x3 + (wrap64 ((wrap64 (((rd107 x7 x9).f0) * ((rd107 x0 (Int.tmod (wrap64 (x9 + 1)) (x0.length : Int))).f1))) - (wrap64 (((rd107 x7 x9).f1) * ((rd107 x0 (Int.tmod (wrap64 (x9 + 1)) (x0.length : Int))).f0)))))))) ?_
        refine a_move (v := vI _) ?_
        refine RA.nil nofun ?_
        refine AG.region HM ?_
        refine a_int (u := .int .i64 (wrap64 (x9 + 1))) ?_
        refine a_move (v := vI _) ?_
        refine RA.nil nofun ?_
        exact AGr.canon id (ih0 _ (by omega) _ ⟨by omega, _, _, _, _, _, H, rfl⟩) ⟨rfl, rfl, rfl, rfl, rfl, trivial⟩ trivial rfl
       ·rw [if_neg hc6] at H
        cases H
      ·rw [if_neg hc5] at H
       cases H
    ·rw [if_neg hc3] at H
     cases H
   ·rw [if_neg hc2] at H
    cases H
  ·rw [if_neg hc1] at H
   refine AG.no rfl (decide_eq_false hc1) ?_
   refine AG.exit ?_
   refine AG.seq ?_
   refine AG.region HM ?_
   refine a_move (v := vI _) ?_
   refine a_move (v := vI _) ?_
   refine RA.nil nofun ?_
   refine AG.ret ?_
   obtain rfl := Option.some.inj H
   exact RetP.mk id ⟨rfl, trivial⟩ trivial rfl
/-! ### impl_ValidPoint: function 113 -/
def impl_ValidPoint.f (a0_0 : Int) (a0_1 : Int) : Option (Bool) := (impl_within.f a0_0 0 20000).bind fun t1 => (if t1 = true then ((impl_within.f a0_1 0 20000).bind fun t4 => (some t4)) else (some false))
set_option maxRecDepth 100000 in
theorem impl_ValidPoint.ok {a0_0 : Int} {a0_1 : Int} {r : Bool} (H : impl_ValidPoint.f a0_0 a0_1 = some r) : OkF Try.prog 113 [.agg [.d (.v (.int .i64 a0_0)), .d (.v (.int .i64 a0_1))]] [] (.c (.d (.v (.bool r)))) [] := by
 unfold impl_ValidPoint.f at H
 refine OkF.of (N := 11) (rs := [2]) (avs := [.c (.d (.v (.bool r)))]) Try.func113 rfl rfl (fun _ _ => results_tmp rfl _ _ _) (by decide) rfl rfl rfl rfl (fun w0 S => ?_)
 refine AG.seq ?_
 refine AG.region HM ?_
 refine a_box 200 ?_
 refine a_move (v := vB _) ?_
 refine RA.nil nofun ?_
 refine AG.seq ?_
 refine AG.region HM ?_
 refine a_faB (q := 0) ?_ D108_0
 refine a_ldB (v := vI _) ?_ T2
 obtain ⟨t1, e2, H⟩ := bindO H
 refine a_call (v := vB t1) (nk := []) (L := []) ?_ rfl (impl_within.ok e2) id (qd (qd (qd qn))) trivial trivial trivial rfl
 refine a_move (v := vB _) ?_
 by_cases hc3 : t1 = true
 ·rw [if_pos hc3] at H
  refine a_faB (q := 1) ?_ D108_1 (hg := Gs.yes rfl rfl rfl hc3)
  refine a_ldB (v := vI _) ?_ T2 (hg := Gs.yes rfl rfl rfl hc3)
  obtain ⟨t4, e5, H⟩ := bindO H
  refine a_call (v := vB t4) (nk := []) (L := []) ?_ rfl (impl_within.ok e5) id (qd (qd (qd qn))) trivial trivial trivial rfl (hg := Gs.yes rfl rfl rfl hc3)
  refine a_pick (b := true) (v := vB _) ?_ hc3
  refine a_move (v := vB _) ?_
  refine RA.nil nofun ?_
  refine AG.ret ?_
  obtain rfl := Option.some.inj H
  exact RetP.mk id ⟨rfl, trivial⟩ trivial rfl
 ·rw [if_neg hc3] at H
  refine RA.skip rfl rfl rfl rfl rfl (Bool.eq_false_iff.2 hc3) (by decide) ?_
  refine RA.skip rfl rfl rfl rfl rfl (Bool.eq_false_iff.2 hc3) (by decide) ?_
  refine RA.skip rfl rfl rfl rfl rfl (Bool.eq_false_iff.2 hc3) (by decide) ?_
  refine a_pick (b := false) (v := vB _) ?_ (Bool.eq_false_iff.2 hc3)
  refine a_move (v := vB _) ?_
  refine RA.nil nofun ?_
  refine AG.ret ?_
  obtain rfl := Option.some.inj H
  exact RetP.mk id ⟨rfl, trivial⟩ trivial rfl
/-! ### impl_validPoints: function 95 -/
def impl_validPoints.l0 : Nat → List S107 → Int → Int → Option (Bool)
 | 0, _, _, _ => none
 | k + 1, x5, x6, x7 => if x7 < x6 then (if 0 ≤ x7 then (if x7 < (x5.length : Int) then ((impl_ValidPoint.f ((rd107 x5 x7).f0) ((rd107 x5 x7).f1)).bind fun t4 => (if t4 = true then (impl_validPoints.l0 k x5 x6 (wrap64 (x7 + 1))) else (some false))) else (none)) else (none)) else (some true)
def impl_validPoints.f (k : Nat) (l0 : List S107) : Option (Bool) := impl_validPoints.l0 k l0 (l0.length : Int) 0
set_option maxRecDepth 100000 in
theorem impl_validPoints.ok {k : Nat} {l0 : List S107} {r : Bool} (H : impl_validPoints.f k l0 = some r) : OkF Try.prog 95 [vR 108 (l0.map c107)] [] (.c (.d (.v (.bool r)))) [] := by
 unfold impl_validPoints.f at H
 refine OkF.of (N := 15) (rs := [2]) (avs := [.c (.d (.v (.bool r)))]) Try.func95 rfl rfl (fun _ _ => results_tmp rfl _ _ _) (by decide) rfl rfl rfl rfl (fun w0 S => ?_)
 refine AG.seq ?_
 refine AG.region HM ?_
 refine a_move (v := vB _) ?_
 refine RA.nil nofun ?_
 refine AG.seq ?_
 refine AG.seq ?_
 refine AG.region HM ?_
 refine a_move (v := vR _ _) ?_
 refine a_lenR ?_ Try.underlying46
 refine a_move (v := vI _) ?_
 refine RA.nil nofun ?_
 refine AG.block ?_
 refine AG.loop ?_
 obtain ⟨K0, hK0, gK0⟩ : ∃ K, k ≤ K ∧ K ≤ k := ⟨k, Nat.le_refl k, Nat.le_refl k⟩
 refine AGr.canon id (AGr.loopI (n := k) (fun k s => k ≤ K0 ∧ ∃ (x5 : List S107) (x6 : Int) (x7 : Int), impl_validPoints.l0 k x5 x6 x7 = some r ∧ s = St.of [(5, vR 108 (x5.map c107)), (6, vI x6), (7, vI x7)] []) ⟨hK0, _, _, _, H, rfl⟩ ?_ ?_) ⟨rfl, rfl, rfl, trivial⟩ trivial rfl
 ·rintro _ ⟨_, _, _, _, H, _⟩
  cases H
 ·clear H hK0
  rintro k ih0 _ ⟨hK0, x5, x6, x7, H, rfl⟩
  unfold impl_validPoints.l0 at H
  refine AG.seq ?_
  refine AG.region HM ?_
  refine a_int (u := .bool (decide (x7 < x6))) ?_
  refine RA.nil nofun ?_
  refine AG.seq ?_
  by_cases hc1 : x7 < x6
  ·rw [if_pos hc1] at H
   refine AG.yes rfl (decide_eq_true hc1) ?_
   refine AG.skip ?_
   refine AG.seq ?_
   refine AG.block ?_
   refine AG.seq ?_
   refine AG.region HM ?_
   by_cases hc2 : 0 ≤ x7
   ·rw [if_pos hc2] at H
    by_cases hc3 : x7 < (x5.length : Int)
    ·rw [if_pos hc3] at H
     refine a_ixR (el := c107 (rd107 x5 x7)) ?_ ⟨hc2, hc3⟩ T108 Try.underlying46 (hel := R107 hc2 hc3)
     refine a_ldR (v := .agg [_, _]) ?_ T108
     refine a_alloc (cs := [_, _]) 200 ?_ T108
     refine a_stB (cs' := [_, _]) ?_ T108
     refine RA.nil nofun ?_
     refine AG.seq ?_
     refine AG.region HM ?_
     refine a_ldB (v := .agg [_, _]) ?_ T108
     obtain ⟨t4, e5, H⟩ := bindO H
     refine a_call (v := vB t4) (nk := []) (L := []) ?_ rfl (impl_ValidPoint.ok e5) id (qg qn) trivial trivial trivial rfl
     refine a_un (u := .bool (!t4)) ?_
     refine RA.nil nofun ?_
     by_cases hc6 : t4 = true
     ·rw [if_pos hc6] at H
      refine AG.no rfl (congrArg Bool.not hc6) ?_
      refine AG.skip ?_
      refine AG.region HM ?_
      refine a_int (u := .int .i64 (wrap64 (x7 + 1))) ?_
      refine a_move (v := vI _) ?_
      refine RA.nil nofun ?_
      exact AGr.canon id (ih0 _ (by omega) _ ⟨by omega, _, _, _, H, rfl⟩) ⟨rfl, rfl, rfl, trivial⟩ trivial rfl
     ·rw [if_neg hc6] at H
      refine AG.yes rfl (congrArg Bool.not (Bool.eq_false_iff.2 hc6)) ?_
      refine AG.seq ?_
      refine AG.region HM ?_
      refine a_move (v := vB _) ?_
      refine RA.nil nofun ?_
      refine AG.ret ?_
      obtain rfl := Option.some.inj H
      exact RetP.mk id ⟨rfl, trivial⟩ trivial rfl
    ·rw [if_neg hc3] at H
     cases H
   ·rw [if_neg hc2] at H
    cases H
  ·rw [if_neg hc1] at H
   refine AG.no rfl (decide_eq_false hc1) ?_
   refine AG.exit ?_
   refine AG.seq ?_
   refine AG.region HM ?_
   refine a_move (v := vB _) ?_
   refine RA.nil nofun ?_
   refine AG.ret ?_
   obtain rfl := Option.some.inj H
   exact RetP.mk id ⟨rfl, trivial⟩ trivial rfl
/-! ### impl_side: function 114 -/
def impl_side.f (a0_0 : Int) (a0_1 : Int) (a1_0 : Int) (a1_1 : Int) (a2_0 : Int) (a2_1 : Int) : Option (Int) := if (wrap64 ((wrap64 ((wrap64 (a1_0 - a0_0)) * (wrap64 (a2_1 - a0_1)))) - (wrap64 ((wrap64 (a1_1 - a0_1)) * (wrap64 (a2_0 - a0_0)))))) > 0 then (some 1) else (if (wrap64 ((wrap64 ((wrap64 (a1_0 - a0_0)) * (wrap64 (a2_1 - a0_1)))) - (wrap64 ((wrap64 (a1_1 - a0_1)) * (wrap64 (a2_0 - a0_0)))))) < 0 then (some (-1)) else (some 0))
set_option maxRecDepth 100000 in
theorem impl_side.ok {a0_0 : Int} {a0_1 : Int} {a1_0 : Int} {a1_1 : Int} {a2_0 : Int} {a2_1 : Int} {r : Int} (H : impl_side.f a0_0 a0_1 a1_0 a1_1 a2_0 a2_1 = some r) : OkF Try.prog 114 [.agg [.d (.v (.int .i64 a0_0)), .d (.v (.int .i64 a0_1))], .agg [.d (.v (.int .i64 a1_0)), .d (.v (.int .i64 a1_1))], .agg [.d (.v (.int .i64 a2_0)), .d (.v (.int .i64 a2_1))]] [] (.c (.d (.v (.int .i64 r)))) [] := by
 unfold impl_side.f at H
 refine OkF.of (N := 37) (rs := [6]) (avs := [.c (.d (.v (.int .i64 r)))]) Try.func114 rfl rfl (fun _ _ => results_tmp rfl _ _ _) (by decide) rfl rfl rfl rfl (fun w0 S => ?_)
 refine AG.seq ?_
 refine AG.region HM ?_
 refine a_box 200 ?_
 refine a_box 201 ?_
 refine a_box 202 ?_
 refine a_move (v := vI _) ?_
 refine RA.nil nofun ?_
 refine AG.seq ?_
 refine AG.region HM ?_
 refine a_faB (q := 0) ?_ D108_0
 refine a_ldB (v := vI _) ?_ T2
 refine a_faB (q := 0) ?_ D108_0
 refine a_ldB (v := vI _) ?_ T2
 refine a_int (u := .int .i64 (wrap64 (a1_0 - a0_0))) ?_
 refine a_faB (q := 1) ?_ D108_1
 refine a_ldB (v := vI _) ?_ T2
 refine a_faB (q := 1) ?_ D108_1
 refine a_ldB (v := vI _) ?_ T2
 refine a_int (u := .int .i64 (wrap64 (a2_1 - a0_1))) ?_
 refine a_int (u := .int .i64 (wrap64 ((wrap64 (a1_0 - a0_0)) * (wrap64 (a2_1 - a0_1))))) ?_
 refine a_faB (q := 1) ?_ D108_1
 refine a_ldB (v := vI _) ?_ T2
 refine a_faB (q := 1) ?_ D108_1
 refine a_ldB (v := vI _) ?_ T2
 refine a_int (u := .int .i64 (wrap64 (a1_1 - a0_1))) ?_
 refine a_faB (q := 0) ?_ D108_0
 refine a_ldB (v := vI _) ?_ T2
 refine a_faB (q := 0) ?_ D108_0
 refine a_ldB (v := vI _) ?_ T2
 refine a_int (u := .int .i64 (wrap64 (a2_0 - a0_0))) ?_
 refine a_int (u := .int .i64 (wrap64 ((wrap64 (a1_1 - a0_1)) * (wrap64 (a2_0 - a0_0))))) ?_
 refine a_int (u := .int .i64 (wrap64 ((wrap64 ((wrap64 (a1_0 - a0_0)) * (wrap64 (a2_1 - a0_1)))) - (wrap64 ((wrap64 (a1_1 - a0_1)) * (wrap64 (a2_0 - a0_0))))))) ?_
 refine a_move (v := vI _) ?_
 refine RA.nil nofun ?_
 refine AG.seq ?_
 refine AG.block ?_
 refine AG.seq ?_
 refine AG.region HM ?_
 refine a_move (v := vI _) ?_
 refine a_int (u := .bool (decide ((wrap64 ((wrap64 ((wrap64 (a1_0 - a0_0)) * (wrap64 (a2_1 - a0_1)))) - (wrap64 ((wrap64 (a1_1 - a0_1)) * (wrap64 (a2_0 - a0_0)))))) > 0))) ?_
 refine a_move (v := vB _) ?_
 refine RA.nil nofun ?_
 by_cases hc1 : (wrap64 ((wrap64 ((wrap64 (a1_0 - a0_0)) * (wrap64 (a2_1 - a0_1)))) - (wrap64 ((wrap64 (a1_1 - a0_1)) * (wrap64 (a2_0 - a0_0)))))) > 0
 ·rw [if_pos hc1] at H
  refine AG.yes rfl (decide_eq_true hc1) ?_
  refine AG.seq ?_
  refine AG.region HM ?_
  refine a_move (v := vI _) ?_
  refine RA.nil nofun ?_
  refine AG.ret ?_
  obtain rfl := Option.some.inj H
  exact RetP.mk id ⟨rfl, trivial⟩ trivial rfl
 ·rw [if_neg hc1] at H
  refine AG.no rfl (decide_eq_false hc1) ?_
  refine AG.seq ?_
  refine AG.region HM ?_
  refine a_move (v := vI _) ?_
  refine a_int (u := .bool (decide ((wrap64 ((wrap64 ((wrap64 (a1_0 - a0_0)) * (wrap64 (a2_1 - a0_1)))) - (wrap64 ((wrap64 (a1_1 - a0_1)) * (wrap64 (a2_0 - a0_0)))))) < 0))) ?_
  refine a_move (v := vB _) ?_
  refine RA.nil nofun ?_
  by_cases hc2 : (wrap64 ((wrap64 ((wrap64 (a1_0 - a0_0)) * (wrap64 (a2_1 - a0_1)))) - (wrap64 ((wrap64 (a1_1 - a0_1)) * (wrap64 (a2_0 - a0_0)))))) < 0
  ·rw [if_pos hc2] at H
   refine AG.yes rfl (decide_eq_true hc2) ?_
   refine AG.seq ?_
   refine AG.region HM ?_
   refine a_move (v := vI _) ?_
   refine RA.nil nofun ?_
   refine AG.ret ?_
   obtain rfl := Option.some.inj H
   exact RetP.mk id ⟨rfl, trivial⟩ trivial rfl
  ·rw [if_neg hc2] at H
   refine AG.no rfl (decide_eq_false hc2) ?_
   refine AG.skip ?_
   refine AG.seq ?_
   refine AG.region HM ?_
   refine a_move (v := vI _) ?_
   refine RA.nil nofun ?_
   refine AG.ret ?_
   obtain rfl := Option.some.inj H
   exact RetP.mk id ⟨rfl, trivial⟩ trivial rfl
/-! ### impl_on: function 96 -/
def impl_on.f (a0_0 : Int) (a0_1 : Int) (a1_0 : Int) (a1_1 : Int) (a2_0 : Int) (a2_1 : Int) : Option (Bool) := (impl_side.f a0_0 a0_1 a1_0 a1_1 a2_0 a2_1).bind fun t1 => (if t1 = 0 then ((impl_within.f a2_0 (mn a0_0 a1_0) (mx a0_0 a1_0)).bind fun t4 => (if t4 = true then ((impl_within.f a2_1 (mn a0_1 a1_1) (mx a0_1 a1_1)).bind fun t7 => (some t7)) else (some false))) else (some false))
set_option maxRecDepth 100000 in
theorem impl_on.ok {a0_0 : Int} {a0_1 : Int} {a1_0 : Int} {a1_1 : Int} {a2_0 : Int} {a2_1 : Int} {r : Bool} (H : impl_on.f a0_0 a0_1 a1_0 a1_1 a2_0 a2_1 = some r) : OkF Try.prog 96 [.agg [.d (.v (.int .i64 a0_0)), .d (.v (.int .i64 a0_1))], .agg [.d (.v (.int .i64 a1_0)), .d (.v (.int .i64 a1_1))], .agg [.d (.v (.int .i64 a2_0)), .d (.v (.int .i64 a2_1))]] [] (.c (.d (.v (.bool r)))) [] := by
 unfold impl_on.f at H
 refine OkF.of (N := 42) (rs := [6]) (avs := [.c (.d (.v (.bool r)))]) Try.func96 rfl rfl (fun _ _ => results_tmp rfl _ _ _) (by decide) rfl rfl rfl rfl (fun w0 S => ?_)
 refine AG.seq ?_
 refine AG.region HM ?_
 refine a_box 200 ?_
 refine a_box 201 ?_
 refine a_box 202 ?_
 refine a_move (v := vB _) ?_
 refine RA.nil nofun ?_
 refine AG.seq ?_
 refine AG.region HM ?_
 refine a_ldB (v := .agg [_, _]) ?_ T108
 refine a_ldB (v := .agg [_, _]) ?_ T108
 refine a_ldB (v := .agg [_, _]) ?_ T108
 obtain ⟨t1, e2, H⟩ := bindO H
 refine a_call (v := vI t1) (nk := []) (L := []) ?_ rfl (impl_side.ok e2) id (qg (qg (qg qn))) trivial trivial trivial rfl
 refine a_int (u := .bool ((t1 == 0))) ?_
 refine a_move (v := vB _) ?_
 by_cases hc3 : t1 = 0
 ·rw [if_pos hc3] at H
  refine a_faB (q := 0) ?_ D108_0 (hg := Gs.yes rfl rfl rfl (beq_iff_eq.2 hc3))
  refine a_ldB (v := vI _) ?_ T2 (hg := Gs.yes rfl rfl rfl (beq_iff_eq.2 hc3))
  refine a_faB (q := 0) ?_ D108_0 (hg := Gs.yes rfl rfl rfl (beq_iff_eq.2 hc3))
  refine a_ldB (v := vI _) ?_ T2 (hg := Gs.yes rfl rfl rfl (beq_iff_eq.2 hc3))
  refine a_faB (q := 0) ?_ D108_0 (hg := Gs.yes rfl rfl rfl (beq_iff_eq.2 hc3))
  refine a_ldB (v := vI _) ?_ T2 (hg := Gs.yes rfl rfl rfl (beq_iff_eq.2 hc3))
  refine a_minmax (mx := false) (r := mn a0_0 a1_0) ?_ (hg := Gs.yes rfl rfl rfl (beq_iff_eq.2 hc3))
  refine a_faB (q := 0) ?_ D108_0 (hg := Gs.yes rfl rfl rfl (beq_iff_eq.2 hc3))
  refine a_ldB (v := vI _) ?_ T2 (hg := Gs.yes rfl rfl rfl (beq_iff_eq.2 hc3))
  refine a_faB (q := 0) ?_ D108_0 (hg := Gs.yes rfl rfl rfl (beq_iff_eq.2 hc3))
  refine a_ldB (v := vI _) ?_ T2 (hg := Gs.yes rfl rfl rfl (beq_iff_eq.2 hc3))
  refine a_minmax (mx := true) (r := mx a0_0 a1_0) ?_ (hg := Gs.yes rfl rfl rfl (beq_iff_eq.2 hc3))
  obtain ⟨t4, e5, H⟩ := bindO H
  refine a_call (v := vB t4) (nk := []) (L := []) ?_ rfl (impl_within.ok e5) id (qd (qd (qd qn))) trivial trivial trivial rfl (hg := Gs.yes rfl rfl rfl (beq_iff_eq.2 hc3))
  refine a_pick (b := true) (v := vB _) ?_ (beq_iff_eq.2 hc3)
  refine a_move (v := vB _) ?_
  by_cases hc6 : t4 = true
  ·rw [if_pos hc6] at H
   refine a_faB (q := 1) ?_ D108_1 (hg := Gs.yes rfl rfl rfl hc6)
   refine a_ldB (v := vI _) ?_ T2 (hg := Gs.yes rfl rfl rfl hc6)
   refine a_faB (q := 1) ?_ D108_1 (hg := Gs.yes rfl rfl rfl hc6)
   refine a_ldB (v := vI _) ?_ T2 (hg := Gs.yes rfl rfl rfl hc6)
   refine a_faB (q := 1) ?_ D108_1 (hg := Gs.yes rfl rfl rfl hc6)
   refine a_ldB (v := vI _) ?_ T2 (hg := Gs.yes rfl rfl rfl hc6)
   refine a_minmax (mx := false) (r := mn a0_1 a1_1) ?_ (hg := Gs.yes rfl rfl rfl hc6)
   refine a_faB (q := 1) ?_ D108_1 (hg := Gs.yes rfl rfl rfl hc6)
   refine a_ldB (v := vI _) ?_ T2 (hg := Gs.yes rfl rfl rfl hc6)
   refine a_faB (q := 1) ?_ D108_1 (hg := Gs.yes rfl rfl rfl hc6)
   refine a_ldB (v := vI _) ?_ T2 (hg := Gs.yes rfl rfl rfl hc6)
   refine a_minmax (mx := true) (r := mx a0_1 a1_1) ?_ (hg := Gs.yes rfl rfl rfl hc6)
   obtain ⟨t7, e8, H⟩ := bindO H
   refine a_call (v := vB t7) (nk := []) (L := []) ?_ rfl (impl_within.ok e8) id (qd (qd (qd qn))) trivial trivial trivial rfl (hg := Gs.yes rfl rfl rfl hc6)
   refine a_pick (b := true) (v := vB _) ?_ hc6
   refine a_move (v := vB _) ?_
   refine RA.nil nofun ?_
   refine AG.ret ?_
   obtain rfl := Option.some.inj H
   exact RetP.mk id ⟨rfl, trivial⟩ trivial rfl
  ·rw [if_neg hc6] at H
   refine RA.skip rfl rfl rfl rfl rfl (Bool.eq_false_iff.2 hc6) (by decide) ?_
   refine RA.skip rfl rfl rfl rfl rfl (Bool.eq_false_iff.2 hc6) (by decide) ?_
   refine RA.skip rfl rfl rfl rfl rfl (Bool.eq_false_iff.2 hc6) (by decide) ?_
   refine RA.skip rfl rfl rfl rfl rfl (Bool.eq_false_iff.2 hc6) (by decide) ?_
   refine RA.skip rfl rfl rfl rfl rfl (Bool.eq_false_iff.2 hc6) (by decide) ?_
   refine RA.skip rfl rfl rfl rfl rfl (Bool.eq_false_iff.2 hc6) (by decide) ?_
   refine RA.skip rfl rfl rfl rfl rfl (Bool.eq_false_iff.2 hc6) (by decide) ?_
   refine RA.skip rfl rfl rfl rfl rfl (Bool.eq_false_iff.2 hc6) (by decide) ?_
   refine RA.skip rfl rfl rfl rfl rfl (Bool.eq_false_iff.2 hc6) (by decide) ?_
   refine RA.skip rfl rfl rfl rfl rfl (Bool.eq_false_iff.2 hc6) (by decide) ?_
   refine RA.skip rfl rfl rfl rfl rfl (Bool.eq_false_iff.2 hc6) (by decide) ?_
   refine RA.skip rfl rfl rfl rfl rfl (Bool.eq_false_iff.2 hc6) (by decide) ?_
   refine RA.skip rfl rfl rfl rfl rfl (Bool.eq_false_iff.2 hc6) (by decide) ?_
   refine a_pick (b := false) (v := vB _) ?_ (Bool.eq_false_iff.2 hc6)
   refine a_move (v := vB _) ?_
   refine RA.nil nofun ?_
   refine AG.ret ?_
   obtain rfl := Option.some.inj H
   exact RetP.mk id ⟨rfl, trivial⟩ trivial rfl
 ·rw [if_neg hc3] at H
  refine RA.skip rfl rfl rfl rfl rfl (beq_eq_false_iff_ne.2 hc3) (by decide) ?_
  refine RA.skip rfl rfl rfl rfl rfl (beq_eq_false_iff_ne.2 hc3) (by decide) ?_
  refine RA.skip rfl rfl rfl rfl rfl (beq_eq_false_iff_ne.2 hc3) (by decide) ?_
  refine RA.skip rfl rfl rfl rfl rfl (beq_eq_false_iff_ne.2 hc3) (by decide) ?_
  refine RA.skip rfl rfl rfl rfl rfl (beq_eq_false_iff_ne.2 hc3) (by decide) ?_
  refine RA.skip rfl rfl rfl rfl rfl (beq_eq_false_iff_ne.2 hc3) (by decide) ?_
  refine RA.skip rfl rfl rfl rfl rfl (beq_eq_false_iff_ne.2 hc3) (by decide) ?_
  refine RA.skip rfl rfl rfl rfl rfl (beq_eq_false_iff_ne.2 hc3) (by decide) ?_
  refine RA.skip rfl rfl rfl rfl rfl (beq_eq_false_iff_ne.2 hc3) (by decide) ?_
  refine RA.skip rfl rfl rfl rfl rfl (beq_eq_false_iff_ne.2 hc3) (by decide) ?_
  refine RA.skip rfl rfl rfl rfl rfl (beq_eq_false_iff_ne.2 hc3) (by decide) ?_
  refine RA.skip rfl rfl rfl rfl rfl (beq_eq_false_iff_ne.2 hc3) (by decide) ?_
  refine RA.skip rfl rfl rfl rfl rfl (beq_eq_false_iff_ne.2 hc3) (by decide) ?_
  refine a_pick (b := false) (v := vB _) ?_ (beq_eq_false_iff_ne.2 hc3)
  refine a_move (v := vB _) ?_
  refine RA.skip rfl rfl rfl rfl rfl rfl (by decide) ?_
  refine RA.skip rfl rfl rfl rfl rfl rfl (by decide) ?_
  refine RA.skip rfl rfl rfl rfl rfl rfl (by decide) ?_
  refine RA.skip rfl rfl rfl rfl rfl rfl (by decide) ?_
  refine RA.skip rfl rfl rfl rfl rfl rfl (by decide) ?_
  refine RA.skip rfl rfl rfl rfl rfl rfl (by decide) ?_
  refine RA.skip rfl rfl rfl rfl rfl rfl (by decide) ?_
  refine RA.skip rfl rfl rfl rfl rfl rfl (by decide) ?_
  refine RA.skip rfl rfl rfl rfl rfl rfl (by decide) ?_
  refine RA.skip rfl rfl rfl rfl rfl rfl (by decide) ?_
  refine RA.skip rfl rfl rfl rfl rfl rfl (by decide) ?_
  refine RA.skip rfl rfl rfl rfl rfl rfl (by decide) ?_
  refine RA.skip rfl rfl rfl rfl rfl rfl (by decide) ?_
  refine a_pick (b := false) (v := vB _) ?_ rfl
  refine a_move (v := vB _) ?_
  refine RA.nil nofun ?_
  refine AG.ret ?_
  obtain rfl := Option.some.inj H
  exact RetP.mk id ⟨rfl, trivial⟩ trivial rfl
/-! ### impl_crossing: function 115 -/
def impl_crossing.f (a0_0 : Int) (a0_1 : Int) (a1_0 : Int) (a1_1 : Int) (a2_0 : Int) (a2_1 : Int) (a3_0 : Int) (a3_1 : Int) : Option (Bool) := (impl_side.f a0_0 a0_1 a1_0 a1_1 a2_0 a2_1).bind fun t1 => ((impl_side.f a0_0 a0_1 a1_0 a1_1 a3_0 a3_1).bind fun t3 => (if (wrap64 (t1 * t3)) < 0 then ((impl_side.f a2_0 a2_1 a3_0 a3_1 a0_0 a0_1).bind fun t6 => ((impl_side.f a2_0 a2_1 a3_0 a3_1 a1_0 a1_1).bind fun t8 => (some (decide ((wrap64 (t6 * t8)) < 0))))) else (some false)))
set_option maxRecDepth 100000 in
theorem impl_crossing.ok {a0_0 : Int} {a0_1 : Int} {a1_0 : Int} {a1_1 : Int} {a2_0 : Int} {a2_1 : Int} {a3_0 : Int} {a3_1 : Int} {r : Bool} (H : impl_crossing.f a0_0 a0_1 a1_0 a1_1 a2_0 a2_1 a3_0 a3_1 = some r) : OkF Try.prog 115 [.agg [.d (.v (.int .i64 a0_0)), .d (.v (.int .i64 a0_1))], .agg [.d (.v (.int .i64 a1_0)), .d (.v (.int .i64 a1_1))], .agg [.d (.v (.int .i64 a2_0)), .d (.v (.int .i64 a2_1))], .agg [.d (.v (.int .i64 a3_0)), .d (.v (.int .i64 a3_1))]] [] (.c (.d (.v (.bool r)))) [] := by
 unfold impl_crossing.f at H
 refine OkF.of (N := 31) (rs := [8]) (avs := [.c (.d (.v (.bool r)))]) Try.func115 rfl rfl (fun _ _ => results_tmp rfl _ _ _) (by decide) rfl rfl rfl rfl (fun w0 S => ?_)
 refine AG.seq ?_
 refine AG.region HM ?_
 refine a_box 200 ?_
 refine a_box 201 ?_
 refine a_box 202 ?_
 refine a_box 203 ?_
 refine a_move (v := vB _) ?_
 refine RA.nil nofun ?_
 refine AG.seq ?_
 refine AG.region HM ?_
 refine a_ldB (v := .agg [_, _]) ?_ T108
 refine a_ldB (v := .agg [_, _]) ?_ T108
 refine a_ldB (v := .agg [_, _]) ?_ T108
 obtain ⟨t1, e2, H⟩ := bindO H
 refine a_call (v := vI t1) (nk := []) (L := []) ?_ rfl (impl_side.ok e2) id (qg (qg (qg qn))) trivial trivial trivial rfl
 refine a_ldB (v := .agg [_, _]) ?_ T108
 refine a_ldB (v := .agg [_, _]) ?_ T108
 refine a_ldB (v := .agg [_, _]) ?_ T108
 obtain ⟨t3, e4, H⟩ := bindO H
 refine a_call (v := vI t3) (nk := []) (L := []) ?_ rfl (impl_side.ok e4) id (qg (qg (qg qn))) trivial trivial trivial rfl
 refine a_int (u := .int .i64 (wrap64 (t1 * t3))) ?_
 refine a_int (u := .bool (decide ((wrap64 (t1 * t3)) < 0))) ?_
 refine a_move (v := vB _) ?_
 by_cases hc5 : (wrap64 (t1 * t3)) < 0
 ·rw [if_pos hc5] at H
  refine a_ldB (v := .agg [_, _]) ?_ T108 (hg := Gs.yes rfl rfl rfl (decide_eq_true hc5))
  refine a_ldB (v := .agg [_, _]) ?_ T108 (hg := Gs.yes rfl rfl rfl (decide_eq_true hc5))
  refine a_ldB (v := .agg [_, _]) ?_ T108 (hg := Gs.yes rfl rfl rfl (decide_eq_true hc5))
  obtain ⟨t6, e7, H⟩ := bindO H
  refine a_call (v := vI t6) (nk := []) (L := []) ?_ rfl (impl_side.ok e7) id (qg (qg (qg qn))) trivial trivial trivial rfl (hg := Gs.yes rfl rfl rfl (decide_eq_true hc5))
  refine a_ldB (v := .agg [_, _]) ?_ T108 (hg := Gs.yes rfl rfl rfl (decide_eq_true hc5))
  refine a_ldB (v := .agg [_, _]) ?_ T108 (hg := Gs.yes rfl rfl rfl (decide_eq_true hc5))
  refine a_ldB (v := .agg [_, _]) ?_ T108 (hg := Gs.yes rfl rfl rfl (decide_eq_true hc5))
  obtain ⟨t8, e9, H⟩ := bindO H
  refine a_call (v := vI t8) (nk := []) (L := []) ?_ rfl (impl_side.ok e9) id (qg (qg (qg qn))) trivial trivial trivial rfl (hg := Gs.yes rfl rfl rfl (decide_eq_true hc5))
  refine a_int (u := .int .i64 (wrap64 (t6 * t8))) ?_ (hg := Gs.yes rfl rfl rfl (decide_eq_true hc5))
  refine a_int (u := .bool (decide ((wrap64 (t6 * t8)) < 0))) ?_ (hg := Gs.yes rfl rfl rfl (decide_eq_true hc5))
  refine a_pick (b := true) (v := vB _) ?_ (decide_eq_true hc5)
  refine a_move (v := vB _) ?_
  refine RA.nil (fun _ => by kernel_rfl) ?_
  refine AG.ret ?_
  obtain rfl := Option.some.inj H
  exact RetP.mk id ⟨rfl, trivial⟩ trivial rfl
 ·rw [if_neg hc5] at H
  refine RA.skip rfl rfl rfl rfl rfl (decide_eq_false hc5) (by decide) ?_
  refine RA.skip rfl rfl rfl rfl rfl (decide_eq_false hc5) (by decide) ?_
  refine RA.skip rfl rfl rfl rfl rfl (decide_eq_false hc5) (by decide) ?_
  refine RA.skip rfl rfl rfl rfl rfl (decide_eq_false hc5) (by decide) ?_
  refine RA.skip rfl rfl rfl rfl rfl (decide_eq_false hc5) (by decide) ?_
  refine RA.skip rfl rfl rfl rfl rfl (decide_eq_false hc5) (by decide) ?_
  refine RA.skip rfl rfl rfl rfl rfl (decide_eq_false hc5) (by decide) ?_
  refine RA.skip rfl rfl rfl rfl rfl (decide_eq_false hc5) (by decide) ?_
  refine RA.skip rfl rfl rfl rfl rfl (decide_eq_false hc5) (by decide) ?_
  refine RA.skip rfl rfl rfl rfl rfl (decide_eq_false hc5) (by decide) ?_
  refine a_pick (b := false) (v := vB _) ?_ (decide_eq_false hc5)
  refine a_move (v := vB _) ?_
  refine RA.nil (fun _ => by kernel_rfl) ?_
  refine AG.ret ?_
  obtain rfl := Option.some.inj H
  exact RetP.mk id ⟨rfl, trivial⟩ trivial rfl
/-! ### impl_touching: function 97 -/
def impl_touching.f (a0_0 : Int) (a0_1 : Int) (a1_0 : Int) (a1_1 : Int) (a2_0 : Int) (a2_1 : Int) (a3_0 : Int) (a3_1 : Int) : Option (Bool) := (impl_crossing.f a0_0 a0_1 a1_0 a1_1 a2_0 a2_1 a3_0 a3_1).bind fun t1 => (if t1 = true then (some true) else ((impl_on.f a0_0 a0_1 a1_0 a1_1 a2_0 a2_1).bind fun t4 => (if t4 = true then (some true) else ((impl_on.f a0_0 a0_1 a1_0 a1_1 a3_0 a3_1).bind fun t7 => (if t7 = true then (some true) else ((impl_on.f a2_0 a2_1 a3_0 a3_1 a0_0 a0_1).bind fun t10 => (if t10 = true then (some true) else ((impl_on.f a2_0 a2_1 a3_0 a3_1 a1_0 a1_1).bind fun t13 => (some t13)))))))))
set_option maxRecDepth 100000 in
theorem impl_touching.ok {a0_0 : Int} {a0_1 : Int} {a1_0 : Int} {a1_1 : Int} {a2_0 : Int} {a2_1 : Int} {a3_0 : Int} {a3_1 : Int} {r : Bool} (H : impl_touching.f a0_0 a0_1 a1_0 a1_1 a2_0 a2_1 a3_0 a3_1 = some r) : OkF Try.prog 97 [.agg [.d (.v (.int .i64 a0_0)), .d (.v (.int .i64 a0_1))], .agg [.d (.v (.int .i64 a1_0)), .d (.v (.int .i64 a1_1))], .agg [.d (.v (.int .i64 a2_0)), .d (.v (.int .i64 a2_1))], .agg [.d (.v (.int .i64 a3_0)), .d (.v (.int .i64 a3_1))]] [] (.c (.d (.v (.bool r)))) [] := by
 unfold impl_touching.f at H
 refine OkF.of (N := 38) (rs := [8]) (avs := [.c (.d (.v (.bool r)))]) Try.func97 rfl rfl (fun _ _ => results_tmp rfl _ _ _) (by decide) rfl rfl rfl rfl (fun w0 S => ?_)
 refine AG.seq ?_
 refine AG.region HM ?_
 refine a_box 200 ?_
 refine a_box 201 ?_
 refine a_box 202 ?_
 refine a_box 203 ?_
 refine a_move (v := vB _) ?_
 refine RA.nil nofun ?_
 refine AG.seq ?_
 refine AG.region HM ?_
 refine a_ldB (v := .agg [_, _]) ?_ T108
 refine a_ldB (v := .agg [_, _]) ?_ T108
 refine a_ldB (v := .agg [_, _]) ?_ T108
 refine a_ldB (v := .agg [_, _]) ?_ T108
 obtain ⟨t1, e2, H⟩ := bindO H
 refine a_call (v := vB t1) (nk := []) (L := []) ?_ rfl (impl_crossing.ok e2) id (qg (qg (qg (qg qn)))) trivial trivial trivial rfl
 refine a_move (v := vB _) ?_
 by_cases hc3 : t1 = true
 ·rw [if_pos hc3] at H
  refine RA.skip rfl rfl rfl rfl rfl hc3 (by decide) ?_
  refine RA.skip rfl rfl rfl rfl rfl hc3 (by decide) ?_
  refine RA.skip rfl rfl rfl rfl rfl hc3 (by decide) ?_
  refine RA.skip rfl rfl rfl rfl rfl hc3 (by decide) ?_
  refine a_pick (b := true) (v := vB _) ?_ hc3
  refine a_move (v := vB _) ?_
  refine RA.skip rfl rfl rfl rfl rfl rfl (by decide) ?_
  refine RA.skip rfl rfl rfl rfl rfl rfl (by decide) ?_
  refine RA.skip rfl rfl rfl rfl rfl rfl (by decide) ?_
  refine RA.skip rfl rfl rfl rfl rfl rfl (by decide) ?_
  refine a_pick (b := true) (v := vB _) ?_ rfl
  refine a_move (v := vB _) ?_
  refine RA.skip rfl rfl rfl rfl rfl rfl (by decide) ?_
  refine RA.skip rfl rfl rfl rfl rfl rfl (by decide) ?_
  refine RA.skip rfl rfl rfl rfl rfl rfl (by decide) ?_
  refine RA.skip rfl rfl rfl rfl rfl rfl (by decide) ?_
  refine a_pick (b := true) (v := vB _) ?_ rfl
  refine a_move (v := vB _) ?_
  refine RA.skip rfl rfl rfl rfl rfl rfl (by decide) ?_
  refine RA.skip rfl rfl rfl rfl rfl rfl (by decide) ?_
  refine RA.skip rfl rfl rfl rfl rfl rfl (by decide) ?_
  refine RA.skip rfl rfl rfl rfl rfl rfl (by decide) ?_
  refine a_pick (b := true) (v := vB _) ?_ rfl
  refine a_move (v := vB _) ?_
  refine RA.nil nofun ?_
  refine AG.ret ?_
  obtain rfl := Option.some.inj H
  exact RetP.mk id ⟨rfl, trivial⟩ trivial rfl
 ·rw [if_neg hc3] at H
  refine a_ldB (v := .agg [_, _]) ?_ T108 (hg := Gs.yes rfl rfl rfl (Bool.eq_false_iff.2 hc3))
  refine a_ldB (v := .agg [_, _]) ?_ T108 (hg := Gs.yes rfl rfl rfl (Bool.eq_false_iff.2 hc3))
  refine a_ldB (v := .agg [_, _]) ?_ T108 (hg := Gs.yes rfl rfl rfl (Bool.eq_false_iff.2 hc3))
  obtain ⟨t4, e5, H⟩ := bindO H
  refine a_call (v := vB t4) (nk := []) (L := []) ?_ rfl (impl_on.ok e5) id (qg (qg (qg qn))) trivial trivial trivial rfl (hg := Gs.yes rfl rfl rfl (Bool.eq_false_iff.2 hc3))
  refine a_pick (b := false) (v := vB _) ?_ (Bool.eq_false_iff.2 hc3)
  refine a_move (v := vB _) ?_
  by_cases hc6 : t4 = true
  ·rw [if_pos hc6] at H
   refine RA.skip rfl rfl rfl rfl rfl hc6 (by decide) ?_
   refine RA.skip rfl rfl rfl rfl rfl hc6 (by decide) ?_
   refine RA.skip rfl rfl rfl rfl rfl hc6 (by decide) ?_
   refine RA.skip rfl rfl rfl rfl rfl hc6 (by decide) ?_
   refine a_pick (b := true) (v := vB _) ?_ hc6
   refine a_move (v := vB _) ?_
   refine RA.skip rfl rfl rfl rfl rfl rfl (by decide) ?_
   refine RA.skip rfl rfl rfl rfl rfl rfl (by decide) ?_
   refine RA.skip rfl rfl rfl rfl rfl rfl (by decide) ?_
   refine RA.skip rfl rfl rfl rfl rfl rfl (by decide) ?_
   refine a_pick (b := true) (v := vB _) ?_ rfl
   refine a_move (v := vB _) ?_
   refine RA.skip rfl rfl rfl rfl rfl rfl (by decide) ?_
   refine RA.skip rfl rfl rfl rfl rfl rfl (by decide) ?_
   refine RA.skip rfl rfl rfl rfl rfl rfl (by decide) ?_
   refine RA.skip rfl rfl rfl rfl rfl rfl (by decide) ?_
   refine a_pick (b := true) (v := vB _) ?_ rfl
   refine a_move (v := vB _) ?_
   refine RA.nil nofun ?_
   refine AG.ret ?_
   obtain rfl := Option.some.inj H
   exact RetP.mk id ⟨rfl, trivial⟩ trivial rfl
  ·rw [if_neg hc6] at H
   refine a_ldB (v := .agg [_, _]) ?_ T108 (hg := Gs.yes rfl rfl rfl (Bool.eq_false_iff.2 hc6))
   refine a_ldB (v := .agg [_, _]) ?_ T108 (hg := Gs.yes rfl rfl rfl (Bool.eq_false_iff.2 hc6))
   refine a_ldB (v := .agg [_, _]) ?_ T108 (hg := Gs.yes rfl rfl rfl (Bool.eq_false_iff.2 hc6))
   obtain ⟨t7, e8, H⟩ := bindO H
   refine a_call (v := vB t7) (nk := []) (L := []) ?_ rfl (impl_on.ok e8) id (qg (qg (qg qn))) trivial trivial trivial rfl (hg := Gs.yes rfl rfl rfl (Bool.eq_false_iff.2 hc6))
   refine a_pick (b := false) (v := vB _) ?_ (Bool.eq_false_iff.2 hc6)
   refine a_move (v := vB _) ?_
   by_cases hc9 : t7 = true
   ·rw [if_pos hc9] at H
    refine RA.skip rfl rfl rfl rfl rfl hc9 (by decide) ?_
    refine RA.skip rfl rfl rfl rfl rfl hc9 (by decide) ?_
    refine RA.skip rfl rfl rfl rfl rfl hc9 (by decide) ?_
    refine RA.skip rfl rfl rfl rfl rfl hc9 (by decide) ?_
    refine a_pick (b := true) (v := vB _) ?_ hc9
    refine a_move (v := vB _) ?_
    refine RA.skip rfl rfl rfl rfl rfl rfl (by decide) ?_
    refine RA.skip rfl rfl rfl rfl rfl rfl (by decide) ?_
    refine RA.skip rfl rfl rfl rfl rfl rfl (by decide) ?_
    refine RA.skip rfl rfl rfl rfl rfl rfl (by decide) ?_
    refine a_pick (b := true) (v := vB _) ?_ rfl
    refine a_move (v := vB _) ?_
    refine RA.nil nofun ?_
    refine AG.ret ?_
    obtain rfl := Option.some.inj H
    exact RetP.mk id ⟨rfl, trivial⟩ trivial rfl
   ·rw [if_neg hc9] at H
    refine a_ldB (v := .agg [_, _]) ?_ T108 (hg := Gs.yes rfl rfl rfl (Bool.eq_false_iff.2 hc9))
    refine a_ldB (v := .agg [_, _]) ?_ T108 (hg := Gs.yes rfl rfl rfl (Bool.eq_false_iff.2 hc9))
    refine a_ldB (v := .agg [_, _]) ?_ T108 (hg := Gs.yes rfl rfl rfl (Bool.eq_false_iff.2 hc9))
    obtain ⟨t10, e11, H⟩ := bindO H
    refine a_call (v := vB t10) (nk := []) (L := []) ?_ rfl (impl_on.ok e11) id (qg (qg (qg qn))) trivial trivial trivial rfl (hg := Gs.yes rfl rfl rfl (Bool.eq_false_iff.2 hc9))
    refine a_pick (b := false) (v := vB _) ?_ (Bool.eq_false_iff.2 hc9)
    refine a_move (v := vB _) ?_
    by_cases hc12 : t10 = true
    ·rw [if_pos hc12] at H
     refine RA.skip rfl rfl rfl rfl rfl hc12 (by decide) ?_
     refine RA.skip rfl rfl rfl rfl rfl hc12 (by decide) ?_
     refine RA.skip rfl rfl rfl rfl rfl hc12 (by decide) ?_
     refine RA.skip rfl rfl rfl rfl rfl hc12 (by decide) ?_
     refine a_pick (b := true) (v := vB _) ?_ hc12
     refine a_move (v := vB _) ?_
     refine RA.nil nofun ?_
     refine AG.ret ?_
     obtain rfl := Option.some.inj H
     exact RetP.mk id ⟨rfl, trivial⟩ trivial rfl
    ·rw [if_neg hc12] at H
     refine a_ldB (v := .agg [_, _]) ?_ T108 (hg := Gs.yes rfl rfl rfl (Bool.eq_false_iff.2 hc12))
     refine a_ldB (v := .agg [_, _]) ?_ T108 (hg := Gs.yes rfl rfl rfl (Bool.eq_false_iff.2 hc12))
     refine a_ldB (v := .agg [_, _]) ?_ T108 (hg := Gs.yes rfl rfl rfl (Bool.eq_false_iff.2 hc12))
     obtain ⟨t13, e14, H⟩ := bindO H
     refine a_call (v := vB t13) (nk := []) (L := []) ?_ rfl (impl_on.ok e14) id (qg (qg (qg qn))) trivial trivial trivial rfl (hg := Gs.yes rfl rfl rfl (Bool.eq_false_iff.2 hc12))
     refine a_pick (b := false) (v := vB _) ?_ (Bool.eq_false_iff.2 hc12)
     refine a_move (v := vB _) ?_
     refine RA.nil nofun ?_
     refine AG.ret ?_
     obtain rfl := Option.some.inj H
     exact RetP.mk id ⟨rfl, trivial⟩ trivial rfl
/-! ### impl_ValidPolygon: function 74 -/
mutual
def impl_ValidPolygon.j0 : Nat → List S107 → Int → Bool → Option (Bool)
 | 0, _, _, _ => none
 | k + 1, x0, x3, x21 => if x21 = true then (some false) else (impl_ValidPolygon.l0 k x0 x3 (x0.length : Int) 0)
def impl_ValidPolygon.l0 : Nat → List S107 → Int → Int → Int → Option (Bool)
 | 0, _, _, _, _ => none
 | k + 1, x0, x3, x23, x24 => if x24 < x23 then (if 0 ≤ x24 then (if x24 < (x0.length : Int) then (if x3 = 0 then (none) else (if 0 ≤ (Int.tmod (wrap64 (x24 + 1)) x3) then (if (Int.tmod (wrap64 (x24 + 1)) x3) < (x0.length : Int) then (if 0 ≤ (Int.tmod (wrap64 (x24 + 2)) x3) then (if (Int.tmod (wrap64 (x24 + 2)) x3) < (x0.length : Int) then (if (((rd107 x0 x24).f0) == ((rd107 x0 (Int.tmod (wrap64 (x24 + 1)) x3)).f0) && (((rd107 x0 x24).f1) == ((rd107 x0 (Int.tmod (wrap64 (x24 + 1)) x3)).f1))) = true then (impl_ValidPolygon.j1 k x0 x3 x24 ((rd107 x0 x24).f0) ((rd107 x0 x24).f1) ((rd107 x0 (Int.tmod (wrap64 (x24 + 1)) x3)).f0) ((rd107 x0 (Int.tmod (wrap64 (x24 + 1)) x3)).f1) x23 x24 true) else ((impl_on.f ((rd107 x0 x24).f0) ((rd107 x0 x24).f1) ((rd107 x0 (Int.tmod (wrap64 (x24 + 1)) x3)).f0) ((rd107 x0 (Int.tmod (wrap64 (x24 + 1)) x3)).f1) ((rd107 x0 (Int.tmod (wrap64 (x24 + 2)) x3)).f0) ((rd107 x0 (Int.tmod (wrap64 (x24 + 2)) x3)).f1)).bind fun t15 => (if t15 = true then (impl_ValidPolygon.j1 k x0 x3 x24 ((rd107 x0 x24).f0) ((rd107 x0 x24).f1) ((rd107 x0 (Int.tmod (wrap64 (x24 + 1)) x3)).f0) ((rd107 x0 (Int.tmod (wrap64 (x24 + 1)) x3)).f1) x23 x24 true) else ((impl_on.f ((rd107 x0 (Int.tmod (wrap64 (x24 + 1)) x3)).f0) ((rd107 x0 (Int.tmod (wrap64 (x24 + 1)) x3)).f1) ((rd107 x0 (Int.tmod (wrap64 (x24 + 2)) x3)).f0) ((rd107 x0 (Int.tmod (wrap64 (x24 + 2)) x3)).f1) ((rd107 x0 x24).f0) ((rd107 x0 x24).f1)).bind fun t18 => (impl_ValidPolygon.j1 k x0 x3 x24 ((rd107 x0 x24).f0) ((rd107 x0 x24).f1) ((rd107 x0 (Int.tmod (wrap64 (x24 + 1)) x3)).f0) ((rd107 x0 (Int.tmod (wrap64 (x24 + 1)) x3)).f1) x23 x24 t18))))) else (none)) else (none)) else (none)) else (none))) else (none)) else (none)) else ((impl_doubled.f k x0).bind fun t31 => (some (decide (t31 > 0))))
def impl_ValidPolygon.j1 : Nat → List S107 → Int → Int → Int → Int → Int → Int → Int → Int → Bool → Option (Bool)
 | 0, _, _, _, _, _, _, _, _, _, _ => none
 | k + 1, x0, x3, x4, y207_0, y207_1, y208_0, y208_1, x23, x24, x59 => if x59 = true then (some false) else (impl_ValidPolygon.l1 k x0 x3 x4 y207_0 y207_1 y208_0 y208_1 (wrap64 (x4 + 2)) x23 x24)
def impl_ValidPolygon.l1 : Nat → List S107 → Int → Int → Int → Int → Int → Int → Int → Int → Int → Option (Bool)
 | 0, _, _, _, _, _, _, _, _, _, _ => none
 | k + 1, x0, x3, x4, y209_0, y209_1, y210_0, y210_1, x8, x23, x24 => if x8 < x3 then (if x3 = 0 then (none) else (if (Int.tmod (wrap64 (x8 + 1)) x3) = x4 then (impl_ValidPolygon.l1 k x0 x3 x4 y209_0 y209_1 y210_0 y210_1 (wrap64 (x8 + 1)) x23 x24) else (if 0 ≤ x8 then (if x8 < (x0.length : Int) then (if 0 ≤ (Int.tmod (wrap64 (x8 + 1)) x3) then (if (Int.tmod (wrap64 (x8 + 1)) x3) < (x0.length : Int) then ((impl_touching.f y209_0 y209_1 y210_0 y210_1 ((rd107 x0 x8).f0) ((rd107 x0 x8).f1) ((rd107 x0 (Int.tmod (wrap64 (x8 + 1)) x3)).f0) ((rd107 x0 (Int.tmod (wrap64 (x8 + 1)) x3)).f1)).bind fun t28 => (if t28 = true then (some false) else (impl_ValidPolygon.l1 k x0 x3 x4 y209_0 y209_1 y210_0 y210_1 (wrap64 (x8 + 1)) x23 x24))) else (none)) else (none)) else (none)) else (none)))) else (impl_ValidPolygon.l0 k x0 x3 x23 (wrap64 (x24 + 1)))
end
def impl_ValidPolygon.f (k : Nat) (l0 : List S107) : Option (Bool) := if (l0.length : Int) < 3 then (impl_ValidPolygon.j0 k l0 (l0.length : Int) true) else (if (l0.length : Int) > 24 then (impl_ValidPolygon.j0 k l0 (l0.length : Int) true) else ((impl_validPoints.f k l0).bind fun t3 => (impl_ValidPolygon.j0 k l0 (l0.length : Int) (!t3))))
set_option maxRecDepth 100000 in
theorem impl_ValidPolygon.ok {k : Nat} {l0 : List S107} {r : Bool} (H : impl_ValidPolygon.f k l0 = some r) : OkF Try.prog 74 [vR 108 (l0.map c107)] [] (.c (.d (.v (.bool r)))) [] := by
 unfold impl_ValidPolygon.f at H
 refine OkF.of (N := 93) (rs := [2]) (avs := [.c (.d (.v (.bool r)))]) Try.func74 rfl rfl (fun _ _ => results_tmp rfl _ _ _) (by decide) rfl rfl rfl rfl (fun w0 S => ?_)
 refine AG.seq ?_
 refine AG.region HM ?_
 refine a_move (v := vB _) ?_
 refine RA.nil nofun ?_
 refine AG.seq ?_
 refine AG.region HM ?_
 refine a_move (v := vR _ _) ?_
 refine a_lenR ?_ Try.underlying46
 refine a_move (v := vI _) ?_
 refine RA.nil nofun ?_
 refine AG.seq ?_
 refine AG.seq ?_
 refine AG.joinR (fun s => ∃ q, q ≤ k ∧ ∃ (x0 : List S107) (x3 : Int) (x21 : Bool), impl_ValidPolygon.j0 q x0 x3 x21 = some r ∧ s = St.of [(0, vR 108 (x0.map c107)), (3, vI x3), (21, vB x21)] []) ?_ ?_
 ·skip
  refine AG.region HM ?_
  refine a_move (v := vI _) ?_
  refine a_int (u := .bool (decide ((l0.length : Int) < 3))) ?_
  refine a_move (v := vB _) ?_
  by_cases hc1 : (l0.length : Int) < 3
  ·rw [if_pos hc1] at H
   refine RA.skip rfl rfl rfl rfl rfl (decide_eq_true hc1) (by decide) ?_
   refine RA.skip rfl rfl rfl rfl rfl (decide_eq_true hc1) (by decide) ?_
   refine a_pick (b := true) (v := vB _) ?_ (decide_eq_true hc1)
   refine a_move (v := vB _) ?_
   refine RA.skip rfl rfl rfl rfl rfl rfl (by decide) ?_
   refine RA.skip rfl rfl rfl rfl rfl rfl (by decide) ?_
   refine RA.skip rfl rfl rfl rfl rfl rfl (by decide) ?_
   refine a_pick (b := true) (v := vB _) ?_ rfl
   refine RA.nil nofun ?_
   exact CanR.mk id ⟨_, (by omega), _, _, _, H, rfl⟩ ⟨rfl, rfl, rfl, trivial⟩ trivial rfl
  ·rw [if_neg hc1] at H
   refine a_move (v := vI _) ?_ (hg := Gs.yes rfl rfl rfl (decide_eq_false hc1))
   refine a_int (u := .bool (decide ((l0.length : Int) > 24))) ?_ (hg := Gs.yes rfl rfl rfl (decide_eq_false hc1))
   refine a_pick (b := false) (v := vB _) ?_ (decide_eq_false hc1)
   refine a_move (v := vB _) ?_
   by_cases hc2 : (l0.length : Int) > 24
   ·rw [if_pos hc2] at H
    refine RA.skip rfl rfl rfl rfl rfl (decide_eq_true hc2) (by decide) ?_
    refine RA.skip rfl rfl rfl rfl rfl (decide_eq_true hc2) (by decide) ?_
    refine RA.skip rfl rfl rfl rfl rfl (decide_eq_true hc2) (by decide) ?_
    refine a_pick (b := true) (v := vB _) ?_ (decide_eq_true hc2)
    refine RA.nil nofun ?_
    exact CanR.mk id ⟨_, (by omega), _, _, _, H, rfl⟩ ⟨rfl, rfl, rfl, trivial⟩ trivial rfl
   ·rw [if_neg hc2] at H
    refine a_move (v := vR _ _) ?_ (hg := Gs.yes rfl rfl rfl (decide_eq_false hc2))
    obtain ⟨t3, e4, H⟩ := bindO H
    refine a_call (v := vB t3) (nk := []) (L := []) ?_ rfl (impl_validPoints.ok e4) id (qd qn) trivial trivial trivial rfl (hg := Gs.yes rfl rfl rfl (decide_eq_false hc2))
    refine a_un (u := .bool (!t3)) ?_ (hg := Gs.yes rfl rfl rfl (decide_eq_false hc2))
    refine a_pick (b := false) (v := vB _) ?_ (decide_eq_false hc2)
    refine RA.nil nofun ?_
    exact CanR.mk id ⟨_, (by omega), _, _, _, H, rfl⟩ ⟨rfl, rfl, rfl, trivial⟩ trivial rfl
 ·clear H
  rintro _ ⟨k, hj0, x0, x3, x21, H, rfl⟩
  cases k with
  | zero => cases H
  | succ k =>
   rw [impl_ValidPolygon.j0] at H
   by_cases hc5 : x21 = true
   ·rw [if_pos hc5] at H
    refine AG.yes rfl hc5 ?_
    refine AG.seq ?_
    refine AG.region HM ?_
    refine a_move (v := vB _) ?_
    refine RA.nil nofun ?_
    refine AG.ret ?_
    obtain rfl := Option.some.inj H
    exact RetP.mk id ⟨rfl, trivial⟩ trivial rfl
   ·rw [if_neg hc5] at H
    refine AG.no rfl (Bool.eq_false_iff.2 hc5) ?_
    refine AG.skip ?_
    refine AG.seq ?_
    refine AG.seq ?_
    refine AG.region HM ?_
    refine a_move (v := vR _ _) ?_
    refine a_lenR ?_ Try.underlying46
    refine a_move (v := vI _) ?_
    refine RA.nil nofun ?_
    refine AG.block ?_
    refine AG.loop ?_
    obtain ⟨K0, hK0, gK0⟩ : ∃ K, k ≤ K ∧ K ≤ k := ⟨k, Nat.le_refl k, Nat.le_refl k⟩
    refine AGr.canon id (AGr.loopI (n := k) (fun k s => k ≤ K0 ∧ ∃ (x0 : List S107) (x3 : Int) (x23 : Int) (x24 : Int), impl_ValidPolygon.l0 k x0 x3 x23 x24 = some r ∧ s = St.of [(0, vR 108 (x0.map c107)), (3, vI x3), (23, vI x23), (24, vI x24)] []) ⟨hK0, _, _, _, _, H, rfl⟩ ?_ ?_) ⟨rfl, rfl, rfl, rfl, trivial⟩ trivial rfl
    ·rintro _ ⟨_, _, _, _, _, H, _⟩
     cases H
    ·clear H hK0
     rintro k ih0 _ ⟨hK0, x0, x3, x23, x24, H, rfl⟩
     unfold impl_ValidPolygon.l0 at H
     refine AG.seq ?_
     refine AG.region HM ?_
     refine a_int (u := .bool (decide (x24 < x23))) ?_
     refine RA.nil nofun ?_
     refine AG.seq ?_
     by_cases hc6 : x24 < x23
     ·rw [if_pos hc6] at H
      refine AG.yes rfl (decide_eq_true hc6) ?_
      refine AG.skip ?_
      refine AG.seq ?_
      refine AG.block ?_
      refine AG.seq ?_
      refine AG.region HM ?_
      refine a_move (v := vI _) ?_
      refine a_move (v := vI _) ?_
      refine RA.nil nofun ?_
      refine AG.seq ?_
      refine AG.region HM ?_
      refine a_move (v := vR _ _) ?_
      refine a_move (v := vI _) ?_
      by_cases hc7 : 0 ≤ x24
      ·rw [if_pos hc7] at H
       by_cases hc8 : x24 < (x0.length : Int)
       ·rw [if_pos hc8] at H
        refine a_ixR (el := c107 (rd107 x0 x24)) ?_ ⟨hc7, hc8⟩ T108 Try.underlying46 (hel := R107 hc7 hc8)
        refine a_ldR (v := .agg [_, _]) ?_ T108
        refine a_move (v := vR _ _) ?_
        refine a_move (v := vI _) ?_
        refine a_int (u := .int .i64 (wrap64 (x24 + 1))) ?_
        refine a_move (v := vI _) ?_
        by_cases hc9 : x3 = 0
        ·rw [if_pos hc9] at H
         cases H
        ·rw [if_neg hc9] at H
         refine a_rem (r := Int.tmod (wrap64 (x24 + 1)) x3) ?_ hc9
         by_cases hc10 : 0 ≤ (Int.tmod (wrap64 (x24 + 1)) x3)
         ·rw [if_pos hc10] at H
          by_cases hc11 : (Int.tmod (wrap64 (x24 + 1)) x3) < (x0.length : Int)
          ·rw [if_pos hc11] at H
           refine a_ixR (el := c107 (rd107 x0 (Int.tmod (wrap64 (x24 + 1)) x3))) ?_ ⟨hc10, hc11⟩ T108 Try.underlying46 (hel := R107 hc10 hc11)
           refine a_ldR (v := .agg [_, _]) ?_ T108
           refine a_move (v := vR _ _) ?_
           refine a_move (v := vI _) ?_
           refine a_int (u := .int .i64 (wrap64 (x24 + 2))) ?_
           refine a_move (v := vI _) ?_
           refine a_rem (r := Int.tmod (wrap64 (x24 + 2)) x3) ?_ hc9
           by_cases hc12 : 0 ≤ (Int.tmod (wrap64 (x24 + 2)) x3)
           ·rw [if_pos hc12] at H
            by_cases hc13 : (Int.tmod (wrap64 (x24 + 2)) x3) < (x0.length : Int)
            ·rw [if_pos hc13] at H
             refine a_ixR (el := c107 (rd107 x0 (Int.tmod (wrap64 (x24 + 2)) x3))) ?_ ⟨hc12, hc13⟩ T108 Try.underlying46 (hel := R107 hc12 hc13)
             refine a_ldR (v := .agg [_, _]) ?_ T108
             refine a_alloc (cs := [_, _]) 202 ?_ T108
             refine a_alloc (cs := [_, _]) 203 ?_ T108
             refine a_alloc (cs := [_, _]) 204 ?_ T108
             refine a_stB (cs' := [_, _]) ?_ T108
             refine a_stB (cs' := [_, _]) ?_ T108
             refine a_stB (cs' := [_, _]) ?_ T108
             refine RA.nil (fun _ => by kernel_rfl) ?_
             refine AG.seq ?_
             refine AG.seq ?_
             refine AG.joinR (fun s => ∃ q, q ≤ k ∧ ∃ (x0 : List S107) (x3 : Int) (x4 : Int) (y207_0 : Int) (y207_1 : Int) (y208_0 : Int) (y208_1 : Int) (x23 : Int) (x24 : Int) (x59 : Bool), impl_ValidPolygon.j1 q x0 x3 x4 y207_0 y207_1 y208_0 y208_1 x23 x24 x59 = some r ∧ s = St.of [(0, vR 108 (x0.map c107)), (3, vI x3), (4, vI x4), (5, .c (.ptr 207 0)), (6, .c (.ptr 208 0)), (23, vI x23), (24, vI x24), (59, vB x59)] [(207, .box 108 [.d (.v (.int .i64 y207_0)), .d (.v (.int .i64 y207_1))]), (208, .box 108 [.d (.v (.int .i64 y208_0)), .d (.v (.int .i64 y208_1))])]) ?_ ?_
             ·skip
              refine AG.region HM ?_
              refine a_ldB (v := .agg [_, _]) ?_ T108
              refine a_ldB (v := .agg [_, _]) ?_ T108
              refine a_eqS (b := (((rd107 x0 x24).f0) == ((rd107 x0 (Int.tmod (wrap64 (x24 + 1)) x3)).f0) && (((rd107 x0 x24).f1) == ((rd107 x0 (Int.tmod (wrap64 (x24 + 1)) x3)).f1)))) ?_ (.inl ⟨rfl, rfl⟩) (Q108 ((rd107 x0 x24).f0) ((rd107 x0 (Int.tmod (wrap64 (x24 + 1)) x3)).f0) ((rd107 x0 x24).f1) ((rd107 x0 (Int.tmod (wrap64 (x24 + 1)) x3)).f1)).1
              refine a_move (v := vB _) ?_
              by_cases hc14 : (((rd107 x0 x24).f0) == ((rd107 x0 (Int.tmod (wrap64 (x24 + 1)) x3)).f0) && (((rd107 x0 x24).f1) == ((rd107 x0 (Int.tmod (wrap64 (x24 + 1)) x3)).f1))) = true
              ·rw [if_pos hc14] at H
               refine RA.skip rfl rfl rfl rfl rfl hc14 (by decide) ?_
               refine RA.skip rfl rfl rfl rfl rfl hc14 (by decide) ?_
               refine RA.skip rfl rfl rfl rfl rfl hc14 (by decide) ?_
               refine RA.skip rfl rfl rfl rfl rfl hc14 (by decide) ?_
               refine a_pick (b := true) (v := vB _) ?_ hc14
               refine a_move (v := vB _) ?_
               refine RA.skip rfl rfl rfl rfl rfl rfl (by decide) ?_
               refine RA.skip rfl rfl rfl rfl rfl rfl (by decide) ?_
               refine RA.skip rfl rfl rfl rfl rfl rfl (by decide) ?_
               refine RA.skip rfl rfl rfl rfl rfl rfl (by decide) ?_
               refine a_pick (b := true) (v := vB _) ?_ rfl
               refine RA.nil nofun ?_
               exact CanR.mk (fun κ => cond (Nat.beq κ 207) 202 (cond (Nat.beq κ 208) 203 (κ))) ⟨_, (by omega), _, _, _, _, _, _, _, _, _, _, H, rfl⟩ ⟨rfl, rfl, rfl, rfl, rfl, rfl, rfl, rfl, trivial⟩ ⟨rfl, rfl, trivial⟩ rfl
              ·rw [if_neg hc14] at H
               refine a_ldB (v := .agg [_, _]) ?_ T108 (hg := Gs.yes rfl rfl rfl (Bool.eq_false_iff.2 hc14))
               refine a_ldB (v := .agg [_, _]) ?_ T108 (hg := Gs.yes rfl rfl rfl (Bool.eq_false_iff.2 hc14))
               refine a_ldB (v := .agg [_, _]) ?_ T108 (hg := Gs.yes rfl rfl rfl (Bool.eq_false_iff.2 hc14))
               obtain ⟨t15, e16, H⟩ := bindO H
               refine a_call (v := vB t15) (nk := []) (L := []) ?_ rfl (impl_on.ok e16) id (qg (qg (qg qn))) trivial trivial trivial rfl (hg := Gs.yes rfl rfl rfl (Bool.eq_false_iff.2 hc14))
               refine a_pick (b := false) (v := vB _) ?_ (Bool.eq_false_iff.2 hc14)
               refine a_move (v := vB _) ?_
               by_cases hc17 : t15 = true
               ·rw [if_pos hc17] at H
                refine RA.skip rfl rfl rfl rfl rfl hc17 (by decide) ?_
                refine RA.skip rfl rfl rfl rfl rfl hc17 (by decide) ?_
                refine RA.skip rfl rfl rfl rfl rfl hc17 (by decide) ?_
                refine RA.skip rfl rfl rfl rfl rfl hc17 (by decide) ?_
                refine a_pick (b := true) (v := vB _) ?_ hc17
                refine RA.nil nofun ?_
                exact CanR.mk (fun κ => cond (Nat.beq κ 207) 202 (cond (Nat.beq κ 208) 203 (κ))) ⟨_, (by omega), _, _, _, _, _, _, _, _, _, _, H, rfl⟩ ⟨rfl, rfl, rfl, rfl, rfl, rfl, rfl, rfl, trivial⟩ ⟨rfl, rfl, trivial⟩ rfl
               ·rw [if_neg hc17] at H
                refine a_ldB (v := .agg [_, _]) ?_ T108 (hg := Gs.yes rfl rfl rfl (Bool.eq_false_iff.2 hc17))
                refine a_ldB (v := .agg [_, _]) ?_ T108 (hg := Gs.yes rfl rfl rfl (Bool.eq_false_iff.2 hc17))
                refine a_ldB (v := .agg [_, _]) ?_ T108 (hg := Gs.yes rfl rfl rfl (Bool.eq_false_iff.2 hc17))
                obtain ⟨t18, e19, H⟩ := bindO H
                refine a_call (v := vB t18) (nk := []) (L := []) ?_ rfl (impl_on.ok e19) id (qg (qg (qg qn))) trivial trivial trivial rfl (hg := Gs.yes rfl rfl rfl (Bool.eq_false_iff.2 hc17))
                refine a_pick (b := false) (v := vB _) ?_ (Bool.eq_false_iff.2 hc17)
                refine RA.nil nofun ?_
                exact CanR.mk (fun κ => cond (Nat.beq κ 207) 202 (cond (Nat.beq κ 208) 203 (κ))) ⟨_, (by omega), _, _, _, _, _, _, _, _, _, _, H, rfl⟩ ⟨rfl, rfl, rfl, rfl, rfl, rfl, rfl, rfl, trivial⟩ ⟨rfl, rfl, trivial⟩ rfl
             ·clear H
              rintro _ ⟨k, hj1, x0, x3, x4, y207_0, y207_1, y208_0, y208_1, x23, x24, x59, H, rfl⟩
              cases k with
              | zero => cases H
              | succ k =>
               rw [impl_ValidPolygon.j1] at H
               by_cases hc20 : x59 = true
               ·rw [if_pos hc20] at H
                refine AG.yes rfl hc20 ?_
                refine AG.seq ?_
                refine AG.region HM ?_
                refine a_move (v := vB _) ?_
                refine RA.nil nofun ?_
                refine AG.ret ?_
                obtain rfl := Option.some.inj H
                exact RetP.mk id ⟨rfl, trivial⟩ trivial rfl
               ·rw [if_neg hc20] at H
                refine AG.no rfl (Bool.eq_false_iff.2 hc20) ?_
                refine AG.skip ?_
                refine AG.seq ?_
                refine AG.region HM ?_
                refine a_move (v := vI _) ?_
                refine a_int (u := .int .i64 (wrap64 (x4 + 2))) ?_
                refine a_move (v := vI _) ?_
                refine RA.nil nofun ?_
                refine AG.block ?_
                refine AG.loop ?_
                obtain ⟨K1, hK1, gK1⟩ : ∃ K, k ≤ K ∧ K ≤ k := ⟨k, Nat.le_refl k, Nat.le_refl k⟩
                refine AGr.canon (fun κ => cond (Nat.beq κ 209) 207 (cond (Nat.beq κ 210) 208 (κ))) (AGr.loopI (n := k) (fun k s => k ≤ K1 ∧ ∃ (x0 : List S107) (x3 : Int) (x4 : Int) (y209_0 : Int) (y209_1 : Int) (y210_0 : Int) (y210_1 : Int) (x8 : Int) (x23 : Int) (x24 : Int), impl_ValidPolygon.l1 k x0 x3 x4 y209_0 y209_1 y210_0 y210_1 x8 x23 x24 = some r ∧ s = St.of [(0, vR 108 (x0.map c107)), (3, vI x3), (4, vI x4), (5, .c (.ptr 209 0)), (6, .c (.ptr 210 0)), (8, vI x8), (23, vI x23), (24, vI x24)] [(209, .box 108 [.d (.v (.int .i64 y209_0)), .d (.v (.int .i64 y209_1))]), (210, .box 108 [.d (.v (.int .i64 y210_0)), .d (.v (.int .i64 y210_1))])]) ⟨hK1, _, _, _, _, _, _, _, _, _, _, H, rfl⟩ ?_ ?_) ⟨rfl, rfl, rfl, rfl, rfl, rfl, rfl, rfl, trivial⟩ ⟨rfl, rfl, trivial⟩ rfl
                ·rintro _ ⟨_, _, _, _, _, _, _, _, _, _, _, H, _⟩
                 cases H
                ·clear H hK1
                 rintro k ih1 _ ⟨hK1, x0, x3, x4, y209_0, y209_1, y210_0, y210_1, x8, x23, x24, H, rfl⟩
                 unfold impl_ValidPolygon.l1 at H
                 refine AG.seq ?_
                 refine AG.seq ?_
                 refine AG.region HM ?_
                 refine a_move (v := vI _) ?_
                 refine a_move (v := vI _) ?_
                 refine a_int (u := .bool (decide (x8 < x3))) ?_
                 refine RA.nil nofun ?_
                 by_cases hc21 : x8 < x3
                 ·rw [if_pos hc21] at H
                  refine AG.yes rfl (decide_eq_true hc21) ?_
                  refine AG.skip ?_
                  refine AG.seq ?_
                  refine AG.block ?_
                  refine AG.seq ?_
                  refine AG.region HM ?_
                  refine a_move (v := vI _) ?_
                  refine a_int (u := .int .i64 (wrap64 (x8 + 1))) ?_
                  refine a_move (v := vI _) ?_
                  by_cases hc22 : x3 = 0
                  ·rw [if_pos hc22] at H
                   cases H
                  ·rw [if_neg hc22] at H
                   refine a_rem (r := Int.tmod (wrap64 (x8 + 1)) x3) ?_ hc22
                   refine a_move (v := vI _) ?_
                   refine a_int (u := .bool (((Int.tmod (wrap64 (x8 + 1)) x3) != x4))) ?_
                   refine a_move (v := vB _) ?_
                   by_cases hc23 : (Int.tmod (wrap64 (x8 + 1)) x3) = x4
                   ·rw [if_pos hc23] at H
                    refine RA.skip rfl rfl rfl rfl rfl (bne_eq_false_iff_eq.2 hc23) (by decide) ?_
                    refine RA.skip rfl rfl rfl rfl rfl (bne_eq_false_iff_eq.2 hc23) (by decide) ?_
                    refine RA.skip rfl rfl rfl rfl rfl (bne_eq_false_iff_eq.2 hc23) (by decide) ?_
                    refine RA.skip rfl rfl rfl rfl rfl (bne_eq_false_iff_eq.2 hc23) (by decide) ?_
                    refine RA.skip rfl rfl rfl rfl rfl (bne_eq_false_iff_eq.2 hc23) (by decide) ?_
                    refine RA.skip rfl rfl rfl rfl rfl (bne_eq_false_iff_eq.2 hc23) (by decide) ?_
                    refine RA.skip rfl rfl rfl rfl rfl (bne_eq_false_iff_eq.2 hc23) (by decide) ?_
                    refine RA.skip rfl rfl rfl rfl rfl (bne_eq_false_iff_eq.2 hc23) (by decide) ?_
                    refine RA.skip rfl rfl rfl rfl rfl (bne_eq_false_iff_eq.2 hc23) (by decide) ?_
                    refine RA.skip rfl rfl rfl rfl rfl (bne_eq_false_iff_eq.2 hc23) (by decide) ?_
                    refine RA.skip rfl rfl rfl rfl rfl (bne_eq_false_iff_eq.2 hc23) (by decide) ?_
                    refine RA.skip rfl rfl rfl rfl rfl (bne_eq_false_iff_eq.2 hc23) (by decide) ?_
                    refine RA.skip rfl rfl rfl rfl rfl (bne_eq_false_iff_eq.2 hc23) (by decide) ?_
                    refine RA.skip rfl rfl rfl rfl rfl (bne_eq_false_iff_eq.2 hc23) (by decide) ?_
                    refine a_pick (b := false) (v := vB _) ?_ (bne_eq_false_iff_eq.2 hc23)
                    refine RA.nil (fun _ => by kernel_rfl) ?_
                    refine AG.no rfl rfl ?_
                    refine AG.skip ?_
                    refine AG.region HM ?_
                    refine a_move (v := vI _) ?_
                    refine a_int (u := .int .i64 (wrap64 (x8 + 1))) ?_
                    refine a_move (v := vI _) ?_
                    refine RA.nil nofun ?_
                    exact AGr.canon id (ih1 _ (by omega) _ ⟨by omega, _, _, _, _, _, _, _, _, _, _, H, rfl⟩) ⟨rfl, rfl, rfl, rfl, rfl, rfl, rfl, rfl, trivial⟩ ⟨rfl, rfl, trivial⟩ rfl
                   ·rw [if_neg hc23] at H
                    refine a_ldB (v := .agg [_, _]) ?_ T108 (hg := Gs.yes rfl rfl rfl (bne_iff_ne.2 hc23))
                    refine a_ldB (v := .agg [_, _]) ?_ T108 (hg := Gs.yes rfl rfl rfl (bne_iff_ne.2 hc23))
                    refine a_move (v := vR _ _) ?_ (hg := Gs.yes rfl rfl rfl (bne_iff_ne.2 hc23))
                    refine a_move (v := vI _) ?_ (hg := Gs.yes rfl rfl rfl (bne_iff_ne.2 hc23))
                    by_cases hc24 : 0 ≤ x8
                    ·rw [if_pos hc24] at H
                     by_cases hc25 : x8 < (x0.length : Int)
                     ·rw [if_pos hc25] at H
                      refine a_ixR (el := c107 (rd107 x0 x8)) ?_ ⟨hc24, hc25⟩ T108 Try.underlying46 (hel := R107 hc24 hc25) (hg := Gs.yes rfl rfl rfl (bne_iff_ne.2 hc23))
                      refine a_ldR (v := .agg [_, _]) ?_ T108 (hg := Gs.yes rfl rfl rfl (bne_iff_ne.2 hc23))
                      refine a_move (v := vR _ _) ?_ (hg := Gs.yes rfl rfl rfl (bne_iff_ne.2 hc23))
                      refine a_move (v := vI _) ?_ (hg := Gs.yes rfl rfl rfl (bne_iff_ne.2 hc23))
                      refine a_int (u := .int .i64 (wrap64 (x8 + 1))) ?_ (hg := Gs.yes rfl rfl rfl (bne_iff_ne.2 hc23))
                      refine a_move (v := vI _) ?_ (hg := Gs.yes rfl rfl rfl (bne_iff_ne.2 hc23))
                      refine a_rem (r := Int.tmod (wrap64 (x8 + 1)) x3) ?_ hc22 (hg := Gs.yes rfl rfl rfl (bne_iff_ne.2 hc23))
                      by_cases hc26 : 0 ≤ (Int.tmod (wrap64 (x8 + 1)) x3)
                      ·rw [if_pos hc26] at H
                       by_cases hc27 : (Int.tmod (wrap64 (x8 + 1)) x3) < (x0.length : Int)
                       ·rw [if_pos hc27] at H
                        refine a_ixR (el := c107 (rd107 x0 (Int.tmod (wrap64 (x8 + 1)) x3))) ?_ ⟨hc26, hc27⟩ T108 Try.underlying46 (hel := R107 hc26 hc27) (hg := Gs.yes rfl rfl rfl (bne_iff_ne.2 hc23))
                        refine a_ldR (v := .agg [_, _]) ?_ T108 (hg := Gs.yes rfl rfl rfl (bne_iff_ne.2 hc23))
                        obtain ⟨t28, e29, H⟩ := bindO H
                        refine a_call (v := vB t28) (nk := []) (L := []) ?_ rfl (impl_touching.ok e29) id (qg (qg (qg (qg qn)))) trivial trivial trivial rfl (hg := Gs.yes rfl rfl rfl (bne_iff_ne.2 hc23))
                        refine a_pick (b := true) (v := vB _) ?_ (bne_iff_ne.2 hc23)
                        refine RA.nil (fun _ => by kernel_rfl) ?_
                        by_cases hc30 : t28 = true
                        ·rw [if_pos hc30] at H
                         refine AG.yes rfl hc30 ?_
                         refine AG.seq ?_
                         refine AG.region HM ?_
                         refine a_move (v := vB _) ?_
                         refine RA.nil nofun ?_
                         refine AG.ret ?_
                         obtain rfl := Option.some.inj H
                         exact RetP.mk id ⟨rfl, trivial⟩ trivial rfl
                        ·rw [if_neg hc30] at H
                         refine AG.no rfl (Bool.eq_false_iff.2 hc30) ?_
                         refine AG.skip ?_
                         refine AG.region HM ?_
                         refine a_move (v := vI _) ?_
                         refine a_int (u := .int .i64 (wrap64 (x8 + 1))) ?_
                         refine a_move (v := vI _) ?_
                         refine RA.nil nofun ?_
                         exact AGr.canon id (ih1 _ (by omega) _ ⟨by omega, _, _, _, _, _, _, _, _, _, _, H, rfl⟩) ⟨rfl, rfl, rfl, rfl, rfl, rfl, rfl, rfl, trivial⟩ ⟨rfl, rfl, trivial⟩ rfl
                       ·rw [if_neg hc27] at H
                        cases H
                      ·rw [if_neg hc26] at H
                       cases H
                     ·rw [if_neg hc25] at H
                      cases H
                    ·rw [if_neg hc24] at H
                     cases H
                 ·rw [if_neg hc21] at H
                  refine AG.no rfl (decide_eq_false hc21) ?_
                  refine AG.exit ?_
                  refine AG.region HM ?_
                  refine a_int (u := .int .i64 (wrap64 (x24 + 1))) ?_
                  refine a_move (v := vI _) ?_
                  refine RA.nil nofun ?_
                  exact AGr.canon id (ih0 _ (by omega) _ ⟨by omega, _, _, _, _, H, rfl⟩) ⟨rfl, rfl, rfl, rfl, trivial⟩ trivial rfl
            ·rw [if_neg hc13] at H
             cases H
           ·rw [if_neg hc12] at H
            cases H
          ·rw [if_neg hc11] at H
           cases H
         ·rw [if_neg hc10] at H
          cases H
       ·rw [if_neg hc8] at H
        cases H
      ·rw [if_neg hc7] at H
       cases H
     ·rw [if_neg hc6] at H
      refine AG.no rfl (decide_eq_false hc6) ?_
      refine AG.exit ?_
      refine AG.seq ?_
      refine AG.region HM ?_
      refine a_move (v := vR _ _) ?_
      obtain ⟨t31, e32, H⟩ := bindO H
      refine a_call (v := vI t31) (nk := []) (L := []) ?_ rfl (impl_doubled.ok e32) id (qd qn) trivial trivial trivial rfl
      refine a_int (u := .bool (decide (t31 > 0))) ?_
      refine a_move (v := vB _) ?_
      refine RA.nil nofun ?_
      refine AG.ret ?_
      obtain rfl := Option.some.inj H
      exact RetP.mk id ⟨rfl, trivial⟩ trivial rfl
end Go.Proofs.Ytadjbffiomkljaa.PFnExactLeastContrast

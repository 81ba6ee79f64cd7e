/- What each function that the law FnExactShelfPlan reaches comes to, and the proof that its walk comes to it; laid by a program of this session. No condition. -/
import Derived.Test.YtedakffelgmmnaaPFnExactShelfPlanx0
import Derived.KernelRfl
import Derived.OwnWalk
import Derived.Test.YtedakffelgmmnaaProg
set_option linter.unusedVariables false
set_option linter.unusedSimpArgs false
namespace Go.Proofs.Ytedakffelgmmnaa.PFnExactShelfPlan
open Go Go.RowKit Go.Proofs.YtedakffelgmmnaaM Go.Proofs
/-! ### laws_heldInt64SS: function 12 -/
def laws_heldInt64SS.l0 : Nat → List (List Int) → Int → Int → Option (Int)
 | 0, _, _, _ => none
 | k + 1, x0, x1, x5 => if x5 < (x0.length : Int) then (if 0 ≤ x5 then ((laws_heldInt64S.f k (rd36 x0 x5) x1).bind fun t3 => (if t3 < 0 then (some (-1)) else (laws_heldInt64SS.l0 k x0 t3 (wrap64 (x5 + 1))))) else (none)) else (some x1)
def laws_heldInt64SS.f (k : Nat) (l0 : List (List Int)) (a1 : Int) : Option (Int) := laws_heldInt64SS.l0 k l0 a1 0
set_option maxRecDepth 100000 in
theorem laws_heldInt64SS.ok {k : Nat} {l0 : List (List Int)} {a1 : Int} {r : Int} (H : laws_heldInt64SS.f k l0 a1 = some r) : OkF Try.prog 12 [vR 36 (l0.map c36), vI a1] [] (.c (.d (.v (.int .i64 r)))) [] := by
 unfold laws_heldInt64SS.f at H
 refine OkF.of (N := 21) (rs := [4]) (avs := [.c (.d (.v (.int .i64 r)))]) Try.func12 rfl rfl (fun _ _ => results_tmp rfl _ _ _) (by decide) rfl rfl rfl rfl (fun w0 S => ?_)
 refine AG.seq ?_
 refine AG.region HM ?_
 refine a_move (v := vI _) ?_
 refine RA.nil nofun ?_
 refine AG.seq ?_
 refine AG.seq ?_
 refine AG.region HM ?_
 refine a_move (v := vI _) ?_
 refine RA.nil nofun ?_
 refine AG.block ?_
 refine AG.loop ?_
 obtain ⟨K0, hK0, gK0⟩ : ∃ K, k ≤ K ∧ K ≤ k := ⟨k, Nat.le_refl k, Nat.le_refl k⟩
 refine AGr.canon id (AGr.loopI (n := k) (fun k s => k ≤ K0 ∧ ∃ (x0 : List (List Int)) (x1 : Int) (x5 : Int), laws_heldInt64SS.l0 k x0 x1 x5 = some r ∧ s = St.of [(0, vR 36 (x0.map c36)), (1, vI x1), (5, vI x5)] []) ⟨hK0, _, _, _, H, rfl⟩ ?_ ?_) ⟨rfl, rfl, rfl, trivial⟩ trivial rfl
 ·rintro _ ⟨_, _, _, _, H, _⟩
  cases H
 ·clear H hK0
  rintro k ih0 _ ⟨hK0, x0, x1, x5, H, rfl⟩
  unfold laws_heldInt64SS.l0 at H
  refine AG.seq ?_
  refine AG.seq ?_
  refine AG.region HM ?_
  refine a_move (v := vI _) ?_
  refine a_move (v := vR _ _) ?_
  refine a_lenR ?_ Try.underlying22
  refine a_int (u := .bool (decide (x5 < (x0.length : Int)))) ?_
  refine RA.nil nofun ?_
  by_cases hc1 : x5 < (x0.length : Int)
  ·rw [if_pos hc1] at H
   refine AG.yes rfl (decide_eq_true hc1) ?_
   refine AG.skip ?_
   refine AG.seq ?_
   refine AG.block ?_
   refine AG.seq ?_
   refine AG.region HM ?_
   refine a_move (v := vR _ _) ?_
   refine a_move (v := vI _) ?_
   by_cases hc2 : 0 ≤ x5
   ·rw [if_pos hc2] at H
    refine a_ixR (el := c36 (rd36 x0 x5)) ?_ ⟨hc2, hc1⟩ T36 Try.underlying22 (hel := R36 hc2 hc1)
    refine a_ldR (v := vR _ _) ?_ T36
    refine a_move (v := vI _) ?_
    obtain ⟨t3, e4, H⟩ := bindO H
    refine a_call (v := vI t3) (nk := []) (L := []) ?_ rfl (laws_heldInt64S.ok e4) id (qd (qd qn)) trivial trivial trivial rfl
    refine a_move (v := vI _) ?_
    refine RA.nil nofun ?_
    refine AG.seq ?_
    refine AG.region HM ?_
    refine a_move (v := vI _) ?_
    refine a_int (u := .bool (decide (t3 < 0))) ?_
    refine RA.nil nofun ?_
    by_cases hc5 : t3 < 0
    ·rw [if_pos hc5] at H
     refine AG.yes rfl (decide_eq_true hc5) ?_
     refine AG.seq ?_
     refine AG.region HM ?_
     refine a_move (v := vI _) ?_
     refine RA.nil nofun ?_
     refine AG.ret ?_
     obtain rfl := Option.some.inj H
     exact RetP.mk id ⟨rfl, trivial⟩ trivial rfl
    ·rw [if_neg hc5] at H
     refine AG.no rfl (decide_eq_false hc5) ?_
     refine AG.skip ?_
     refine AG.region HM ?_
     refine a_move (v := vI _) ?_
     refine a_int (u := .int .i64 (wrap64 (x5 + 1))) ?_
     refine a_move (v := vI _) ?_
     refine RA.nil nofun ?_
     exact AGr.canon id (ih0 _ (by omega) _ ⟨by omega, _, _, _, H, rfl⟩) ⟨rfl, rfl, rfl, trivial⟩ trivial rfl
   ·rw [if_neg hc2] at H
    cases H
  ·rw [if_neg hc1] at H
   refine AG.no rfl (decide_eq_false hc1) ?_
   refine AG.exit ?_
   refine AG.seq ?_
   refine AG.region HM ?_
   refine a_move (v := vI _) ?_
   refine a_move (v := vI _) ?_
   refine RA.nil nofun ?_
   refine AG.ret ?_
   obtain rfl := Option.some.inj H
   exact RetP.mk id ⟨rfl, trivial⟩ trivial rfl
/-! ### laws_FnExactShelfPlan: function 3 -/
mutual
def laws_FnExactShelfPlan.j0 : Nat → List (List Int) → Int → Int → List (List Int) → Int → List (List Int) → List (List Int) → Int → Bool → Option (Bool)
 | 0, _, _, _, _, _, _, _, _, _ => none
 | k + 1, x0, x1, x2, x8, x9, x10, x11, x12, x48 => if x48 = true then (some false) else ((laws_toInt64SS.f k x0).bind fun t18 => ((laws_eqInt64SS.f k x10 t18).bind fun t20 => (if t20 = true then ((laws_markInt64SS.f k x10 1).bind fun bt23 => (if bt23.1 < 0 then (laws_FnExactShelfPlan.j1 k x0 x1 x2 x8 x9 x11 true) else ((laws_eqInt64SS.f k x11 x8).bind fun t27 => (if t27 = true then (laws_FnExactShelfPlan.j1 k x0 x1 x2 x8 x9 x11 (x12 != x9)) else (laws_FnExactShelfPlan.j1 k x0 x1 x2 x8 x9 x11 true))))) else (some false))))
def laws_FnExactShelfPlan.j1 : Nat → List (List Int) → Int → Int → List (List Int) → Int → List (List Int) → Bool → Option (Bool)
 | 0, _, _, _, _, _, _, _ => none
 | k + 1, x0, x1, x2, x8, x9, x11, x69 => if x69 = true then (some false) else ((laws_markInt64SS.f k x11 1).bind fun bt31 => ((laws_heldInt64SS.f k bt31.2 1).bind fun t34 => (if t34 < 0 then (some false) else (if t34 = bt31.1 then ((laws_toInt64SS.f k x0).bind fun t38 => ((impl_ShelfPlan.f k t38 x1 x2).bind fun bt40 => ((laws_eqInt64SS.f k bt40.1 x8).bind fun t43 => (if t43 = true then (laws_FnExactShelfPlan.j2 k bt31.2 bt31.1 (bt40.2 != x9)) else (laws_FnExactShelfPlan.j2 k bt31.2 bt31.1 true))))) else (some false)))))
def laws_FnExactShelfPlan.j2 : Nat → List (List Int) → Int → Bool → Option (Bool)
 | 0, _, _, _ => none
 | k + 1, x11, x14, x97 => if x97 = true then (some false) else ((laws_heldInt64SS.f k x11 1).bind fun t47 => (if t47 < 0 then (some false) else (if t47 = x14 then (some true) else (some false))))
end
def laws_FnExactShelfPlan.f (k : Nat) (l0 : List (List Int)) (a1 : Int) (a2 : Int) : Option (Bool) := (laws_szInt64SS.f k l0 1048576).bind fun t1 => (if t1 < 0 then (some true) else ((laws_toInt64SS.f k l0).bind fun t4 => ((spec_ShelfPlan.f k t4 a1 a2).bind fun bt6 => ((laws_toInt64SS.f k l0).bind fun t9 => ((impl_ShelfPlan.f k t9 a1 a2).bind fun bt11 => ((laws_eqInt64SS.f k bt11.1 bt6.1).bind fun t14 => (if t14 = true then (laws_FnExactShelfPlan.j0 k l0 a1 a2 bt6.1 bt6.2 t9 bt11.1 bt11.2 (bt11.2 != bt6.2)) else (laws_FnExactShelfPlan.j0 k l0 a1 a2 bt6.1 bt6.2 t9 bt11.1 bt11.2 true))))))))
set_option maxRecDepth 100000 in
theorem laws_FnExactShelfPlan.ok {k : Nat} {l0 : List (List Int)} {a1 : Int} {a2 : Int} {r : Bool} (H : laws_FnExactShelfPlan.f k l0 a1 a2 = some r) : OkF Try.prog 3 [vR 36 (l0.map c36), vI a1, vI a2] [] (.c (.d (.v (.bool r)))) [] := by
 unfold laws_FnExactShelfPlan.f at H
 refine OkF.of (N := 106) (rs := [6]) (avs := [.c (.d (.v (.bool r)))]) Try.func3 rfl rfl (fun _ _ => results_tmp rfl _ _ _) (by decide) rfl rfl rfl rfl (fun w0 S => ?_)
 refine AG.seq ?_
 refine AG.region HM ?_
 refine a_move (v := vB _) ?_
 refine RA.nil nofun ?_
 refine AG.seq ?_
 refine AG.region HM ?_
 refine a_move (v := vI _) ?_
 refine RA.nil nofun ?_
 refine AG.seq ?_
 refine AG.region HM ?_
 refine a_move (v := vR _ _) ?_
 refine a_move (v := vI _) ?_
 obtain ⟨t1, e2, H⟩ := bindO H
 refine a_call (v := vI t1) (nk := []) (L := []) ?_ rfl (laws_szInt64SS.ok e2) id (qd (qd qn)) trivial trivial trivial rfl
 refine a_move (v := vI _) ?_
 refine RA.nil nofun ?_
 refine AG.seq ?_
 refine AG.seq ?_
 refine AG.region HM ?_
 refine a_move (v := vI _) ?_
 refine a_int (u := .bool (decide (t1 < 0))) ?_
 refine RA.nil nofun ?_
 by_cases hc3 : t1 < 0
 ·rw [if_pos hc3] at H
  refine AG.yes rfl (decide_eq_true hc3) ?_
  refine AG.seq ?_
  refine AG.region HM ?_
  refine a_move (v := vB _) ?_
  refine RA.nil nofun ?_
  refine AG.ret ?_
  obtain rfl := Option.some.inj H
  exact RetP.mk id ⟨rfl, trivial⟩ trivial rfl
 ·rw [if_neg hc3] at H
  refine AG.no rfl (decide_eq_false hc3) ?_
  refine AG.skip ?_
  refine AG.seq ?_
  refine AG.region HM ?_
  refine a_move (v := vR _ _) ?_
  obtain ⟨t4, e5, H⟩ := bindO H
  refine a_call (v := .c (.own 201 t4.length)) (nk := [(201, .row 36 (t4.map c36))]) (L := []) ?_ rfl (laws_toInt64SS.ok e5) (fun κ => cond (Nat.beq κ 201) 100 (κ)) (qd qn) trivial ⟨rfl, trivial⟩ ⟨rfl, trivial⟩ rfl
  refine a_move (v := vI _) ?_
  refine a_move (v := vI _) ?_
  obtain ⟨⟨t6, t7⟩, e8, H⟩ := bindO H
  refine a_call (v := .tup [.c (.own 202 t6.length), .c (.d (.v (.int .i64 t7)))]) (nk := [(202, .row 36 (t6.map c36))]) (L := [(201, _)]) ?_ rfl (spec_ShelfPlan.ok e8) (fun κ => cond (Nat.beq κ 202) 100 (κ)) (qc rO (qd (qd qn))) ⟨rfl, trivial⟩ ⟨rfl, trivial⟩ ⟨rfl, trivial⟩ rfl
  refine a_move (v := .tup [_, _]) ?_
  refine a_ext (v := .c (.own _ _)) ?_
  refine a_ext (v := vI _) ?_
  refine a_move (v := .c (.own _ _)) ?_
  refine a_move (v := vI _) ?_
  refine RA.nil nofun ?_
  refine AG.seq ?_
  refine AG.freeze 201 ?_
  refine AG.freeze 202 ?_
  refine AG.region HM ?_
  refine a_move (v := vR _ _) ?_
  obtain ⟨t9, e10, H⟩ := bindO H
  refine a_call (v := .c (.own 203 t9.length)) (nk := [(203, .row 36 (t9.map c36))]) (L := []) ?_ rfl (laws_toInt64SS.ok e10) (fun κ => cond (Nat.beq κ 203) 100 (κ)) (qd qn) trivial ⟨rfl, trivial⟩ ⟨rfl, trivial⟩ rfl
  refine a_move (v := .c (.own _ _)) ?_
  refine RA.nil nofun ?_
  refine AG.seq ?_
  refine AG.region HM ?_
  refine a_move (v := .c (.own _ _)) ?_
  refine a_move (v := vI _) ?_
  refine a_move (v := vI _) ?_
  obtain ⟨⟨t11, t12⟩, e13, H⟩ := bindO H
  refine a_call (v := .tup [.c (.own 204 t11.length), .c (.d (.v (.int .i64 t12)))]) (nk := [(204, .row 36 (t11.map c36))]) (L := [(203, _)]) ?_ rfl (impl_ShelfPlan.ok e13) (fun κ => cond (Nat.beq κ 204) 100 (κ)) (qc rO (qd (qd qn))) ⟨rfl, trivial⟩ ⟨rfl, trivial⟩ ⟨rfl, trivial⟩ rfl
  refine a_move (v := .tup [_, _]) ?_
  refine a_ext (v := .c (.own _ _)) ?_
  refine a_ext (v := vI _) ?_
  refine a_move (v := .c (.own _ _)) ?_
  refine a_move (v := vI _) ?_
  refine RA.nil nofun ?_
  refine AG.seq ?_
  refine AG.seq ?_
  refine AG.joinR (fun s => ∃ q, q ≤ k ∧ ∃ (x0 : List (List Int)) (x1 : Int) (x2 : Int) (x8 : List (List Int)) (x9 : Int) (x10 : List (List Int)) (x11 : List (List Int)) (x12 : Int) (x48 : Bool), laws_FnExactShelfPlan.j0 q x0 x1 x2 x8 x9 x10 x11 x12 x48 = some r ∧ s = St.of [(0, vR 36 (x0.map c36)), (1, vI x1), (2, vI x2), (8, vR 36 (x8.map c36)), (9, vI x9), (10, .c (.own 206 x10.length)), (11, .c (.own 207 x11.length)), (12, vI x12), (48, vB x48)] [(206, .row 36 (x10.map c36)), (207, .row 36 (x11.map c36))]) ?_ ?_
  ·skip
   refine AG.region HM ?_
   refine a_move (v := .c (.own _ _)) ?_
   refine a_move (v := vR _ _) ?_
   obtain ⟨t14, e15, H⟩ := bindO H
   refine a_call (v := vB t14) (nk := []) (L := [(204, _)]) ?_ rfl (laws_eqInt64SS.ok e15) id (qc rO (qd qn)) ⟨rfl, trivial⟩ trivial trivial rfl
   refine a_un (u := .bool (!t14)) ?_
   refine a_move (v := vB _) ?_
   by_cases hc16 : t14 = true
   ·rw [if_pos hc16] at H
    refine a_move (v := vI _) ?_ (hg := Gs.yes rfl rfl rfl (congrArg Bool.not hc16))
    refine a_move (v := vI _) ?_ (hg := Gs.yes rfl rfl rfl (congrArg Bool.not hc16))
    refine a_int (u := .bool ((t12 != t7))) ?_ (hg := Gs.yes rfl rfl rfl (congrArg Bool.not hc16))
    refine a_pick (b := false) (v := vB _) ?_ (congrArg Bool.not hc16)
    refine RA.nil nofun ?_
    exact CanR.mk (fun κ => cond (Nat.beq κ 206) 203 (cond (Nat.beq κ 207) 204 (κ))) ⟨_, (by omega), _, _, _, _, _, _, _, _, _, H, rfl⟩ ⟨rfl, rfl, rfl, rfl, rfl, rfl, rfl, rfl, rfl, trivial⟩ ⟨rfl, rfl, trivial⟩ rfl
   ·rw [if_neg hc16] at H
    refine RA.skip rfl rfl rfl rfl rfl (congrArg Bool.not (Bool.eq_false_iff.2 hc16)) (by decide) ?_
    refine RA.skip rfl rfl rfl rfl rfl (congrArg Bool.not (Bool.eq_false_iff.2 hc16)) (by decide) ?_
    refine RA.skip rfl rfl rfl rfl rfl (congrArg Bool.not (Bool.eq_false_iff.2 hc16)) (by decide) ?_
    refine a_pick (b := true) (v := vB _) ?_ (congrArg Bool.not (Bool.eq_false_iff.2 hc16))
    refine RA.nil nofun ?_
    exact CanR.mk (fun κ => cond (Nat.beq κ 206) 203 (cond (Nat.beq κ 207) 204 (κ))) ⟨_, (by omega), _, _, _, _, _, _, _, _, _, H, rfl⟩ ⟨rfl, rfl, rfl, rfl, rfl, rfl, rfl, rfl, rfl, trivial⟩ ⟨rfl, rfl, trivial⟩ rfl
  ·clear H
   rintro _ ⟨k, hj0, x0, x1, x2, x8, x9, x10, x11, x12, x48, H, rfl⟩
   cases k with
   | zero => cases H
   | succ k =>
    rw [laws_FnExactShelfPlan.j0] at H
    by_cases hc17 : x48 = true
    ·rw [if_pos hc17] at H
     refine AG.yes rfl hc17 ?_
     refine AG.seq ?_
     refine AG.region HM ?_
     refine a_move (v := vB _) ?_
     refine RA.nil nofun ?_
     refine AG.ret ?_
     obtain rfl := Option.some.inj H
     exact RetP.mk id ⟨rfl, trivial⟩ trivial rfl
    ·rw [if_neg hc17] at H
     refine AG.no rfl (Bool.eq_false_iff.2 hc17) ?_
     refine AG.skip ?_
     refine AG.seq ?_
     refine AG.seq ?_
     refine AG.region HM ?_
     refine a_move (v := .c (.own _ _)) ?_
     refine a_move (v := vR _ _) ?_
     obtain ⟨t18, e19, H⟩ := bindO H
     refine a_call (v := .c (.own 208 t18.length)) (nk := [(208, .row 36 (t18.map c36))]) (L := []) ?_ rfl (laws_toInt64SS.ok e19) (fun κ => cond (Nat.beq κ 208) 100 (κ)) (qd qn) trivial ⟨rfl, trivial⟩ ⟨rfl, trivial⟩ rfl
     obtain ⟨t20, e21, H⟩ := bindO H
     refine a_call (v := vB t20) (nk := []) (L := [(206, _), (208, _)]) ?_ rfl (laws_eqInt64SS.ok e21) id (qc rO (qc rO qn)) ⟨rfl, rfl, trivial⟩ trivial trivial rfl
     refine a_un (u := .bool (!t20)) ?_
     refine RA.nil nofun ?_
     by_cases hc22 : t20 = true
     ·rw [if_pos hc22] at H
      refine AG.no rfl (congrArg Bool.not hc22) ?_
      refine AG.skip ?_
      refine AG.seq ?_
      refine AG.freeze 208 ?_
      refine AG.region HM ?_
      refine a_move (v := vI _) ?_
      refine RA.nil nofun ?_
      refine AG.seq ?_
      refine AG.region HM ?_
      refine a_move (v := .c (.own _ _)) ?_
      refine a_move (v := vI _) ?_
      obtain ⟨⟨t23, t24⟩, e25, H⟩ := bindO H
      refine a_callM (v := vI t23) (nk := []) (L := []) (Mk := [(206, _)]) (ck := [(206, .row 36 (t24.map c36))]) ?_ rfl (laws_markInt64SS.ok e25) (fun κ => cond (Nat.beq κ 0) 206 (κ)) (fun κ => cond (Nat.beq κ 206) 0 (κ)) (mcO (mcD m0)) trivial ⟨rfl, trivial⟩ trivial ⟨rfl, trivial⟩ trivial ⟨rfl, trivial⟩ rfl rfl rfl
      refine a_move (v := vI _) ?_
      refine RA.nil nofun ?_
      refine AG.relen 206 t24.length ?_
      refine AG.seq ?_
      refine AG.seq ?_
      refine AG.joinR (fun s => ∃ q, q ≤ k ∧ ∃ (x0 : List (List Int)) (x1 : Int) (x2 : Int) (x8 : List (List Int)) (x9 : Int) (x11 : List (List Int)) (x69 : Bool), laws_FnExactShelfPlan.j1 q x0 x1 x2 x8 x9 x11 x69 = some r ∧ s = St.of [(0, vR 36 (x0.map c36)), (1, vI x1), (2, vI x2), (8, vR 36 (x8.map c36)), (9, vI x9), (11, .c (.own 212 x11.length)), (69, vB x69)] [(212, .row 36 (x11.map c36))]) ?_ ?_
      ·skip
       refine AG.region HM ?_
       refine a_move (v := vI _) ?_
       refine a_int (u := .bool (decide (t23 < 0))) ?_
       refine a_move (v := vB _) ?_
       by_cases hc26 : t23 < 0
       ·rw [if_pos hc26] at H
        refine RA.skip rfl rfl rfl rfl rfl (decide_eq_true hc26) (by decide) ?_
        refine RA.skip rfl rfl rfl rfl rfl (decide_eq_true hc26) (by decide) ?_
        refine RA.skip rfl rfl rfl rfl rfl (decide_eq_true hc26) (by decide) ?_
        refine RA.skip rfl rfl rfl rfl rfl (decide_eq_true hc26) (by decide) ?_
        refine a_pick (b := true) (v := vB _) ?_ (decide_eq_true hc26)
        refine a_move (v := vB _) ?_
        refine RA.skip rfl rfl rfl rfl rfl rfl (by decide) ?_
        refine RA.skip rfl rfl rfl rfl rfl rfl (by decide) ?_
        refine RA.skip rfl rfl rfl rfl rfl rfl (by decide) ?_
        refine a_pick (b := true) (v := vB _) ?_ rfl
        refine RA.nil nofun ?_
        exact CanR.mk (fun κ => cond (Nat.beq κ 212) 207 (κ)) ⟨_, (by omega), _, _, _, _, _, _, _, H, rfl⟩ ⟨rfl, rfl, rfl, rfl, rfl, rfl, rfl, trivial⟩ ⟨rfl, trivial⟩ rfl
       ·rw [if_neg hc26] at H
        refine a_move (v := .c (.own _ _)) ?_ (hg := Gs.yes rfl rfl rfl (decide_eq_false hc26))
        refine a_move (v := vR _ _) ?_ (hg := Gs.yes rfl rfl rfl (decide_eq_false hc26))
        obtain ⟨t27, e28, H⟩ := bindO H
        refine a_call (v := vB t27) (nk := []) (L := [(207, _)]) ?_ rfl (laws_eqInt64SS.ok e28) id (qc rO (qd qn)) ⟨rfl, trivial⟩ trivial trivial rfl (hg := Gs.yes rfl rfl rfl (decide_eq_false hc26))
        refine a_un (u := .bool (!t27)) ?_ (hg := Gs.yes rfl rfl rfl (decide_eq_false hc26))
        refine a_pick (b := false) (v := vB _) ?_ (decide_eq_false hc26)
        refine a_move (v := vB _) ?_
        by_cases hc29 : t27 = true
        ·rw [if_pos hc29] at H
         refine a_move (v := vI _) ?_ (hg := Gs.yes rfl rfl rfl (congrArg Bool.not hc29))
         refine a_move (v := vI _) ?_ (hg := Gs.yes rfl rfl rfl (congrArg Bool.not hc29))
         refine a_int (u := .bool ((x12 != x9))) ?_ (hg := Gs.yes rfl rfl rfl (congrArg Bool.not hc29))
         refine a_pick (b := false) (v := vB _) ?_ (congrArg Bool.not hc29)
         refine RA.nil nofun ?_
         exact CanR.mk (fun κ => cond (Nat.beq κ 212) 207 (κ)) ⟨_, (by omega), _, _, _, _, _, _, _, H, rfl⟩ ⟨rfl, rfl, rfl, rfl, rfl, rfl, rfl, trivial⟩ ⟨rfl, trivial⟩ rfl
        ·rw [if_neg hc29] at H
         refine RA.skip rfl rfl rfl rfl rfl (congrArg Bool.not (Bool.eq_false_iff.2 hc29)) (by decide) ?_
         refine RA.skip rfl rfl rfl rfl rfl (congrArg Bool.not (Bool.eq_false_iff.2 hc29)) (by decide) ?_
         refine RA.skip rfl rfl rfl rfl rfl (congrArg Bool.not (Bool.eq_false_iff.2 hc29)) (by decide) ?_
         refine a_pick (b := true) (v := vB _) ?_ (congrArg Bool.not (Bool.eq_false_iff.2 hc29))
         refine RA.nil nofun ?_
         exact CanR.mk (fun κ => cond (Nat.beq κ 212) 207 (κ)) ⟨_, (by omega), _, _, _, _, _, _, _, H, rfl⟩ ⟨rfl, rfl, rfl, rfl, rfl, rfl, rfl, trivial⟩ ⟨rfl, trivial⟩ rfl
      ·clear H
       rintro _ ⟨k, hj1, x0, x1, x2, x8, x9, x11, x69, H, rfl⟩
       cases k with
       | zero => cases H
       | succ k =>
        rw [laws_FnExactShelfPlan.j1] at H
        by_cases hc30 : x69 = true
        ·rw [if_pos hc30] at H
         refine AG.yes rfl hc30 ?_
         refine AG.seq ?_
         refine AG.region HM ?_
         refine a_move (v := vB _) ?_
         refine RA.nil nofun ?_
         refine AG.ret ?_
         obtain rfl := Option.some.inj H
         exact RetP.mk id ⟨rfl, trivial⟩ trivial rfl
        ·rw [if_neg hc30] at H
         refine AG.no rfl (Bool.eq_false_iff.2 hc30) ?_
         refine AG.skip ?_
         refine AG.seq ?_
         refine AG.region HM ?_
         refine a_move (v := vI _) ?_
         refine RA.nil nofun ?_
         refine AG.seq ?_
         refine AG.region HM ?_
         refine a_move (v := .c (.own _ _)) ?_
         refine a_move (v := vI _) ?_
         obtain ⟨⟨t31, t32⟩, e33, H⟩ := bindO H
         refine a_callM (v := vI t31) (nk := []) (L := []) (Mk := [(212, _)]) (ck := [(212, .row 36 (t32.map c36))]) ?_ rfl (laws_markInt64SS.ok e33) (fun κ => cond (Nat.beq κ 0) 212 (κ)) (fun κ => cond (Nat.beq κ 212) 0 (κ)) (mcO (mcD m0)) trivial ⟨rfl, trivial⟩ trivial ⟨rfl, trivial⟩ trivial ⟨rfl, trivial⟩ rfl rfl rfl
         refine a_move (v := vI _) ?_
         refine RA.nil nofun ?_
         refine AG.relen 212 t32.length ?_
         refine AG.seq ?_
         refine AG.region HM ?_
         refine a_move (v := vI _) ?_
         refine RA.nil nofun ?_
         refine AG.seq ?_
         refine AG.region HM ?_
         refine a_move (v := .c (.own _ _)) ?_
         refine a_move (v := vI _) ?_
         obtain ⟨t34, e35, H⟩ := bindO H
         refine a_call (v := vI t34) (nk := []) (L := [(212, _)]) ?_ rfl (laws_heldInt64SS.ok e35) id (qc rO (qd qn)) ⟨rfl, trivial⟩ trivial trivial rfl
         refine a_move (v := vI _) ?_
         refine RA.nil nofun ?_
         refine AG.seq ?_
         refine AG.seq ?_
         refine AG.region HM ?_
         refine a_move (v := vI _) ?_
         refine a_int (u := .bool (decide (t34 < 0))) ?_
         refine RA.nil nofun ?_
         by_cases hc36 : t34 < 0
         ·rw [if_pos hc36] at H
          refine AG.yes rfl (decide_eq_true hc36) ?_
          refine AG.seq ?_
          refine AG.region HM ?_
          refine a_move (v := vB _) ?_
          refine RA.nil nofun ?_
          refine AG.ret ?_
          obtain rfl := Option.some.inj H
          exact RetP.mk id ⟨rfl, trivial⟩ trivial rfl
         ·rw [if_neg hc36] at H
          refine AG.no rfl (decide_eq_false hc36) ?_
          refine AG.skip ?_
          refine AG.seq ?_
          refine AG.seq ?_
          refine AG.region HM ?_
          refine a_move (v := vI _) ?_
          refine a_move (v := vI _) ?_
          refine a_int (u := .bool ((t34 != t31))) ?_
          refine RA.nil nofun ?_
          by_cases hc37 : t34 = t31
          ·rw [if_pos hc37] at H
           refine AG.no rfl (bne_eq_false_iff_eq.2 hc37) ?_
           refine AG.skip ?_
           refine AG.seq ?_
           refine AG.region HM ?_
           refine a_move (v := vR _ _) ?_
           obtain ⟨t38, e39, H⟩ := bindO H
           refine a_call (v := .c (.own 215 t38.length)) (nk := [(215, .row 36 (t38.map c36))]) (L := []) ?_ rfl (laws_toInt64SS.ok e39) (fun κ => cond (Nat.beq κ 215) 100 (κ)) (qd qn) trivial ⟨rfl, trivial⟩ ⟨rfl, trivial⟩ rfl
           refine a_move (v := vI _) ?_
           refine a_move (v := vI _) ?_
           obtain ⟨⟨t40, t41⟩, e42, H⟩ := bindO H
           refine a_call (v := .tup [.c (.own 216 t40.length), .c (.d (.v (.int .i64 t41)))]) (nk := [(216, .row 36 (t40.map c36))]) (L := [(215, _)]) ?_ rfl (impl_ShelfPlan.ok e42) (fun κ => cond (Nat.beq κ 216) 100 (κ)) (qc rO (qd (qd qn))) ⟨rfl, trivial⟩ ⟨rfl, trivial⟩ ⟨rfl, trivial⟩ rfl
           refine a_move (v := .tup [_, _]) ?_
           refine a_ext (v := .c (.own _ _)) ?_
           refine a_ext (v := vI _) ?_
           refine a_move (v := .c (.own _ _)) ?_
           refine a_move (v := vI _) ?_
           refine RA.nil nofun ?_
           refine AG.seq ?_
           refine AG.seq ?_
           refine AG.freeze 215 ?_
           refine AG.freeze 216 ?_
           refine AG.joinR (fun s => ∃ q, q ≤ k ∧ ∃ (x11 : List (List Int)) (x14 : Int) (x97 : Bool), laws_FnExactShelfPlan.j2 q x11 x14 x97 = some r ∧ s = St.of [(11, .c (.own 218 x11.length)), (14, vI x14), (97, vB x97)] [(218, .row 36 (x11.map c36))]) ?_ ?_
           ·skip
            refine AG.region HM ?_
            refine a_move (v := vR _ _) ?_
            refine a_move (v := vR _ _) ?_
            obtain ⟨t43, e44, H⟩ := bindO H
            refine a_call (v := vB t43) (nk := []) (L := []) ?_ rfl (laws_eqInt64SS.ok e44) id (qd (qd qn)) trivial trivial trivial rfl
            refine a_un (u := .bool (!t43)) ?_
            refine a_move (v := vB _) ?_
            by_cases hc45 : t43 = true
            ·rw [if_pos hc45] at H
             refine a_move (v := vI _) ?_ (hg := Gs.yes rfl rfl rfl (congrArg Bool.not hc45))
             refine a_move (v := vI _) ?_ (hg := Gs.yes rfl rfl rfl (congrArg Bool.not hc45))
             refine a_int (u := .bool ((t41 != x9))) ?_ (hg := Gs.yes rfl rfl rfl (congrArg Bool.not hc45))
             refine a_pick (b := false) (v := vB _) ?_ (congrArg Bool.not hc45)
             refine RA.nil nofun ?_
             exact CanR.mk (fun κ => cond (Nat.beq κ 218) 212 (κ)) ⟨_, (by omega), _, _, _, H, rfl⟩ ⟨rfl, rfl, rfl, trivial⟩ ⟨rfl, trivial⟩ rfl
            ·rw [if_neg hc45] at H
             refine RA.skip rfl rfl rfl rfl rfl (congrArg Bool.not (Bool.eq_false_iff.2 hc45)) (by decide) ?_
             refine RA.skip rfl rfl rfl rfl rfl (congrArg Bool.not (Bool.eq_false_iff.2 hc45)) (by decide) ?_
             refine RA.skip rfl rfl rfl rfl rfl (congrArg Bool.not (Bool.eq_false_iff.2 hc45)) (by decide) ?_
             refine a_pick (b := true) (v := vB _) ?_ (congrArg Bool.not (Bool.eq_false_iff.2 hc45))
             refine RA.nil nofun ?_
             exact CanR.mk (fun κ => cond (Nat.beq κ 218) 212 (κ)) ⟨_, (by omega), _, _, _, H, rfl⟩ ⟨rfl, rfl, rfl, trivial⟩ ⟨rfl, trivial⟩ rfl
           ·clear H
            rintro _ ⟨k, hj2, x11, x14, x97, H, rfl⟩
            cases k with
            | zero => cases H
            | succ k =>
             rw [laws_FnExactShelfPlan.j2] at H
             by_cases hc46 : x97 = true
             ·rw [if_pos hc46] at H
              refine AG.yes rfl hc46 ?_
              refine AG.seq ?_
              refine AG.region HM ?_
              refine a_move (v := vB _) ?_
              refine RA.nil nofun ?_
              refine AG.ret ?_
              obtain rfl := Option.some.inj H
              exact RetP.mk id ⟨rfl, trivial⟩ trivial rfl
             ·rw [if_neg hc46] at H
              refine AG.no rfl (Bool.eq_false_iff.2 hc46) ?_
              refine AG.skip ?_
              refine AG.seq ?_
              refine AG.region HM ?_
              refine a_move (v := vI _) ?_
              refine RA.nil nofun ?_
              refine AG.seq ?_
              refine AG.region HM ?_
              refine a_move (v := .c (.own _ _)) ?_
              refine a_move (v := vI _) ?_
              obtain ⟨t47, e48, H⟩ := bindO H
              refine a_call (v := vI t47) (nk := []) (L := [(218, _)]) ?_ rfl (laws_heldInt64SS.ok e48) id (qc rO (qd qn)) ⟨rfl, trivial⟩ trivial trivial rfl
              refine a_move (v := vI _) ?_
              refine RA.nil nofun ?_
              refine AG.seq ?_
              refine AG.seq ?_
              refine AG.region HM ?_
              refine a_move (v := vI _) ?_
              refine a_int (u := .bool (decide (t47 < 0))) ?_
              refine RA.nil nofun ?_
              by_cases hc49 : t47 < 0
              ·rw [if_pos hc49] at H
               refine AG.yes rfl (decide_eq_true hc49) ?_
               refine AG.seq ?_
               refine AG.region HM ?_
               refine a_move (v := vB _) ?_
               refine RA.nil nofun ?_
               refine AG.ret ?_
               obtain rfl := Option.some.inj H
               exact RetP.mk id ⟨rfl, trivial⟩ trivial rfl
              ·rw [if_neg hc49] at H
               refine AG.no rfl (decide_eq_false hc49) ?_
               refine AG.skip ?_
               refine AG.seq ?_
               refine AG.seq ?_
               refine AG.region HM ?_
               refine a_move (v := vI _) ?_
               refine a_move (v := vI _) ?_
               refine a_int (u := .bool ((t47 != x14))) ?_
               refine RA.nil nofun ?_
               by_cases hc50 : t47 = x14
               ·rw [if_pos hc50] at H
                refine AG.no rfl (bne_eq_false_iff_eq.2 hc50) ?_
                refine AG.skip ?_
                refine AG.seq ?_
                refine AG.region HM ?_
                refine a_move (v := vB _) ?_
                refine RA.nil nofun ?_
                refine AG.ret ?_
                obtain rfl := Option.some.inj H
                exact RetP.mk id ⟨rfl, trivial⟩ trivial rfl
               ·rw [if_neg hc50] at H
                refine AG.yes rfl (bne_iff_ne.2 hc50) ?_
                refine AG.seq ?_
                refine AG.region HM ?_
                refine a_move (v := vB _) ?_
                refine RA.nil nofun ?_
                refine AG.ret ?_
                obtain rfl := Option.some.inj H
                exact RetP.mk id ⟨rfl, trivial⟩ trivial rfl
          ·rw [if_neg hc37] at H
           refine AG.yes rfl (bne_iff_ne.2 hc37) ?_
           refine AG.seq ?_
           refine AG.region HM ?_
           refine a_move (v := vB _) ?_
           refine RA.nil nofun ?_
           refine AG.ret ?_
           obtain rfl := Option.some.inj H
           exact RetP.mk id ⟨rfl, trivial⟩ trivial rfl
     ·rw [if_neg hc22] at H
      refine AG.yes rfl (congrArg Bool.not (Bool.eq_false_iff.2 hc22)) ?_
      refine AG.seq ?_
      refine AG.freeze 208 ?_
      refine AG.region HM ?_
      refine a_move (v := vB _) ?_
      refine RA.nil nofun ?_
      refine AG.ret ?_
      obtain rfl := Option.some.inj H
      exact RetP.mk id ⟨rfl, trivial⟩ trivial rfl
/-- The one plain statement of laws_FnExactShelfPlan. -/
def laws_FnExactShelfPlan.Pure : Prop := ∀ (l0 : List (List Int)) (a1 : Int) (a2 : Int), (l0.length ≤ maxLen ∧ ∀ x_ ∈ l0, (x_.length ≤ maxLen ∧ ∀ y_ ∈ x_, (Lit.int .i64 y_).wf = true)) → (Lit.int .i64 a1).wf = true → (Lit.int .i64 a2).wf = true → ∃ k, laws_FnExactShelfPlan.f k l0 a1 a2 = some true
end Go.Proofs.Ytedakffelgmmnaa.PFnExactShelfPlan

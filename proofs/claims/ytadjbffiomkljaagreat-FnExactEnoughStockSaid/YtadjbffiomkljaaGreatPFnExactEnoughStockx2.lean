/- What each function that the law FnExactEnoughStock reaches comes to, and the proof that its walk comes to it; laid by a program of this session. No condition. -/
import Derived.Test.YtadjbffiomkljaaGreatPFnExactEnoughStockx1
import Derived.KernelRfl
import Derived.OwnWalk
import Derived.Test.YtadjbffiomkljaaGreatProg
set_option linter.unusedVariables false
set_option linter.unusedSimpArgs false
namespace Go.Proofs.YtadjbffiomkljaaGreat.PFnExactEnoughStock
open Go Go.RowKit Go.Proofs.YtadjbffiomkljaaGreatM Go.Proofs Go.Proofs.YtadjbffiomkljaaGreat.SortI Go.Proofs.YtadjbffiomkljaaGreat.CloneI Go.Proofs.YtadjbffiomkljaaGreat.ReverseI
def impl_validPoints.l0 : Nat → List S159 → Int → Int → Option (Bool)
 | 0, _, _, _ => none
 | k + 1, x5, x6, x7 => if x7 < x6 then (if 0 ≤ x7 then (if x7 < (x5.length : Int) then ((impl_ValidPoint.f ((rd159 x5 x7).f0) ((rd159 x5 x7).f1)).bind fun t4 => (if t4 = true then (impl_validPoints.l0 k x5 x6 (wrap64 (x7 + 1))) else (some false))) else (none)) else (none)) else (some true)
def impl_validPoints.f (k : Nat) (l0 : List S159) : Option (Bool) := impl_validPoints.l0 k l0 (l0.length : Int) 0
set_option maxRecDepth 100000 in
theorem impl_validPoints.ok {k : Nat} {l0 : List S159} {r : Bool} (H : impl_validPoints.f k l0 = some r) : OkF Tryz.prog 162 [vR 160 (l0.map c159)] [] (.c (.d (.v (.bool r)))) [] := by
 unfold impl_validPoints.f at H
 refine OkF.of (N := 15) (rs := [2]) (avs := [.c (.d (.v (.bool r)))]) Tryz.func162 rfl rfl (fun _ _ => results_tmp rfl _ _ _) (by decide) rfl rfl rfl rfl (fun w0 S => ?_)
 refine AG.seq ?_
 refine AG.region HM ?_
 refine a_move (v := vB _) ?_
 refine RA.nil nofun ?_
 refine AG.seq ?_
 refine AG.seq ?_
 refine AG.region HM ?_
 refine a_move (v := vR _ _) ?_
 refine a_lenR ?_ Tryz.underlying32
 refine a_move (v := vI _) ?_
 refine RA.nil nofun ?_
 refine AG.block ?_
 refine AG.loop ?_
 obtain ⟨K0, hK0, gK0⟩ : ∃ K, k ≤ K ∧ K ≤ k := ⟨k, Nat.le_refl k, Nat.le_refl k⟩
 refine AGr.canon id (AGr.loopI (n := k) (fun k s => k ≤ K0 ∧ ∃ (x5 : List S159) (x6 : Int) (x7 : Int), impl_validPoints.l0 k x5 x6 x7 = some r ∧ s = St.of [(5, vR 160 (x5.map c159)), (6, vI x6), (7, vI x7)] []) ⟨hK0, _, _, _, H, rfl⟩ ?_ ?_) ⟨rfl, rfl, rfl, trivial⟩ trivial rfl
 ·rintro _ ⟨_, _, _, _, H, _⟩
  cases H
 ·clear H hK0
  rintro k ih0 _ ⟨hK0, x5, x6, x7, H, rfl⟩
  unfold impl_validPoints.l0 at H
  refine AG.seq ?_
  refine AG.region HM ?_
  refine a_int (u := .bool (decide (x7 < x6))) ?_
  refine RA.nil nofun ?_
  refine AG.seq ?_
  by_cases hc1 : x7 < x6
  ·rw [if_pos hc1] at H
   refine AG.yes rfl (decide_eq_true hc1) ?_
   refine AG.skip ?_
   refine AG.seq ?_
   refine AG.block ?_
   refine AG.seq ?_
   refine AG.region HM ?_
   by_cases hc2 : 0 ≤ x7
   ·rw [if_pos hc2] at H
    by_cases hc3 : x7 < (x5.length : Int)
    ·rw [if_pos hc3] at H
     refine a_ixR (el := c159 (rd159 x5 x7)) ?_ ⟨hc2, hc3⟩ T160 Tryz.underlying32 (hel := R159 hc2 hc3)
     refine a_ldR (v := .agg [_, _]) ?_ T160
     refine a_alloc (cs := [_, _]) 200 ?_ T160
     refine a_stB (cs' := [_, _]) ?_ T160
     refine RA.nil nofun ?_
     refine AG.seq ?_
     refine AG.region HM ?_
     refine a_ldB (v := .agg [_, _]) ?_ T160
     obtain ⟨t4, e5, H⟩ := bindO H
     refine a_call (v := vB t4) (nk := []) (L := []) ?_ rfl (impl_ValidPoint.ok e5) id (qg qn) trivial trivial trivial rfl
     refine a_un (u := .bool (!t4)) ?_
     refine RA.nil nofun ?_
     by_cases hc6 : t4 = true
     ·rw [if_pos hc6] at H
      refine AG.no rfl (congrArg Bool.not hc6) ?_
      refine AG.skip ?_
      refine AG.region HM ?_
      refine a_int (u := .int .i64 (wrap64 (x7 + 1))) ?_
      refine a_move (v := vI _) ?_
      refine RA.nil nofun ?_
      exact AGr.canon id (ih0 _ (by omega) _ ⟨by omega, _, _, _, H, rfl⟩) ⟨rfl, rfl, rfl, trivial⟩ trivial rfl
     ·rw [if_neg hc6] at H
      refine AG.yes rfl (congrArg Bool.not (Bool.eq_false_iff.2 hc6)) ?_
      refine AG.seq ?_
      refine AG.region HM ?_
      refine a_move (v := vB _) ?_
      refine RA.nil nofun ?_
      refine AG.ret ?_
      obtain rfl := Option.some.inj H
      exact RetP.mk id ⟨rfl, trivial⟩ trivial rfl
    ·rw [if_neg hc3] at H
     cases H
   ·rw [if_neg hc2] at H
    cases H
  ·rw [if_neg hc1] at H
   refine AG.no rfl (decide_eq_false hc1) ?_
   refine AG.exit ?_
   refine AG.seq ?_
   refine AG.region HM ?_
   refine a_move (v := vB _) ?_
   refine RA.nil nofun ?_
   refine AG.ret ?_
   obtain rfl := Option.some.inj H
   exact RetP.mk id ⟨rfl, trivial⟩ trivial rfl
def impl_side.f (a0_0 : Int) (a0_1 : Int) (a1_0 : Int) (a1_1 : Int) (a2_0 : Int) (a2_1 : Int) : Option (Int) := if (wrap64 ((wrap64 ((wrap64 (a1_0 - a0_0)) * (wrap64 (a2_1 - a0_1)))) - (wrap64 ((wrap64 (a1_1 - a0_1)) * (wrap64 (a2_0 - a0_0)))))) > 0 then (some 1) else (if (wrap64 ((wrap64 ((wrap64 (a1_0 - a0_0)) * (wrap64 (a2_1 - a0_1)))) - (wrap64 ((wrap64 (a1_1 - a0_1)) * (wrap64 (a2_0 - a0_0)))))) < 0 then (some (-1)) else (some 0))
set_option maxRecDepth 100000 in
theorem impl_side.ok {a0_0 : Int} {a0_1 : Int} {a1_0 : Int} {a1_1 : Int} {a2_0 : Int} {a2_1 : Int} {r : Int} (H : impl_side.f a0_0 a0_1 a1_0 a1_1 a2_0 a2_1 = some r) : OkF Tryz.prog 201 [.agg [.d (.v (.int .i64 a0_0)), .d (.v (.int .i64 a0_1))], .agg [.d (.v (.int .i64 a1_0)), .d (.v (.int .i64 a1_1))], .agg [.d (.v (.int .i64 a2_0)), .d (.v (.int .i64 a2_1))]] [] (.c (.d (.v (.int .i64 r)))) [] := by
 unfold impl_side.f at H
 refine OkF.of (N := 37) (rs := [6]) (avs := [.c (.d (.v (.int .i64 r)))]) Tryz.func201 rfl rfl (fun _ _ => results_tmp rfl _ _ _) (by decide) rfl rfl rfl rfl (fun w0 S => ?_)
 refine AG.seq ?_
 refine AG.region HM ?_
 refine a_box 200 ?_
 refine a_box 201 ?_
 refine a_box 202 ?_
 refine a_move (v := vI _) ?_
 refine RA.nil nofun ?_
 refine AG.seq ?_
 refine AG.region HM ?_
 refine a_faB (q := 0) ?_ D160_0
 refine a_ldB (v := vI _) ?_ T2
 refine a_faB (q := 0) ?_ D160_0
 refine a_ldB (v := vI _) ?_ T2
 refine a_int (u := .int .i64 (wrap64 (a1_0 - a0_0))) ?_
 refine a_faB (q := 1) ?_ D160_1
 refine a_ldB (v := vI _) ?_ T2
 refine a_faB (q := 1) ?_ D160_1
 refine a_ldB (v := vI _) ?_ T2
 refine a_int (u := .int .i64 (wrap64 (a2_1 - a0_1))) ?_
 refine a_int (u := .int .i64 (wrap64 ((wrap64 (a1_0 - a0_0)) * (wrap64 (a2_1 - a0_1))))) ?_
 refine a_faB (q := 1) ?_ D160_1
 refine a_ldB (v := vI _) ?_ T2
 refine a_faB (q := 1) ?_ D160_1
 refine a_ldB (v := vI _) ?_ T2
 refine a_int (u := .int .i64 (wrap64 (a1_1 - a0_1))) ?_
 refine a_faB (q := 0) ?_ D160_0
 refine a_ldB (v := vI _) ?_ T2
 refine a_faB (q := 0) ?_ D160_0
 refine a_ldB (v := vI _) ?_ T2
 refine a_int (u := .int .i64 (wrap64 (a2_0 - a0_0))) ?_
 refine a_int (u := .int .i64 (wrap64 ((wrap64 (a1_1 - a0_1)) * (wrap64 (a2_0 - a0_0))))) ?_
 refine a_int (u := .int .i64 (wrap64 ((wrap64 ((wrap64 (a1_0 - a0_0)) * (wrap64 (a2_1 - a0_1)))) - (wrap64 ((wrap64 (a1_1 - a0_1)) * (wrap64 (a2_0 - a0_0))))))) ?_
 refine a_move (v := vI _) ?_
 refine RA.nil nofun ?_
 refine AG.seq ?_
 refine AG.block ?_
 refine AG.seq ?_
 refine AG.region HM ?_
 refine a_move (v := vI _) ?_
 refine a_int (u := .bool (decide ((wrap64 ((wrap64 ((wrap64 (a1_0 - a0_0)) * (wrap64 (a2_1 - a0_1)))) - (wrap64 ((wrap64 (a1_1 - a0_1)) * (wrap64 (a2_0 - a0_0)))))) > 0))) ?_
 refine a_move (v := vB _) ?_
 refine RA.nil nofun ?_
 by_cases hc1 : (wrap64 ((wrap64 ((wrap64 (a1_0 - a0_0)) * (wrap64 (a2_1 - a0_1)))) - (wrap64 ((wrap64 (a1_1 - a0_1)) * (wrap64 (a2_0 - a0_0)))))) > 0
 ·rw [if_pos hc1] at H
  refine AG.yes rfl (decide_eq_true hc1) ?_
  refine AG.seq ?_
  refine AG.region HM ?_
  refine a_move (v := vI _) ?_
  refine RA.nil nofun ?_
  refine AG.ret ?_
  obtain rfl := Option.some.inj H
  exact RetP.mk id ⟨rfl, trivial⟩ trivial rfl
 ·rw [if_neg hc1] at H
  refine AG.no rfl (decide_eq_false hc1) ?_
  refine AG.seq ?_
  refine AG.region HM ?_
  refine a_move (v := vI _) ?_
  refine a_int (u := .bool (decide ((wrap64 ((wrap64 ((wrap64 (a1_0 - a0_0)) * (wrap64 (a2_1 - a0_1)))) - (wrap64 ((wrap64 (a1_1 - a0_1)) * (wrap64 (a2_0 - a0_0)))))) < 0))) ?_
  refine a_move (v := vB _) ?_
  refine RA.nil nofun ?_
  by_cases hc2 : (wrap64 ((wrap64 ((wrap64 (a1_0 - a0_0)) * (wrap64 (a2_1 - a0_1)))) - (wrap64 ((wrap64 (a1_1 - a0_1)) * (wrap64 (a2_0 - a0_0)))))) < 0
  ·rw [if_pos hc2] at H
   refine AG.yes rfl (decide_eq_true hc2) ?_
   refine AG.seq ?_
   refine AG.region HM ?_
   refine a_move (v := vI _) ?_
   refine RA.nil nofun ?_
   refine AG.ret ?_
   obtain rfl := Option.some.inj H
   exact RetP.mk id ⟨rfl, trivial⟩ trivial rfl
  ·rw [if_neg hc2] at H
   refine AG.no rfl (decide_eq_false hc2) ?_
   refine AG.skip ?_
   refine AG.seq ?_
   refine AG.region HM ?_
   refine a_move (v := vI _) ?_
   refine RA.nil nofun ?_
   refine AG.ret ?_
   obtain rfl := Option.some.inj H
   exact RetP.mk id ⟨rfl, trivial⟩ trivial rfl
def impl_on.f (a0_0 : Int) (a0_1 : Int) (a1_0 : Int) (a1_1 : Int) (a2_0 : Int) (a2_1 : Int) : Option (Bool) := (impl_side.f a0_0 a0_1 a1_0 a1_1 a2_0 a2_1).bind fun t1 => (if t1 = 0 then ((impl_within.f a2_0 (mn a0_0 a1_0) (mx a0_0 a1_0)).bind fun t4 => (if t4 = true then ((impl_within.f a2_1 (mn a0_1 a1_1) (mx a0_1 a1_1)).bind fun t7 => (some t7)) else (some false))) else (some false))
set_option maxRecDepth 100000 in
theorem impl_on.ok {a0_0 : Int} {a0_1 : Int} {a1_0 : Int} {a1_1 : Int} {a2_0 : Int} {a2_1 : Int} {r : Bool} (H : impl_on.f a0_0 a0_1 a1_0 a1_1 a2_0 a2_1 = some r) : OkF Tryz.prog 163 [.agg [.d (.v (.int .i64 a0_0)), .d (.v (.int .i64 a0_1))], .agg [.d (.v (.int .i64 a1_0)), .d (.v (.int .i64 a1_1))], .agg [.d (.v (.int .i64 a2_0)), .d (.v (.int .i64 a2_1))]] [] (.c (.d (.v (.bool r)))) [] := by
 unfold impl_on.f at H
 refine OkF.of (N := 42) (rs := [6]) (avs := [.c (.d (.v (.bool r)))]) Tryz.func163 rfl rfl (fun _ _ => results_tmp rfl _ _ _) (by decide) rfl rfl rfl rfl (fun w0 S => ?_)
 refine AG.seq ?_
 refine AG.region HM ?_
 refine a_box 200 ?_
 refine a_box 201 ?_
 refine a_box 202 ?_
 refine a_move (v := vB _) ?_
 refine RA.nil nofun ?_
 refine AG.seq ?_
 refine AG.region HM ?_
 refine a_ldB (v := .agg [_, _]) ?_ T160
 refine a_ldB (v := .agg [_, _]) ?_ T160
 refine a_ldB (v := .agg [_, _]) ?_ T160
 obtain ⟨t1, e2, H⟩ := bindO H
 refine a_call (v := vI t1) (nk := []) (L := []) ?_ rfl (impl_side.ok e2) id (qg (qg (qg qn))) trivial trivial trivial rfl
 refine a_int (u := .bool ((t1 == 0))) ?_
 refine a_move (v := vB _) ?_
 by_cases hc3 : t1 = 0
 ·rw [if_pos hc3] at H
  refine a_faB (q := 0) ?_ D160_0 (hg := Gs.yes rfl rfl rfl (beq_iff_eq.2 hc3))
  refine a_ldB (v := vI _) ?_ T2 (hg := Gs.yes rfl rfl rfl (beq_iff_eq.2 hc3))
  refine a_faB (q := 0) ?_ D160_0 (hg := Gs.yes rfl rfl rfl (beq_iff_eq.2 hc3))
  refine a_ldB (v := vI _) ?_ T2 (hg := Gs.yes rfl rfl rfl (beq_iff_eq.2 hc3))
  refine a_faB (q := 0) ?_ D160_0 (hg := Gs.yes rfl rfl rfl (beq_iff_eq.2 hc3))
  refine a_ldB (v := vI _) ?_ T2 (hg := Gs.yes rfl rfl rfl (beq_iff_eq.2 hc3))
  refine a_minmax (mx := false) (r := mn a0_0 a1_0) ?_ (hg := Gs.yes rfl rfl rfl (beq_iff_eq.2 hc3))
  refine a_faB (q := 0) ?_ D160_0 (hg := Gs.yes rfl rfl rfl (beq_iff_eq.2 hc3))
  refine a_ldB (v := vI _) ?_ T2 (hg := Gs.yes rfl rfl rfl (beq_iff_eq.2 hc3))
  refine a_faB (q := 0) ?_ D160_0 (hg := Gs.yes rfl rfl rfl (beq_iff_eq.2 hc3))
  refine a_ldB (v := vI _) ?_ T2 (hg := Gs.yes rfl rfl rfl (beq_iff_eq.2 hc3))
  refine a_minmax (mx := true) (r := mx a0_0 a1_0) ?_ (hg := Gs.yes rfl rfl rfl (beq_iff_eq.2 hc3))
  obtain ⟨t4, e5, H⟩ := bindO H
  refine a_call (v := vB t4) (nk := []) (L := []) ?_ rfl (impl_within.ok e5) id (qd (qd (qd qn))) trivial trivial trivial rfl (hg := Gs.yes rfl rfl rfl (beq_iff_eq.2 hc3))
  refine a_pick (b := true) (v := vB _) ?_ (beq_iff_eq.2 hc3)
  refine a_move (v := vB _) ?_
  by_cases hc6 : t4 = true
  ·rw [if_pos hc6] at H
   refine a_faB (q := 1) ?_ D160_1 (hg := Gs.yes rfl rfl rfl hc6)
   refine a_ldB (v := vI _) ?_ T2 (hg := Gs.yes rfl rfl rfl hc6)
   refine a_faB (q := 1) ?_ D160_1 (hg := Gs.yes rfl rfl rfl hc6)
   refine a_ldB (v := vI _) ?_ T2 (hg := Gs.yes rfl rfl rfl hc6)
   refine a_faB (q := 1) ?_ D160_1 (hg := Gs.yes rfl rfl rfl hc6)
   refine a_ldB (v := vI _) ?_ T2 (hg := Gs.yes rfl rfl rfl hc6)
   refine a_minmax (mx := false) (r := mn a0_1 a1_1) ?_ (hg := Gs.yes rfl rfl rfl hc6)
   refine a_faB (q := 1) ?_ D160_1 (hg := Gs.yes rfl rfl rfl hc6)
   refine a_ldB (v := vI _) ?_ T2 (hg := Gs.yes rfl rfl rfl hc6)
   refine a_faB (q := 1) ?_ D160_1 (hg := Gs.yes rfl rfl rfl hc6)
   refine a_ldB (v := vI _) ?_ T2 (hg := Gs.yes rfl rfl rfl hc6)
   refine a_minmax (mx := true) (r := mx a0_1 a1_1) ?_ (hg := Gs.yes rfl rfl rfl hc6)
   obtain ⟨t7, e8, H⟩ := bindO H
   refine a_call (v := vB t7) (nk := []) (L := []) ?_ rfl (impl_within.ok e8) id (qd (qd (qd qn))) trivial trivial trivial rfl (hg := Gs.yes rfl rfl rfl hc6)
   refine a_pick (b := true) (v := vB _) ?_ hc6
   refine a_move (v := vB _) ?_
   refine RA.nil nofun ?_
   refine AG.ret ?_
   obtain rfl := Option.some.inj H
   exact RetP.mk id ⟨rfl, trivial⟩ trivial rfl
  ·rw [if_neg hc6] at H
   refine RA.skip rfl rfl rfl rfl rfl (Bool.eq_false_iff.2 hc6) (by decide) ?_
   refine RA.skip rfl rfl rfl rfl rfl (Bool.eq_false_iff.2 hc6) (by decide) ?_
   refine RA.skip rfl rfl rfl rfl rfl (Bool.eq_false_iff.2 hc6) (by decide) ?_
   refine RA.skip rfl rfl rfl rfl rfl (Bool.eq_false_iff.2 hc6) (by decide) ?_
   refine RA.skip rfl rfl rfl rfl rfl (Bool.eq_false_iff.2 hc6) (by decide) ?_
   refine RA.skip rfl rfl rfl rfl rfl (Bool.eq_false_iff.2 hc6) (by decide) ?_
   refine RA.skip rfl rfl rfl rfl rfl (Bool.eq_false_iff.2 hc6) (by decide) ?_
   refine RA.skip rfl rfl rfl rfl rfl (Bool.eq_false_iff.2 hc6) (by decide) ?_
   refine RA.skip rfl rfl rfl rfl rfl (Bool.eq_false_iff.2 hc6) (by decide) ?_
   refine RA.skip rfl rfl rfl rfl rfl (Bool.eq_false_iff.2 hc6) (by decide) ?_
   refine RA.skip rfl rfl rfl rfl rfl (Bool.eq_false_iff.2 hc6) (by decide) ?_
   refine RA.skip rfl rfl rfl rfl rfl (Bool.eq_false_iff.2 hc6) (by decide) ?_
   refine RA.skip rfl rfl rfl rfl rfl (Bool.eq_false_iff.2 hc6) (by decide) ?_
   refine a_pick (b := false) (v := vB _) ?_ (Bool.eq_false_iff.2 hc6)
   refine a_move (v := vB _) ?_
   refine RA.nil nofun ?_
   refine AG.ret ?_
   obtain rfl := Option.some.inj H
   exact RetP.mk id ⟨rfl, trivial⟩ trivial rfl
 ·rw [if_neg hc3] at H
  refine RA.skip rfl rfl rfl rfl rfl (beq_eq_false_iff_ne.2 hc3) (by decide) ?_
  refine RA.skip rfl rfl rfl rfl rfl (beq_eq_false_iff_ne.2 hc3) (by decide) ?_
  refine RA.skip rfl rfl rfl rfl rfl (beq_eq_false_iff_ne.2 hc3) (by decide) ?_
  refine RA.skip rfl rfl rfl rfl rfl (beq_eq_false_iff_ne.2 hc3) (by decide) ?_
  refine RA.skip rfl rfl rfl rfl rfl (beq_eq_false_iff_ne.2 hc3) (by decide) ?_
  refine RA.skip rfl rfl rfl rfl rfl (beq_eq_false_iff_ne.2 hc3) (by decide) ?_
  refine RA.skip rfl rfl rfl rfl rfl (beq_eq_false_iff_ne.2 hc3) (by decide) ?_
  refine RA.skip rfl rfl rfl rfl rfl (beq_eq_false_iff_ne.2 hc3) (by decide) ?_
  refine RA.skip rfl rfl rfl rfl rfl (beq_eq_false_iff_ne.2 hc3) (by decide) ?_
  refine RA.skip rfl rfl rfl rfl rfl (beq_eq_false_iff_ne.2 hc3) (by decide) ?_
  refine RA.skip rfl rfl rfl rfl rfl (beq_eq_false_iff_ne.2 hc3) (by decide) ?_
  refine RA.skip rfl rfl rfl rfl rfl (beq_eq_false_iff_ne.2 hc3) (by decide) ?_
  refine RA.skip rfl rfl rfl rfl rfl (beq_eq_false_iff_ne.2 hc3) (by decide) ?_
  refine a_pick (b := false) (v := vB _) ?_ (beq_eq_false_iff_ne.2 hc3)
  refine a_move (v := vB _) ?_
  refine RA.skip rfl rfl rfl rfl rfl rfl (by decide) ?_
  refine RA.skip rfl rfl rfl rfl rfl rfl (by decide) ?_
  refine RA.skip rfl rfl rfl rfl rfl rfl (by decide) ?_
  refine RA.skip rfl rfl rfl rfl rfl rfl (by decide) ?_
  refine RA.skip rfl rfl rfl rfl rfl rfl (by decide) ?_
  refine RA.skip rfl rfl rfl rfl rfl rfl (by decide) ?_
  refine RA.skip rfl rfl rfl rfl rfl rfl (by decide) ?_
  refine RA.skip rfl rfl rfl rfl rfl rfl (by decide) ?_
  refine RA.skip rfl rfl rfl rfl rfl rfl (by decide) ?_
  refine RA.skip rfl rfl rfl rfl rfl rfl (by decide) ?_
  refine RA.skip rfl rfl rfl rfl rfl rfl (by decide) ?_
  refine RA.skip rfl rfl rfl rfl rfl rfl (by decide) ?_
  refine RA.skip rfl rfl rfl rfl rfl rfl (by decide) ?_
  refine a_pick (b := false) (v := vB _) ?_ rfl
  refine a_move (v := vB _) ?_
  refine RA.nil nofun ?_
  refine AG.ret ?_
  obtain rfl := Option.some.inj H
  exact RetP.mk id ⟨rfl, trivial⟩ trivial rfl
def impl_crossing.f (a0_0 : Int) (a0_1 : Int) (a1_0 : Int) (a1_1 : Int) (a2_0 : Int) (a2_1 : Int) (a3_0 : Int) (a3_1 : Int) : Option (Bool) := (impl_side.f a0_0 a0_1 a1_0 a1_1 a2_0 a2_1).bind fun t1 => ((impl_side.f a0_0 a0_1 a1_0 a1_1 a3_0 a3_1).bind fun t3 => (if (wrap64 (t1 * t3)) < 0 then ((impl_side.f a2_0 a2_1 a3_0 a3_1 a0_0 a0_1).bind fun t6 => ((impl_side.f a2_0 a2_1 a3_0 a3_1 a1_0 a1_1).bind fun t8 => (some (decide ((wrap64 (t6 * t8)) < 0))))) else (some false)))
set_option maxRecDepth 100000 in
theorem impl_crossing.ok {a0_0 : Int} {a0_1 : Int} {a1_0 : Int} {a1_1 : Int} {a2_0 : Int} {a2_1 : Int} {a3_0 : Int} {a3_1 : Int} {r : Bool} (H : impl_crossing.f a0_0 a0_1 a1_0 a1_1 a2_0 a2_1 a3_0 a3_1 = some r) : OkF Tryz.prog 202 [.agg [.d (.v (.int .i64 a0_0)), .d (.v (.int .i64 a0_1))], .agg [.d (.v (.int .i64 a1_0)), .d (.v (.int .i64 a1_1))], .agg [.d (.v (.int .i64 a2_0)), .d (.v (.int .i64 a2_1))], .agg [.d (.v (.int .i64 a3_0)), .d (.v (.int .i64 a3_1))]] [] (.c (.d (.v (.bool r)))) [] := by
 unfold impl_crossing.f at H
 refine OkF.of (N := 31) (rs := [8]) (avs := [.c (.d (.v (.bool r)))]) Tryz.func202 rfl rfl (fun _ _ => results_tmp rfl _ _ _) (by decide) rfl rfl rfl rfl (fun w0 S => ?_)
 refine AG.seq ?_
 refine AG.region HM ?_
 refine a_box 200 ?_
 refine a_box 201 ?_
 refine a_box 202 ?_
 refine a_box 203 ?_
 refine a_move (v := vB _) ?_
 refine RA.nil nofun ?_
 refine AG.seq ?_
 refine AG.region HM ?_
 refine a_ldB (v := .agg [_, _]) ?_ T160
 refine a_ldB (v := .agg [_, _]) ?_ T160
 refine a_ldB (v := .agg [_, _]) ?_ T160
 obtain ⟨t1, e2, H⟩ := bindO H
 refine a_call (v := vI t1) (nk := []) (L := []) ?_ rfl (impl_side.ok e2) id (qg (qg (qg qn))) trivial trivial trivial rfl
 refine a_ldB (v := .agg [_, _]) ?_ T160
 refine a_ldB (v := .agg [_, _]) ?_ T160
 refine a_ldB (v := .agg [_, _]) ?_ T160
 obtain ⟨t3, e4, H⟩ := bindO H
 refine a_call (v := vI t3) (nk := []) (L := []) ?_ rfl (impl_side.ok e4) id (qg (qg (qg qn))) trivial trivial trivial rfl
 refine a_int (u := .int .i64 (wrap64 (t1 * t3))) ?_
 refine a_int (u := .bool (decide ((wrap64 (t1 * t3)) < 0))) ?_
 refine a_move (v := vB _) ?_
 by_cases hc5 : (wrap64 (t1 * t3)) < 0
 ·rw [if_pos hc5] at H
  refine a_ldB (v := .agg [_, _]) ?_ T160 (hg := Gs.yes rfl rfl rfl (decide_eq_true hc5))
  refine a_ldB (v := .agg [_, _]) ?_ T160 (hg := Gs.yes rfl rfl rfl (decide_eq_true hc5))
  refine a_ldB (v := .agg [_, _]) ?_ T160 (hg := Gs.yes rfl rfl rfl (decide_eq_true hc5))
  obtain ⟨t6, e7, H⟩ := bindO H
  refine a_call (v := vI t6) (nk := []) (L := []) ?_ rfl (impl_side.ok e7) id (qg (qg (qg qn))) trivial trivial trivial rfl (hg := Gs.yes rfl rfl rfl (decide_eq_true hc5))
  refine a_ldB (v := .agg [_, _]) ?_ T160 (hg := Gs.yes rfl rfl rfl (decide_eq_true hc5))
  refine a_ldB (v := .agg [_, _]) ?_ T160 (hg := Gs.yes rfl rfl rfl (decide_eq_true hc5))
  refine a_ldB (v := .agg [_, _]) ?_ T160 (hg := Gs.yes rfl rfl rfl (decide_eq_true hc5))
  obtain ⟨t8, e9, H⟩ := bindO H
  refine a_call (v := vI t8) (nk := []) (L := []) ?_ rfl (impl_side.ok e9) id (qg (qg (qg qn))) trivial trivial trivial rfl (hg := Gs.yes rfl rfl rfl (decide_eq_true hc5))
  refine a_int (u := .int .i64 (wrap64 (t6 * t8))) ?_ (hg := Gs.yes rfl rfl rfl (decide_eq_true hc5))
  refine a_int (u := .bool (decide ((wrap64 (t6 * t8)) < 0))) ?_ (hg := Gs.yes rfl rfl rfl (decide_eq_true hc5))
  refine a_pick (b := true) (v := vB _) ?_ (decide_eq_true hc5)
  refine a_move (v := vB _) ?_
  refine RA.nil (fun _ => by kernel_rfl) ?_
  refine AG.ret ?_
  obtain rfl := Option.some.inj H
  exact RetP.mk id ⟨rfl, trivial⟩ trivial rfl
 ·rw [if_neg hc5] at H
  refine RA.skip rfl rfl rfl rfl rfl (decide_eq_false hc5) (by decide) ?_
  refine RA.skip rfl rfl rfl rfl rfl (decide_eq_false hc5) (by decide) ?_
  refine RA.skip rfl rfl rfl rfl rfl (decide_eq_false hc5) (by decide) ?_
  refine RA.skip rfl rfl rfl rfl rfl (decide_eq_false hc5) (by decide) ?_
  refine RA.skip rfl rfl rfl rfl rfl (decide_eq_false hc5) (by decide) ?_
  refine RA.skip rfl rfl rfl rfl rfl (decide_eq_false hc5) (by decide) ?_
  refine RA.skip rfl rfl rfl rfl rfl (decide_eq_false hc5) (by decide) ?_
  refine RA.skip rfl rfl rfl rfl rfl (decide_eq_false hc5) (by decide) ?_
  refine RA.skip rfl rfl rfl rfl rfl (decide_eq_false hc5) (by decide) ?_
  refine RA.skip rfl rfl rfl rfl rfl (decide_eq_false hc5) (by decide) ?_
  refine a_pick (b := false) (v := vB _) ?_ (decide_eq_false hc5)
  refine a_move (v := vB _) ?_
  refine RA.nil (fun _ => by kernel_rfl) ?_
  refine AG.ret ?_
  obtain rfl := Option.some.inj H
  exact RetP.mk id ⟨rfl, trivial⟩ trivial rfl
def impl_touching.f (a0_0 : Int) (a0_1 : Int) (a1_0 : Int) (a1_1 : Int) (a2_0 : Int) (a2_1 : Int) (a3_0 : Int) (a3_1 : Int) : Option (Bool) := (impl_crossing.f a0_0 a0_1 a1_0 a1_1 a2_0 a2_1 a3_0 a3_1).bind fun t1 => (if t1 = true then (some true) else ((impl_on.f a0_0 a0_1 a1_0 a1_1 a2_0 a2_1).bind fun t4 => (if t4 = true then (some true) else ((impl_on.f a0_0 a0_1 a1_0 a1_1 a3_0 a3_1).bind fun t7 => (if t7 = true then (some true) else ((impl_on.f a2_0 a2_1 a3_0 a3_1 a0_0 a0_1).bind fun t10 => (if t10 = true then (some true) else ((impl_on.f a2_0 a2_1 a3_0 a3_1 a1_0 a1_1).bind fun t13 => (some t13)))))))))
set_option maxRecDepth 100000 in
theorem impl_touching.ok {a0_0 : Int} {a0_1 : Int} {a1_0 : Int} {a1_1 : Int} {a2_0 : Int} {a2_1 : Int} {a3_0 : Int} {a3_1 : Int} {r : Bool} (H : impl_touching.f a0_0 a0_1 a1_0 a1_1 a2_0 a2_1 a3_0 a3_1 = some r) : OkF Tryz.prog 164 [.agg [.d (.v (.int .i64 a0_0)), .d (.v (.int .i64 a0_1))], .agg [.d (.v (.int .i64 a1_0)), .d (.v (.int .i64 a1_1))], .agg [.d (.v (.int .i64 a2_0)), .d (.v (.int .i64 a2_1))], .agg [.d (.v (.int .i64 a3_0)), .d (.v (.int .i64 a3_1))]] [] (.c (.d (.v (.bool r)))) [] := by
 unfold impl_touching.f at H
 refine OkF.of (N := 38) (rs := [8]) (avs := [.c (.d (.v (.bool r)))]) Tryz.func164 rfl rfl (fun _ _ => results_tmp rfl _ _ _) (by decide) rfl rfl rfl rfl (fun w0 S => ?_)
 refine AG.seq ?_
 refine AG.region HM ?_
 refine a_box 200 ?_
 refine a_box 201 ?_
 refine a_box 202 ?_
 refine a_box 203 ?_
 refine a_move (v := vB _) ?_
 refine RA.nil nofun ?_
 refine AG.seq ?_
 refine AG.region HM ?_
 refine a_ldB (v := .agg [_, _]) ?_ T160
 refine a_ldB (v := .agg [_, _]) ?_ T160
 refine a_ldB (v := .agg [_, _]) ?_ T160
 refine a_ldB (v := .agg [_, _]) ?_ T160
 obtain ⟨t1, e2, H⟩ := bindO H
 refine a_call (v := vB t1) (nk := []) (L := []) ?_ rfl (impl_crossing.ok e2) id (qg (qg (qg (qg qn)))) trivial trivial trivial rfl
 refine a_move (v := vB _) ?_
 by_cases hc3 : t1 = true
 ·rw [if_pos hc3] at H
  refine RA.skip rfl rfl rfl rfl rfl hc3 (by decide) ?_
  refine RA.skip rfl rfl rfl rfl rfl hc3 (by decide) ?_
  refine RA.skip rfl rfl rfl rfl rfl hc3 (by decide) ?_
  refine RA.skip rfl rfl rfl rfl rfl hc3 (by decide) ?_
  refine a_pick (b := true) (v := vB _) ?_ hc3
  refine a_move (v := vB _) ?_
  refine RA.skip rfl rfl rfl rfl rfl rfl (by decide) ?_
  refine RA.skip rfl rfl rfl rfl rfl rfl (by decide) ?_
  refine RA.skip rfl rfl rfl rfl rfl rfl (by decide) ?_
  refine RA.skip rfl rfl rfl rfl rfl rfl (by decide) ?_
  refine a_pick (b := true) (v := vB _) ?_ rfl
  refine a_move (v := vB _) ?_
  refine RA.skip rfl rfl rfl rfl rfl rfl (by decide) ?_
  refine RA.skip rfl rfl rfl rfl rfl rfl (by decide) ?_
  refine RA.skip rfl rfl rfl rfl rfl rfl (by decide) ?_
  refine RA.skip rfl rfl rfl rfl rfl rfl (by decide) ?_
  refine a_pick (b := true) (v := vB _) ?_ rfl
  refine a_move (v := vB _) ?_
  refine RA.skip rfl rfl rfl rfl rfl rfl (by decide) ?_
  refine RA.skip rfl rfl rfl rfl rfl rfl (by decide) ?_
  refine RA.skip rfl rfl rfl rfl rfl rfl (by decide) ?_
  refine RA.skip rfl rfl rfl rfl rfl rfl (by decide) ?_
  refine a_pick (b := true) (v := vB _) ?_ rfl
  refine a_move (v := vB _) ?_
  refine RA.nil nofun ?_
  refine AG.ret ?_
  obtain rfl := Option.some.inj H
  exact RetP.mk id ⟨rfl, trivial⟩ trivial rfl
 ·rw [if_neg hc3] at H
  refine a_ldB (v := .agg [_, _]) ?_ T160 (hg := Gs.yes rfl rfl rfl (Bool.eq_false_iff.2 hc3))
  refine a_ldB (v := .agg [_, _]) ?_ T160 (hg := Gs.yes rfl rfl rfl (Bool.eq_false_iff.2 hc3))
  refine a_ldB (v := .agg [_, _]) ?_ T160 (hg := Gs.yes rfl rfl rfl (Bool.eq_false_iff.2 hc3))
  obtain ⟨t4, e5, H⟩ := bindO H
  refine a_call (v := vB t4) (nk := []) (L := []) ?_ rfl (impl_on.ok e5) id (qg (qg (qg qn))) trivial trivial trivial rfl (hg := Gs.yes rfl rfl rfl (Bool.eq_false_iff.2 hc3))
  refine a_pick (b := false) (v := vB _) ?_ (Bool.eq_false_iff.2 hc3)
  refine a_move (v := vB _) ?_
  by_cases hc6 : t4 = true
  ·rw [if_pos hc6] at H
   refine RA.skip rfl rfl rfl rfl rfl hc6 (by decide) ?_
   refine RA.skip rfl rfl rfl rfl rfl hc6 (by decide) ?_
   refine RA.skip rfl rfl rfl rfl rfl hc6 (by decide) ?_
   refine RA.skip rfl rfl rfl rfl rfl hc6 (by decide) ?_
   refine a_pick (b := true) (v := vB _) ?_ hc6
   refine a_move (v := vB _) ?_
   refine RA.skip rfl rfl rfl rfl rfl rfl (by decide) ?_
   refine RA.skip rfl rfl rfl rfl rfl rfl (by decide) ?_
   refine RA.skip rfl rfl rfl rfl rfl rfl (by decide) ?_
   refine RA.skip rfl rfl rfl rfl rfl rfl (by decide) ?_
   refine a_pick (b := true) (v := vB _) ?_ rfl
   refine a_move (v := vB _) ?_
   refine RA.skip rfl rfl rfl rfl rfl rfl (by decide) ?_
   refine RA.skip rfl rfl rfl rfl rfl rfl (by decide) ?_
   refine RA.skip rfl rfl rfl rfl rfl rfl (by decide) ?_
   refine RA.skip rfl rfl rfl rfl rfl rfl (by decide) ?_
   refine a_pick (b := true) (v := vB _) ?_ rfl
   refine a_move (v := vB _) ?_
   refine RA.nil nofun ?_
   refine AG.ret ?_
   obtain rfl := Option.some.inj H
   exact RetP.mk id ⟨rfl, trivial⟩ trivial rfl
  ·rw [if_neg hc6] at H
   refine a_ldB (v := .agg [_, _]) ?_ T160 (hg := Gs.yes rfl rfl rfl (Bool.eq_false_iff.2 hc6))
   refine a_ldB (v := .agg [_, _]) ?_ T160 (hg := Gs.yes rfl rfl rfl (Bool.eq_false_iff.2 hc6))
   refine a_ldB (v := .agg [_, _]) ?_ T160 (hg := Gs.yes rfl rfl rfl (Bool.eq_false_iff.2 hc6))
   obtain ⟨t7, e8, H⟩ := bindO H
   refine a_call (v := vB t7) (nk := []) (L := []) ?_ rfl (impl_on.ok e8) id (qg (qg (qg qn))) trivial trivial trivial rfl (hg := Gs.yes rfl rfl rfl (Bool.eq_false_iff.2 hc6))
   refine a_pick (b := false) (v := vB _) ?_ (Bool.eq_false_iff.2 hc6)
   refine a_move (v := vB _) ?_
   by_cases hc9 : t7 = true
   ·rw [if_pos hc9] at H
    refine RA.skip rfl rfl rfl rfl rfl hc9 (by decide) ?_
    refine RA.skip rfl rfl rfl rfl rfl hc9 (by decide) ?_
    refine RA.skip rfl rfl rfl rfl rfl hc9 (by decide) ?_
    refine RA.skip rfl rfl rfl rfl rfl hc9 (by decide) ?_
    refine a_pick (b := true) (v := vB _) ?_ hc9
    refine a_move (v := vB _) ?_
    refine RA.skip rfl rfl rfl rfl rfl rfl (by decide) ?_
    refine RA.skip rfl rfl rfl rfl rfl rfl (by decide) ?_
    refine RA.skip rfl rfl rfl rfl rfl rfl (by decide) ?_
    refine RA.skip rfl rfl rfl rfl rfl rfl (by decide) ?_
    refine a_pick (b := true) (v := vB _) ?_ rfl
    refine a_move (v := vB _) ?_
    refine RA.nil nofun ?_
    refine AG.ret ?_
    obtain rfl := Option.some.inj H
    exact RetP.mk id ⟨rfl, trivial⟩ trivial rfl
   ·rw [if_neg hc9] at H
    refine a_ldB (v := .agg [_, _]) ?_ T160 (hg := Gs.yes rfl rfl rfl (Bool.eq_false_iff.2 hc9))
    refine a_ldB (v := .agg [_, _]) ?_ T160 (hg := Gs.yes rfl rfl rfl (Bool.eq_false_iff.2 hc9))
    refine a_ldB (v := .agg [_, _]) ?_ T160 (hg := Gs.yes rfl rfl rfl (Bool.eq_false_iff.2 hc9))
    obtain ⟨t10, e11, H⟩ := bindO H
    refine a_call (v := vB t10) (nk := []) (L := []) ?_ rfl (impl_on.ok e11) id (qg (qg (qg qn))) trivial trivial trivial rfl (hg := Gs.yes rfl rfl rfl (Bool.eq_false_iff.2 hc9))
    refine a_pick (b := false) (v := vB _) ?_ (Bool.eq_false_iff.2 hc9)
    refine a_move (v := vB _) ?_
    by_cases hc12 : t10 = true
    ·rw [if_pos hc12] at H
     refine RA.skip rfl rfl rfl rfl rfl hc12 (by decide) ?_
     refine RA.skip rfl rfl rfl rfl rfl hc12 (by decide) ?_
     refine RA.skip rfl rfl rfl rfl rfl hc12 (by decide) ?_
     refine RA.skip rfl rfl rfl rfl rfl hc12 (by decide) ?_
     refine a_pick (b := true) (v := vB _) ?_ hc12
     refine a_move (v := vB _) ?_
     refine RA.nil nofun ?_
     refine AG.ret ?_
     obtain rfl := Option.some.inj H
     exact RetP.mk id ⟨rfl, trivial⟩ trivial rfl
    ·rw [if_neg hc12] at H
     refine a_ldB (v := .agg [_, _]) ?_ T160 (hg := Gs.yes rfl rfl rfl (Bool.eq_false_iff.2 hc12))
     refine a_ldB (v := .agg [_, _]) ?_ T160 (hg := Gs.yes rfl rfl rfl (Bool.eq_false_iff.2 hc12))
     refine a_ldB (v := .agg [_, _]) ?_ T160 (hg := Gs.yes rfl rfl rfl (Bool.eq_false_iff.2 hc12))
     obtain ⟨t13, e14, H⟩ := bindO H
     refine a_call (v := vB t13) (nk := []) (L := []) ?_ rfl (impl_on.ok e14) id (qg (qg (qg qn))) trivial trivial trivial rfl (hg := Gs.yes rfl rfl rfl (Bool.eq_false_iff.2 hc12))
     refine a_pick (b := false) (v := vB _) ?_ (Bool.eq_false_iff.2 hc12)
     refine a_move (v := vB _) ?_
     refine RA.nil nofun ?_
     refine AG.ret ?_
     obtain rfl := Option.some.inj H
     exact RetP.mk id ⟨rfl, trivial⟩ trivial rfl
mutual
def impl_ValidPolygon.j0 : Nat → List S159 → Int → Bool → Option (Bool)
 | 0, _, _, _ => none
 | k + 1, x0, x3, x21 => if x21 = true then (some false) else (impl_ValidPolygon.l0 k x0 x3 (x0.length : Int) 0)
def impl_ValidPolygon.l0 : Nat → List S159 → Int → Int → Int → Option (Bool)
 | 0, _, _, _, _ => none
 | k + 1, x0, x3, x23, x24 => if x24 < x23 then (if 0 ≤ x24 then (if x24 < (x0.length : Int) then (if x3 = 0 then (none) else (if 0 ≤ (Int.tmod (wrap64 (x24 + 1)) x3) then (if (Int.tmod (wrap64 (x24 + 1)) x3) < (x0.length : Int) then (if 0 ≤ (Int.tmod (wrap64 (x24 + 2)) x3) then (if (Int.tmod (wrap64 (x24 + 2)) x3) < (x0.length : Int) then (if (((rd159 x0 x24).f0) == ((rd159 x0 (Int.tmod (wrap64 (x24 + 1)) x3)).f0) && (((rd159 x0 x24).f1) == ((rd159 x0 (Int.tmod (wrap64 (x24 + 1)) x3)).f1))) = true then (impl_ValidPolygon.j1 k x0 x3 x24 ((rd159 x0 x24).f0) ((rd159 x0 x24).f1) ((rd159 x0 (Int.tmod (wrap64 (x24 + 1)) x3)).f0) ((rd159 x0 (Int.tmod (wrap64 (x24 + 1)) x3)).f1) x23 x24 true) else ((impl_on.f ((rd159 x0 x24).f0) ((rd159 x0 x24).f1) ((rd159 x0 (Int.tmod (wrap64 (x24 + 1)) x3)).f0) ((rd159 x0 (Int.tmod (wrap64 (x24 + 1)) x3)).f1) ((rd159 x0 (Int.tmod (wrap64 (x24 + 2)) x3)).f0) ((rd159 x0 (Int.tmod (wrap64 (x24 + 2)) x3)).f1)).bind fun t15 => (if t15 = true then (impl_ValidPolygon.j1 k x0 x3 x24 ((rd159 x0 x24).f0) ((rd159 x0 x24).f1) ((rd159 x0 (Int.tmod (wrap64 (x24 + 1)) x3)).f0) ((rd159 x0 (Int.tmod (wrap64 (x24 + 1)) x3)).f1) x23 x24 true) else ((impl_on.f ((rd159 x0 (Int.tmod (wrap64 (x24 + 1)) x3)).f0) ((rd159 x0 (Int.tmod (wrap64 (x24 + 1)) x3)).f1) ((rd159 x0 (Int.tmod (wrap64 (x24 + 2)) x3)).f0) ((rd159 x0 (Int.tmod (wrap64 (x24 + 2)) x3)).f1) ((rd159 x0 x24).f0) ((rd159 x0 x24).f1)).bind fun t18 => (impl_ValidPolygon.j1 k x0 x3 x24 ((rd159 x0 x24).f0) ((rd159 x0 x24).f1) ((rd159 x0 (Int.tmod (wrap64 (x24 + 1)) x3)).f0) ((rd159 x0 (Int.tmod (wrap64 (x24 + 1)) x3)).f1) x23 x24 t18))))) else (none)) else (none)) else (none)) else (none))) else (none)) else (none)) else ((impl_doubled.f k x0).bind fun t31 => (some (decide (t31 > 0))))
def impl_ValidPolygon.j1 : Nat → List S159 → Int → Int → Int → Int → Int → Int → Int → Int → Bool → Option (Bool)
 | 0, _, _, _, _, _, _, _, _, _, _ => none
 | k + 1, x0, x3, x4, y207_0, y207_1, y208_0, y208_1, x23, x24, x59 => if x59 = true then (some false) else (impl_ValidPolygon.l1 k x0 x3 x4 y207_0 y207_1 y208_0 y208_1 (wrap64 (x4 + 2)) x23 x24)
def impl_ValidPolygon.l1 : Nat → List S159 → Int → Int → Int → Int → Int → Int → Int → Int → Int → Option (Bool)
 | 0, _, _, _, _, _, _, _, _, _, _ => none
 | k + 1, x0, x3, x4, y209_0, y209_1, y210_0, y210_1, x8, x23, x24 => if x8 < x3 then (if x3 = 0 then (none) else (if (Int.tmod (wrap64 (x8 + 1)) x3) = x4 then (impl_ValidPolygon.l1 k x0 x3 x4 y209_0 y209_1 y210_0 y210_1 (wrap64 (x8 + 1)) x23 x24) else (if 0 ≤ x8 then (if x8 < (x0.length : Int) then (if 0 ≤ (Int.tmod (wrap64 (x8 + 1)) x3) then (if (Int.tmod (wrap64 (x8 + 1)) x3) < (x0.length : Int) then ((impl_touching.f y209_0 y209_1 y210_0 y210_1 ((rd159 x0 x8).f0) ((rd159 x0 x8).f1) ((rd159 x0 (Int.tmod (wrap64 (x8 + 1)) x3)).f0) ((rd159 x0 (Int.tmod (wrap64 (x8 + 1)) x3)).f1)).bind fun t28 => (if t28 = true then (some false) else (impl_ValidPolygon.l1 k x0 x3 x4 y209_0 y209_1 y210_0 y210_1 (wrap64 (x8 + 1)) x23 x24))) else (none)) else (none)) else (none)) else (none)))) else (impl_ValidPolygon.l0 k x0 x3 x23 (wrap64 (x24 + 1)))
end
def impl_ValidPolygon.f (k : Nat) (l0 : List S159) : Option (Bool) := if (l0.length : Int) < 3 then (impl_ValidPolygon.j0 k l0 (l0.length : Int) true) else (if (l0.length : Int) > 24 then (impl_ValidPolygon.j0 k l0 (l0.length : Int) true) else ((impl_validPoints.f k l0).bind fun t3 => (impl_ValidPolygon.j0 k l0 (l0.length : Int) (!t3))))
set_option maxRecDepth 100000 in
theorem impl_ValidPolygon.ok {k : Nat} {l0 : List S159} {r : Bool} (H : impl_ValidPolygon.f k l0 = some r) : OkF Tryz.prog 114 [vR 160 (l0.map c159)] [] (.c (.d (.v (.bool r)))) [] := by
 unfold impl_ValidPolygon.f at H
 refine OkF.of (N := 93) (rs := [2]) (avs := [.c (.d (.v (.bool r)))]) Tryz.func114 rfl rfl (fun _ _ => results_tmp rfl _ _ _) (by decide) rfl rfl rfl rfl (fun w0 S => ?_)
 refine AG.seq ?_
 refine AG.region HM ?_
 refine a_move (v := vB _) ?_
 refine RA.nil nofun ?_
 refine AG.seq ?_
 refine AG.region HM ?_
 refine a_move (v := vR _ _) ?_
 refine a_lenR ?_ Tryz.underlying32
 refine a_move (v := vI _) ?_
 refine RA.nil nofun ?_
 refine AG.seq ?_
 refine AG.seq ?_
 refine AG.joinR (fun s => ∃ q, q ≤ k ∧ ∃ (x0 : List S159) (x3 : Int) (x21 : Bool), impl_ValidPolygon.j0 q x0 x3 x21 = some r ∧ s = St.of [(0, vR 160 (x0.map c159)), (3, vI x3), (21, vB x21)] []) ?_ ?_
 ·skip
  refine AG.region HM ?_
  refine a_move (v := vI _) ?_
  refine a_int (u := .bool (decide ((l0.length : Int) < 3))) ?_
  refine a_move (v := vB _) ?_
  by_cases hc1 : (l0.length : Int) < 3
  ·rw [if_pos hc1] at H
   refine RA.skip rfl rfl rfl rfl rfl (decide_eq_true hc1) (by decide) ?_
   refine RA.skip rfl rfl rfl rfl rfl (decide_eq_true hc1) (by decide) ?_
   refine a_pick (b := true) (v := vB _) ?_ (decide_eq_true hc1)
   refine a_move (v := vB _) ?_
   refine RA.skip rfl rfl rfl rfl rfl rfl (by decide) ?_
   refine RA.skip rfl rfl rfl rfl rfl rfl (by decide) ?_
   refine RA.skip rfl rfl rfl rfl rfl rfl (by decide) ?_
   refine a_pick (b := true) (v := vB _) ?_ rfl
   refine RA.nil nofun ?_
   exact CanR.mk id ⟨_, (by omega), _, _, _, H, rfl⟩ ⟨rfl, rfl, rfl, trivial⟩ trivial rfl
  ·rw [if_neg hc1] at H
   refine a_move (v := vI _) ?_ (hg := Gs.yes rfl rfl rfl (decide_eq_false hc1))
   refine a_int (u := .bool (decide ((l0.length : Int) > 24))) ?_ (hg := Gs.yes rfl rfl rfl (decide_eq_false hc1))
   refine a_pick (b := false) (v := vB _) ?_ (decide_eq_false hc1)
   refine a_move (v := vB _) ?_
   by_cases hc2 : (l0.length : Int) > 24
   ·rw [if_pos hc2] at H
    refine RA.skip rfl rfl rfl rfl rfl (decide_eq_true hc2) (by decide) ?_
    refine RA.skip rfl rfl rfl rfl rfl (decide_eq_true hc2) (by decide) ?_
    refine RA.skip rfl rfl rfl rfl rfl (decide_eq_true hc2) (by decide) ?_
    refine a_pick (b := true) (v := vB _) ?_ (decide_eq_true hc2)
    refine RA.nil nofun ?_
    exact CanR.mk id ⟨_, (by omega), _, _, _, H, rfl⟩ ⟨rfl, rfl, rfl, trivial⟩ trivial rfl
   ·rw [if_neg hc2] at H
    refine a_move (v := vR _ _) ?_ (hg := Gs.yes rfl rfl rfl (decide_eq_false hc2))
    obtain ⟨t3, e4, H⟩ := bindO H
    refine a_call (v := vB t3) (nk := []) (L := []) ?_ rfl (impl_validPoints.ok e4) id (qd qn) trivial trivial trivial rfl (hg := Gs.yes rfl rfl rfl (decide_eq_false hc2))
    refine a_un (u := .bool (!t3)) ?_ (hg := Gs.yes rfl rfl rfl (decide_eq_false hc2))
    refine a_pick (b := false) (v := vB _) ?_ (decide_eq_false hc2)
    refine RA.nil nofun ?_
    exact CanR.mk id ⟨_, (by omega), _, _, _, H, rfl⟩ ⟨rfl, rfl, rfl, trivial⟩ trivial rfl
 ·clear H
  rintro _ ⟨k, hj0, x0, x3, x21, H, rfl⟩
  cases k with
  | zero => cases H
  | succ k =>
   rw [impl_ValidPolygon.j0] at H
   by_cases hc5 : x21 = true
   ·rw [if_pos hc5] at H
    refine AG.yes rfl hc5 ?_
    refine AG.seq ?_
    refine AG.region HM ?_
    refine a_move (v := vB _) ?_
    refine RA.nil nofun ?_
    refine AG.ret ?_
    obtain rfl := Option.some.inj H
    exact RetP.mk id ⟨rfl, trivial⟩ trivial rfl
   ·rw [if_neg hc5] at H
    refine AG.no rfl (Bool.eq_false_iff.2 hc5) ?_
    refine AG.skip ?_
    refine AG.seq ?_
    refine AG.seq ?_
    refine AG.region HM ?_
    refine a_move (v := vR _ _) ?_
    refine a_lenR ?_ Tryz.underlying32
    refine a_move (v := vI _) ?_
    refine RA.nil nofun ?_
    refine AG.block ?_
    refine AG.loop ?_
    obtain ⟨K0, hK0, gK0⟩ : ∃ K, k ≤ K ∧ K ≤ k := ⟨k, Nat.le_refl k, Nat.le_refl k⟩
    refine AGr.canon id (AGr.loopI (n := k) (fun k s => k ≤ K0 ∧ ∃ (x0 : List S159) (x3 : Int) (x23 : Int) (x24 : Int), impl_ValidPolygon.l0 k x0 x3 x23 x24 = some r ∧ s = St.of [(0, vR 160 (x0.map c159)), (3, vI x3), (23, vI x23), (24, vI x24)] []) ⟨hK0, _, _, _, _, H, rfl⟩ ?_ ?_) ⟨rfl, rfl, rfl, rfl, trivial⟩ trivial rfl
    ·rintro _ ⟨_, _, _, _, _, H, _⟩
     cases H
    ·clear H hK0
     rintro k ih0 _ ⟨hK0, x0, x3, x23, x24, H, rfl⟩
     unfold impl_ValidPolygon.l0 at H
     refine AG.seq ?_
     refine AG.region HM ?_
     refine a_int (u := .bool (decide (x24 < x23))) ?_
     refine RA.nil nofun ?_
     refine AG.seq ?_
     by_cases hc6 : x24 < x23
     ·rw [if_pos hc6] at H
      refine AG.yes rfl (decide_eq_true hc6) ?_
      refine AG.skip ?_
      refine AG.seq ?_
      refine AG.block ?_
      refine AG.seq ?_
      refine AG.region HM ?_
      refine a_move (v := vI _) ?_
      refine a_move (v := vI _) ?_
      refine RA.nil nofun ?_
      refine AG.seq ?_
      refine AG.region HM ?_
      refine a_move (v := vR _ _) ?_
      refine a_move (v := vI _) ?_
      by_cases hc7 : 0 ≤ x24
      ·rw [if_pos hc7] at H
       by_cases hc8 : x24 < (x0.length : Int)
       ·rw [if_pos hc8] at H
        refine a_ixR (el := c159 (rd159 x0 x24)) ?_ ⟨hc7, hc8⟩ T160 Tryz.underlying32 (hel := R159 hc7 hc8)
        refine a_ldR (v := .agg [_, _]) ?_ T160
        refine a_move (v := vR _ _) ?_
        refine a_move (v := vI _) ?_
        refine a_int (u := .int .i64 (wrap64 (x24 + 1))) ?_
        refine a_move (v := vI _) ?_
        by_cases hc9 : x3 = 0
        ·rw [if_pos hc9] at H
         cases H
        ·rw [if_neg hc9] at H
         refine a_rem (r := Int.tmod (wrap64 (x24 + 1)) x3) ?_ hc9
         by_cases hc10 : 0 ≤ (Int.tmod (wrap64 (x24 + 1)) x3)
         ·rw [if_pos hc10] at H
          by_cases hc11 : (Int.tmod (wrap64 (x24 + 1)) x3) < (x0.length : Int)
          ·rw [if_pos hc11] at H
           refine a_ixR (el := c159 (rd159 x0 (Int.tmod (wrap64 (x24 + 1)) x3))) ?_ ⟨hc10, hc11⟩ T160 Tryz.underlying32 (hel := R159 hc10 hc11)
           refine a_ldR (v := .agg [_, _]) ?_ T160
           refine a_move (v := vR _ _) ?_
           refine a_move (v := vI _) ?_
           refine a_int (u := .int .i64 (wrap64 (x24 + 2))) ?_
           refine a_move (v := vI _) ?_
           refine a_rem (r := Int.tmod (wrap64 (x24 + 2)) x3) ?_ hc9
           by_cases hc12 : 0 ≤ (Int.tmod (wrap64 (x24 + 2)) x3)
           ·rw [if_pos hc12] at H
            by_cases hc13 : (Int.tmod (wrap64 (x24 + 2)) x3) < (x0.length : Int)
            ·rw [if_pos hc13] at H
             refine a_ixR (el := c159 (rd159 x0 (Int.tmod (wrap64 (x24 + 2)) x3))) ?_ ⟨hc12, hc13⟩ T160 Tryz.underlying32 (hel := R159 hc12 hc13)
             refine a_ldR (v := .agg [_, _]) ?_ T160
             refine a_alloc (cs := [_, _]) 202 ?_ T160
             refine a_alloc (cs := [_, _]) 203 ?_ T160
             refine a_alloc (cs := [_, _]) 204 ?_ T160
             refine a_stB (cs' := [_, _]) ?_ T160
             refine a_stB (cs' := [_, _]) ?_ T160
             refine a_stB (cs' := [_, _]) ?_ T160
             refine RA.nil (fun _ => by kernel_rfl) ?_
             refine AG.seq ?_
             refine AG.seq ?_
             refine AG.joinR (fun s => ∃ q, q ≤ k ∧ ∃ (x0 : List S159) (x3 : Int) (x4 : Int) (y207_0 : Int) (y207_1 : Int) (y208_0 : Int) (y208_1 : Int) (x23 : Int) (x24 : Int) (x59 : Bool), impl_ValidPolygon.j1 q x0 x3 x4 y207_0 y207_1 y208_0 y208_1 x23 x24 x59 = some r ∧ s = St.of [(0, vR 160 (x0.map c159)), (3, vI x3), (4, vI x4), (5, .c (.ptr 207 0)), (6, .c (.ptr 208 0)), (23, vI x23), (24, vI x24), (59, vB x59)] [(207, .box 160 [.d (.v (.int .i64 y207_0)), .d (.v (.int .i64 y207_1))]), (208, .box 160 [.d (.v (.int .i64 y208_0)), .d (.v (.int .i64 y208_1))])]) ?_ ?_
             ·skip
              refine AG.region HM ?_
              refine a_ldB (v := .agg [_, _]) ?_ T160
              refine a_ldB (v := .agg [_, _]) ?_ T160
              refine a_eqS (b := (((rd159 x0 x24).f0) == ((rd159 x0 (Int.tmod (wrap64 (x24 + 1)) x3)).f0) && (((rd159 x0 x24).f1) == ((rd159 x0 (Int.tmod (wrap64 (x24 + 1)) x3)).f1)))) ?_ (.inl ⟨rfl, rfl⟩) (Q160 ((rd159 x0 x24).f0) ((rd159 x0 (Int.tmod (wrap64 (x24 + 1)) x3)).f0) ((rd159 x0 x24).f1) ((rd159 x0 (Int.tmod (wrap64 (x24 + 1)) x3)).f1)).1
              refine a_move (v := vB _) ?_
              by_cases hc14 : (((rd159 x0 x24).f0) == ((rd159 x0 (Int.tmod (wrap64 (x24 + 1)) x3)).f0) && (((rd159 x0 x24).f1) == ((rd159 x0 (Int.tmod (wrap64 (x24 + 1)) x3)).f1))) = true
              ·rw [if_pos hc14] at H
               refine RA.skip rfl rfl rfl rfl rfl hc14 (by decide) ?_
               refine RA.skip rfl rfl rfl rfl rfl hc14 (by decide) ?_
               refine RA.skip rfl rfl rfl rfl rfl hc14 (by decide) ?_
               refine RA.skip rfl rfl rfl rfl rfl hc14 (by decide) ?_
               refine a_pick (b := true) (v := vB _) ?_ hc14
               refine a_move (v := vB _) ?_
               refine RA.skip rfl rfl rfl rfl rfl rfl (by decide) ?_
               refine RA.skip rfl rfl rfl rfl rfl rfl (by decide) ?_
               refine RA.skip rfl rfl rfl rfl rfl rfl (by decide) ?_
               refine RA.skip rfl rfl rfl rfl rfl rfl (by decide) ?_
               refine a_pick (b := true) (v := vB _) ?_ rfl
               refine RA.nil nofun ?_
               exact CanR.mk (fun κ => cond (Nat.beq κ 207) 202 (cond (Nat.beq κ 208) 203 (κ))) ⟨_, (by omega), _, _, _, _, _, _, _, _, _, _, H, rfl⟩ ⟨rfl, rfl, rfl, rfl, rfl, rfl, rfl, rfl, trivial⟩ ⟨rfl, rfl, trivial⟩ rfl
              ·rw [if_neg hc14] at H
               refine a_ldB (v := .agg [_, _]) ?_ T160 (hg := Gs.yes rfl rfl rfl (Bool.eq_false_iff.2 hc14))
               refine a_ldB (v := .agg [_, _]) ?_ T160 (hg := Gs.yes rfl rfl rfl (Bool.eq_false_iff.2 hc14))
               refine a_ldB (v := .agg [_, _]) ?_ T160 (hg := Gs.yes rfl rfl rfl (Bool.eq_false_iff.2 hc14))
               obtain ⟨t15, e16, H⟩ := bindO H
               refine a_call (v := vB t15) (nk := []) (L := []) ?_ rfl (impl_on.ok e16) id (qg (qg (qg qn))) trivial trivial trivial rfl (hg := Gs.yes rfl rfl rfl (Bool.eq_false_iff.2 hc14))
               refine a_pick (b := false) (v := vB _) ?_ (Bool.eq_false_iff.2 hc14)
               refine a_move (v := vB _) ?_
               by_cases hc17 : t15 = true
               ·rw [if_pos hc17] at H
                refine RA.skip rfl rfl rfl rfl rfl hc17 (by decide) ?_
                refine RA.skip rfl rfl rfl rfl rfl hc17 (by decide) ?_
                refine RA.skip rfl rfl rfl rfl rfl hc17 (by decide) ?_
                refine RA.skip rfl rfl rfl rfl rfl hc17 (by decide) ?_
                refine a_pick (b := true) (v := vB _) ?_ hc17
                refine RA.nil nofun ?_
                exact CanR.mk (fun κ => cond (Nat.beq κ 207) 202 (cond (Nat.beq κ 208) 203 (κ))) ⟨_, (by omega), _, _, _, _, _, _, _, _, _, _, H, rfl⟩ ⟨rfl, rfl, rfl, rfl, rfl, rfl, rfl, rfl, trivial⟩ ⟨rfl, rfl, trivial⟩ rfl
               ·rw [if_neg hc17] at H
                refine a_ldB (v := .agg [_, _]) ?_ T160 (hg := Gs.yes rfl rfl rfl (Bool.eq_false_iff.2 hc17))
                refine a_ldB (v := .agg [_, _]) ?_ T160 (hg := Gs.yes rfl rfl rfl (Bool.eq_false_iff.2 hc17))
                refine a_ldB (v := .agg [_, _]) ?_ T160 (hg := Gs.yes rfl rfl rfl (Bool.eq_false_iff.2 hc17))
                obtain ⟨t18, e19, H⟩ := bindO H
                refine a_call (v := vB t18) (nk := []) (L := []) ?_ rfl (impl_on.ok e19) id (qg (qg (qg qn))) trivial trivial trivial rfl (hg := Gs.yes rfl rfl rfl (Bool.eq_false_iff.2 hc17))
                refine a_pick (b := false) (v := vB _) ?_ (Bool.eq_false_iff.2 hc17)
                refine RA.nil nofun ?_
                exact CanR.mk (fun κ => cond (Nat.beq κ 207) 202 (cond (Nat.beq κ 208) 203 (κ))) ⟨_, (by omega), _, _, _, _, _, _, _, _, _, _, H, rfl⟩ ⟨rfl, rfl, rfl, rfl, rfl, rfl, rfl, rfl, trivial⟩ ⟨rfl, rfl, trivial⟩ rfl
             ·clear H
              rintro _ ⟨k, hj1, x0, x3, x4, y207_0, y207_1, y208_0, y208_1, x23, x24, x59, H, rfl⟩
              cases k with
              | zero => cases H
              | succ k =>
               rw [impl_ValidPolygon.j1] at H
               by_cases hc20 : x59 = true
               ·rw [if_pos hc20] at H
                refine AG.yes rfl hc20 ?_
                refine AG.seq ?_
                refine AG.region HM ?_
                refine a_move (v := vB _) ?_
                refine RA.nil nofun ?_
                refine AG.ret ?_
                obtain rfl := Option.some.inj H
                exact RetP.mk id ⟨rfl, trivial⟩ trivial rfl
               ·rw [if_neg hc20] at H
                refine AG.no rfl (Bool.eq_false_iff.2 hc20) ?_
                refine AG.skip ?_
                refine AG.seq ?_
                refine AG.region HM ?_
                refine a_move (v := vI _) ?_
                refine a_int (u := .int .i64 (wrap64 (x4 + 2))) ?_
                refine a_move (v := vI _) ?_
                refine RA.nil nofun ?_
                refine AG.block ?_
                refine AG.loop ?_
                obtain ⟨K1, hK1, gK1⟩ : ∃ K, k ≤ K ∧ K ≤ k := ⟨k, Nat.le_refl k, Nat.le_refl k⟩
                refine AGr.canon (fun κ => cond (Nat.beq κ 209) 207 (cond (Nat.beq κ 210) 208 (κ))) (AGr.loopI (n := k) (fun k s => k ≤ K1 ∧ ∃ (x0 : List S159) (x3 : Int) (x4 : Int) (y209_0 : Int) (y209_1 : Int) (y210_0 : Int) (y210_1 : Int) (x8 : Int) (x23 : Int) (x24 : Int), impl_ValidPolygon.l1 k x0 x3 x4 y209_0 y209_1 y210_0 y210_1 x8 x23 x24 = some r ∧ s = St.of [(0, vR 160 (x0.map c159)), (3, vI x3), (4, vI x4), (5, .c (.ptr 209 0)), (6, .c (.ptr 210 0)), (8, vI x8), (23, vI x23), (24, vI x24)] [(209, .box 160 [.d (.v (.int .i64 y209_0)), .d (.v (.int .i64 y209_1))]), (210, .box 160 [.d (.v (.int .i64 y210_0)), .d (.v (.int .i64 y210_1))])]) ⟨hK1, _, _, _, _, _, _, _, _, _, _, H, rfl⟩ ?_ ?_) ⟨rfl, rfl, rfl, rfl, rfl, rfl, rfl, rfl, trivial⟩ ⟨rfl, rfl, trivial⟩ rfl
                ·rintro _ ⟨_, _, _, _, _, _, _, _, _, _, _, H, _⟩
                 cases H
                ·clear H hK1
                 rintro k ih1 _ ⟨hK1, x0, x3, x4, y209_0, y209_1, y210_0, y210_1, x8, x23, x24, H, rfl⟩
                 unfold impl_ValidPolygon.l1 at H
                 refine AG.seq ?_
                 refine AG.seq ?_
                 refine AG.region HM ?_
                 refine a_move (v := vI _) ?_
                 refine a_move (v := vI _) ?_
                 refine a_int (u := .bool (decide (x8 < x3))) ?_
                 refine RA.nil nofun ?_
                 by_cases hc21 : x8 < x3
                 ·rw [if_pos hc21] at H
                  refine AG.yes rfl (decide_eq_true hc21) ?_
                  refine AG.skip ?_
                  refine AG.seq ?_
                  refine AG.block ?_
                  refine AG.seq ?_
                  refine AG.region HM ?_
                  refine a_move (v := vI _) ?_
                  refine a_int (u := .int .i64 (wrap64 (x8 + 1))) ?_
                  refine a_move (v := vI _) ?_
                  by_cases hc22 : x3 = 0
                  ·rw [if_pos hc22] at H
                   cases H
                  ·rw [if_neg hc22] at H
                   refine a_rem (r := Int.tmod (wrap64 (x8 + 1)) x3) ?_ hc22
                   refine a_move (v := vI _) ?_
                   refine a_int (u := .bool (((Int.tmod (wrap64 (x8 + 1)) x3) != x4))) ?_
                   refine a_move (v := vB _) ?_
                   by_cases hc23 : (Int.tmod (wrap64 (x8 + 1)) x3) = x4
                   ·rw [if_pos hc23] at H
                    refine RA.skip rfl rfl rfl rfl rfl (bne_eq_false_iff_eq.2 hc23) (by decide) ?_
                    refine RA.skip rfl rfl rfl rfl rfl (bne_eq_false_iff_eq.2 hc23) (by decide) ?_
                    refine RA.skip rfl rfl rfl rfl rfl (bne_eq_false_iff_eq.2 hc23) (by decide) ?_
                    refine RA.skip rfl rfl rfl rfl rfl (bne_eq_false_iff_eq.2 hc23) (by decide) ?_
                    refine RA.skip rfl rfl rfl rfl rfl (bne_eq_false_iff_eq.2 hc23) (by decide) ?_
                    refine RA.skip rfl rfl rfl rfl rfl (bne_eq_false_iff_eq.2 hc23) (by decide) ?_
                    refine RA.skip rfl rfl rfl rfl rfl (bne_eq_false_iff_eq.2 hc23) (by decide) ?_
                    refine RA.skip rfl rfl rfl rfl rfl (bne_eq_false_iff_eq.2 hc23) (by decide) ?_
                    refine RA.skip rfl rfl rfl rfl rfl (bne_eq_false_iff_eq.2 hc23) (by decide) ?_
                    refine RA.skip rfl rfl rfl rfl rfl (bne_eq_false_iff_eq.2 hc23) (by decide) ?_
                    refine RA.skip rfl rfl rfl rfl rfl (bne_eq_false_iff_eq.2 hc23) (by decide) ?_
                    refine RA.skip rfl rfl rfl rfl rfl (bne_eq_false_iff_eq.2 hc23) (by decide) ?_
                    refine RA.skip rfl rfl rfl rfl rfl (bne_eq_false_iff_eq.2 hc23) (by decide) ?_
                    refine RA.skip rfl rfl rfl rfl rfl (bne_eq_false_iff_eq.2 hc23) (by decide) ?_
                    refine a_pick (b := false) (v := vB _) ?_ (bne_eq_false_iff_eq.2 hc23)
                    refine RA.nil (fun _ => by kernel_rfl) ?_
                    refine AG.no rfl rfl ?_
                    refine AG.skip ?_
                    refine AG.region HM ?_
                    refine a_move (v := vI _) ?_
                    refine a_int (u := .int .i64 (wrap64 (x8 + 1))) ?_
                    refine a_move (v := vI _) ?_
                    refine RA.nil nofun ?_
                    exact AGr.canon id (ih1 _ (by omega) _ ⟨by omega, _, _, _, _, _, _, _, _, _, _, H, rfl⟩) ⟨rfl, rfl, rfl, rfl, rfl, rfl, rfl, rfl, trivial⟩ ⟨rfl, rfl, trivial⟩ rfl
                   ·rw [if_neg hc23] at H
                    refine a_ldB (v := .agg [_, _]) ?_ T160 (hg := Gs.yes rfl rfl rfl (bne_iff_ne.2 hc23))
                    refine a_ldB (v := .agg [_, _]) ?_ T160 (hg := Gs.yes rfl rfl rfl (bne_iff_ne.2 hc23))
                    refine a_move (v := vR _ _) ?_ (hg := Gs.yes rfl rfl rfl (bne_iff_ne.2 hc23))
                    refine a_move (v := vI _) ?_ (hg := Gs.yes rfl rfl rfl (bne_iff_ne.2 hc23))
                    by_cases hc24 : 0 ≤ x8
                    ·rw [if_pos hc24] at H
                     by_cases hc25 : x8 < (x0.length : Int)
                     ·rw [if_pos hc25] at H
                      refine a_ixR (el := c159 (rd159 x0 x8)) ?_ ⟨hc24, hc25⟩ T160 Tryz.underlying32 (hel := R159 hc24 hc25) (hg := Gs.yes rfl rfl rfl (bne_iff_ne.2 hc23))
                      refine a_ldR (v := .agg [_, _]) ?_ T160 (hg := Gs.yes rfl rfl rfl (bne_iff_ne.2 hc23))
                      refine a_move (v := vR _ _) ?_ (hg := Gs.yes rfl rfl rfl (bne_iff_ne.2 hc23))
                      refine a_move (v := vI _) ?_ (hg := Gs.yes rfl rfl rfl (bne_iff_ne.2 hc23))
                      refine a_int (u := .int .i64 (wrap64 (x8 + 1))) ?_ (hg := Gs.yes rfl rfl rfl (bne_iff_ne.2 hc23))
                      refine a_move (v := vI _) ?_ (hg := Gs.yes rfl rfl rfl (bne_iff_ne.2 hc23))
                      refine a_rem (r := Int.tmod (wrap64 (x8 + 1)) x3) ?_ hc22 (hg := Gs.yes rfl rfl rfl (bne_iff_ne.2 hc23))
                      by_cases hc26 : 0 ≤ (Int.tmod (wrap64 (x8 + 1)) x3)
                      ·rw [if_pos hc26] at H
                       by_cases hc27 : (Int.tmod (wrap64 (x8 + 1)) x3) < (x0.length : Int)
                       ·rw [if_pos hc27] at H
                        refine a_ixR (el := c159 (rd159 x0 (Int.tmod (wrap64 (x8 + 1)) x3))) ?_ ⟨hc26, hc27⟩ T160 Tryz.underlying32 (hel := R159 hc26 hc27) (hg := Gs.yes rfl rfl rfl (bne_iff_ne.2 hc23))
                        refine a_ldR (v := .agg [_, _]) ?_ T160 (hg := Gs.yes rfl rfl rfl (bne_iff_ne.2 hc23))
                        obtain ⟨t28, e29, H⟩ := bindO H
                        refine a_call (v := vB t28) (nk := []) (L := []) ?_ rfl (impl_touching.ok e29) id (qg (qg (qg (qg qn)))) trivial trivial trivial rfl (hg := Gs.yes rfl rfl rfl (bne_iff_ne.2 hc23))
                        refine a_pick (b := true) (v := vB _) ?_ (bne_iff_ne.2 hc23)
                        refine RA.nil (fun _ => by kernel_rfl) ?_
                        by_cases hc30 : t28 = true
                        ·rw [if_pos hc30] at H
                         refine AG.yes rfl hc30 ?_
                         refine AG.seq ?_
                         refine AG.region HM ?_
                         refine a_move (v := vB _) ?_
                         refine RA.nil nofun ?_
                         refine AG.ret ?_
                         obtain rfl := Option.some.inj H
                         exact RetP.mk id ⟨rfl, trivial⟩ trivial rfl
                        ·rw [if_neg hc30] at H
                         refine AG.no rfl (Bool.eq_false_iff.2 hc30) ?_
                         refine AG.skip ?_
                         refine AG.region HM ?_
                         refine a_move (v := vI _) ?_
                         refine a_int (u := .int .i64 (wrap64 (x8 + 1))) ?_
                         refine a_move (v := vI _) ?_
                         refine RA.nil nofun ?_
                         exact AGr.canon id (ih1 _ (by omega) _ ⟨by omega, _, _, _, _, _, _, _, _, _, _, H, rfl⟩) ⟨rfl, rfl, rfl, rfl, rfl, rfl, rfl, rfl, trivial⟩ ⟨rfl, rfl, trivial⟩ rfl
                       ·rw [if_neg hc27] at H
                        cases H
                      ·rw [if_neg hc26] at H
                       cases H
                     ·rw [if_neg hc25] at H
                      cases H
                    ·rw [if_neg hc24] at H
                     cases H
                 ·rw [if_neg hc21] at H
                  refine AG.no rfl (decide_eq_false hc21) ?_
                  refine AG.exit ?_
                  refine AG.region HM ?_
                  refine a_int (u := .int .i64 (wrap64 (x24 + 1))) ?_
                  refine a_move (v := vI _) ?_
                  refine RA.nil nofun ?_
                  exact AGr.canon id (ih0 _ (by omega) _ ⟨by omega, _, _, _, _, H, rfl⟩) ⟨rfl, rfl, rfl, rfl, trivial⟩ trivial rfl
            ·rw [if_neg hc13] at H
             cases H
           ·rw [if_neg hc12] at H
            cases H
          ·rw [if_neg hc11] at H
           cases H
         ·rw [if_neg hc10] at H
          cases H
       ·rw [if_neg hc8] at H
        cases H
      ·rw [if_neg hc7] at H
       cases H
     ·rw [if_neg hc6] at H
      refine AG.no rfl (decide_eq_false hc6) ?_
      refine AG.exit ?_
      refine AG.seq ?_
      refine AG.region HM ?_
      refine a_move (v := vR _ _) ?_
      obtain ⟨t31, e32, H⟩ := bindO H
      refine a_call (v := vI t31) (nk := []) (L := []) ?_ rfl (impl_doubled.ok e32) id (qd qn) trivial trivial trivial rfl
      refine a_int (u := .bool (decide (t31 > 0))) ?_
      refine a_move (v := vB _) ?_
      refine RA.nil nofun ?_
      refine AG.ret ?_
      obtain rfl := Option.some.inj H
      exact RetP.mk id ⟨rfl, trivial⟩ trivial rfl
mutual
def impl_ValidDrawing.j0 : Nat → Int → Int → List S159 → List S146 → Bool → Option (Bool)
 | 0, _, _, _, _, _ => none
 | k + 1, y203_0, y203_1, y203_2, y203_3, x30 => if x30 = true then (some false) else (impl_ValidDrawing.l0 k y203_0 y203_1 y203_2 y203_3 y203_2 (y203_2.length : Int) 0)
def impl_ValidDrawing.j1 : Nat → List S159 → List S146 → Option (Bool)
 | 0, _, _ => none
 | k + 1, y209_2, y209_3 => impl_ValidDrawing.l1 k y209_2 y209_3 y209_3 (y209_3.length : Int) 0
def impl_ValidDrawing.l0 : Nat → Int → Int → List S159 → List S146 → List S159 → Int → Int → Option (Bool)
 | 0, _, _, _, _, _, _, _ => none
 | k + 1, y204_0, y204_1, y204_2, y204_3, x32, x33, x34 => if x34 < x33 then (if 0 ≤ x34 then (if x34 < (x32.length : Int) then ((impl_within.f ((rd159 x32 x34).f0) 0 y204_0).bind fun t12 => (if t12 = true then ((impl_within.f ((rd159 x32 x34).f1) 0 y204_1).bind fun t15 => (if t15 = true then (if x34 ≤ (y204_2.length : Int) then ((slices_Contains_impl_Point.f k (y204_2.take ((x34 : Int).toNat)) ((rd159 x32 x34).f0) ((rd159 x32 x34).f1)).bind fun t19 => (if t19 = true then (some false) else (impl_ValidDrawing.l0 k y204_0 y204_1 y204_2 y204_3 x32 x33 (wrap64 (x34 + 1))))) else (none)) else (some false))) else (some false))) else (none)) else (none)) else (impl_ValidDrawing.j1 k y204_2 y204_3)
def impl_ValidDrawing.l1 : Nat → List S159 → List S146 → List S146 → Int → Int → Option (Bool)
 | 0, _, _, _, _, _ => none
 | k + 1, y210_2, y210_3, x63, x64, x65 => if x65 < x64 then (if 0 ≤ x65 then (if x65 < (x63.length : Int) then ((impl_IsName.f k ((rd146 x63 x65).f0)).bind fun t25 => (if t25 = true then (if x65 > 0 then (if 0 ≤ (wrap64 (x65 - 1)) then (if (wrap64 (x65 - 1)) < (y210_3.length : Int) then (impl_ValidDrawing.j2 k y210_2 y210_3 ((rd146 x63 x65).f1) x63 x64 x65 (!(Op.bytesLess (((rd146 y210_3 (wrap64 (x65 - 1))).f0).toList) (((rd146 x63 x65).f0).toList)))) else (none)) else (none)) else (impl_ValidDrawing.j2 k y210_2 y210_3 ((rd146 x63 x65).f1) x63 x64 x65 false)) else (impl_ValidDrawing.j2 k y210_2 y210_3 ((rd146 x63 x65).f1) x63 x64 x65 true))) else (none)) else (none)) else (some true)
def impl_ValidDrawing.j2 : Nat → List S159 → List S146 → List Int → List S146 → Int → Int → Bool → Option (Bool)
 | 0, _, _, _, _, _, _, _ => none
 | k + 1, y213_2, y213_3, y214_1, x63, x64, x65, x89 => if x89 = true then (some false) else ((impl_ringPolygon.f k y213_2 y214_1).bind fun bt32 => (if bt32.2 = true then ((impl_ValidPolygon.f k bt32.1).bind fun t36 => (if t36 = true then (impl_ValidDrawing.l1 k y213_2 y213_3 x63 x64 (wrap64 (x65 + 1))) else (some false))) else (some false)))
end
def impl_ValidDrawing.f (k : Nat) (a0_0 : Int) (a0_1 : Int) (l0_2 : List S159) (l0_3 : List S146) : Option (Bool) := (impl_within.f a0_0 10 20000).bind fun t1 => (if t1 = true then ((impl_within.f a0_1 10 20000).bind fun t4 => (if t4 = true then (if (l0_2.length : Int) > 48 then (impl_ValidDrawing.j0 k a0_0 a0_1 l0_2 l0_3 true) else (impl_ValidDrawing.j0 k a0_0 a0_1 l0_2 l0_3 (decide ((l0_3.length : Int) > 24)))) else (impl_ValidDrawing.j0 k a0_0 a0_1 l0_2 l0_3 true))) else (impl_ValidDrawing.j0 k a0_0 a0_1 l0_2 l0_3 true))
set_option maxRecDepth 100000 in
theorem impl_ValidDrawing.ok {k : Nat} {a0_0 : Int} {a0_1 : Int} {l0_2 : List S159} {l0_3 : List S146} {r : Bool} (H : impl_ValidDrawing.f k a0_0 a0_1 l0_2 l0_3 = some r) : OkF Tryz.prog 53 [.agg [.d (.v (.int .i64 a0_0)), .d (.v (.int .i64 a0_1)), .d (.row 160 (l0_2.map c159)), .d (.row 152 (l0_3.map c146))]] [] (.c (.d (.v (.bool r)))) [] := by
 unfold impl_ValidDrawing.f at H
 refine OkF.of (N := 106) (rs := [2]) (avs := [.c (.d (.v (.bool r)))]) Tryz.func53 rfl rfl (fun _ _ => results_tmp rfl _ _ _) (by decide) rfl rfl rfl rfl (fun w0 S => ?_)
 refine AG.seq ?_
 refine AG.region HM ?_
 refine a_box 200 ?_
 refine a_move (v := vB _) ?_
 refine RA.nil nofun ?_
 refine AG.seq ?_
 refine AG.seq ?_
 refine AG.joinR (fun s => ∃ q, q ≤ k ∧ ∃ (y203_0 : Int) (y203_1 : Int) (y203_2 : List S159) (y203_3 : List S146) (x30 : Bool), impl_ValidDrawing.j0 q y203_0 y203_1 y203_2 y203_3 x30 = some r ∧ s = St.of [(1, .c (.ptr 203 0)), (30, vB x30)] [(203, .box 35 [.d (.v (.int .i64 y203_0)), .d (.v (.int .i64 y203_1)), .d (.row 160 (y203_2.map c159)), .d (.row 152 (y203_3.map c146))])]) ?_ ?_
 ·skip
  refine AG.region HM ?_
  refine a_faB (q := 0) ?_ D35_0
  refine a_ldB (v := vI _) ?_ T2
  obtain ⟨t1, e2, H⟩ := bindO H
  refine a_call (v := vB t1) (nk := []) (L := []) ?_ rfl (impl_within.ok e2) id (qd (qd (qd qn))) trivial trivial trivial rfl
  refine a_un (u := .bool (!t1)) ?_
  refine a_move (v := vB _) ?_
  by_cases hc3 : t1 = true
  ·rw [if_pos hc3] at H
   refine a_faB (q := 1) ?_ D35_1 (hg := Gs.yes rfl rfl rfl (congrArg Bool.not hc3))
   refine a_ldB (v := vI _) ?_ T2 (hg := Gs.yes rfl rfl rfl (congrArg Bool.not hc3))
   obtain ⟨t4, e5, H⟩ := bindO H
   refine a_call (v := vB t4) (nk := []) (L := []) ?_ rfl (impl_within.ok e5) id (qd (qd (qd qn))) trivial trivial trivial rfl (hg := Gs.yes rfl rfl rfl (congrArg Bool.not hc3))
   refine a_un (u := .bool (!t4)) ?_ (hg := Gs.yes rfl rfl rfl (congrArg Bool.not hc3))
   refine a_pick (b := false) (v := vB _) ?_ (congrArg Bool.not hc3)
   refine a_move (v := vB _) ?_
   by_cases hc6 : t4 = true
   ·rw [if_pos hc6] at H
    refine a_faB (q := 2) ?_ D35_2 (hg := Gs.yes rfl rfl rfl (congrArg Bool.not hc6))
    refine a_ldB (v := vR _ _) ?_ T32 (hg := Gs.yes rfl rfl rfl (congrArg Bool.not hc6))
    refine a_lenR ?_ Tryz.underlying32 (hg := Gs.yes rfl rfl rfl (congrArg Bool.not hc6))
    refine a_int (u := .bool (decide ((l0_2.length : Int) > 48))) ?_ (hg := Gs.yes rfl rfl rfl (congrArg Bool.not hc6))
    refine a_pick (b := false) (v := vB _) ?_ (congrArg Bool.not hc6)
    refine a_move (v := vB _) ?_
    by_cases hc7 : (l0_2.length : Int) > 48
    ·rw [if_pos hc7] at H
     refine RA.skip rfl rfl rfl rfl rfl (decide_eq_true hc7) (by decide) ?_
     refine RA.skip rfl rfl rfl rfl rfl (decide_eq_true hc7) (by decide) ?_
     refine RA.skip rfl rfl rfl rfl rfl (decide_eq_true hc7) (by decide) ?_
     refine RA.skip rfl rfl rfl rfl rfl (decide_eq_true hc7) (by decide) ?_
     refine a_pick (b := true) (v := vB _) ?_ (decide_eq_true hc7)
     refine RA.nil nofun ?_
     exact CanR.mk (fun κ => cond (Nat.beq κ 203) 200 (κ)) ⟨_, (by omega), _, _, _, _, _, H, rfl⟩ ⟨rfl, rfl, trivial⟩ ⟨rfl, trivial⟩ rfl
    ·rw [if_neg hc7] at H
     refine a_faB (q := 3) ?_ D35_3 (hg := Gs.yes rfl rfl rfl (decide_eq_false hc7))
     refine a_ldB (v := vR _ _) ?_ T33 (hg := Gs.yes rfl rfl rfl (decide_eq_false hc7))
     refine a_lenR ?_ Tryz.underlying33 (hg := Gs.yes rfl rfl rfl (decide_eq_false hc7))
     refine a_int (u := .bool (decide ((l0_3.length : Int) > 24))) ?_ (hg := Gs.yes rfl rfl rfl (decide_eq_false hc7))
     refine a_pick (b := false) (v := vB _) ?_ (decide_eq_false hc7)
     refine RA.nil nofun ?_
     exact CanR.mk (fun κ => cond (Nat.beq κ 203) 200 (κ)) ⟨_, (by omega), _, _, _, _, _, H, rfl⟩ ⟨rfl, rfl, trivial⟩ ⟨rfl, trivial⟩ rfl
   ·rw [if_neg hc6] at H
    refine RA.skip rfl rfl rfl rfl rfl (congrArg Bool.not (Bool.eq_false_iff.2 hc6)) (by decide) ?_
    refine RA.skip rfl rfl rfl rfl rfl (congrArg Bool.not (Bool.eq_false_iff.2 hc6)) (by decide) ?_
    refine RA.skip rfl rfl rfl rfl rfl (congrArg Bool.not (Bool.eq_false_iff.2 hc6)) (by decide) ?_
    refine RA.skip rfl rfl rfl rfl rfl (congrArg Bool.not (Bool.eq_false_iff.2 hc6)) (by decide) ?_
    refine a_pick (b := true) (v := vB _) ?_ (congrArg Bool.not (Bool.eq_false_iff.2 hc6))
    refine a_move (v := vB _) ?_
    refine RA.skip rfl rfl rfl rfl rfl rfl (by decide) ?_
    refine RA.skip rfl rfl rfl rfl rfl rfl (by decide) ?_
    refine RA.skip rfl rfl rfl rfl rfl rfl (by decide) ?_
    refine RA.skip rfl rfl rfl rfl rfl rfl (by decide) ?_
    refine a_pick (b := true) (v := vB _) ?_ rfl
    refine RA.nil nofun ?_
    exact CanR.mk (fun κ => cond (Nat.beq κ 203) 200 (κ)) ⟨_, (by omega), _, _, _, _, _, H, rfl⟩ ⟨rfl, rfl, trivial⟩ ⟨rfl, trivial⟩ rfl
  ·rw [if_neg hc3] at H
   refine RA.skip rfl rfl rfl rfl rfl (congrArg Bool.not (Bool.eq_false_iff.2 hc3)) (by decide) ?_
   refine RA.skip rfl rfl rfl rfl rfl (congrArg Bool.not (Bool.eq_false_iff.2 hc3)) (by decide) ?_
   refine RA.skip rfl rfl rfl rfl rfl (congrArg Bool.not (Bool.eq_false_iff.2 hc3)) (by decide) ?_
   refine RA.skip rfl rfl rfl rfl rfl (congrArg Bool.not (Bool.eq_false_iff.2 hc3)) (by decide) ?_
   refine a_pick (b := true) (v := vB _) ?_ (congrArg Bool.not (Bool.eq_false_iff.2 hc3))
   refine a_move (v := vB _) ?_
   refine RA.skip rfl rfl rfl rfl rfl rfl (by decide) ?_
   refine RA.skip rfl rfl rfl rfl rfl rfl (by decide) ?_
   refine RA.skip rfl rfl rfl rfl rfl rfl (by decide) ?_
   refine RA.skip rfl rfl rfl rfl rfl rfl (by decide) ?_
   refine a_pick (b := true) (v := vB _) ?_ rfl
   refine a_move (v := vB _) ?_
   refine RA.skip rfl rfl rfl rfl rfl rfl (by decide) ?_
   refine RA.skip rfl rfl rfl rfl rfl rfl (by decide) ?_
   refine RA.skip rfl rfl rfl rfl rfl rfl (by decide) ?_
   refine RA.skip rfl rfl rfl rfl rfl rfl (by decide) ?_
   refine a_pick (b := true) (v := vB _) ?_ rfl
   refine RA.nil nofun ?_
   exact CanR.mk (fun κ => cond (Nat.beq κ 203) 200 (κ)) ⟨_, (by omega), _, _, _, _, _, H, rfl⟩ ⟨rfl, rfl, trivial⟩ ⟨rfl, trivial⟩ rfl
 ·clear H
  rintro _ ⟨k, hj0, y203_0, y203_1, y203_2, y203_3, x30, H, rfl⟩
  cases k with
  | zero => cases H
  | succ k =>
   rw [impl_ValidDrawing.j0] at H
   by_cases hc8 : x30 = true
   ·rw [if_pos hc8] at H
    refine AG.yes rfl hc8 ?_
    refine AG.seq ?_
    refine AG.region HM ?_
    refine a_move (v := vB _) ?_
    refine RA.nil nofun ?_
    refine AG.ret ?_
    obtain rfl := Option.some.inj H
    exact RetP.mk id ⟨rfl, trivial⟩ trivial rfl
   ·rw [if_neg hc8] at H
    refine AG.no rfl (Bool.eq_false_iff.2 hc8) ?_
    refine AG.skip ?_
    refine AG.seq ?_
    refine AG.seq ?_
    refine AG.region HM ?_
    refine a_faB (q := 2) ?_ D35_2
    refine a_ldB (v := vR _ _) ?_ T32
    refine a_lenR ?_ Tryz.underlying32
    refine a_move (v := vI _) ?_
    refine RA.nil nofun ?_
    refine AG.joinR (fun s => ∃ q, q ≤ k ∧ ∃ (y209_0 : Int) (y209_1 : Int) (y209_2 : List S159) (y209_3 : List S146), impl_ValidDrawing.j1 q y209_2 y209_3 = some r ∧ s = St.of [(1, .c (.ptr 209 0))] [(209, .box 35 [.d (.v (.int .i64 y209_0)), .d (.v (.int .i64 y209_1)), .d (.row 160 (y209_2.map c159)), .d (.row 152 (y209_3.map c146))])]) ?_ ?_
    ·skip
     refine AG.block ?_
     refine AG.loop ?_
     obtain ⟨K0, hK0, gK0⟩ : ∃ K, k ≤ K ∧ K ≤ k := ⟨k, Nat.le_refl k, Nat.le_refl k⟩
     refine AGr.canon (fun κ => cond (Nat.beq κ 204) 203 (κ)) (AGr.loopI (n := k) (fun k s => k ≤ K0 ∧ ∃ (y204_0 : Int) (y204_1 : Int) (y204_2 : List S159) (y204_3 : List S146) (x32 : List S159) (x33 : Int) (x34 : Int), impl_ValidDrawing.l0 k y204_0 y204_1 y204_2 y204_3 x32 x33 x34 = some r ∧ s = St.of [(1, .c (.ptr 204 0)), (32, vR 160 (x32.map c159)), (33, vI x33), (34, vI x34)] [(204, .box 35 [.d (.v (.int .i64 y204_0)), .d (.v (.int .i64 y204_1)), .d (.row 160 (y204_2.map c159)), .d (.row 152 (y204_3.map c146))])]) ⟨hK0, _, _, _, _, _, _, _, H, rfl⟩ ?_ ?_) ⟨rfl, rfl, rfl, rfl, trivial⟩ ⟨rfl, trivial⟩ rfl
     ·rintro _ ⟨_, _, _, _, _, _, _, _, H, _⟩
      cases H
     ·clear H hK0
      rintro k ih0 _ ⟨hK0, y204_0, y204_1, y204_2, y204_3, x32, x33, x34, H, rfl⟩
      unfold impl_ValidDrawing.l0 at H
      refine AG.seq ?_
      refine AG.region HM ?_
      refine a_int (u := .bool (decide (x34 < x33))) ?_
      refine RA.nil nofun ?_
      refine AG.seq ?_
      by_cases hc9 : x34 < x33
      ·rw [if_pos hc9] at H
       refine AG.yes rfl (decide_eq_true hc9) ?_
       refine AG.skip ?_
       refine AG.seq ?_
       refine AG.block ?_
       refine AG.seq ?_
       refine AG.region HM ?_
       refine a_move (v := vI _) ?_
       by_cases hc10 : 0 ≤ x34
       ·rw [if_pos hc10] at H
        by_cases hc11 : x34 < (x32.length : Int)
        ·rw [if_pos hc11] at H
         refine a_ixR (el := c159 (rd159 x32 x34)) ?_ ⟨hc10, hc11⟩ T160 Tryz.underlying32 (hel := R159 hc10 hc11)
         refine a_ldR (v := .agg [_, _]) ?_ T160
         refine a_alloc (cs := [_, _]) 205 ?_ T160
         refine a_move (v := vI _) ?_
         refine a_stB (cs' := [_, _]) ?_ T160
         refine RA.nil nofun ?_
         refine AG.seq ?_
         refine AG.region HM ?_
         refine a_faB (q := 0) ?_ D160_0
         refine a_ldB (v := vI _) ?_ T2
         refine a_faB (q := 0) ?_ D35_0
         refine a_ldB (v := vI _) ?_ T2
         obtain ⟨t12, e13, H⟩ := bindO H
         refine a_call (v := vB t12) (nk := []) (L := []) ?_ rfl (impl_within.ok e13) id (qd (qd (qd qn))) trivial trivial trivial rfl
         refine a_un (u := .bool (!t12)) ?_
         refine a_move (v := vB _) ?_
         by_cases hc14 : t12 = true
         ·rw [if_pos hc14] at H
          refine a_faB (q := 1) ?_ D160_1 (hg := Gs.yes rfl rfl rfl (congrArg Bool.not hc14))
          refine a_ldB (v := vI _) ?_ T2 (hg := Gs.yes rfl rfl rfl (congrArg Bool.not hc14))
          refine a_faB (q := 1) ?_ D35_1 (hg := Gs.yes rfl rfl rfl (congrArg Bool.not hc14))
          refine a_ldB (v := vI _) ?_ T2 (hg := Gs.yes rfl rfl rfl (congrArg Bool.not hc14))
          obtain ⟨t15, e16, H⟩ := bindO H
          refine a_call (v := vB t15) (nk := []) (L := []) ?_ rfl (impl_within.ok e16) id (qd (qd (qd qn))) trivial trivial trivial rfl (hg := Gs.yes rfl rfl rfl (congrArg Bool.not hc14))
          refine a_un (u := .bool (!t15)) ?_ (hg := Gs.yes rfl rfl rfl (congrArg Bool.not hc14))
          refine a_pick (b := false) (v := vB _) ?_ (congrArg Bool.not hc14)
          refine a_move (v := vB _) ?_
          by_cases hc17 : t15 = true
          ·rw [if_pos hc17] at H
           refine a_faB (q := 2) ?_ D35_2 (hg := Gs.yes rfl rfl rfl (congrArg Bool.not hc17))
           refine a_ldB (v := vR _ _) ?_ T32 (hg := Gs.yes rfl rfl rfl (congrArg Bool.not hc17))
           refine a_move (v := vI _) ?_ (hg := Gs.yes rfl rfl rfl (congrArg Bool.not hc17))
           by_cases hc18 : x34 ≤ (y204_2.length : Int)
           ·rw [if_pos hc18] at H
            refine a_slR (l := none) (h := some x34) (css' := (y204_2.take ((x34 : Int).toNat)).map c159) ?_ Tryz.underlying32 T160 ⟨(Int.le_refl 0), hc10, (lenM (p := fun n => x34 ≤ n) hc18)⟩ (map_take_drop _ _ _ _) (hg := Gs.yes rfl rfl rfl (congrArg Bool.not hc17))
            refine a_ldB (v := .agg [_, _]) ?_ T160 (hg := Gs.yes rfl rfl rfl (congrArg Bool.not hc17))
            obtain ⟨t19, e20, H⟩ := bindO H
            refine a_call (v := vB t19) (nk := []) (L := []) ?_ rfl (slices_Contains_impl_Point.ok e20) id (qd (qg qn)) trivial trivial trivial rfl (hg := Gs.yes rfl rfl rfl (congrArg Bool.not hc17))
            refine a_pick (b := false) (v := vB _) ?_ (congrArg Bool.not hc17)
            refine RA.nil (fun _ => by kernel_rfl) ?_
            by_cases hc21 : t19 = true
            ·rw [if_pos hc21] at H
             refine AG.yes rfl hc21 ?_
             refine AG.seq ?_
             refine AG.region HM ?_
             refine a_move (v := vB _) ?_
             refine RA.nil nofun ?_
             refine AG.ret ?_
             obtain rfl := Option.some.inj H
             exact RetP.mk id ⟨rfl, trivial⟩ trivial rfl
            ·rw [if_neg hc21] at H
             refine AG.no rfl (Bool.eq_false_iff.2 hc21) ?_
             refine AG.skip ?_
             refine AG.region HM ?_
             refine a_int (u := .int .i64 (wrap64 (x34 + 1))) ?_
             refine a_move (v := vI _) ?_
             refine RA.nil nofun ?_
             exact AGr.canon id (ih0 _ (by omega) _ ⟨by omega, _, _, _, _, _, _, _, H, rfl⟩) ⟨rfl, rfl, rfl, rfl, trivial⟩ ⟨rfl, trivial⟩ rfl
           ·rw [if_neg hc18] at H
            cases H
          ·rw [if_neg hc17] at H
           refine RA.skip rfl rfl rfl rfl rfl (congrArg Bool.not (Bool.eq_false_iff.2 hc17)) (by decide) ?_
           refine RA.skip rfl rfl rfl rfl rfl (congrArg Bool.not (Bool.eq_false_iff.2 hc17)) (by decide) ?_
           refine RA.skip rfl rfl rfl rfl rfl (congrArg Bool.not (Bool.eq_false_iff.2 hc17)) (by decide) ?_
           refine RA.skip rfl rfl rfl rfl rfl (congrArg Bool.not (Bool.eq_false_iff.2 hc17)) (by decide) ?_
           refine RA.skip rfl rfl rfl rfl rfl (congrArg Bool.not (Bool.eq_false_iff.2 hc17)) (by decide) ?_
           refine RA.skip rfl rfl rfl rfl rfl (congrArg Bool.not (Bool.eq_false_iff.2 hc17)) (by decide) ?_
           refine a_pick (b := true) (v := vB _) ?_ (congrArg Bool.not (Bool.eq_false_iff.2 hc17))
           refine RA.nil (fun _ => by kernel_rfl) ?_
           refine AG.yes rfl rfl ?_
           refine AG.seq ?_
           refine AG.region HM ?_
           refine a_move (v := vB _) ?_
           refine RA.nil nofun ?_
           refine AG.ret ?_
           obtain rfl := Option.some.inj H
           exact RetP.mk id ⟨rfl, trivial⟩ trivial rfl
         ·rw [if_neg hc14] at H
          refine RA.skip rfl rfl rfl rfl rfl (congrArg Bool.not (Bool.eq_false_iff.2 hc14)) (by decide) ?_
          refine RA.skip rfl rfl rfl rfl rfl (congrArg Bool.not (Bool.eq_false_iff.2 hc14)) (by decide) ?_
          refine RA.skip rfl rfl rfl rfl rfl (congrArg Bool.not (Bool.eq_false_iff.2 hc14)) (by decide) ?_
          refine RA.skip rfl rfl rfl rfl rfl (congrArg Bool.not (Bool.eq_false_iff.2 hc14)) (by decide) ?_
          refine RA.skip rfl rfl rfl rfl rfl (congrArg Bool.not (Bool.eq_false_iff.2 hc14)) (by decide) ?_
          refine RA.skip rfl rfl rfl rfl rfl (congrArg Bool.not (Bool.eq_false_iff.2 hc14)) (by decide) ?_
          refine a_pick (b := true) (v := vB _) ?_ (congrArg Bool.not (Bool.eq_false_iff.2 hc14))
          refine a_move (v := vB _) ?_
          refine RA.skip rfl rfl rfl rfl rfl rfl (by decide) ?_
          refine RA.skip rfl rfl rfl rfl rfl rfl (by decide) ?_
          refine RA.skip rfl rfl rfl rfl rfl rfl (by decide) ?_
          refine RA.skip rfl rfl rfl rfl rfl rfl (by decide) ?_
          refine RA.skip rfl rfl rfl rfl rfl rfl (by decide) ?_
          refine RA.skip rfl rfl rfl rfl rfl rfl (by decide) ?_
          refine a_pick (b := true) (v := vB _) ?_ rfl
          refine RA.nil (fun _ => by kernel_rfl) ?_
          refine AG.yes rfl rfl ?_
          refine AG.seq ?_
          refine AG.region HM ?_
          refine a_move (v := vB _) ?_
          refine RA.nil nofun ?_
          refine AG.ret ?_
          obtain rfl := Option.some.inj H
          exact RetP.mk id ⟨rfl, trivial⟩ trivial rfl
        ·rw [if_neg hc11] at H
         cases H
       ·rw [if_neg hc10] at H
        cases H
      ·rw [if_neg hc9] at H
       refine AG.no rfl (decide_eq_false hc9) ?_
       refine AG.exit ?_
       exact CanR.mk (fun κ => cond (Nat.beq κ 209) 204 (κ)) ⟨_, (by omega), _, _, _, _, H, rfl⟩ ⟨rfl, trivial⟩ ⟨rfl, trivial⟩ rfl
    ·clear H
     rintro _ ⟨k, hj1, y209_0, y209_1, y209_2, y209_3, H, rfl⟩
     cases k with
     | zero => cases H
     | succ k =>
      rw [impl_ValidDrawing.j1] at H
      refine AG.seq ?_
      refine AG.seq ?_
      refine AG.region HM ?_
      refine a_faB (q := 3) ?_ D35_3
      refine a_ldB (v := vR _ _) ?_ T33
      refine a_lenR ?_ Tryz.underlying33
      refine a_move (v := vI _) ?_
      refine RA.nil nofun ?_
      refine AG.block ?_
      refine AG.loop ?_
      obtain ⟨K1, hK1, gK1⟩ : ∃ K, k ≤ K ∧ K ≤ k := ⟨k, Nat.le_refl k, Nat.le_refl k⟩
      refine AGr.canon (fun κ => cond (Nat.beq κ 210) 209 (κ)) (AGr.loopI (n := k) (fun k s => k ≤ K1 ∧ ∃ (y210_0 : Int) (y210_1 : Int) (y210_2 : List S159) (y210_3 : List S146) (x63 : List S146) (x64 : Int) (x65 : Int), impl_ValidDrawing.l1 k y210_2 y210_3 x63 x64 x65 = some r ∧ s = St.of [(1, .c (.ptr 210 0)), (63, vR 152 (x63.map c146)), (64, vI x64), (65, vI x65)] [(210, .box 35 [.d (.v (.int .i64 y210_0)), .d (.v (.int .i64 y210_1)), .d (.row 160 (y210_2.map c159)), .d (.row 152 (y210_3.map c146))])]) ⟨hK1, _, _, _, _, _, _, _, H, rfl⟩ ?_ ?_) ⟨rfl, rfl, rfl, rfl, trivial⟩ ⟨rfl, trivial⟩ rfl
      ·rintro _ ⟨_, _, _, _, _, _, _, _, H, _⟩
       cases H
      ·clear H hK1
       rintro k ih1 _ ⟨hK1, y210_0, y210_1, y210_2, y210_3, x63, x64, x65, H, rfl⟩
       unfold impl_ValidDrawing.l1 at H
       refine AG.seq ?_
       refine AG.region HM ?_
       refine a_int (u := .bool (decide (x65 < x64))) ?_
       refine RA.nil nofun ?_
       refine AG.seq ?_
       by_cases hc22 : x65 < x64
       ·rw [if_pos hc22] at H
        refine AG.yes rfl (decide_eq_true hc22) ?_
        refine AG.skip ?_
        refine AG.seq ?_
        refine AG.block ?_
        refine AG.seq ?_
        refine AG.region HM ?_
        refine a_move (v := vI _) ?_
        by_cases hc23 : 0 ≤ x65
        ·rw [if_pos hc23] at H
         by_cases hc24 : x65 < (x63.length : Int)
         ·rw [if_pos hc24] at H
          refine a_ixR (el := c146 (rd146 x63 x65)) ?_ ⟨hc23, hc24⟩ T152 Tryz.underlying33 (hel := R146 hc23 hc24)
          refine a_ldR (v := .agg [_, _]) ?_ T152
          refine a_alloc (cs := [_, _]) 211 ?_ T152
          refine a_move (v := vI _) ?_
          refine a_stB (cs' := [_, _]) ?_ T152
          refine RA.nil nofun ?_
          refine AG.seq ?_
          refine AG.seq ?_
          refine AG.joinR (fun s => ∃ q, q ≤ k ∧ ∃ (y213_0 : Int) (y213_1 : Int) (y213_2 : List S159) (y213_3 : List S146) (y214_0 : ByteArray) (y214_1 : List Int) (x63 : List S146) (x64 : Int) (x65 : Int) (x89 : Bool), impl_ValidDrawing.j2 q y213_2 y213_3 y214_1 x63 x64 x65 x89 = some r ∧ s = St.of [(1, .c (.ptr 213 0)), (6, .c (.ptr 214 0)), (63, vR 152 (x63.map c146)), (64, vI x64), (65, vI x65), (89, vB x89)] [(213, .box 35 [.d (.v (.int .i64 y213_0)), .d (.v (.int .i64 y213_1)), .d (.row 160 (y213_2.map c159)), .d (.row 152 (y213_3.map c146))]), (214, .box 152 [.d (.v (.string y214_0)), .d (.row 2 (y214_1.map c2))])]) ?_ ?_
          ·skip
           refine AG.region HM ?_
           refine a_faB (q := 0) ?_ D152_0
           refine a_ldB (v := vS _) ?_ T9
           obtain ⟨t25, e26, H⟩ := bindO H
           refine a_call (v := vB t25) (nk := []) (L := []) ?_ rfl (impl_IsName.ok e26) id (qd qn) trivial trivial trivial rfl
           refine a_un (u := .bool (!t25)) ?_
           refine a_move (v := vB _) ?_
           by_cases hc27 : t25 = true
           ·rw [if_pos hc27] at H
            refine a_move (v := vI _) ?_ (hg := Gs.yes rfl rfl rfl (congrArg Bool.not hc27))
            refine a_int (u := .bool (decide (x65 > 0))) ?_ (hg := Gs.yes rfl rfl rfl (congrArg Bool.not hc27))
            refine a_move (v := vB _) ?_ (hg := Gs.yes rfl rfl rfl (congrArg Bool.not hc27))
            by_cases hc28 : x65 > 0
            ·rw [if_pos hc28] at H
             refine a_faB (q := 3) ?_ D35_3 (hg := Gs.yes rfl rfl rfl (decide_eq_true hc28))
             refine a_ldB (v := vR _ _) ?_ T33 (hg := Gs.yes rfl rfl rfl (decide_eq_true hc28))
             refine a_move (v := vI _) ?_ (hg := Gs.yes rfl rfl rfl (decide_eq_true hc28))
             refine a_int (u := .int .i64 (wrap64 (x65 - 1))) ?_ (hg := Gs.yes rfl rfl rfl (decide_eq_true hc28))
             by_cases hc29 : 0 ≤ (wrap64 (x65 - 1))
             ·rw [if_pos hc29] at H
              by_cases hc30 : (wrap64 (x65 - 1)) < (y210_3.length : Int)
              ·rw [if_pos hc30] at H
               refine a_ixR (el := c146 (rd146 y210_3 (wrap64 (x65 - 1)))) ?_ ⟨hc29, hc30⟩ T152 Tryz.underlying33 (hel := R146 hc29 hc30) (hg := Gs.yes rfl rfl rfl (decide_eq_true hc28))
               refine a_faR (cells' := [_, _]) ?_ D152_0 (hg := Gs.yes rfl rfl rfl (decide_eq_true hc28))
               refine a_ldR (v := vS _) ?_ T9 (hg := Gs.yes rfl rfl rfl (decide_eq_true hc28))
               refine a_faB (q := 0) ?_ D152_0 (hg := Gs.yes rfl rfl rfl (decide_eq_true hc28))
               refine a_ldB (v := vS _) ?_ T9 (hg := Gs.yes rfl rfl rfl (decide_eq_true hc28))
               refine a_bin (u := .bool (!(Op.bytesLess (((rd146 y210_3 (wrap64 (x65 - 1))).f0).toList) (((rd146 x63 x65).f0).toList)))) ?_ (hg := Gs.yes rfl rfl rfl (decide_eq_true hc28))
               refine a_pick (b := true) (v := vB _) ?_ (decide_eq_true hc28) (hg := Gs.yes rfl rfl rfl (congrArg Bool.not hc27))
               refine a_pick (b := false) (v := vB _) ?_ (congrArg Bool.not hc27)
               refine RA.nil (fun _ => by kernel_rfl) ?_
               exact CanR.mk (fun κ => cond (Nat.beq κ 213) 210 (cond (Nat.beq κ 214) 211 (κ))) ⟨_, (by omega), _, _, _, _, _, _, _, _, _, _, H, rfl⟩ ⟨rfl, rfl, rfl, rfl, rfl, rfl, trivial⟩ ⟨rfl, rfl, trivial⟩ rfl
              ·rw [if_neg hc30] at H
               cases H
             ·rw [if_neg hc29] at H
              cases H
            ·rw [if_neg hc28] at H
             refine RA.skip rfl rfl rfl rfl rfl (decide_eq_false hc28) (by decide) ?_
             refine RA.skip rfl rfl rfl rfl rfl (decide_eq_false hc28) (by decide) ?_
             refine RA.skip rfl rfl rfl rfl rfl (decide_eq_false hc28) (by decide) ?_
             refine RA.skip rfl rfl rfl rfl rfl (decide_eq_false hc28) (by decide) ?_
             refine RA.skip rfl rfl rfl rfl rfl (decide_eq_false hc28) (by decide) ?_
             refine RA.skip rfl rfl rfl rfl rfl (decide_eq_false hc28) (by decide) ?_
             refine RA.skip rfl rfl rfl rfl rfl (decide_eq_false hc28) (by decide) ?_
             refine RA.skip rfl rfl rfl rfl rfl (decide_eq_false hc28) (by decide) ?_
             refine RA.skip rfl rfl rfl rfl rfl (decide_eq_false hc28) (by decide) ?_
             refine RA.skip rfl rfl rfl rfl rfl (decide_eq_false hc28) (by decide) ?_
             refine a_pick (b := false) (v := vB _) ?_ (decide_eq_false hc28) (hg := Gs.yes rfl rfl rfl (congrArg Bool.not hc27))
             refine a_pick (b := false) (v := vB _) ?_ (congrArg Bool.not hc27)
             refine RA.nil (fun _ => by kernel_rfl) ?_
             exact CanR.mk (fun κ => cond (Nat.beq κ 213) 210 (cond (Nat.beq κ 214) 211 (κ))) ⟨_, (by omega), _, _, _, _, _, _, _, _, _, _, H, rfl⟩ ⟨rfl, rfl, rfl, rfl, rfl, rfl, trivial⟩ ⟨rfl, rfl, trivial⟩ rfl
           ·rw [if_neg hc27] at H
            refine RA.skip rfl rfl rfl rfl rfl (congrArg Bool.not (Bool.eq_false_iff.2 hc27)) (by decide) ?_
            refine RA.skip rfl rfl rfl rfl rfl (congrArg Bool.not (Bool.eq_false_iff.2 hc27)) (by decide) ?_
            refine RA.skip rfl rfl rfl rfl rfl (congrArg Bool.not (Bool.eq_false_iff.2 hc27)) (by decide) ?_
            refine RA.skip0 rfl rfl rfl rfl rfl ?_
            refine RA.skip0 rfl rfl rfl rfl rfl ?_
            refine RA.skip0 rfl rfl rfl rfl rfl ?_
            refine RA.skip0 rfl rfl rfl rfl rfl ?_
            refine RA.skip0 rfl rfl rfl rfl rfl ?_
            refine RA.skip0 rfl rfl rfl rfl rfl ?_
            refine RA.skip0 rfl rfl rfl rfl rfl ?_
            refine RA.skip0 rfl rfl rfl rfl rfl ?_
            refine RA.skip0 rfl rfl rfl rfl rfl ?_
            refine RA.skip0 rfl rfl rfl rfl rfl ?_
            refine RA.skip rfl rfl rfl rfl rfl (congrArg Bool.not (Bool.eq_false_iff.2 hc27)) (by decide) ?_
            refine a_pick (b := true) (v := vB _) ?_ (congrArg Bool.not (Bool.eq_false_iff.2 hc27))
            refine RA.nil (fun _ => by kernel_rfl) ?_
            exact CanR.mk (fun κ => cond (Nat.beq κ 213) 210 (cond (Nat.beq κ 214) 211 (κ))) ⟨_, (by omega), _, _, _, _, _, _, _, _, _, _, H, rfl⟩ ⟨rfl, rfl, rfl, rfl, rfl, rfl, trivial⟩ ⟨rfl, rfl, trivial⟩ rfl
          ·clear H
           rintro _ ⟨k, hj2, y213_0, y213_1, y213_2, y213_3, y214_0, y214_1, x63, x64, x65, x89, H, rfl⟩
           cases k with
           | zero => cases H
           | succ k =>
            rw [impl_ValidDrawing.j2] at H
            by_cases hc31 : x89 = true
            ·rw [if_pos hc31] at H
             refine AG.yes rfl hc31 ?_
             refine AG.seq ?_
             refine AG.region HM ?_
             refine a_move (v := vB _) ?_
             refine RA.nil nofun ?_
             refine AG.ret ?_
             obtain rfl := Option.some.inj H
             exact RetP.mk id ⟨rfl, trivial⟩ trivial rfl
            ·rw [if_neg hc31] at H
             refine AG.no rfl (Bool.eq_false_iff.2 hc31) ?_
             refine AG.skip ?_
             refine AG.seq ?_
             refine AG.region HM ?_
             refine a_faB (q := 2) ?_ D35_2
             refine a_ldB (v := vR _ _) ?_ T32
             refine a_faB (q := 1) ?_ D152_1
             refine a_ldB (v := vR _ _) ?_ T29
             obtain ⟨⟨t32, t33⟩, e34, H⟩ := bindO H
             refine a_call (v := .tup [.c (.own 215 t32.length), .c (.d (.v (.bool t33)))]) (nk := [(215, .row 160 (t32.map c159))]) (L := []) ?_ rfl (impl_ringPolygon.ok e34) (fun κ => cond (Nat.beq κ 215) 100 (κ)) (qd (qd qn)) trivial ⟨rfl, trivial⟩ ⟨rfl, trivial⟩ rfl
             refine a_move (v := .tup [_, _]) ?_
             refine a_ext (v := .c (.own _ _)) ?_
             refine a_ext (v := vB _) ?_
             refine a_move (v := .c (.own _ _)) ?_
             refine a_move (v := vB _) ?_
             refine RA.nil nofun ?_
             refine AG.seq ?_
             refine AG.region HM ?_
             refine a_move (v := vB _) ?_
             refine a_un (u := .bool (!t33)) ?_
             refine a_move (v := vB _) ?_
             by_cases hc35 : t33 = true
             ·rw [if_pos hc35] at H
              refine a_move (v := .c (.own _ _)) ?_ (hg := Gs.yes rfl rfl rfl (congrArg Bool.not hc35))
              obtain ⟨t36, e37, H⟩ := bindO H
              refine a_call (v := vB t36) (nk := []) (L := [(215, _)]) ?_ rfl (impl_ValidPolygon.ok e37) id (qc rO qn) ⟨rfl, trivial⟩ trivial trivial rfl (hg := Gs.yes rfl rfl rfl (congrArg Bool.not hc35))
              refine a_un (u := .bool (!t36)) ?_ (hg := Gs.yes rfl rfl rfl (congrArg Bool.not hc35))
              refine a_pick (b := false) (v := vB _) ?_ (congrArg Bool.not hc35)
              refine RA.nil nofun ?_
              by_cases hc38 : t36 = true
              ·rw [if_pos hc38] at H
               refine AG.no rfl (congrArg Bool.not hc38) ?_
               refine AG.skip ?_
               refine AG.region HM ?_
               refine a_int (u := .int .i64 (wrap64 (x65 + 1))) ?_
               refine a_move (v := vI _) ?_
               refine RA.nil nofun ?_
               exact AGr.canon (fun κ => cond (Nat.beq κ 210) 213 (κ)) (ih1 _ (by omega) _ ⟨by omega, _, _, _, _, _, _, _, H, rfl⟩) ⟨rfl, rfl, rfl, rfl, trivial⟩ ⟨rfl, trivial⟩ rfl
              ·rw [if_neg hc38] at H
               refine AG.yes rfl (congrArg Bool.not (Bool.eq_false_iff.2 hc38)) ?_
               refine AG.seq ?_
               refine AG.region HM ?_
               refine a_move (v := vB _) ?_
               refine RA.nil nofun ?_
               refine AG.ret ?_
               obtain rfl := Option.some.inj H
               exact RetP.mk id ⟨rfl, trivial⟩ trivial rfl
             ·rw [if_neg hc35] at H
              refine RA.skip rfl rfl rfl rfl rfl (congrArg Bool.not (Bool.eq_false_iff.2 hc35)) (by decide) ?_
              refine RA.skip rfl rfl rfl rfl rfl (congrArg Bool.not (Bool.eq_false_iff.2 hc35)) (by decide) ?_
              refine RA.skip rfl rfl rfl rfl rfl (congrArg Bool.not (Bool.eq_false_iff.2 hc35)) (by decide) ?_
              refine a_pick (b := true) (v := vB _) ?_ (congrArg Bool.not (Bool.eq_false_iff.2 hc35))
              refine RA.nil nofun ?_
              refine AG.yes rfl rfl ?_
              refine AG.seq ?_
              refine AG.region HM ?_
              refine a_move (v := vB _) ?_
              refine RA.nil nofun ?_
              refine AG.ret ?_
              obtain rfl := Option.some.inj H
              exact RetP.mk id ⟨rfl, trivial⟩ trivial rfl
         ·rw [if_neg hc24] at H
          cases H
        ·rw [if_neg hc23] at H
         cases H
       ·rw [if_neg hc22] at H
        refine AG.no rfl (decide_eq_false hc22) ?_
        refine AG.exit ?_
        refine AG.seq ?_
        refine AG.region HM ?_
        refine a_move (v := vB _) ?_
        refine RA.nil nofun ?_
        refine AG.ret ?_
        obtain rfl := Option.some.inj H
        exact RetP.mk id ⟨rfl, trivial⟩ trivial rfl
def impl_SpeciesData.f (a0 : ByteArray) : Option (Int × Int × Int × Int) := if a0.toList = (⟨#[97, 115, 104]⟩ : ByteArray).toList then (some (20, 40, 310, 0)) else (if a0.toList = (⟨#[98, 101, 101, 99, 104]⟩ : ByteArray).toList then (some (35, 45, 410, 0)) else (if a0.toList = (⟨#[98, 105, 114, 99, 104]⟩ : ByteArray).toList then (some (15, 33, 280, 0)) else (if a0.toList = (⟨#[99, 104, 101, 114, 114, 121]⟩ : ByteArray).toList then (some (50, 36, 240, 0)) else (if a0.toList = (⟨#[101, 98, 111, 110, 121]⟩ : ByteArray).toList then (some (95, 85, 270, 0)) else (if a0.toList = (⟨#[104, 111, 108, 108, 121]⟩ : ByteArray).toList then (some (5, 35, 370, 0)) else (if a0.toList = (⟨#[109, 97, 112, 108, 101]⟩ : ByteArray).toList then (some (10, 42, 290, 0)) else (if a0.toList = (⟨#[111, 97, 107]⟩ : ByteArray).toList then (some (40, 40, 330, 0)) else (if a0.toList = (⟨#[114, 111, 115, 101, 119, 111, 111, 100]⟩ : ByteArray).toList then (some (80, 60, 220, 0)) else (if a0.toList = (⟨#[119, 97, 108, 110, 117, 116]⟩ : ByteArray).toList then (some (70, 38, 260, 0)) else (some (0, 0, 0, 3)))))))))))
set_option maxRecDepth 100000 in
theorem impl_SpeciesData.ok {a0 : ByteArray} {r0 : Int} {r1 : Int} {r2 : Int} {r3 : Int} (H : impl_SpeciesData.f a0 = some (r0, r1, r2, r3)) : OkF Tryz.prog 231 [vS a0] [] (.tup [.c (.d (.v (.int .i64 r0))), .c (.d (.v (.int .i64 r1))), .c (.d (.v (.int .i64 r2))), .c (.d (.v (.int .i64 r3)))]) [] := by
 unfold impl_SpeciesData.f at H
 refine OkF.of (N := 27) (rs := [2, 3, 4, 5]) (avs := [.c (.d (.v (.int .i64 r0))), .c (.d (.v (.int .i64 r1))), .c (.d (.v (.int .i64 r2))), .c (.d (.v (.int .i64 r3)))]) Tryz.func231 rfl rfl (fun _ _ => results_tmp4 rfl _ _ _) (by decide) rfl rfl rfl rfl (fun w0 S => ?_)
 refine AG.seq ?_
 refine AG.region HM ?_
 refine a_move (v := vI _) ?_
 refine a_move (v := vI _) ?_
 refine a_move (v := vI _) ?_
 refine a_move (v := vI _) ?_
 refine RA.nil nofun ?_
 refine AG.seq ?_
 refine AG.seq ?_
 refine AG.region HM ?_
 refine a_move (v := vS _) ?_
 refine RA.nil nofun ?_
 refine AG.block ?_
 refine AG.seq ?_
 refine AG.region HM ?_
 refine a_bin (u := .bool (a0.toList == (⟨#[97, 115, 104]⟩ : ByteArray).toList)) ?_
 refine a_move (v := vB _) ?_
 refine RA.nil nofun ?_
 by_cases hc1 : a0.toList = (⟨#[97, 115, 104]⟩ : ByteArray).toList
 ·rw [if_pos hc1] at H
  refine AG.yes rfl (beq_iff_eq.2 hc1) ?_
  refine AG.seq ?_
  refine AG.region HM ?_
  refine a_move (v := vI _) ?_
  refine a_move (v := vI _) ?_
  refine a_move (v := vI _) ?_
  refine a_move (v := vI _) ?_
  refine RA.nil nofun ?_
  refine AG.ret ?_
  simp only [Option.some.injEq, Prod.mk.injEq] at H
  obtain ⟨rfl, rfl, rfl, rfl⟩ := H
  exact RetP.mk id ⟨rfl, rfl, rfl, rfl, trivial⟩ trivial rfl
 ·rw [if_neg hc1] at H
  refine AG.no rfl (beq_eq_false_iff_ne.2 hc1) ?_
  refine AG.seq ?_
  refine AG.region HM ?_
  refine a_bin (u := .bool (a0.toList == (⟨#[98, 101, 101, 99, 104]⟩ : ByteArray).toList)) ?_
  refine a_move (v := vB _) ?_
  refine RA.nil nofun ?_
  by_cases hc2 : a0.toList = (⟨#[98, 101, 101, 99, 104]⟩ : ByteArray).toList
  ·rw [if_pos hc2] at H
   refine AG.yes rfl (beq_iff_eq.2 hc2) ?_
   refine AG.seq ?_
   refine AG.region HM ?_
   refine a_move (v := vI _) ?_
   refine a_move (v := vI _) ?_
   refine a_move (v := vI _) ?_
   refine a_move (v := vI _) ?_
   refine RA.nil nofun ?_
   refine AG.ret ?_
   simp only [Option.some.injEq, Prod.mk.injEq] at H
   obtain ⟨rfl, rfl, rfl, rfl⟩ := H
   exact RetP.mk id ⟨rfl, rfl, rfl, rfl, trivial⟩ trivial rfl
  ·rw [if_neg hc2] at H
   refine AG.no rfl (beq_eq_false_iff_ne.2 hc2) ?_
   refine AG.seq ?_
   refine AG.region HM ?_
   refine a_bin (u := .bool (a0.toList == (⟨#[98, 105, 114, 99, 104]⟩ : ByteArray).toList)) ?_
   refine a_move (v := vB _) ?_
   refine RA.nil nofun ?_
   by_cases hc3 : a0.toList = (⟨#[98, 105, 114, 99, 104]⟩ : ByteArray).toList
   ·rw [if_pos hc3] at H
    refine AG.yes rfl (beq_iff_eq.2 hc3) ?_
    refine AG.seq ?_
    refine AG.region HM ?_
    refine a_move (v := vI _) ?_
    refine a_move (v := vI _) ?_
    refine a_move (v := vI _) ?_
    refine a_move (v := vI _) ?_
    refine RA.nil nofun ?_
    refine AG.ret ?_
    simp only [Option.some.injEq, Prod.mk.injEq] at H
    obtain ⟨rfl, rfl, rfl, rfl⟩ := H
    exact RetP.mk id ⟨rfl, rfl, rfl, rfl, trivial⟩ trivial rfl
   ·rw [if_neg hc3] at H
    refine AG.no rfl (beq_eq_false_iff_ne.2 hc3) ?_
    refine AG.seq ?_
    refine AG.region HM ?_
    refine a_bin (u := .bool (a0.toList == (⟨#[99, 104, 101, 114, 114, 121]⟩ : ByteArray).toList)) ?_
    refine a_move (v := vB _) ?_
    refine RA.nil nofun ?_
    by_cases hc4 : a0.toList = (⟨#[99, 104, 101, 114, 114, 121]⟩ : ByteArray).toList
    ·rw [if_pos hc4] at H
     refine AG.yes rfl (beq_iff_eq.2 hc4) ?_
     refine AG.seq ?_
     refine AG.region HM ?_
     refine a_move (v := vI _) ?_
     refine a_move (v := vI _) ?_
     refine a_move (v := vI _) ?_
     refine a_move (v := vI _) ?_
     refine RA.nil nofun ?_
     refine AG.ret ?_
     simp only [Option.some.injEq, Prod.mk.injEq] at H
     obtain ⟨rfl, rfl, rfl, rfl⟩ := H
     exact RetP.mk id ⟨rfl, rfl, rfl, rfl, trivial⟩ trivial rfl
    ·rw [if_neg hc4] at H
     refine AG.no rfl (beq_eq_false_iff_ne.2 hc4) ?_
     refine AG.seq ?_
     refine AG.region HM ?_
     refine a_bin (u := .bool (a0.toList == (⟨#[101, 98, 111, 110, 121]⟩ : ByteArray).toList)) ?_
     refine a_move (v := vB _) ?_
     refine RA.nil nofun ?_
     by_cases hc5 : a0.toList = (⟨#[101, 98, 111, 110, 121]⟩ : ByteArray).toList
     ·rw [if_pos hc5] at H
      refine AG.yes rfl (beq_iff_eq.2 hc5) ?_
      refine AG.seq ?_
      refine AG.region HM ?_
      refine a_move (v := vI _) ?_
      refine a_move (v := vI _) ?_
      refine a_move (v := vI _) ?_
      refine a_move (v := vI _) ?_
      refine RA.nil nofun ?_
      refine AG.ret ?_
      simp only [Option.some.injEq, Prod.mk.injEq] at H
      obtain ⟨rfl, rfl, rfl, rfl⟩ := H
      exact RetP.mk id ⟨rfl, rfl, rfl, rfl, trivial⟩ trivial rfl
     ·rw [if_neg hc5] at H
      refine AG.no rfl (beq_eq_false_iff_ne.2 hc5) ?_
      refine AG.seq ?_
      refine AG.region HM ?_
      refine a_bin (u := .bool (a0.toList == (⟨#[104, 111, 108, 108, 121]⟩ : ByteArray).toList)) ?_
      refine a_move (v := vB _) ?_
      refine RA.nil nofun ?_
      by_cases hc6 : a0.toList = (⟨#[104, 111, 108, 108, 121]⟩ : ByteArray).toList
      ·rw [if_pos hc6] at H
       refine AG.yes rfl (beq_iff_eq.2 hc6) ?_
       refine AG.seq ?_
       refine AG.region HM ?_
       refine a_move (v := vI _) ?_
       refine a_move (v := vI _) ?_
       refine a_move (v := vI _) ?_
       refine a_move (v := vI _) ?_
       refine RA.nil nofun ?_
       refine AG.ret ?_
       simp only [Option.some.injEq, Prod.mk.injEq] at H
       obtain ⟨rfl, rfl, rfl, rfl⟩ := H
       exact RetP.mk id ⟨rfl, rfl, rfl, rfl, trivial⟩ trivial rfl
      ·rw [if_neg hc6] at H
       refine AG.no rfl (beq_eq_false_iff_ne.2 hc6) ?_
       refine AG.seq ?_
       refine AG.region HM ?_
       refine a_bin (u := .bool (a0.toList == (⟨#[109, 97, 112, 108, 101]⟩ : ByteArray).toList)) ?_
       refine a_move (v := vB _) ?_
       refine RA.nil nofun ?_
       by_cases hc7 : a0.toList = (⟨#[109, 97, 112, 108, 101]⟩ : ByteArray).toList
       ·rw [if_pos hc7] at H
        refine AG.yes rfl (beq_iff_eq.2 hc7) ?_
        refine AG.seq ?_
        refine AG.region HM ?_
        refine a_move (v := vI _) ?_
        refine a_move (v := vI _) ?_
        refine a_move (v := vI _) ?_
        refine a_move (v := vI _) ?_
        refine RA.nil nofun ?_
        refine AG.ret ?_
        simp only [Option.some.injEq, Prod.mk.injEq] at H
        obtain ⟨rfl, rfl, rfl, rfl⟩ := H
        exact RetP.mk id ⟨rfl, rfl, rfl, rfl, trivial⟩ trivial rfl
       ·rw [if_neg hc7] at H
        refine AG.no rfl (beq_eq_false_iff_ne.2 hc7) ?_
        refine AG.seq ?_
        refine AG.region HM ?_
        refine a_bin (u := .bool (a0.toList == (⟨#[111, 97, 107]⟩ : ByteArray).toList)) ?_
        refine a_move (v := vB _) ?_
        refine RA.nil nofun ?_
        by_cases hc8 : a0.toList = (⟨#[111, 97, 107]⟩ : ByteArray).toList
        ·rw [if_pos hc8] at H
         refine AG.yes rfl (beq_iff_eq.2 hc8) ?_
         refine AG.seq ?_
         refine AG.region HM ?_
         refine a_move (v := vI _) ?_
         refine a_move (v := vI _) ?_
         refine a_move (v := vI _) ?_
         refine a_move (v := vI _) ?_
         refine RA.nil nofun ?_
         refine AG.ret ?_
         simp only [Option.some.injEq, Prod.mk.injEq] at H
         obtain ⟨rfl, rfl, rfl, rfl⟩ := H
         exact RetP.mk id ⟨rfl, rfl, rfl, rfl, trivial⟩ trivial rfl
        ·rw [if_neg hc8] at H
         refine AG.no rfl (beq_eq_false_iff_ne.2 hc8) ?_
         refine AG.seq ?_
         refine AG.region HM ?_
         refine a_bin (u := .bool (a0.toList == (⟨#[114, 111, 115, 101, 119, 111, 111, 100]⟩ : ByteArray).toList)) ?_
         refine a_move (v := vB _) ?_
         refine RA.nil nofun ?_
         by_cases hc9 : a0.toList = (⟨#[114, 111, 115, 101, 119, 111, 111, 100]⟩ : ByteArray).toList
         ·rw [if_pos hc9] at H
          refine AG.yes rfl (beq_iff_eq.2 hc9) ?_
          refine AG.seq ?_
          refine AG.region HM ?_
          refine a_move (v := vI _) ?_
          refine a_move (v := vI _) ?_
          refine a_move (v := vI _) ?_
          refine a_move (v := vI _) ?_
          refine RA.nil nofun ?_
          refine AG.ret ?_
          simp only [Option.some.injEq, Prod.mk.injEq] at H
          obtain ⟨rfl, rfl, rfl, rfl⟩ := H
          exact RetP.mk id ⟨rfl, rfl, rfl, rfl, trivial⟩ trivial rfl
         ·rw [if_neg hc9] at H
          refine AG.no rfl (beq_eq_false_iff_ne.2 hc9) ?_
          refine AG.seq ?_
          refine AG.region HM ?_
          refine a_bin (u := .bool (a0.toList == (⟨#[119, 97, 108, 110, 117, 116]⟩ : ByteArray).toList)) ?_
          refine a_move (v := vB _) ?_
          refine RA.nil nofun ?_
          by_cases hc10 : a0.toList = (⟨#[119, 97, 108, 110, 117, 116]⟩ : ByteArray).toList
          ·rw [if_pos hc10] at H
           refine AG.yes rfl (beq_iff_eq.2 hc10) ?_
           refine AG.seq ?_
           refine AG.region HM ?_
           refine a_move (v := vI _) ?_
           refine a_move (v := vI _) ?_
           refine a_move (v := vI _) ?_
           refine a_move (v := vI _) ?_
           refine RA.nil nofun ?_
           refine AG.ret ?_
           simp only [Option.some.injEq, Prod.mk.injEq] at H
           obtain ⟨rfl, rfl, rfl, rfl⟩ := H
           exact RetP.mk id ⟨rfl, rfl, rfl, rfl, trivial⟩ trivial rfl
          ·rw [if_neg hc10] at H
           refine AG.no rfl (beq_eq_false_iff_ne.2 hc10) ?_
           refine AG.skip ?_
           refine AG.seq ?_
           refine AG.region HM ?_
           refine a_move (v := vI _) ?_
           refine a_move (v := vI _) ?_
           refine a_move (v := vI _) ?_
           refine a_move (v := vI _) ?_
           refine RA.nil nofun ?_
           refine AG.ret ?_
           simp only [Option.some.injEq, Prod.mk.injEq] at H
           obtain ⟨rfl, rfl, rfl, rfl⟩ := H
           exact RetP.mk id ⟨rfl, rfl, rfl, rfl, trivial⟩ trivial rfl
def impl_speciesShade.f (a0 : ByteArray) : Option (Int × Bool) := (impl_SpeciesData.f a0).bind fun bt1 => (some (bt1.1, (bt1.2.2.2 == 0)))
set_option maxRecDepth 100000 in
theorem impl_speciesShade.ok {a0 : ByteArray} {r0 : Int} {r1 : Bool} (H : impl_speciesShade.f a0 = some (r0, r1)) : OkF Tryz.prog 203 [vS a0] [] (.tup [.c (.d (.v (.int .i64 r0))), .c (.d (.v (.bool r1)))]) [] := by
 unfold impl_speciesShade.f at H
 refine OkF.of (N := 18) (rs := [2, 3]) (avs := [.c (.d (.v (.int .i64 r0))), .c (.d (.v (.bool r1)))]) Tryz.func203 rfl rfl (fun _ _ => results_tmp2 rfl _ _ _) (by decide) rfl rfl rfl rfl (fun w0 S => ?_)
 refine AG.seq ?_
 refine AG.region HM ?_
 refine a_move (v := vI _) ?_
 refine a_move (v := vB _) ?_
 refine RA.nil nofun ?_
 refine AG.seq ?_
 refine AG.region HM ?_
 refine a_move (v := vS _) ?_
 obtain ⟨⟨t1, t2, t3, t4⟩, e5, H⟩ := bindO H
 refine a_call (v := .tup [.c (.d (.v (.int .i64 t1))), .c (.d (.v (.int .i64 t2))), .c (.d (.v (.int .i64 t3))), .c (.d (.v (.int .i64 t4)))]) (nk := []) (L := []) ?_ rfl (impl_SpeciesData.ok e5) id (qd qn) trivial trivial trivial rfl
 refine a_move (v := .tup [_, _, _, _]) ?_
 refine a_ext (v := vI _) ?_
 refine a_ext (v := vI _) ?_
 refine a_ext (v := vI _) ?_
 refine a_ext (v := vI _) ?_
 refine a_move (v := vI _) ?_
 refine a_move (v := vI _) ?_
 refine a_move (v := vI _) ?_
 refine a_move (v := vI _) ?_
 refine RA.nil nofun ?_
 refine AG.seq ?_
 refine AG.region HM ?_
 refine a_move (v := vI _) ?_
 refine a_move (v := vI _) ?_
 refine a_int (u := .bool ((t4 == 0))) ?_
 refine a_move (v := vI _) ?_
 refine a_move (v := vB _) ?_
 refine RA.nil nofun ?_
 refine AG.ret ?_
 simp only [Option.some.injEq, Prod.mk.injEq] at H
 obtain ⟨rfl, rfl⟩ := H
 exact RetP.mk id ⟨rfl, rfl, trivial⟩ trivial rfl
def impl_ValidVeneer.f (a0_0 : ByteArray) (a0_1 : Int) (a0_2 : Int) : Option (Bool) := (impl_speciesShade.f a0_0).bind fun bt1 => (if bt1.2 = true then ((impl_within.f a0_1 0 100).bind fun t5 => (if t5 = true then ((impl_within.f (wrap64 (a0_1 - bt1.1)) (-15) 15).bind fun t8 => (if t8 = true then ((impl_within.f a0_2 0 179).bind fun t11 => (some t11)) else (some false))) else (some false))) else (some false))
set_option maxRecDepth 100000 in
theorem impl_ValidVeneer.ok {a0_0 : ByteArray} {a0_1 : Int} {a0_2 : Int} {r : Bool} (H : impl_ValidVeneer.f a0_0 a0_1 a0_2 = some r) : OkF Tryz.prog 165 [.agg [.d (.v (.string a0_0)), .d (.v (.int .i64 a0_1)), .d (.v (.int .i64 a0_2))]] [] (.c (.d (.v (.bool r)))) [] := by
 unfold impl_ValidVeneer.f at H
 refine OkF.of (N := 29) (rs := [2]) (avs := [.c (.d (.v (.bool r)))]) Tryz.func165 rfl rfl (fun _ _ => results_tmp rfl _ _ _) (by decide) rfl rfl rfl rfl (fun w0 S => ?_)
 refine AG.seq ?_
 refine AG.region HM ?_
 refine a_box 200 ?_
 refine a_move (v := vB _) ?_
 refine RA.nil nofun ?_
 refine AG.seq ?_
 refine AG.region HM ?_
 refine a_faB (q := 0) ?_ D92_0
 refine a_ldB (v := vS _) ?_ T9
 obtain ⟨⟨t1, t2⟩, e3, H⟩ := bindO H
 refine a_call (v := .tup [.c (.d (.v (.int .i64 t1))), .c (.d (.v (.bool t2)))]) (nk := []) (L := []) ?_ rfl (impl_speciesShade.ok e3) id (qd qn) trivial trivial trivial rfl
 refine a_move (v := .tup [_, _]) ?_
 refine a_ext (v := vI _) ?_
 refine a_ext (v := vB _) ?_
 refine a_move (v := vI _) ?_
 refine a_move (v := vB _) ?_
 refine RA.nil nofun ?_
 refine AG.seq ?_
 refine AG.region HM ?_
 refine a_move (v := vB _) ?_
 refine a_move (v := vB _) ?_
 by_cases hc4 : t2 = true
 ·rw [if_pos hc4] at H
  refine a_faB (q := 1) ?_ D92_1 (hg := Gs.yes rfl rfl rfl hc4)
  refine a_ldB (v := vI _) ?_ T2 (hg := Gs.yes rfl rfl rfl hc4)
  obtain ⟨t5, e6, H⟩ := bindO H
  refine a_call (v := vB t5) (nk := []) (L := []) ?_ rfl (impl_within.ok e6) id (qd (qd (qd qn))) trivial trivial trivial rfl (hg := Gs.yes rfl rfl rfl hc4)
  refine a_pick (b := true) (v := vB _) ?_ hc4
  refine a_move (v := vB _) ?_
  by_cases hc7 : t5 = true
  ·rw [if_pos hc7] at H
   refine a_faB (q := 1) ?_ D92_1 (hg := Gs.yes rfl rfl rfl hc7)
   refine a_ldB (v := vI _) ?_ T2 (hg := Gs.yes rfl rfl rfl hc7)
   refine a_move (v := vI _) ?_ (hg := Gs.yes rfl rfl rfl hc7)
   refine a_int (u := .int .i64 (wrap64 (a0_1 - t1))) ?_ (hg := Gs.yes rfl rfl rfl hc7)
   obtain ⟨t8, e9, H⟩ := bindO H
   refine a_call (v := vB t8) (nk := []) (L := []) ?_ rfl (impl_within.ok e9) id (qd (qd (qd qn))) trivial trivial trivial rfl (hg := Gs.yes rfl rfl rfl hc7)
   refine a_pick (b := true) (v := vB _) ?_ hc7
   refine a_move (v := vB _) ?_
   by_cases hc10 : t8 = true
   ·rw [if_pos hc10] at H
    refine a_faB (q := 2) ?_ D92_2 (hg := Gs.yes rfl rfl rfl hc10)
    refine a_ldB (v := vI _) ?_ T2 (hg := Gs.yes rfl rfl rfl hc10)
    obtain ⟨t11, e12, H⟩ := bindO H
    refine a_call (v := vB t11) (nk := []) (L := []) ?_ rfl (impl_within.ok e12) id (qd (qd (qd qn))) trivial trivial trivial rfl (hg := Gs.yes rfl rfl rfl hc10)
    refine a_pick (b := true) (v := vB _) ?_ hc10
    refine a_move (v := vB _) ?_
    refine RA.nil nofun ?_
    refine AG.ret ?_
    obtain rfl := Option.some.inj H
    exact RetP.mk id ⟨rfl, trivial⟩ trivial rfl
   ·rw [if_neg hc10] at H
    refine RA.skip rfl rfl rfl rfl rfl (Bool.eq_false_iff.2 hc10) (by decide) ?_
    refine RA.skip rfl rfl rfl rfl rfl (Bool.eq_false_iff.2 hc10) (by decide) ?_
    refine RA.skip rfl rfl rfl rfl rfl (Bool.eq_false_iff.2 hc10) (by decide) ?_
    refine a_pick (b := false) (v := vB _) ?_ (Bool.eq_false_iff.2 hc10)
    refine a_move (v := vB _) ?_
    refine RA.nil nofun ?_
    refine AG.ret ?_
    obtain rfl := Option.some.inj H
    exact RetP.mk id ⟨rfl, trivial⟩ trivial rfl
  ·rw [if_neg hc7] at H
   refine RA.skip rfl rfl rfl rfl rfl (Bool.eq_false_iff.2 hc7) (by decide) ?_
   refine RA.skip rfl rfl rfl rfl rfl (Bool.eq_false_iff.2 hc7) (by decide) ?_
   refine RA.skip rfl rfl rfl rfl rfl (Bool.eq_false_iff.2 hc7) (by decide) ?_
   refine RA.skip rfl rfl rfl rfl rfl (Bool.eq_false_iff.2 hc7) (by decide) ?_
   refine RA.skip rfl rfl rfl rfl rfl (Bool.eq_false_iff.2 hc7) (by decide) ?_
   refine a_pick (b := false) (v := vB _) ?_ (Bool.eq_false_iff.2 hc7)
   refine a_move (v := vB _) ?_
   refine RA.skip rfl rfl rfl rfl rfl rfl (by decide) ?_
   refine RA.skip rfl rfl rfl rfl rfl rfl (by decide) ?_
   refine RA.skip rfl rfl rfl rfl rfl rfl (by decide) ?_
   refine a_pick (b := false) (v := vB _) ?_ rfl
   refine a_move (v := vB _) ?_
   refine RA.nil nofun ?_
   refine AG.ret ?_
   obtain rfl := Option.some.inj H
   exact RetP.mk id ⟨rfl, trivial⟩ trivial rfl
 ·rw [if_neg hc4] at H
  refine RA.skip rfl rfl rfl rfl rfl (Bool.eq_false_iff.2 hc4) (by decide) ?_
  refine RA.skip rfl rfl rfl rfl rfl (Bool.eq_false_iff.2 hc4) (by decide) ?_
  refine RA.skip rfl rfl rfl rfl rfl (Bool.eq_false_iff.2 hc4) (by decide) ?_
  refine a_pick (b := false) (v := vB _) ?_ (Bool.eq_false_iff.2 hc4)
  refine a_move (v := vB _) ?_
  refine RA.skip rfl rfl rfl rfl rfl rfl (by decide) ?_
  refine RA.skip rfl rfl rfl rfl rfl rfl (by decide) ?_
  refine RA.skip rfl rfl rfl rfl rfl rfl (by decide) ?_
  refine RA.skip rfl rfl rfl rfl rfl rfl (by decide) ?_
  refine RA.skip rfl rfl rfl rfl rfl rfl (by decide) ?_
  refine a_pick (b := false) (v := vB _) ?_ rfl
  refine a_move (v := vB _) ?_
  refine RA.skip rfl rfl rfl rfl rfl rfl (by decide) ?_
  refine RA.skip rfl rfl rfl rfl rfl rfl (by decide) ?_
  refine RA.skip rfl rfl rfl rfl rfl rfl (by decide) ?_
  refine a_pick (b := false) (v := vB _) ?_ rfl
  refine a_move (v := vB _) ?_
  refine RA.nil nofun ?_
  refine AG.ret ?_
  obtain rfl := Option.some.inj H
  exact RetP.mk id ⟨rfl, trivial⟩ trivial rfl
def impl_boxWithin.f (a0_0 : Int) (a0_1 : Int) (a0_2 : Int) (a0_3 : Int) (a1 : Int) (a2 : Int) : Option (Bool) := (impl_within.f a0_0 0 a1).bind fun t1 => (if t1 = true then ((impl_within.f a0_1 0 a2).bind fun t4 => (if t4 = true then ((impl_within.f a0_2 1 (wrap64 (a1 - a0_0))).bind fun t7 => (if t7 = true then ((impl_within.f a0_3 1 (wrap64 (a2 - a0_1))).bind fun t10 => (some t10)) else (some false))) else (some false))) else (some false))
set_option maxRecDepth 100000 in
theorem impl_boxWithin.ok {a0_0 : Int} {a0_1 : Int} {a0_2 : Int} {a0_3 : Int} {a1 : Int} {a2 : Int} {r : Bool} (H : impl_boxWithin.f a0_0 a0_1 a0_2 a0_3 a1 a2 = some r) : OkF Tryz.prog 167 [.agg [.d (.v (.int .i64 a0_0)), .d (.v (.int .i64 a0_1)), .d (.v (.int .i64 a0_2)), .d (.v (.int .i64 a0_3))], vI a1, vI a2] [] (.c (.d (.v (.bool r)))) [] := by
 unfold impl_boxWithin.f at H
 refine OkF.of (N := 35) (rs := [6]) (avs := [.c (.d (.v (.bool r)))]) Tryz.func167 rfl rfl (fun _ _ => results_tmp rfl _ _ _) (by decide) rfl rfl rfl rfl (fun w0 S => ?_)
 refine AG.seq ?_
 refine AG.region HM ?_
 refine a_box 200 ?_
 refine a_move (v := vB _) ?_
 refine RA.nil nofun ?_
 refine AG.seq ?_
 refine AG.region HM ?_
 refine a_faB (q := 0) ?_ D177_0
 refine a_ldB (v := vI _) ?_ T2
 refine a_move (v := vI _) ?_
 obtain ⟨t1, e2, H⟩ := bindO H
 refine a_call (v := vB t1) (nk := []) (L := []) ?_ rfl (impl_within.ok e2) id (qd (qd (qd qn))) trivial trivial trivial rfl
 refine a_move (v := vB _) ?_
 by_cases hc3 : t1 = true
 ·rw [if_pos hc3] at H
  refine a_faB (q := 1) ?_ D177_1 (hg := Gs.yes rfl rfl rfl hc3)
  refine a_ldB (v := vI _) ?_ T2 (hg := Gs.yes rfl rfl rfl hc3)
  refine a_move (v := vI _) ?_ (hg := Gs.yes rfl rfl rfl hc3)
  obtain ⟨t4, e5, H⟩ := bindO H
  refine a_call (v := vB t4) (nk := []) (L := []) ?_ rfl (impl_within.ok e5) id (qd (qd (qd qn))) trivial trivial trivial rfl (hg := Gs.yes rfl rfl rfl hc3)
  refine a_pick (b := true) (v := vB _) ?_ hc3
  refine a_move (v := vB _) ?_
  by_cases hc6 : t4 = true
  ·rw [if_pos hc6] at H
   refine a_faB (q := 2) ?_ D177_2 (hg := Gs.yes rfl rfl rfl hc6)
   refine a_ldB (v := vI _) ?_ T2 (hg := Gs.yes rfl rfl rfl hc6)
   refine a_move (v := vI _) ?_ (hg := Gs.yes rfl rfl rfl hc6)
   refine a_faB (q := 0) ?_ D177_0 (hg := Gs.yes rfl rfl rfl hc6)
   refine a_ldB (v := vI _) ?_ T2 (hg := Gs.yes rfl rfl rfl hc6)
   refine a_int (u := .int .i64 (wrap64 (a1 - a0_0))) ?_ (hg := Gs.yes rfl rfl rfl hc6)
   obtain ⟨t7, e8, H⟩ := bindO H
   refine a_call (v := vB t7) (nk := []) (L := []) ?_ rfl (impl_within.ok e8) id (qd (qd (qd qn))) trivial trivial trivial rfl (hg := Gs.yes rfl rfl rfl hc6)
   refine a_pick (b := true) (v := vB _) ?_ hc6
   refine a_move (v := vB _) ?_
   by_cases hc9 : t7 = true
   ·rw [if_pos hc9] at H
    refine a_faB (q := 3) ?_ D177_3 (hg := Gs.yes rfl rfl rfl hc9)
    refine a_ldB (v := vI _) ?_ T2 (hg := Gs.yes rfl rfl rfl hc9)
    refine a_move (v := vI _) ?_ (hg := Gs.yes rfl rfl rfl hc9)
    refine a_faB (q := 1) ?_ D177_1 (hg := Gs.yes rfl rfl rfl hc9)
    refine a_ldB (v := vI _) ?_ T2 (hg := Gs.yes rfl rfl rfl hc9)
    refine a_int (u := .int .i64 (wrap64 (a2 - a0_1))) ?_ (hg := Gs.yes rfl rfl rfl hc9)
    obtain ⟨t10, e11, H⟩ := bindO H
    refine a_call (v := vB t10) (nk := []) (L := []) ?_ rfl (impl_within.ok e11) id (qd (qd (qd qn))) trivial trivial trivial rfl (hg := Gs.yes rfl rfl rfl hc9)
    refine a_pick (b := true) (v := vB _) ?_ hc9
    refine a_move (v := vB _) ?_
    refine RA.nil nofun ?_
    refine AG.ret ?_
    obtain rfl := Option.some.inj H
    exact RetP.mk id ⟨rfl, trivial⟩ trivial rfl
   ·rw [if_neg hc9] at H
    refine RA.skip rfl rfl rfl rfl rfl (Bool.eq_false_iff.2 hc9) (by decide) ?_
    refine RA.skip rfl rfl rfl rfl rfl (Bool.eq_false_iff.2 hc9) (by decide) ?_
    refine RA.skip rfl rfl rfl rfl rfl (Bool.eq_false_iff.2 hc9) (by decide) ?_
    refine RA.skip rfl rfl rfl rfl rfl (Bool.eq_false_iff.2 hc9) (by decide) ?_
    refine RA.skip rfl rfl rfl rfl rfl (Bool.eq_false_iff.2 hc9) (by decide) ?_
    refine RA.skip rfl rfl rfl rfl rfl (Bool.eq_false_iff.2 hc9) (by decide) ?_
    refine RA.skip rfl rfl rfl rfl rfl (Bool.eq_false_iff.2 hc9) (by decide) ?_
    refine a_pick (b := false) (v := vB _) ?_ (Bool.eq_false_iff.2 hc9)
    refine a_move (v := vB _) ?_
    refine RA.nil nofun ?_
    refine AG.ret ?_
    obtain rfl := Option.some.inj H
    exact RetP.mk id ⟨rfl, trivial⟩ trivial rfl
  ·rw [if_neg hc6] at H
   refine RA.skip rfl rfl rfl rfl rfl (Bool.eq_false_iff.2 hc6) (by decide) ?_
   refine RA.skip rfl rfl rfl rfl rfl (Bool.eq_false_iff.2 hc6) (by decide) ?_
   refine RA.skip rfl rfl rfl rfl rfl (Bool.eq_false_iff.2 hc6) (by decide) ?_
   refine RA.skip rfl rfl rfl rfl rfl (Bool.eq_false_iff.2 hc6) (by decide) ?_
   refine RA.skip rfl rfl rfl rfl rfl (Bool.eq_false_iff.2 hc6) (by decide) ?_
   refine RA.skip rfl rfl rfl rfl rfl (Bool.eq_false_iff.2 hc6) (by decide) ?_
   refine RA.skip rfl rfl rfl rfl rfl (Bool.eq_false_iff.2 hc6) (by decide) ?_
   refine a_pick (b := false) (v := vB _) ?_ (Bool.eq_false_iff.2 hc6)
   refine a_move (v := vB _) ?_
   refine RA.skip rfl rfl rfl rfl rfl rfl (by decide) ?_
   refine RA.skip rfl rfl rfl rfl rfl rfl (by decide) ?_
   refine RA.skip rfl rfl rfl rfl rfl rfl (by decide) ?_
   refine RA.skip rfl rfl rfl rfl rfl rfl (by decide) ?_
   refine RA.skip rfl rfl rfl rfl rfl rfl (by decide) ?_
   refine RA.skip rfl rfl rfl rfl rfl rfl (by decide) ?_
   refine RA.skip rfl rfl rfl rfl rfl rfl (by decide) ?_
   refine a_pick (b := false) (v := vB _) ?_ rfl
   refine a_move (v := vB _) ?_
   refine RA.nil nofun ?_
   refine AG.ret ?_
   obtain rfl := Option.some.inj H
   exact RetP.mk id ⟨rfl, trivial⟩ trivial rfl
 ·rw [if_neg hc3] at H
  refine RA.skip rfl rfl rfl rfl rfl (Bool.eq_false_iff.2 hc3) (by decide) ?_
  refine RA.skip rfl rfl rfl rfl rfl (Bool.eq_false_iff.2 hc3) (by decide) ?_
  refine RA.skip rfl rfl rfl rfl rfl (Bool.eq_false_iff.2 hc3) (by decide) ?_
  refine RA.skip rfl rfl rfl rfl rfl (Bool.eq_false_iff.2 hc3) (by decide) ?_
  refine a_pick (b := false) (v := vB _) ?_ (Bool.eq_false_iff.2 hc3)
  refine a_move (v := vB _) ?_
  refine RA.skip rfl rfl rfl rfl rfl rfl (by decide) ?_
  refine RA.skip rfl rfl rfl rfl rfl rfl (by decide) ?_
  refine RA.skip rfl rfl rfl rfl rfl rfl (by decide) ?_
  refine RA.skip rfl rfl rfl rfl rfl rfl (by decide) ?_
  refine RA.skip rfl rfl rfl rfl rfl rfl (by decide) ?_
  refine RA.skip rfl rfl rfl rfl rfl rfl (by decide) ?_
  refine RA.skip rfl rfl rfl rfl rfl rfl (by decide) ?_
  refine a_pick (b := false) (v := vB _) ?_ rfl
  refine a_move (v := vB _) ?_
  refine RA.skip rfl rfl rfl rfl rfl rfl (by decide) ?_
  refine RA.skip rfl rfl rfl rfl rfl rfl (by decide) ?_
  refine RA.skip rfl rfl rfl rfl rfl rfl (by decide) ?_
  refine RA.skip rfl rfl rfl rfl rfl rfl (by decide) ?_
  refine RA.skip rfl rfl rfl rfl rfl rfl (by decide) ?_
  refine RA.skip rfl rfl rfl rfl rfl rfl (by decide) ?_
  refine RA.skip rfl rfl rfl rfl rfl rfl (by decide) ?_
  refine a_pick (b := false) (v := vB _) ?_ rfl
  refine a_move (v := vB _) ?_
  refine RA.nil nofun ?_
  refine AG.ret ?_
  obtain rfl := Option.some.inj H
  exact RetP.mk id ⟨rfl, trivial⟩ trivial rfl
def impl_ValidLeaf_1.f (a0_0 : Int) (a0_1 : Int) (a0_2 : Int) (a0_3 : Int) (v_0_0 : ByteArray) (v_0_1 : ByteArray) (v_0_2 : Int) (v_0_3 : ByteArray) (v_0_4 : Int) (v_0_5 : Int) (v_0_6 : Int) (v_0_7 : Int) (v_0_8 : List S176) : Option (Bool) := (impl_boxWithin.f a0_0 a0_1 a0_2 a0_3 v_0_6 v_0_7).bind fun t1 => (some (!t1))
set_option maxRecDepth 100000 in
theorem impl_ValidLeaf_1.ok {a0_0 : Int} {a0_1 : Int} {a0_2 : Int} {a0_3 : Int} {v_0_0 : ByteArray} {v_0_1 : ByteArray} {v_0_2 : Int} {v_0_3 : ByteArray} {v_0_4 : Int} {v_0_5 : Int} {v_0_6 : Int} {v_0_7 : Int} {v_0_8 : List S176} {r : Bool} (H : impl_ValidLeaf_1.f a0_0 a0_1 a0_2 a0_3 v_0_0 v_0_1 v_0_2 v_0_3 v_0_4 v_0_5 v_0_6 v_0_7 v_0_8 = some r) : OkF Tryz.prog 166 [.agg [.d (.v (.int .i64 a0_0)), .d (.v (.int .i64 a0_1)), .d (.v (.int .i64 a0_2)), .d (.v (.int .i64 a0_3))], .c (.d (.ro [.v (.string v_0_0), .v (.string v_0_1), .v (.int .i64 v_0_2), .v (.string v_0_3), .v (.int .i64 v_0_4), .v (.int .i64 v_0_5), .v (.int .i64 v_0_6), .v (.int .i64 v_0_7), .row 177 (v_0_8.map c176)]))] [] (.c (.d (.v (.bool r)))) [] := by
 unfold impl_ValidLeaf_1.f at H
 refine OkF.of (N := 11) (rs := [3]) (avs := [.c (.d (.v (.bool r)))]) Tryz.func166 rfl rfl (fun _ _ => results_tmp rfl _ _ _) (by decide) rfl rfl rfl rfl (fun w0 S => ?_)
 refine AG.seq ?_
 refine AG.region HM ?_
 refine a_box 200 ?_
 refine a_move (v := vB _) ?_
 refine RA.nil nofun ?_
 refine AG.seq ?_
 refine AG.region HM ?_
 refine a_ldB (v := .agg [_, _, _, _]) ?_ T177
 refine a_faR (cells' := [_, _, _]) ?_ D95_4
 refine a_ldR (v := vI _) ?_ T2
 refine a_faR (cells' := [_, _]) ?_ D95_5
 refine a_ldR (v := vI _) ?_ T2
 obtain ⟨t1, e2, H⟩ := bindO H
 refine a_call (v := vB t1) (nk := []) (L := []) ?_ rfl (impl_boxWithin.ok e2) id (qg (qd (qd qn))) trivial trivial trivial rfl
 refine a_un (u := .bool (!t1)) ?_
 refine a_move (v := vB _) ?_
 refine RA.nil nofun ?_
 refine AG.ret ?_
 obtain rfl := Option.some.inj H
 exact RetP.mk id ⟨rfl, trivial⟩ trivial rfl
def slices_IndexFunc_impl_Box__impl_ValidLeaf_1.l0 : Nat → List S176 → ByteArray → ByteArray → Int → ByteArray → Int → Int → Int → Int → List S176 → Int → Int → Option (Int)
 | 0, _, _, _, _, _, _, _, _, _, _, _, _ => none
 | k + 1, x0, x1_0_0, x1_0_1, x1_0_2, x1_0_3, x1_0_4, x1_0_5, x1_0_6, x1_0_7, x1_0_8, x7, x8 => if x8 < x7 then (if 0 ≤ x8 then (if x8 < (x0.length : Int) then ((impl_ValidLeaf_1.f ((rd176 x0 x8).f0) ((rd176 x0 x8).f1) ((rd176 x0 x8).f2) ((rd176 x0 x8).f3) x1_0_0 x1_0_1 x1_0_2 x1_0_3 x1_0_4 x1_0_5 x1_0_6 x1_0_7 x1_0_8).bind fun t4 => (if t4 = true then (some x8) else (slices_IndexFunc_impl_Box__impl_ValidLeaf_1.l0 k x0 x1_0_0 x1_0_1 x1_0_2 x1_0_3 x1_0_4 x1_0_5 x1_0_6 x1_0_7 x1_0_8 x7 (wrap64 (x8 + 1))))) else (none)) else (none)) else (some (-1))
def slices_IndexFunc_impl_Box__impl_ValidLeaf_1.f (k : Nat) (l0 : List S176) (v1_0_0 : ByteArray) (v1_0_1 : ByteArray) (v1_0_2 : Int) (v1_0_3 : ByteArray) (v1_0_4 : Int) (v1_0_5 : Int) (v1_0_6 : Int) (v1_0_7 : Int) (v1_0_8 : List S176) : Option (Int) := slices_IndexFunc_impl_Box__impl_ValidLeaf_1.l0 k l0 v1_0_0 v1_0_1 v1_0_2 v1_0_3 v1_0_4 v1_0_5 v1_0_6 v1_0_7 v1_0_8 (l0.length : Int) 0
set_option maxRecDepth 100000 in
theorem slices_IndexFunc_impl_Box__impl_ValidLeaf_1.ok {k : Nat} {l0 : List S176} {v1_0_0 : ByteArray} {v1_0_1 : ByteArray} {v1_0_2 : Int} {v1_0_3 : ByteArray} {v1_0_4 : Int} {v1_0_5 : Int} {v1_0_6 : Int} {v1_0_7 : Int} {v1_0_8 : List S176} {r : Int} (H : slices_IndexFunc_impl_Box__impl_ValidLeaf_1.f k l0 v1_0_0 v1_0_1 v1_0_2 v1_0_3 v1_0_4 v1_0_5 v1_0_6 v1_0_7 v1_0_8 = some r) : OkF Tryz.prog 176 [vR 177 (l0.map c176), .c (.d (.fn 166 [.ro [.v (.string v1_0_0), .v (.string v1_0_1), .v (.int .i64 v1_0_2), .v (.string v1_0_3), .v (.int .i64 v1_0_4), .v (.int .i64 v1_0_5), .v (.int .i64 v1_0_6), .v (.int .i64 v1_0_7), .row 177 (v1_0_8.map c176)]]))] [] (.c (.d (.v (.int .i64 r)))) [] := by
 unfold slices_IndexFunc_impl_Box__impl_ValidLeaf_1.f at H
 refine OkF.of (N := 19) (rs := [4]) (avs := [.c (.d (.v (.int .i64 r)))]) Tryz.func176 rfl rfl (fun _ _ => results_tmp rfl _ _ _) (by decide) rfl rfl rfl rfl (fun w0 S => ?_)
 refine AG.seq ?_
 refine AG.region HM ?_
 refine a_move (v := vI _) ?_
 refine RA.nil nofun ?_
 refine AG.seq ?_
 refine AG.seq ?_
 refine AG.region HM ?_
 refine a_move (v := vR _ _) ?_
 refine a_lenR ?_ Tryz.underlying93
 refine a_move (v := vI _) ?_
 refine RA.nil nofun ?_
 refine AG.block ?_
 refine AG.loop ?_
 obtain ⟨K0, hK0, gK0⟩ : ∃ K, k ≤ K ∧ K ≤ k := ⟨k, Nat.le_refl k, Nat.le_refl k⟩
 refine AGr.canon id (AGr.loopI (n := k) (fun k s => k ≤ K0 ∧ ∃ (x0 : List S176) (x1_0_0 : ByteArray) (x1_0_1 : ByteArray) (x1_0_2 : Int) (x1_0_3 : ByteArray) (x1_0_4 : Int) (x1_0_5 : Int) (x1_0_6 : Int) (x1_0_7 : Int) (x1_0_8 : List S176) (x7 : Int) (x8 : Int), slices_IndexFunc_impl_Box__impl_ValidLeaf_1.l0 k x0 x1_0_0 x1_0_1 x1_0_2 x1_0_3 x1_0_4 x1_0_5 x1_0_6 x1_0_7 x1_0_8 x7 x8 = some r ∧ s = St.of [(0, vR 177 (x0.map c176)), (1, .c (.d (.fn 166 [.ro [.v (.string x1_0_0), .v (.string x1_0_1), .v (.int .i64 x1_0_2), .v (.string x1_0_3), .v (.int .i64 x1_0_4), .v (.int .i64 x1_0_5), .v (.int .i64 x1_0_6), .v (.int .i64 x1_0_7), .row 177 (x1_0_8.map c176)]]))), (7, vI x7), (8, vI x8)] []) ⟨hK0, _, _, _, _, _, _, _, _, _, _, _, _, H, rfl⟩ ?_ ?_) ⟨rfl, rfl, rfl, rfl, trivial⟩ trivial rfl
 ·rintro _ ⟨_, _, _, _, _, _, _, _, _, _, _, _, _, H, _⟩
  cases H
 ·clear H hK0
  rintro k ih0 _ ⟨hK0, x0, x1_0_0, x1_0_1, x1_0_2, x1_0_3, x1_0_4, x1_0_5, x1_0_6, x1_0_7, x1_0_8, x7, x8, H, rfl⟩
  unfold slices_IndexFunc_impl_Box__impl_ValidLeaf_1.l0 at H
  refine AG.seq ?_
  refine AG.region HM ?_
  refine a_int (u := .bool (decide (x8 < x7))) ?_
  refine RA.nil nofun ?_
  refine AG.seq ?_
  by_cases hc1 : x8 < x7
  ·rw [if_pos hc1] at H
   refine AG.yes rfl (decide_eq_true hc1) ?_
   refine AG.skip ?_
   refine AG.seq ?_
   refine AG.block ?_
   refine AG.seq ?_
   refine AG.region HM ?_
   refine a_move (v := vI _) ?_
   refine a_move (v := vI _) ?_
   refine RA.nil nofun ?_
   refine AG.seq ?_
   refine AG.region HM ?_
   refine a_move (v := .c (.d (.fn _ _))) ?_
   refine a_move (v := vR _ _) ?_
   refine a_move (v := vI _) ?_
   by_cases hc2 : 0 ≤ x8
   ·rw [if_pos hc2] at H
    by_cases hc3 : x8 < (x0.length : Int)
    ·rw [if_pos hc3] at H
     refine a_ixR (el := c176 (rd176 x0 x8)) ?_ ⟨hc2, hc3⟩ T177 Tryz.underlying93 (hel := R176 hc2 hc3)
     refine a_ldR (v := .agg [_, _, _, _]) ?_ T177
     obtain ⟨t4, e5, H⟩ := bindO H
     refine a_callW (v := vB t4) (nk := []) (L := []) ?_ rfl rfl (impl_ValidLeaf_1.ok e5) id (qg qn) rfl trivial trivial trivial rfl
     refine RA.nil nofun ?_
     by_cases hc6 : t4 = true
     ·rw [if_pos hc6] at H
      refine AG.yes rfl hc6 ?_
      refine AG.seq ?_
      refine AG.region HM ?_
      refine a_move (v := vI _) ?_
      refine a_move (v := vI _) ?_
      refine RA.nil nofun ?_
      refine AG.ret ?_
      obtain rfl := Option.some.inj H
      exact RetP.mk id ⟨rfl, trivial⟩ trivial rfl
     ·rw [if_neg hc6] at H
      refine AG.no rfl (Bool.eq_false_iff.2 hc6) ?_
      refine AG.skip ?_
      refine AG.region HM ?_
      refine a_int (u := .int .i64 (wrap64 (x8 + 1))) ?_
      refine a_move (v := vI _) ?_
      refine RA.nil nofun ?_
      exact AGr.canon id (ih0 _ (by omega) _ ⟨by omega, _, _, _, _, _, _, _, _, _, _, _, _, H, rfl⟩) ⟨rfl, rfl, rfl, rfl, trivial⟩ trivial rfl
    ·rw [if_neg hc3] at H
     cases H
   ·rw [if_neg hc2] at H
    cases H
  ·rw [if_neg hc1] at H
   refine AG.no rfl (decide_eq_false hc1) ?_
   refine AG.exit ?_
   refine AG.seq ?_
   refine AG.region HM ?_
   refine a_move (v := vI _) ?_
   refine RA.nil nofun ?_
   refine AG.ret ?_
   obtain rfl := Option.some.inj H
   exact RetP.mk id ⟨rfl, trivial⟩ trivial rfl
def slices_ContainsFunc_impl_Box__impl_ValidLeaf_1.f (k : Nat) (l0 : List S176) (v1_0_0 : ByteArray) (v1_0_1 : ByteArray) (v1_0_2 : Int) (v1_0_3 : ByteArray) (v1_0_4 : Int) (v1_0_5 : Int) (v1_0_6 : Int) (v1_0_7 : Int) (v1_0_8 : List S176) : Option (Bool) := (slices_IndexFunc_impl_Box__impl_ValidLeaf_1.f k l0 v1_0_0 v1_0_1 v1_0_2 v1_0_3 v1_0_4 v1_0_5 v1_0_6 v1_0_7 v1_0_8).bind fun t1 => (some (decide (t1 ≥ 0)))
set_option maxRecDepth 100000 in
theorem slices_ContainsFunc_impl_Box__impl_ValidLeaf_1.ok {k : Nat} {l0 : List S176} {v1_0_0 : ByteArray} {v1_0_1 : ByteArray} {v1_0_2 : Int} {v1_0_3 : ByteArray} {v1_0_4 : Int} {v1_0_5 : Int} {v1_0_6 : Int} {v1_0_7 : Int} {v1_0_8 : List S176} {r : Bool} (H : slices_ContainsFunc_impl_Box__impl_ValidLeaf_1.f k l0 v1_0_0 v1_0_1 v1_0_2 v1_0_3 v1_0_4 v1_0_5 v1_0_6 v1_0_7 v1_0_8 = some r) : OkF Tryz.prog 127 [vR 177 (l0.map c176), .c (.d (.fn 166 [.ro [.v (.string v1_0_0), .v (.string v1_0_1), .v (.int .i64 v1_0_2), .v (.string v1_0_3), .v (.int .i64 v1_0_4), .v (.int .i64 v1_0_5), .v (.int .i64 v1_0_6), .v (.int .i64 v1_0_7), .row 177 (v1_0_8.map c176)]]))] [] (.c (.d (.v (.bool r)))) [] := by
 unfold slices_ContainsFunc_impl_Box__impl_ValidLeaf_1.f at H
 refine OkF.of (N := 9) (rs := [4]) (avs := [.c (.d (.v (.bool r)))]) Tryz.func127 rfl rfl (fun _ _ => results_tmp rfl _ _ _) (by decide) rfl rfl rfl rfl (fun w0 S => ?_)
 refine AG.seq ?_
 refine AG.region HM ?_
 refine a_move (v := vB _) ?_
 refine RA.nil nofun ?_
 refine AG.seq ?_
 refine AG.region HM ?_
 refine a_move (v := vR _ _) ?_
 refine a_move (v := .c (.d (.fn _ _))) ?_
 obtain ⟨t1, e2, H⟩ := bindO H
 refine a_call (v := vI t1) (nk := []) (L := []) ?_ rfl (slices_IndexFunc_impl_Box__impl_ValidLeaf_1.ok e2) id (qd (qd qn)) trivial trivial trivial rfl
 refine a_int (u := .bool (decide (t1 ≥ 0))) ?_
 refine a_move (v := vB _) ?_
 refine RA.nil nofun ?_
 refine AG.ret ?_
 obtain rfl := Option.some.inj H
 exact RetP.mk id ⟨rfl, trivial⟩ trivial rfl
def impl_ValidLeaf.j0 : Nat → ByteArray → ByteArray → Int → ByteArray → Int → Int → Int → Int → List S176 → Bool → Option (Bool)
 | 0, _, _, _, _, _, _, _, _, _, _ => none
 | k + 1, y205_0, y205_1, y205_2, y205_3, y205_4, y205_5, y205_6, y205_7, y205_8, x24 => if x24 = true then (some false) else ((impl_within.f y205_6 10 20000).bind fun t13 => (if t13 = true then ((impl_within.f y205_7 10 20000).bind fun t16 => (if t16 = true then (if (y205_8.length : Int) > 6 then (some false) else ((slices_ContainsFunc_impl_Box__impl_ValidLeaf_1.f k y205_8 y205_0 y205_1 y205_2 y205_3 y205_4 y205_5 y205_6 y205_7 y205_8).bind fun t20 => (some (!t20)))) else (some false))) else (some false)))
def impl_ValidLeaf.f (k : Nat) (a0_0 : ByteArray) (a0_1 : ByteArray) (a0_2 : Int) (a0_3 : ByteArray) (a0_4 : Int) (a0_5 : Int) (a0_6 : Int) (a0_7 : Int) (l0_8 : List S176) : Option (Bool) := (impl_IsName.f k a0_0).bind fun t1 => (if t1 = true then ((impl_IsName.f k a0_1).bind fun t4 => (if t4 = true then ((impl_within.f a0_2 0 999).bind fun t7 => (if t7 = true then ((impl_ValidVeneer.f a0_3 a0_4 a0_5).bind fun t10 => (impl_ValidLeaf.j0 k a0_0 a0_1 a0_2 a0_3 a0_4 a0_5 a0_6 a0_7 l0_8 (!t10))) else (impl_ValidLeaf.j0 k a0_0 a0_1 a0_2 a0_3 a0_4 a0_5 a0_6 a0_7 l0_8 true))) else (impl_ValidLeaf.j0 k a0_0 a0_1 a0_2 a0_3 a0_4 a0_5 a0_6 a0_7 l0_8 true))) else (impl_ValidLeaf.j0 k a0_0 a0_1 a0_2 a0_3 a0_4 a0_5 a0_6 a0_7 l0_8 true))
set_option maxRecDepth 100000 in
theorem impl_ValidLeaf.ok {k : Nat} {a0_0 : ByteArray} {a0_1 : ByteArray} {a0_2 : Int} {a0_3 : ByteArray} {a0_4 : Int} {a0_5 : Int} {a0_6 : Int} {a0_7 : Int} {l0_8 : List S176} {r : Bool} (H : impl_ValidLeaf.f k a0_0 a0_1 a0_2 a0_3 a0_4 a0_5 a0_6 a0_7 l0_8 = some r) : OkF Tryz.prog 115 [.agg [.d (.v (.string a0_0)), .d (.v (.string a0_1)), .d (.v (.int .i64 a0_2)), .d (.v (.string a0_3)), .d (.v (.int .i64 a0_4)), .d (.v (.int .i64 a0_5)), .d (.v (.int .i64 a0_6)), .d (.v (.int .i64 a0_7)), .d (.row 177 (l0_8.map c176))]] [] (.c (.d (.v (.bool r)))) [] := by
 unfold impl_ValidLeaf.f at H
 refine OkF.of (N := 46) (rs := [2]) (avs := [.c (.d (.v (.bool r)))]) Tryz.func115 rfl rfl (fun _ _ => results_tmp rfl _ _ _) (by decide) rfl rfl rfl rfl (fun w0 S => ?_)
 refine AG.seq ?_
 refine AG.region HM ?_
 refine a_box 200 ?_
 refine a_move (v := vB _) ?_
 refine RA.nil nofun ?_
 refine AG.seq ?_
 refine AG.seq ?_
 refine AG.joinR (fun s => ∃ q, q ≤ k ∧ ∃ (y205_0 : ByteArray) (y205_1 : ByteArray) (y205_2 : Int) (y205_3 : ByteArray) (y205_4 : Int) (y205_5 : Int) (y205_6 : Int) (y205_7 : Int) (y205_8 : List S176) (x24 : Bool), impl_ValidLeaf.j0 q y205_0 y205_1 y205_2 y205_3 y205_4 y205_5 y205_6 y205_7 y205_8 x24 = some r ∧ s = St.of [(1, .c (.ptr 205 0)), (24, vB x24)] [(205, .box 95 [.d (.v (.string y205_0)), .d (.v (.string y205_1)), .d (.v (.int .i64 y205_2)), .d (.v (.string y205_3)), .d (.v (.int .i64 y205_4)), .d (.v (.int .i64 y205_5)), .d (.v (.int .i64 y205_6)), .d (.v (.int .i64 y205_7)), .d (.row 177 (y205_8.map c176))])]) ?_ ?_
 ·skip
  refine AG.region HM ?_
  refine a_faB (q := 0) ?_ D95_0
  refine a_ldB (v := vS _) ?_ T9
  obtain ⟨t1, e2, H⟩ := bindO H
  refine a_call (v := vB t1) (nk := []) (L := []) ?_ rfl (impl_IsName.ok e2) id (qd qn) trivial trivial trivial rfl
  refine a_un (u := .bool (!t1)) ?_
  refine a_move (v := vB _) ?_
  by_cases hc3 : t1 = true
  ·rw [if_pos hc3] at H
   refine a_faB (q := 1) ?_ D95_1 (hg := Gs.yes rfl rfl rfl (congrArg Bool.not hc3))
   refine a_ldB (v := vS _) ?_ T9 (hg := Gs.yes rfl rfl rfl (congrArg Bool.not hc3))
   obtain ⟨t4, e5, H⟩ := bindO H
   refine a_call (v := vB t4) (nk := []) (L := []) ?_ rfl (impl_IsName.ok e5) id (qd qn) trivial trivial trivial rfl (hg := Gs.yes rfl rfl rfl (congrArg Bool.not hc3))
   refine a_un (u := .bool (!t4)) ?_ (hg := Gs.yes rfl rfl rfl (congrArg Bool.not hc3))
   refine a_pick (b := false) (v := vB _) ?_ (congrArg Bool.not hc3)
   refine a_move (v := vB _) ?_
   by_cases hc6 : t4 = true
   ·rw [if_pos hc6] at H
    refine a_faB (q := 2) ?_ D95_2 (hg := Gs.yes rfl rfl rfl (congrArg Bool.not hc6))
    refine a_ldB (v := vI _) ?_ T2 (hg := Gs.yes rfl rfl rfl (congrArg Bool.not hc6))
    obtain ⟨t7, e8, H⟩ := bindO H
    refine a_call (v := vB t7) (nk := []) (L := []) ?_ rfl (impl_within.ok e8) id (qd (qd (qd qn))) trivial trivial trivial rfl (hg := Gs.yes rfl rfl rfl (congrArg Bool.not hc6))
    refine a_un (u := .bool (!t7)) ?_ (hg := Gs.yes rfl rfl rfl (congrArg Bool.not hc6))
    refine a_pick (b := false) (v := vB _) ?_ (congrArg Bool.not hc6)
    refine a_move (v := vB _) ?_
    by_cases hc9 : t7 = true
    ·rw [if_pos hc9] at H
     refine a_faB (q := 3) ?_ D95_3 (hg := Gs.yes rfl rfl rfl (congrArg Bool.not hc9))
     refine a_ldB (v := .agg [_, _, _]) ?_ T92 (hg := Gs.yes rfl rfl rfl (congrArg Bool.not hc9))
     obtain ⟨t10, e11, H⟩ := bindO H
     refine a_call (v := vB t10) (nk := []) (L := []) ?_ rfl (impl_ValidVeneer.ok e11) id (qg qn) trivial trivial trivial rfl (hg := Gs.yes rfl rfl rfl (congrArg Bool.not hc9))
     refine a_un (u := .bool (!t10)) ?_ (hg := Gs.yes rfl rfl rfl (congrArg Bool.not hc9))
     refine a_pick (b := false) (v := vB _) ?_ (congrArg Bool.not hc9)
     refine RA.nil nofun ?_
     exact CanR.mk (fun κ => cond (Nat.beq κ 205) 200 (κ)) ⟨_, (by omega), _, _, _, _, _, _, _, _, _, _, H, rfl⟩ ⟨rfl, rfl, trivial⟩ ⟨rfl, trivial⟩ rfl
    ·rw [if_neg hc9] at H
     refine RA.skip rfl rfl rfl rfl rfl (congrArg Bool.not (Bool.eq_false_iff.2 hc9)) (by decide) ?_
     refine RA.skip rfl rfl rfl rfl rfl (congrArg Bool.not (Bool.eq_false_iff.2 hc9)) (by decide) ?_
     refine RA.skip rfl rfl rfl rfl rfl (congrArg Bool.not (Bool.eq_false_iff.2 hc9)) (by decide) ?_
     refine RA.skip rfl rfl rfl rfl rfl (congrArg Bool.not (Bool.eq_false_iff.2 hc9)) (by decide) ?_
     refine a_pick (b := true) (v := vB _) ?_ (congrArg Bool.not (Bool.eq_false_iff.2 hc9))
     refine RA.nil nofun ?_
     exact CanR.mk (fun κ => cond (Nat.beq κ 205) 200 (κ)) ⟨_, (by omega), _, _, _, _, _, _, _, _, _, _, H, rfl⟩ ⟨rfl, rfl, trivial⟩ ⟨rfl, trivial⟩ rfl
   ·rw [if_neg hc6] at H
    refine RA.skip rfl rfl rfl rfl rfl (congrArg Bool.not (Bool.eq_false_iff.2 hc6)) (by decide) ?_
    refine RA.skip rfl rfl rfl rfl rfl (congrArg Bool.not (Bool.eq_false_iff.2 hc6)) (by decide) ?_
    refine RA.skip rfl rfl rfl rfl rfl (congrArg Bool.not (Bool.eq_false_iff.2 hc6)) (by decide) ?_
    refine RA.skip rfl rfl rfl rfl rfl (congrArg Bool.not (Bool.eq_false_iff.2 hc6)) (by decide) ?_
    refine a_pick (b := true) (v := vB _) ?_ (congrArg Bool.not (Bool.eq_false_iff.2 hc6))
    refine a_move (v := vB _) ?_
    refine RA.skip rfl rfl rfl rfl rfl rfl (by decide) ?_
    refine RA.skip rfl rfl rfl rfl rfl rfl (by decide) ?_
    refine RA.skip rfl rfl rfl rfl rfl rfl (by decide) ?_
    refine RA.skip rfl rfl rfl rfl rfl rfl (by decide) ?_
    refine a_pick (b := true) (v := vB _) ?_ rfl
    refine RA.nil nofun ?_
    exact CanR.mk (fun κ => cond (Nat.beq κ 205) 200 (κ)) ⟨_, (by omega), _, _, _, _, _, _, _, _, _, _, H, rfl⟩ ⟨rfl, rfl, trivial⟩ ⟨rfl, trivial⟩ rfl
  ·rw [if_neg hc3] at H
   refine RA.skip rfl rfl rfl rfl rfl (congrArg Bool.not (Bool.eq_false_iff.2 hc3)) (by decide) ?_
   refine RA.skip rfl rfl rfl rfl rfl (congrArg Bool.not (Bool.eq_false_iff.2 hc3)) (by decide) ?_
   refine RA.skip rfl rfl rfl rfl rfl (congrArg Bool.not (Bool.eq_false_iff.2 hc3)) (by decide) ?_
   refine RA.skip rfl rfl rfl rfl rfl (congrArg Bool.not (Bool.eq_false_iff.2 hc3)) (by decide) ?_
   refine a_pick (b := true) (v := vB _) ?_ (congrArg Bool.not (Bool.eq_false_iff.2 hc3))
   refine a_move (v := vB _) ?_
   refine RA.skip rfl rfl rfl rfl rfl rfl (by decide) ?_
   refine RA.skip rfl rfl rfl rfl rfl rfl (by decide) ?_
   refine RA.skip rfl rfl rfl rfl rfl rfl (by decide) ?_
   refine RA.skip rfl rfl rfl rfl rfl rfl (by decide) ?_
   refine a_pick (b := true) (v := vB _) ?_ rfl
   refine a_move (v := vB _) ?_
   refine RA.skip rfl rfl rfl rfl rfl rfl (by decide) ?_
   refine RA.skip rfl rfl rfl rfl rfl rfl (by decide) ?_
   refine RA.skip rfl rfl rfl rfl rfl rfl (by decide) ?_
   refine RA.skip rfl rfl rfl rfl rfl rfl (by decide) ?_
   refine a_pick (b := true) (v := vB _) ?_ rfl
   refine RA.nil nofun ?_
   exact CanR.mk (fun κ => cond (Nat.beq κ 205) 200 (κ)) ⟨_, (by omega), _, _, _, _, _, _, _, _, _, _, H, rfl⟩ ⟨rfl, rfl, trivial⟩ ⟨rfl, trivial⟩ rfl
 ·clear H
  rintro _ ⟨k, hj0, y205_0, y205_1, y205_2, y205_3, y205_4, y205_5, y205_6, y205_7, y205_8, x24, H, rfl⟩
  cases k with
  | zero => cases H
  | succ k =>
   rw [impl_ValidLeaf.j0] at H
   by_cases hc12 : x24 = true
   ·rw [if_pos hc12] at H
    refine AG.yes rfl hc12 ?_
    refine AG.seq ?_
    refine AG.region HM ?_
    refine a_move (v := vB _) ?_
    refine RA.nil nofun ?_
    refine AG.ret ?_
    obtain rfl := Option.some.inj H
    exact RetP.mk id ⟨rfl, trivial⟩ trivial rfl
   ·rw [if_neg hc12] at H
    refine AG.no rfl (Bool.eq_false_iff.2 hc12) ?_
    refine AG.skip ?_
    refine AG.seq ?_
    refine AG.seq ?_
    refine AG.region HM ?_
    refine a_faB (q := 6) ?_ D95_4
    refine a_ldB (v := vI _) ?_ T2
    obtain ⟨t13, e14, H⟩ := bindO H
    refine a_call (v := vB t13) (nk := []) (L := []) ?_ rfl (impl_within.ok e14) id (qd (qd (qd qn))) trivial trivial trivial rfl
    refine a_un (u := .bool (!t13)) ?_
    refine a_move (v := vB _) ?_
    by_cases hc15 : t13 = true
    ·rw [if_pos hc15] at H
     refine a_faB (q := 7) ?_ D95_5 (hg := Gs.yes rfl rfl rfl (congrArg Bool.not hc15))
     refine a_ldB (v := vI _) ?_ T2 (hg := Gs.yes rfl rfl rfl (congrArg Bool.not hc15))
     obtain ⟨t16, e17, H⟩ := bindO H
     refine a_call (v := vB t16) (nk := []) (L := []) ?_ rfl (impl_within.ok e17) id (qd (qd (qd qn))) trivial trivial trivial rfl (hg := Gs.yes rfl rfl rfl (congrArg Bool.not hc15))
     refine a_un (u := .bool (!t16)) ?_ (hg := Gs.yes rfl rfl rfl (congrArg Bool.not hc15))
     refine a_pick (b := false) (v := vB _) ?_ (congrArg Bool.not hc15)
     refine a_move (v := vB _) ?_
     by_cases hc18 : t16 = true
     ·rw [if_pos hc18] at H
      refine a_faB (q := 8) ?_ D95_6 (hg := Gs.yes rfl rfl rfl (congrArg Bool.not hc18))
      refine a_ldB (v := vR _ _) ?_ T93 (hg := Gs.yes rfl rfl rfl (congrArg Bool.not hc18))
      refine a_lenR ?_ Tryz.underlying93 (hg := Gs.yes rfl rfl rfl (congrArg Bool.not hc18))
      refine a_int (u := .bool (decide ((y205_8.length : Int) > 6))) ?_ (hg := Gs.yes rfl rfl rfl (congrArg Bool.not hc18))
      refine a_pick (b := false) (v := vB _) ?_ (congrArg Bool.not hc18)
      refine RA.nil nofun ?_
      by_cases hc19 : (y205_8.length : Int) > 6
      ·rw [if_pos hc19] at H
       refine AG.yes rfl (decide_eq_true hc19) ?_
       refine AG.seq ?_
       refine AG.region HM ?_
       refine a_move (v := vB _) ?_
       refine RA.nil nofun ?_
       refine AG.ret ?_
       obtain rfl := Option.some.inj H
       exact RetP.mk id ⟨rfl, trivial⟩ trivial rfl
      ·rw [if_neg hc19] at H
       refine AG.no rfl (decide_eq_false hc19) ?_
       refine AG.skip ?_
       refine AG.seq ?_
       refine AG.region HM ?_
       refine a_faB (q := 8) ?_ D95_6
       refine a_ldB (v := vR _ _) ?_ T93
       refine a_fnc (ks := [205]) ?_
       obtain ⟨t20, e21, H⟩ := bindO H
       refine a_call (v := vB t20) (nk := []) (L := [(205, _)]) ?_ rfl (slices_ContainsFunc_impl_Box__impl_ValidLeaf_1.ok e21) id (qd (qc (rF1 (rP (pD (pD (pD (pD (pD (pD (pD (pD (pD p0))))))))))) qn)) ⟨rfl, trivial⟩ trivial trivial rfl
       refine a_un (u := .bool (!t20)) ?_
       refine a_move (v := vB _) ?_
       refine RA.nil nofun ?_
       refine AG.ret ?_
       obtain rfl := Option.some.inj H
       exact RetP.mk id ⟨rfl, trivial⟩ trivial rfl
     ·rw [if_neg hc18] at H
      refine RA.skip rfl rfl rfl rfl rfl (congrArg Bool.not (Bool.eq_false_iff.2 hc18)) (by decide) ?_
      refine RA.skip rfl rfl rfl rfl rfl (congrArg Bool.not (Bool.eq_false_iff.2 hc18)) (by decide) ?_
      refine RA.skip rfl rfl rfl rfl rfl (congrArg Bool.not (Bool.eq_false_iff.2 hc18)) (by decide) ?_
      refine RA.skip rfl rfl rfl rfl rfl (congrArg Bool.not (Bool.eq_false_iff.2 hc18)) (by decide) ?_
      refine a_pick (b := true) (v := vB _) ?_ (congrArg Bool.not (Bool.eq_false_iff.2 hc18))
      refine RA.nil nofun ?_
      refine AG.yes rfl rfl ?_
      refine AG.seq ?_
      refine AG.region HM ?_
      refine a_move (v := vB _) ?_
      refine RA.nil nofun ?_
      refine AG.ret ?_
      obtain rfl := Option.some.inj H
      exact RetP.mk id ⟨rfl, trivial⟩ trivial rfl
    ·rw [if_neg hc15] at H
     refine RA.skip rfl rfl rfl rfl rfl (congrArg Bool.not (Bool.eq_false_iff.2 hc15)) (by decide) ?_
     refine RA.skip rfl rfl rfl rfl rfl (congrArg Bool.not (Bool.eq_false_iff.2 hc15)) (by decide) ?_
     refine RA.skip rfl rfl rfl rfl rfl (congrArg Bool.not (Bool.eq_false_iff.2 hc15)) (by decide) ?_
     refine RA.skip rfl rfl rfl rfl rfl (congrArg Bool.not (Bool.eq_false_iff.2 hc15)) (by decide) ?_
     refine a_pick (b := true) (v := vB _) ?_ (congrArg Bool.not (Bool.eq_false_iff.2 hc15))
     refine a_move (v := vB _) ?_
     refine RA.skip rfl rfl rfl rfl rfl rfl (by decide) ?_
     refine RA.skip rfl rfl rfl rfl rfl rfl (by decide) ?_
     refine RA.skip rfl rfl rfl rfl rfl rfl (by decide) ?_
     refine RA.skip rfl rfl rfl rfl rfl rfl (by decide) ?_
     refine a_pick (b := true) (v := vB _) ?_ rfl
     refine RA.nil nofun ?_
     refine AG.yes rfl rfl ?_
     refine AG.seq ?_
     refine AG.region HM ?_
     refine a_move (v := vB _) ?_
     refine RA.nil nofun ?_
     refine AG.ret ?_
     obtain rfl := Option.some.inj H
     exact RetP.mk id ⟨rfl, trivial⟩ trivial rfl
def impl_ValidLeaves.l0 : Nat → List S94 → List S94 → Int → Int → Option (Bool)
 | 0, _, _, _, _ => none
 | k + 1, x0, x5, x6, x7 => if x7 < x6 then (if 0 ≤ x7 then (if x7 < (x5.length : Int) then ((impl_ValidLeaf.f k ((rd94 x5 x7).f0) ((rd94 x5 x7).f1) ((rd94 x5 x7).f2) ((rd94 x5 x7).f3.f0) ((rd94 x5 x7).f3.f1) ((rd94 x5 x7).f3.f2) ((rd94 x5 x7).f4) ((rd94 x5 x7).f5) ((rd94 x5 x7).f6)).bind fun t4 => (if t4 = true then (if x7 > 0 then (if 0 ≤ (wrap64 (x7 - 1)) then (if (wrap64 (x7 - 1)) < (x0.length : Int) then (if (Op.bytesLess (((rd94 x0 (wrap64 (x7 - 1))).f0).toList) (((rd94 x5 x7).f0).toList)) = true then (impl_ValidLeaves.l0 k x0 x5 x6 (wrap64 (x7 + 1))) else (some false)) else (none)) else (none)) else (impl_ValidLeaves.l0 k x0 x5 x6 (wrap64 (x7 + 1)))) else (some false))) else (none)) else (none)) else (some (decide ((x0.length : Int) ≤ 16)))
def impl_ValidLeaves.f (k : Nat) (l0 : List S94) : Option (Bool) := impl_ValidLeaves.l0 k l0 l0 (l0.length : Int) 0
set_option maxRecDepth 100000 in
theorem impl_ValidLeaves.ok {k : Nat} {l0 : List S94} {r : Bool} (H : impl_ValidLeaves.f k l0 = some r) : OkF Tryz.prog 54 [vR 95 (l0.map c94)] [] (.c (.d (.v (.bool r)))) [] := by
 unfold impl_ValidLeaves.f at H
 refine OkF.of (N := 34) (rs := [2]) (avs := [.c (.d (.v (.bool r)))]) Tryz.func54 rfl rfl (fun _ _ => results_tmp rfl _ _ _) (by decide) rfl rfl rfl rfl (fun w0 S => ?_)
 refine AG.seq ?_
 refine AG.region HM ?_
 refine a_move (v := vB _) ?_
 refine RA.nil nofun ?_
 refine AG.seq ?_
 refine AG.seq ?_
 refine AG.region HM ?_
 refine a_move (v := vR _ _) ?_
 refine a_lenR ?_ Tryz.underlying37
 refine a_move (v := vI _) ?_
 refine RA.nil nofun ?_
 refine AG.block ?_
 refine AG.loop ?_
 obtain ⟨K0, hK0, gK0⟩ : ∃ K, k ≤ K ∧ K ≤ k := ⟨k, Nat.le_refl k, Nat.le_refl k⟩
 refine AGr.canon id (AGr.loopI (n := k) (fun k s => k ≤ K0 ∧ ∃ (x0 : List S94) (x5 : List S94) (x6 : Int) (x7 : Int), impl_ValidLeaves.l0 k x0 x5 x6 x7 = some r ∧ s = St.of [(0, vR 95 (x0.map c94)), (5, vR 95 (x5.map c94)), (6, vI x6), (7, vI x7)] []) ⟨hK0, _, _, _, _, H, rfl⟩ ?_ ?_) ⟨rfl, rfl, rfl, rfl, trivial⟩ trivial rfl
 ·rintro _ ⟨_, _, _, _, _, H, _⟩
  cases H
 ·clear H hK0
  rintro k ih0 _ ⟨hK0, x0, x5, x6, x7, H, rfl⟩
  unfold impl_ValidLeaves.l0 at H
  refine AG.seq ?_
  refine AG.region HM ?_
  refine a_int (u := .bool (decide (x7 < x6))) ?_
  refine RA.nil nofun ?_
  refine AG.seq ?_
  by_cases hc1 : x7 < x6
  ·rw [if_pos hc1] at H
   refine AG.yes rfl (decide_eq_true hc1) ?_
   refine AG.skip ?_
   refine AG.seq ?_
   refine AG.block ?_
   refine AG.seq ?_
   refine AG.region HM ?_
   refine a_move (v := vI _) ?_
   by_cases hc2 : 0 ≤ x7
   ·rw [if_pos hc2] at H
    by_cases hc3 : x7 < (x5.length : Int)
    ·rw [if_pos hc3] at H
     refine a_ixR (el := c94 (rd94 x5 x7)) ?_ ⟨hc2, hc3⟩ T95 Tryz.underlying37 (hel := R94 hc2 hc3)
     refine a_ldR (v := .agg [_, _, _, _, _, _, _, _, _]) ?_ T95
     refine a_alloc (cs := [_, _, _, _, _, _, _, _, _]) 200 ?_ T95
     refine a_move (v := vI _) ?_
     refine a_stB (cs' := [_, _, _, _, _, _, _, _, _]) ?_ T95
     refine RA.nil nofun ?_
     refine AG.seq ?_
     refine AG.region HM ?_
     refine a_ldB (v := .agg [_, _, _, _, _, _, _, _, _]) ?_ T95
     obtain ⟨t4, e5, H⟩ := bindO H
     refine a_call (v := vB t4) (nk := []) (L := []) ?_ rfl (impl_ValidLeaf.ok e5) id (qg qn) trivial trivial trivial rfl
     refine a_un (u := .bool (!t4)) ?_
     refine a_move (v := vB _) ?_
     by_cases hc6 : t4 = true
     ·rw [if_pos hc6] at H
      refine a_move (v := vI _) ?_ (hg := Gs.yes rfl rfl rfl (congrArg Bool.not hc6))
      refine a_int (u := .bool (decide (x7 > 0))) ?_ (hg := Gs.yes rfl rfl rfl (congrArg Bool.not hc6))
      refine a_move (v := vB _) ?_ (hg := Gs.yes rfl rfl rfl (congrArg Bool.not hc6))
      by_cases hc7 : x7 > 0
      ·rw [if_pos hc7] at H
       refine a_move (v := vR _ _) ?_ (hg := Gs.yes rfl rfl rfl (decide_eq_true hc7))
       refine a_move (v := vI _) ?_ (hg := Gs.yes rfl rfl rfl (decide_eq_true hc7))
       refine a_int (u := .int .i64 (wrap64 (x7 - 1))) ?_ (hg := Gs.yes rfl rfl rfl (decide_eq_true hc7))
       by_cases hc8 : 0 ≤ (wrap64 (x7 - 1))
       ·rw [if_pos hc8] at H
        by_cases hc9 : (wrap64 (x7 - 1)) < (x0.length : Int)
        ·rw [if_pos hc9] at H
         refine a_ixR (el := c94 (rd94 x0 (wrap64 (x7 - 1)))) ?_ ⟨hc8, hc9⟩ T95 Tryz.underlying37 (hel := R94 hc8 hc9) (hg := Gs.yes rfl rfl rfl (decide_eq_true hc7))
         refine a_faR (cells' := [_, _, _, _, _, _, _, _, _]) ?_ D95_0 (hg := Gs.yes rfl rfl rfl (decide_eq_true hc7))
         refine a_ldR (v := vS _) ?_ T9 (hg := Gs.yes rfl rfl rfl (decide_eq_true hc7))
         refine a_faB (q := 0) ?_ D95_0 (hg := Gs.yes rfl rfl rfl (decide_eq_true hc7))
         refine a_ldB (v := vS _) ?_ T9 (hg := Gs.yes rfl rfl rfl (decide_eq_true hc7))
         refine a_bin (u := .bool (!(Op.bytesLess (((rd94 x0 (wrap64 (x7 - 1))).f0).toList) (((rd94 x5 x7).f0).toList)))) ?_ (hg := Gs.yes rfl rfl rfl (decide_eq_true hc7))
         refine a_pick (b := true) (v := vB _) ?_ (decide_eq_true hc7) (hg := Gs.yes rfl rfl rfl (congrArg Bool.not hc6))
         refine a_pick (b := false) (v := vB _) ?_ (congrArg Bool.not hc6)
         refine RA.nil (fun _ => by kernel_rfl) ?_
         by_cases hc10 : (Op.bytesLess (((rd94 x0 (wrap64 (x7 - 1))).f0).toList) (((rd94 x5 x7).f0).toList)) = true
         ·rw [if_pos hc10] at H
          refine AG.no rfl (by rw [show (Op.bytesLess (((rd94 x0 (wrap64 (x7 - 1))).f0).toList) (((rd94 x5 x7).f0).toList)) = true from hc10]; rfl) ?_
          refine AG.skip ?_
          refine AG.region HM ?_
          refine a_int (u := .int .i64 (wrap64 (x7 + 1))) ?_
          refine a_move (v := vI _) ?_
          refine RA.nil nofun ?_
          exact AGr.canon id (ih0 _ (by omega) _ ⟨by omega, _, _, _, _, H, rfl⟩) ⟨rfl, rfl, rfl, rfl, trivial⟩ trivial rfl
         ·rw [if_neg hc10] at H
          refine AG.yes rfl (by rw [Bool.eq_false_iff.2 hc10]; rfl) ?_
          refine AG.seq ?_
          refine AG.region HM ?_
          refine a_move (v := vB _) ?_
          refine RA.nil nofun ?_
          refine AG.ret ?_
          obtain rfl := Option.some.inj H
          exact RetP.mk id ⟨rfl, trivial⟩ trivial rfl
        ·rw [if_neg hc9] at H
         cases H
       ·rw [if_neg hc8] at H
        cases H
      ·rw [if_neg hc7] at H
       refine RA.skip rfl rfl rfl rfl rfl (decide_eq_false hc7) (by decide) ?_
       refine RA.skip rfl rfl rfl rfl rfl (decide_eq_false hc7) (by decide) ?_
       refine RA.skip rfl rfl rfl rfl rfl (decide_eq_false hc7) (by decide) ?_
       refine RA.skip rfl rfl rfl rfl rfl (decide_eq_false hc7) (by decide) ?_
       refine RA.skip rfl rfl rfl rfl rfl (decide_eq_false hc7) (by decide) ?_
       refine RA.skip rfl rfl rfl rfl rfl (decide_eq_false hc7) (by decide) ?_
       refine RA.skip rfl rfl rfl rfl rfl (decide_eq_false hc7) (by decide) ?_
       refine RA.skip rfl rfl rfl rfl rfl (decide_eq_false hc7) (by decide) ?_
       refine RA.skip rfl rfl rfl rfl rfl (decide_eq_false hc7) (by decide) ?_
       refine a_pick (b := false) (v := vB _) ?_ (decide_eq_false hc7) (hg := Gs.yes rfl rfl rfl (congrArg Bool.not hc6))
       refine a_pick (b := false) (v := vB _) ?_ (congrArg Bool.not hc6)
       refine RA.nil (fun _ => by kernel_rfl) ?_
       refine AG.no rfl rfl ?_
       refine AG.skip ?_
       refine AG.region HM ?_
       refine a_int (u := .int .i64 (wrap64 (x7 + 1))) ?_
       refine a_move (v := vI _) ?_
       refine RA.nil nofun ?_
       exact AGr.canon id (ih0 _ (by omega) _ ⟨by omega, _, _, _, _, H, rfl⟩) ⟨rfl, rfl, rfl, rfl, trivial⟩ trivial rfl
     ·rw [if_neg hc6] at H
      refine RA.skip rfl rfl rfl rfl rfl (congrArg Bool.not (Bool.eq_false_iff.2 hc6)) (by decide) ?_
      refine RA.skip rfl rfl rfl rfl rfl (congrArg Bool.not (Bool.eq_false_iff.2 hc6)) (by decide) ?_
      refine RA.skip rfl rfl rfl rfl rfl (congrArg Bool.not (Bool.eq_false_iff.2 hc6)) (by decide) ?_
      refine RA.skip0 rfl rfl rfl rfl rfl ?_
      refine RA.skip0 rfl rfl rfl rfl rfl ?_
      refine RA.skip0 rfl rfl rfl rfl rfl ?_
      refine RA.skip0 rfl rfl rfl rfl rfl ?_
      refine RA.skip0 rfl rfl rfl rfl rfl ?_
      refine RA.skip0 rfl rfl rfl rfl rfl ?_
      refine RA.skip0 rfl rfl rfl rfl rfl ?_
      refine RA.skip0 rfl rfl rfl rfl rfl ?_
      refine RA.skip0 rfl rfl rfl rfl rfl ?_
      refine RA.skip rfl rfl rfl rfl rfl (congrArg Bool.not (Bool.eq_false_iff.2 hc6)) (by decide) ?_
      refine a_pick (b := true) (v := vB _) ?_ (congrArg Bool.not (Bool.eq_false_iff.2 hc6))
      refine RA.nil (fun _ => by kernel_rfl) ?_
      refine AG.yes rfl rfl ?_
      refine AG.seq ?_
      refine AG.region HM ?_
      refine a_move (v := vB _) ?_
      refine RA.nil nofun ?_
      refine AG.ret ?_
      obtain rfl := Option.some.inj H
      exact RetP.mk id ⟨rfl, trivial⟩ trivial rfl
    ·rw [if_neg hc3] at H
     cases H
   ·rw [if_neg hc2] at H
    cases H
  ·rw [if_neg hc1] at H
   refine AG.no rfl (decide_eq_false hc1) ?_
   refine AG.exit ?_
   refine AG.seq ?_
   refine AG.region HM ?_
   refine a_move (v := vR _ _) ?_
   refine a_lenR ?_ Tryz.underlying37
   refine a_int (u := .bool (decide ((x0.length : Int) ≤ 16))) ?_
   refine a_move (v := vB _) ?_
   refine RA.nil nofun ?_
   refine AG.ret ?_
   obtain rfl := Option.some.inj H
   exact RetP.mk id ⟨rfl, trivial⟩ trivial rfl
def impl_facePolygon.f (k : Nat) (a0_0 : Int) (a0_1 : Int) (l0_2 : List S159) (l0_3 : List S146) (a1 : Int) : Option ((List S159)) := if 0 ≤ a1 then (if a1 < (l0_3.length : Int) then ((impl_ringPolygon.f k l0_2 ((rd146 l0_3 a1).f1)).bind fun bt3 => (some bt3.1)) else (none)) else (none)
set_option maxRecDepth 100000 in
theorem impl_facePolygon.ok {k : Nat} {a0_0 : Int} {a0_1 : Int} {l0_2 : List S159} {l0_3 : List S146} {a1 : Int} {r : List S159} (H : impl_facePolygon.f k a0_0 a0_1 l0_2 l0_3 a1 = some r) : OkF Tryz.prog 79 [.agg [.d (.v (.int .i64 a0_0)), .d (.v (.int .i64 a0_1)), .d (.row 160 (l0_2.map c159)), .d (.row 152 (l0_3.map c146))], vI a1] [] (.c (.own 100 r.length)) [(100, .row 160 (r.map c159))] := by
 unfold impl_facePolygon.f at H
 refine OkF.of (N := 20) (rs := [4]) (avs := [.c (.own 100 r.length)]) Tryz.func79 rfl rfl (fun _ _ => results_tmp rfl _ _ _) (by decide) rfl rfl rfl rfl (fun w0 S => ?_)
 refine AG.seq ?_
 refine AG.region HM ?_
 refine a_box 200 ?_
 refine a_nilO (e := 160) 201 ?_ T160
 refine RA.nil nofun ?_
 refine AG.seq ?_
 refine AG.region HM ?_
 refine a_faB (q := 2) ?_ D35_2
 refine a_ldB (v := vR _ _) ?_ T32
 refine a_faB (q := 3) ?_ D35_3
 refine a_ldB (v := vR _ _) ?_ T33
 refine a_move (v := vI _) ?_
 by_cases hc1 : 0 ≤ a1
 ·rw [if_pos hc1] at H
  by_cases hc2 : a1 < (l0_3.length : Int)
  ·rw [if_pos hc2] at H
   refine a_ixR (el := c146 (rd146 l0_3 a1)) ?_ ⟨hc1, hc2⟩ T152 Tryz.underlying33 (hel := R146 hc1 hc2)
   refine a_faR (cells' := [_]) ?_ D152_1
   refine a_ldR (v := vR _ _) ?_ T29
   obtain ⟨⟨t3, t4⟩, e5, H⟩ := bindO H
   refine a_call (v := .tup [.c (.own 202 t3.length), .c (.d (.v (.bool t4)))]) (nk := [(202, .row 160 (t3.map c159))]) (L := []) ?_ rfl (impl_ringPolygon.ok e5) (fun κ => cond (Nat.beq κ 202) 100 (κ)) (qd (qd qn)) trivial ⟨rfl, trivial⟩ ⟨rfl, trivial⟩ rfl
   refine a_move (v := .tup [_, _]) ?_
   refine a_ext (v := .c (.own _ _)) ?_
   refine a_ext (v := vB _) ?_
   refine a_move (v := .c (.own _ _)) ?_
   refine a_move (v := vB _) ?_
   refine RA.nil (fun _ => by kernel_rfl) ?_
   refine AG.seq ?_
   refine AG.region HM ?_
   refine a_move (v := .c (.own _ _)) ?_
   refine a_move (v := .c (.own _ _)) ?_
   refine RA.nil nofun ?_
   refine AG.ret ?_
   obtain rfl := Option.some.inj H
   exact RetP.mk (fun κ => cond (Nat.beq κ 100) 202 (κ)) ⟨rfl, trivial⟩ ⟨rfl, trivial⟩ rfl
  ·rw [if_neg hc2] at H
   cases H
 ·rw [if_neg hc1] at H
  cases H
def impl_shifted.l0 : Nat → Int → Int → List S159 → List S159 → Int → Int → Option ((List S159))
 | 0, _, _, _, _, _, _ => none
 | k + 1, x1, x2, x7, x11, x12, x13 => if x13 < x12 then (if 0 ≤ x13 then (if x13 < (x11.length : Int) then (if x7.length < 8796093022208 then (impl_shifted.l0 k x1 x2 (x7 ++ [(⟨wrap64 (((rd159 x11 x13).f0) + x1), wrap64 (((rd159 x11 x13).f1) + x2)⟩ : S159)]) x11 x12 (wrap64 (x13 + 1))) else (none)) else (none)) else (none)) else (some x7)
def impl_shifted.f (k : Nat) (l0 : List S159) (a1 : Int) (a2 : Int) : Option ((List S159)) := impl_shifted.l0 k a1 a2 (([] : List S159) : List S159) l0 (l0.length : Int) 0
set_option maxRecDepth 100000 in
theorem impl_shifted.ok {k : Nat} {l0 : List S159} {a1 : Int} {a2 : Int} {r : List S159} (H : impl_shifted.f k l0 a1 a2 = some r) : OkF Tryz.prog 142 [vR 160 (l0.map c159), vI a1, vI a2] [] (.c (.own 100 r.length)) [(100, .row 160 (r.map c159))] := by
 unfold impl_shifted.f at H
 refine OkF.of (N := 31) (rs := [6]) (avs := [.c (.own 100 r.length)]) Tryz.func142 rfl rfl (fun _ _ => results_tmp rfl _ _ _) (by decide) rfl rfl rfl rfl (fun w0 S => ?_)
 refine AG.seq ?_
 refine AG.region HM ?_
 refine a_nilO (e := 160) 200 ?_ T160
 refine RA.nil nofun ?_
 refine AG.seq ?_
 refine AG.region HM ?_
 refine a_lit (cs := []) (D := []) (css := (([] : List S159) : List S159).map c159) 201 ?_ N32 T160 (hcss := by rfl)
 refine a_move (v := .c (.own _ _)) ?_
 refine RA.nil nofun ?_
 refine AG.seq ?_
 refine AG.seq ?_
 refine AG.region HM ?_
 refine a_move (v := vR _ _) ?_
 refine a_lenR ?_ Tryz.underlying32
 refine a_move (v := vI _) ?_
 refine RA.nil nofun ?_
 refine AG.block ?_
 refine AG.loop ?_
 obtain ⟨K0, hK0, gK0⟩ : ∃ K, k ≤ K ∧ K ≤ k := ⟨k, Nat.le_refl k, Nat.le_refl k⟩
 refine AGr.canon (fun κ => cond (Nat.beq κ 202) 201 (κ)) (AGr.loopI (n := k) (fun k s => k ≤ K0 ∧ ∃ (x1 : Int) (x2 : Int) (x7 : List S159) (x11 : List S159) (x12 : Int) (x13 : Int), impl_shifted.l0 k x1 x2 x7 x11 x12 x13 = some r ∧ s = St.of [(1, vI x1), (2, vI x2), (7, .c (.own 202 x7.length)), (11, vR 160 (x11.map c159)), (12, vI x12), (13, vI x13)] [(202, .row 160 (x7.map c159))]) ⟨hK0, _, _, _, _, _, _, H, rfl⟩ ?_ ?_) ⟨rfl, rfl, (ownE rfl (by simp)), rfl, rfl, rfl, trivial⟩ ⟨rfl, trivial⟩ rfl
 ·rintro _ ⟨_, _, _, _, _, _, _, H, _⟩
  cases H
 ·clear H hK0
  rintro k ih0 _ ⟨hK0, x1, x2, x7, x11, x12, x13, H, rfl⟩
  unfold impl_shifted.l0 at H
  refine AG.seq ?_
  refine AG.region HM ?_
  refine a_int (u := .bool (decide (x13 < x12))) ?_
  refine RA.nil nofun ?_
  refine AG.seq ?_
  by_cases hc2 : x13 < x12
  ·rw [if_pos hc2] at H
   refine AG.yes rfl (decide_eq_true hc2) ?_
   refine AG.skip ?_
   refine AG.seq ?_
   refine AG.block ?_
   refine AG.seq ?_
   refine AG.region HM ?_
   by_cases hc3 : 0 ≤ x13
   ·rw [if_pos hc3] at H
    by_cases hc4 : x13 < (x11.length : Int)
    ·rw [if_pos hc4] at H
     refine a_ixR (el := c159 (rd159 x11 x13)) ?_ ⟨hc3, hc4⟩ T160 Tryz.underlying32 (hel := R159 hc3 hc4)
     refine a_ldR (v := .agg [_, _]) ?_ T160
     refine a_alloc (cs := [_, _]) 203 ?_ T160
     refine a_stB (cs' := [_, _]) ?_ T160
     refine RA.nil nofun ?_
     refine AG.region HM ?_
     refine a_move (v := .c (.own _ _)) ?_
     refine a_faB (q := 0) ?_ D160_0
     refine a_ldB (v := vI _) ?_ T2
     refine a_move (v := vI _) ?_
     refine a_int (u := .int .i64 (wrap64 (((rd159 x11 x13).f0) + x1))) ?_
     refine a_faB (q := 1) ?_ D160_1
     refine a_ldB (v := vI _) ?_ T2
     refine a_move (v := vI _) ?_
     refine a_int (u := .int .i64 (wrap64 (((rd159 x11 x13).f1) + x2))) ?_
     refine a_build (cs := [_, _]) ?_ T160 rfl (hin := I160)
     refine a_lit (cs := [_, _]) (D := []) (css := ([(⟨wrap64 (((rd159 x11 x13).f0) + x1), wrap64 (((rd159 x11 x13).f1) + x2)⟩ : S159)]).map c159) 204 ?_ N32 T160
     by_cases hc5 : x7.length < 8796093022208
     ·rw [if_pos hc5] at H
      refine a_appO (css' := (x7 ++ [(⟨wrap64 (((rd159 x11 x13).f0) + x1), wrap64 (((rd159 x11 x13).f1) + x2)⟩ : S159)]).map c159) (n' := (x7 ++ [(⟨wrap64 (((rd159 x11 x13).f0) + x1), wrap64 (((rd159 x11 x13).f1) + x2)⟩ : S159)]).length) ?_ T160 (by simp [maxLen]; omega) (by simp; omega) Tryz.underlying32 (hc := by exact List.map_append.symm) (hn := by exact List.length_map _)
      refine a_move (v := .c (.own _ _)) ?_
      refine RA.nil nofun ?_
      refine AG.region HM ?_
      refine a_int (u := .int .i64 (wrap64 (x13 + 1))) ?_
      refine a_move (v := vI _) ?_
      refine RA.nil nofun ?_
      exact AGr.canon id (ih0 _ (by omega) _ ⟨by omega, _, _, _, _, _, _, H, rfl⟩) ⟨rfl, rfl, rfl, rfl, rfl, rfl, trivial⟩ ⟨rfl, trivial⟩ rfl
     ·rw [if_neg hc5] at H
      cases H
    ·rw [if_neg hc4] at H
     cases H
   ·rw [if_neg hc3] at H
    cases H
  ·rw [if_neg hc2] at H
   refine AG.no rfl (decide_eq_false hc2) ?_
   refine AG.exit ?_
   refine AG.seq ?_
   refine AG.region HM ?_
   refine a_move (v := .c (.own _ _)) ?_
   refine a_move (v := .c (.own _ _)) ?_
   refine RA.nil nofun ?_
   refine AG.ret ?_
   obtain rfl := Option.some.inj H
   exact RetP.mk (fun κ => cond (Nat.beq κ 100) 202 (κ)) ⟨rfl, trivial⟩ ⟨rfl, trivial⟩ rfl
def impl_bounds.l0 : Nat → Int → Int → Int → Int → List S159 → Int → Int → Option (Int × Int × Int × Int)
 | 0, _, _, _, _, _, _, _ => none
 | k + 1, y206_0, y206_1, y207_0, y207_1, x14, x15, x16 => if x16 < x15 then (if 0 ≤ x16 then (if x16 < (x14.length : Int) then (impl_bounds.l0 k (mn y206_0 ((rd159 x14 x16).f0)) (mn y206_1 ((rd159 x14 x16).f1)) (mx y207_0 ((rd159 x14 x16).f0)) (mx y207_1 ((rd159 x14 x16).f1)) x14 x15 (wrap64 (x16 + 1))) else (none)) else (none)) else (some (y206_0, y206_1, y207_0, y207_1))
def impl_bounds.f (k : Nat) (l0 : List S159) : Option (Int × Int × Int × Int) := if 0 < (l0.length : Int) then (impl_bounds.l0 k ((rd159 l0 0).f0) ((rd159 l0 0).f1) ((rd159 l0 0).f0) ((rd159 l0 0).f1) l0 (l0.length : Int) 0) else (none)
set_option maxRecDepth 100000 in
theorem impl_bounds.ok {k : Nat} {l0 : List S159} {r0 : Int} {r1 : Int} {r2 : Int} {r3 : Int} (H : impl_bounds.f k l0 = some (r0, r1, r2, r3)) : OkF Tryz.prog 146 [vR 160 (l0.map c159)] [] (.tup [.agg [.d (.v (.int .i64 r0)), .d (.v (.int .i64 r1))], .agg [.d (.v (.int .i64 r2)), .d (.v (.int .i64 r3))]]) [] := by
 unfold impl_bounds.f at H
 refine OkF.ofC (N := 45) (rs := [2, 3]) (avs := [.agg [.d (.v (.int .i64 r0)), .d (.v (.int .i64 r1))], .agg [.d (.v (.int .i64 r2)), .d (.v (.int .i64 r3))]]) [(2, 160), (3, 160)] Tryz.func146 rfl rfl (rc_cc rfl) (by decide) rfl (by decide) rfl rfl rfl rfl (fun w0 S => ?_)
 refine AG.seq ?_
 refine AG.region HM ?_
 refine a_alloc (cs := [_, _]) 200 ?_ T160
 refine a_alloc (cs := [_, _]) 201 ?_ T160
 refine RA.nil nofun ?_
 refine AG.seq ?_
 refine AG.region HM ?_
 refine a_move (v := vR _ _) ?_
 by_cases hc1 : 0 < (l0.length : Int)
 ·rw [if_pos hc1] at H
  refine a_ixR (el := c159 (rd159 l0 0)) ?_ ⟨(by decide), hc1⟩ T160 Tryz.underlying32 (hel := R159 (by decide) hc1)
  refine a_ldR (v := .agg [_, _]) ?_ T160
  refine a_move (v := vR _ _) ?_
  refine a_ixR (el := c159 (rd159 l0 0)) ?_ ⟨(by decide), hc1⟩ T160 Tryz.underlying32 (hel := R159 (by decide) hc1)
  refine a_ldR (v := .agg [_, _]) ?_ T160
  refine a_alloc (cs := [_, _]) 202 ?_ T160
  refine a_alloc (cs := [_, _]) 203 ?_ T160
  refine a_stB (cs' := [_, _]) ?_ T160
  refine a_stB (cs' := [_, _]) ?_ T160
  refine RA.nil (fun _ => by kernel_rfl) ?_
  refine AG.seq ?_
  refine AG.seq ?_
  refine AG.region HM ?_
  refine a_move (v := vR _ _) ?_
  refine a_lenR ?_ Tryz.underlying32
  refine a_move (v := vI _) ?_
  refine RA.nil nofun ?_
  refine AG.block ?_
  refine AG.loop ?_
  obtain ⟨K0, hK0, gK0⟩ : ∃ K, k ≤ K ∧ K ≤ k := ⟨k, Nat.le_refl k, Nat.le_refl k⟩
  refine AGr.canon (fun κ => cond (Nat.beq κ 204) 200 (cond (Nat.beq κ 205) 201 (cond (Nat.beq κ 206) 202 (cond (Nat.beq κ 207) 203 (κ))))) (AGr.loopI (n := k) (fun k s => k ≤ K0 ∧ ∃ (y204_0 : Int) (y204_1 : Int) (y205_0 : Int) (y205_1 : Int) (y206_0 : Int) (y206_1 : Int) (y207_0 : Int) (y207_1 : Int) (x14 : List S159) (x15 : Int) (x16 : Int), impl_bounds.l0 k y206_0 y206_1 y207_0 y207_1 x14 x15 x16 = some (r0, r1, r2, r3) ∧ s = St.of [(2, .c (.ptr 204 0)), (3, .c (.ptr 205 0)), (4, .c (.ptr 206 0)), (5, .c (.ptr 207 0)), (14, vR 160 (x14.map c159)), (15, vI x15), (16, vI x16)] [(204, .box 160 [.d (.v (.int .i64 y204_0)), .d (.v (.int .i64 y204_1))]), (205, .box 160 [.d (.v (.int .i64 y205_0)), .d (.v (.int .i64 y205_1))]), (206, .box 160 [.d (.v (.int .i64 y206_0)), .d (.v (.int .i64 y206_1))]), (207, .box 160 [.d (.v (.int .i64 y207_0)), .d (.v (.int .i64 y207_1))])]) ⟨hK0, _, _, _, _, _, _, _, _, _, _, _, H, rfl⟩ ?_ ?_) ⟨rfl, rfl, rfl, rfl, rfl, rfl, rfl, trivial⟩ ⟨rfl, rfl, rfl, rfl, trivial⟩ rfl
  ·rintro _ ⟨_, _, _, _, _, _, _, _, _, _, _, _, H, _⟩
   cases H
  ·clear H hK0
   rintro k ih0 _ ⟨hK0, y204_0, y204_1, y205_0, y205_1, y206_0, y206_1, y207_0, y207_1, x14, x15, x16, H, rfl⟩
   unfold impl_bounds.l0 at H
   refine AG.seq ?_
   refine AG.region HM ?_
   refine a_int (u := .bool (decide (x16 < x15))) ?_
   refine RA.nil nofun ?_
   refine AG.seq ?_
   by_cases hc2 : x16 < x15
   ·rw [if_pos hc2] at H
    refine AG.yes rfl (decide_eq_true hc2) ?_
    refine AG.skip ?_
    refine AG.seq ?_
    refine AG.block ?_
    refine AG.seq ?_
    refine AG.region HM ?_
    by_cases hc3 : 0 ≤ x16
    ·rw [if_pos hc3] at H
     by_cases hc4 : x16 < (x14.length : Int)
     ·rw [if_pos hc4] at H
      refine a_ixR (el := c159 (rd159 x14 x16)) ?_ ⟨hc3, hc4⟩ T160 Tryz.underlying32 (hel := R159 hc3 hc4)
      refine a_ldR (v := .agg [_, _]) ?_ T160
      refine a_alloc (cs := [_, _]) 208 ?_ T160
      refine a_stB (cs' := [_, _]) ?_ T160
      refine RA.nil nofun ?_
      refine AG.seq ?_
      refine AG.region HM ?_
      refine a_faB (q := 0) ?_ D160_0
      refine a_ldB (v := vI _) ?_ T2
      refine a_faB (q := 0) ?_ D160_0
      refine a_ldB (v := vI _) ?_ T2
      refine a_minmax (mx := false) (r := mn y206_0 ((rd159 x14 x16).f0)) ?_
      refine a_faB (q := 1) ?_ D160_1
      refine a_ldB (v := vI _) ?_ T2
      refine a_faB (q := 1) ?_ D160_1
      refine a_ldB (v := vI _) ?_ T2
      refine a_minmax (mx := false) (r := mn y206_1 ((rd159 x14 x16).f1)) ?_
      refine a_build (cs := [_, _]) ?_ T160 rfl (hin := I160)
      refine a_stB (cs' := [_, _]) ?_ T160
      refine RA.nil nofun ?_
      refine AG.region HM ?_
      refine a_faB (q := 0) ?_ D160_0
      refine a_ldB (v := vI _) ?_ T2
      refine a_faB (q := 0) ?_ D160_0
      refine a_ldB (v := vI _) ?_ T2
      refine a_minmax (mx := true) (r := mx y207_0 ((rd159 x14 x16).f0)) ?_
      refine a_faB (q := 1) ?_ D160_1
      refine a_ldB (v := vI _) ?_ T2
      refine a_faB (q := 1) ?_ D160_1
      refine a_ldB (v := vI _) ?_ T2
      refine a_minmax (mx := true) (r := mx y207_1 ((rd159 x14 x16).f1)) ?_
      refine a_build (cs := [_, _]) ?_ T160 rfl (hin := I160)
      refine a_stB (cs' := [_, _]) ?_ T160
      refine RA.nil nofun ?_
      refine AG.region HM ?_
      refine a_int (u := .int .i64 (wrap64 (x16 + 1))) ?_
      refine a_move (v := vI _) ?_
      refine RA.nil nofun ?_
      exact AGr.canon id (ih0 _ (by omega) _ ⟨by omega, _, _, _, _, _, _, _, _, _, _, _, H, rfl⟩) ⟨rfl, rfl, rfl, rfl, rfl, rfl, rfl, trivial⟩ ⟨rfl, rfl, rfl, rfl, trivial⟩ rfl
     ·rw [if_neg hc4] at H
      cases H
    ·rw [if_neg hc3] at H
     cases H
   ·rw [if_neg hc2] at H
    refine AG.no rfl (decide_eq_false hc2) ?_
    refine AG.exit ?_
    refine AG.seq ?_
    refine AG.region HM ?_
    refine a_ldB (v := .agg [_, _]) ?_ T160
    refine a_ldB (v := .agg [_, _]) ?_ T160
    refine a_stB (cs' := [_, _]) ?_ T160
    refine a_stB (cs' := [_, _]) ?_ T160
    refine RA.nil (fun _ => by kernel_rfl) ?_
    refine AG.ret ?_
    simp only [Option.some.injEq, Prod.mk.injEq] at H
    obtain ⟨rfl, rfl, rfl, rfl⟩ := H
    exact RetL.cell T160 rfl rfl rfl (RetL.cell T160 rfl rfl rfl (RetL.nil (RetP.mk id ⟨rfl, rfl, trivial⟩ trivial rfl)))
 ·rw [if_neg hc1] at H
  cases H
mutual
def impl_Turned.j0 : Nat → Int → Int → Int → Bool → Option (Int × Int)
 | 0, _, _, _, _ => none
 | k + 1, x1, y205_0, y205_1, x20 => if x20 = true then (some (0, 0)) else (if x1 > 3 then (impl_Turned.j1 k x1 (wrap64 (0 - y205_0)) y205_1) else (impl_Turned.j1 k x1 y205_0 y205_1))
def impl_Turned.j1 : Nat → Int → Int → Int → Option (Int × Int)
 | 0, _, _, _ => none
 | k + 1, x1, y207_0, y207_1 => impl_Turned.l0 k y207_0 y207_1 (Int.tmod x1 4)
def impl_Turned.l0 : Nat → Int → Int → Int → Option (Int × Int)
 | 0, _, _, _ => none
 | k + 1, y209_0, y209_1, x5 => if x5 > 0 then (impl_Turned.l0 k (wrap64 (0 - y209_1)) y209_0 (wrap64 (x5 - 1))) else (some (y209_0, y209_1))
end
def impl_Turned.f (k : Nat) (a0_0 : Int) (a0_1 : Int) (a1 : Int) : Option (Int × Int) := (impl_within.f a1 0 7).bind fun t1 => (if t1 = true then ((impl_within.f a0_0 (-20000) 20000).bind fun t4 => (if t4 = true then ((impl_within.f a0_1 (-20000) 20000).bind fun t7 => (impl_Turned.j0 k a1 a0_0 a0_1 (!t7))) else (impl_Turned.j0 k a1 a0_0 a0_1 true))) else (impl_Turned.j0 k a1 a0_0 a0_1 true))
set_option maxRecDepth 100000 in
theorem impl_Turned.ok {k : Nat} {a0_0 : Int} {a0_1 : Int} {a1 : Int} {r0 : Int} {r1 : Int} (H : impl_Turned.f k a0_0 a0_1 a1 = some (r0, r1)) : OkF Tryz.prog 188 [.agg [.d (.v (.int .i64 a0_0)), .d (.v (.int .i64 a0_1))], vI a1] [] (.agg [.d (.v (.int .i64 r0)), .d (.v (.int .i64 r1))]) [] := by
 unfold impl_Turned.f at H
 refine OkF.ofB (N := 41) (t := 4) (ty := 160) (av := .agg [.d (.v (.int .i64 r0)), .d (.v (.int .i64 r1))]) Tryz.func188 rfl rfl rfl rfl (by decide) rfl rfl (fun w0 S => ?_)
 refine AG.seq ?_
 refine AG.region HM ?_
 refine a_box 200 ?_
 refine a_alloc (cs := [_, _]) 201 ?_ T160
 refine RA.nil nofun ?_
 refine AG.seq ?_
 refine AG.seq ?_
 refine AG.joinR (fun s => ∃ q, q ≤ k ∧ ∃ (x1 : Int) (y205_0 : Int) (y205_1 : Int) (y206_0 : Int) (y206_1 : Int) (x20 : Bool), impl_Turned.j0 q x1 y205_0 y205_1 x20 = some (r0, r1) ∧ s = St.of [(1, vI x1), (2, .c (.ptr 205 0)), (4, .c (.ptr 206 0)), (20, vB x20)] [(205, .box 160 [.d (.v (.int .i64 y205_0)), .d (.v (.int .i64 y205_1))]), (206, .box 160 [.d (.v (.int .i64 y206_0)), .d (.v (.int .i64 y206_1))])]) ?_ ?_
 ·skip
  refine AG.region HM ?_
  refine a_move (v := vI _) ?_
  obtain ⟨t1, e2, H⟩ := bindO H
  refine a_call (v := vB t1) (nk := []) (L := []) ?_ rfl (impl_within.ok e2) id (qd (qd (qd qn))) trivial trivial trivial rfl
  refine a_un (u := .bool (!t1)) ?_
  refine a_move (v := vB _) ?_
  by_cases hc3 : t1 = true
  ·rw [if_pos hc3] at H
   refine a_faB (q := 0) ?_ D160_0 (hg := Gs.yes rfl rfl rfl (congrArg Bool.not hc3))
   refine a_ldB (v := vI _) ?_ T2 (hg := Gs.yes rfl rfl rfl (congrArg Bool.not hc3))
   obtain ⟨t4, e5, H⟩ := bindO H
   refine a_call (v := vB t4) (nk := []) (L := []) ?_ rfl (impl_within.ok e5) id (qd (qd (qd qn))) trivial trivial trivial rfl (hg := Gs.yes rfl rfl rfl (congrArg Bool.not hc3))
   refine a_un (u := .bool (!t4)) ?_ (hg := Gs.yes rfl rfl rfl (congrArg Bool.not hc3))
   refine a_pick (b := false) (v := vB _) ?_ (congrArg Bool.not hc3)
   refine a_move (v := vB _) ?_
   by_cases hc6 : t4 = true
   ·rw [if_pos hc6] at H
    refine a_faB (q := 1) ?_ D160_1 (hg := Gs.yes rfl rfl rfl (congrArg Bool.not hc6))
    refine a_ldB (v := vI _) ?_ T2 (hg := Gs.yes rfl rfl rfl (congrArg Bool.not hc6))
    obtain ⟨t7, e8, H⟩ := bindO H
    refine a_call (v := vB t7) (nk := []) (L := []) ?_ rfl (impl_within.ok e8) id (qd (qd (qd qn))) trivial trivial trivial rfl (hg := Gs.yes rfl rfl rfl (congrArg Bool.not hc6))
    refine a_un (u := .bool (!t7)) ?_ (hg := Gs.yes rfl rfl rfl (congrArg Bool.not hc6))
    refine a_pick (b := false) (v := vB _) ?_ (congrArg Bool.not hc6)
    refine RA.nil nofun ?_
    exact CanR.mk (fun κ => cond (Nat.beq κ 205) 200 (cond (Nat.beq κ 206) 201 (κ))) ⟨_, (by omega), _, _, _, _, _, _, H, rfl⟩ ⟨rfl, rfl, rfl, rfl, trivial⟩ ⟨rfl, rfl, trivial⟩ rfl
   ·rw [if_neg hc6] at H
    refine RA.skip rfl rfl rfl rfl rfl (congrArg Bool.not (Bool.eq_false_iff.2 hc6)) (by decide) ?_
    refine RA.skip rfl rfl rfl rfl rfl (congrArg Bool.not (Bool.eq_false_iff.2 hc6)) (by decide) ?_
    refine RA.skip rfl rfl rfl rfl rfl (congrArg Bool.not (Bool.eq_false_iff.2 hc6)) (by decide) ?_
    refine RA.skip rfl rfl rfl rfl rfl (congrArg Bool.not (Bool.eq_false_iff.2 hc6)) (by decide) ?_
    refine a_pick (b := true) (v := vB _) ?_ (congrArg Bool.not (Bool.eq_false_iff.2 hc6))
    refine RA.nil nofun ?_
    exact CanR.mk (fun κ => cond (Nat.beq κ 205) 200 (cond (Nat.beq κ 206) 201 (κ))) ⟨_, (by omega), _, _, _, _, _, _, H, rfl⟩ ⟨rfl, rfl, rfl, rfl, trivial⟩ ⟨rfl, rfl, trivial⟩ rfl
  ·rw [if_neg hc3] at H
   refine RA.skip rfl rfl rfl rfl rfl (congrArg Bool.not (Bool.eq_false_iff.2 hc3)) (by decide) ?_
   refine RA.skip rfl rfl rfl rfl rfl (congrArg Bool.not (Bool.eq_false_iff.2 hc3)) (by decide) ?_
   refine RA.skip rfl rfl rfl rfl rfl (congrArg Bool.not (Bool.eq_false_iff.2 hc3)) (by decide) ?_
   refine RA.skip rfl rfl rfl rfl rfl (congrArg Bool.not (Bool.eq_false_iff.2 hc3)) (by decide) ?_
   refine a_pick (b := true) (v := vB _) ?_ (congrArg Bool.not (Bool.eq_false_iff.2 hc3))
   refine a_move (v := vB _) ?_
   refine RA.skip rfl rfl rfl rfl rfl rfl (by decide) ?_
   refine RA.skip rfl rfl rfl rfl rfl rfl (by decide) ?_
   refine RA.skip rfl rfl rfl rfl rfl rfl (by decide) ?_
   refine RA.skip rfl rfl rfl rfl rfl rfl (by decide) ?_
   refine a_pick (b := true) (v := vB _) ?_ rfl
   refine RA.nil nofun ?_
   exact CanR.mk (fun κ => cond (Nat.beq κ 205) 200 (cond (Nat.beq κ 206) 201 (κ))) ⟨_, (by omega), _, _, _, _, _, _, H, rfl⟩ ⟨rfl, rfl, rfl, rfl, trivial⟩ ⟨rfl, rfl, trivial⟩ rfl
 ·clear H
  rintro _ ⟨k, hj0, x1, y205_0, y205_1, y206_0, y206_1, x20, H, rfl⟩
  cases k with
  | zero => cases H
  | succ k =>
   rw [impl_Turned.j0] at H
   by_cases hc9 : x20 = true
   ·rw [if_pos hc9] at H
    refine AG.yes rfl hc9 ?_
    refine AG.seq ?_
    refine AG.region HM ?_
    refine a_build (cs := [_, _]) ?_ T160 rfl (hin := I160)
    refine a_stB (cs' := [_, _]) ?_ T160
    refine RA.nil nofun ?_
    refine AG.ret ?_
    simp only [Option.some.injEq, Prod.mk.injEq] at H
    obtain ⟨rfl, rfl⟩ := H
    exact RetB.mk T160 rfl rfl rfl (RetP.mk id ⟨rfl, trivial⟩ trivial rfl)
   ·rw [if_neg hc9] at H
    refine AG.no rfl (Bool.eq_false_iff.2 hc9) ?_
    refine AG.skip ?_
    refine AG.seq ?_
    refine AG.seq ?_
    refine AG.region HM ?_
    refine a_move (v := vI _) ?_
    refine a_int (u := .bool (decide (x1 > 3))) ?_
    refine RA.nil nofun ?_
    refine AG.joinR (fun s => ∃ q, q ≤ k ∧ ∃ (x1 : Int) (y207_0 : Int) (y207_1 : Int) (y208_0 : Int) (y208_1 : Int), impl_Turned.j1 q x1 y207_0 y207_1 = some (r0, r1) ∧ s = St.of [(1, vI x1), (2, .c (.ptr 207 0)), (4, .c (.ptr 208 0))] [(207, .box 160 [.d (.v (.int .i64 y207_0)), .d (.v (.int .i64 y207_1))]), (208, .box 160 [.d (.v (.int .i64 y208_0)), .d (.v (.int .i64 y208_1))])]) ?_ ?_
    ·skip
     by_cases hc10 : x1 > 3
     ·rw [if_pos hc10] at H
      refine AG.yes rfl (decide_eq_true hc10) ?_
      refine AG.region HM ?_
      refine a_faB (q := 0) ?_ D160_0
      refine a_ldB (v := vI _) ?_ T2
      refine a_un (u := .int .i64 (wrap64 (0 - y205_0))) ?_
      refine a_faB (q := 0) ?_ D160_0
      refine a_stB (cs' := [_, _]) ?_ T2
      refine RA.nil nofun ?_
      exact CanR.mk (fun κ => cond (Nat.beq κ 207) 205 (cond (Nat.beq κ 208) 206 (κ))) ⟨_, (by omega), _, _, _, _, _, H, rfl⟩ ⟨rfl, rfl, rfl, trivial⟩ ⟨rfl, rfl, trivial⟩ rfl
     ·rw [if_neg hc10] at H
      refine AG.no rfl (decide_eq_false hc10) ?_
      refine AG.skip ?_
      exact CanR.mk (fun κ => cond (Nat.beq κ 207) 205 (cond (Nat.beq κ 208) 206 (κ))) ⟨_, (by omega), _, _, _, _, _, H, rfl⟩ ⟨rfl, rfl, rfl, trivial⟩ ⟨rfl, rfl, trivial⟩ rfl
    ·clear H
     rintro _ ⟨k, hj1, x1, y207_0, y207_1, y208_0, y208_1, H, rfl⟩
     cases k with
     | zero => cases H
     | succ k =>
      rw [impl_Turned.j1] at H
      refine AG.seq ?_
      refine AG.seq ?_
      refine AG.region HM ?_
      refine a_move (v := vI _) ?_
      refine a_rem (r := Int.tmod x1 4) ?_ (show ¬ (4 : Int) = 0 from by decide)
      refine a_move (v := vI _) ?_
      refine RA.nil nofun ?_
      refine AG.block ?_
      refine AG.loop ?_
      obtain ⟨K0, hK0, gK0⟩ : ∃ K, k ≤ K ∧ K ≤ k := ⟨k, Nat.le_refl k, Nat.le_refl k⟩
      refine AGr.canon (fun κ => cond (Nat.beq κ 209) 207 (cond (Nat.beq κ 210) 208 (κ))) (AGr.loopI (n := k) (fun k s => k ≤ K0 ∧ ∃ (y209_0 : Int) (y209_1 : Int) (y210_0 : Int) (y210_1 : Int) (x5 : Int), impl_Turned.l0 k y209_0 y209_1 x5 = some (r0, r1) ∧ s = St.of [(2, .c (.ptr 209 0)), (4, .c (.ptr 210 0)), (5, vI x5)] [(209, .box 160 [.d (.v (.int .i64 y209_0)), .d (.v (.int .i64 y209_1))]), (210, .box 160 [.d (.v (.int .i64 y210_0)), .d (.v (.int .i64 y210_1))])]) ⟨hK0, _, _, _, _, _, H, rfl⟩ ?_ ?_) ⟨rfl, rfl, rfl, trivial⟩ ⟨rfl, rfl, trivial⟩ rfl
      ·rintro _ ⟨_, _, _, _, _, _, H, _⟩
       cases H
      ·clear H hK0
       rintro k ih0 _ ⟨hK0, y209_0, y209_1, y210_0, y210_1, x5, H, rfl⟩
       unfold impl_Turned.l0 at H
       refine AG.seq ?_
       refine AG.seq ?_
       refine AG.region HM ?_
       refine a_move (v := vI _) ?_
       refine a_int (u := .bool (decide (x5 > 0))) ?_
       refine RA.nil nofun ?_
       by_cases hc11 : x5 > 0
       ·rw [if_pos hc11] at H
        refine AG.yes rfl (decide_eq_true hc11) ?_
        refine AG.skip ?_
        refine AG.seq ?_
        refine AG.block ?_
        refine AG.region HM ?_
        refine a_faB (q := 1) ?_ D160_1
        refine a_ldB (v := vI _) ?_ T2
        refine a_un (u := .int .i64 (wrap64 (0 - y209_1))) ?_
        refine a_faB (q := 0) ?_ D160_0
        refine a_ldB (v := vI _) ?_ T2
        refine a_build (cs := [_, _]) ?_ T160 rfl (hin := I160)
        refine a_stB (cs' := [_, _]) ?_ T160
        refine RA.nil nofun ?_
        refine AG.region HM ?_
        refine a_move (v := vI _) ?_
        refine a_int (u := .int .i64 (wrap64 (x5 - 1))) ?_
        refine a_move (v := vI _) ?_
        refine RA.nil nofun ?_
        exact AGr.canon id (ih0 _ (by omega) _ ⟨by omega, _, _, _, _, _, H, rfl⟩) ⟨rfl, rfl, rfl, trivial⟩ ⟨rfl, rfl, trivial⟩ rfl
       ·rw [if_neg hc11] at H
        refine AG.no rfl (decide_eq_false hc11) ?_
        refine AG.exit ?_
        refine AG.seq ?_
        refine AG.region HM ?_
        refine a_ldB (v := .agg [_, _]) ?_ T160
        refine a_stB (cs' := [_, _]) ?_ T160
        refine RA.nil nofun ?_
        refine AG.ret ?_
        simp only [Option.some.injEq, Prod.mk.injEq] at H
        obtain ⟨rfl, rfl⟩ := H
        exact RetB.mk T160 rfl rfl rfl (RetP.mk id ⟨rfl, trivial⟩ trivial rfl)
def slices_Reverse_impl_Point.l0 : Nat → List S159 → Int → Int → Option ((List S159))
 | 0, _, _, _ => none
 | k + 1, x0, x2, x3 => if x2 < x3 then (if 0 ≤ x3 then (if x3 < (x0.length : Int) then (if 0 ≤ x2 then (if x2 < (x0.length : Int) then (slices_Reverse_impl_Point.l0 k ((x0.set (x2 : Int).toNat (⟨(rd159 x0 x3).f0, (rd159 x0 x3).f1⟩ : S159)).set (x3 : Int).toNat (⟨(rd159 x0 x2).f0, (rd159 x0 x2).f1⟩ : S159)) (wrap64 (x2 + 1)) (wrap64 (x3 - 1))) else (none)) else (none)) else (none)) else (none)) else (some x0)
def slices_Reverse_impl_Point.f (k : Nat) (l0 : List S159) : Option ((List S159)) := slices_Reverse_impl_Point.l0 k l0 0 (wrap64 ((l0.length : Int) - 1))
set_option maxRecDepth 100000 in
theorem slices_Reverse_impl_Point.ok {k : Nat} {l0 : List S159} {r : List S159} (H : slices_Reverse_impl_Point.f k l0 = some r) : OkF Tryz.prog 189 [.c (.own 0 l0.length)] [(0, .row 160 (l0.map c159))] (.tup []) [(0, .row 160 (r.map c159))] := by
 unfold slices_Reverse_impl_Point.f at H
 refine OkF.of (N := 28) (rs := []) (avs := []) Tryz.func189 rfl rfl (fun _ _ => results_none rfl _ _ _) (by decide) rfl rfl rfl rfl (fun w0 S => ?_)
 refine AG.seq ?_
 refine AG.region HM ?_
 refine a_move (v := .c (.own _ _)) ?_
 refine a_lenO ?_ Tryz.underlying32
 refine a_int (u := .int .i64 (wrap64 ((l0.length : Int) - 1))) ?_
 refine a_move (v := vI _) ?_
 refine a_move (v := vI _) ?_
 refine RA.nil nofun ?_
 refine AG.block ?_
 refine AG.loop ?_
 obtain ⟨K0, hK0, gK0⟩ : ∃ K, k ≤ K ∧ K ≤ k := ⟨k, Nat.le_refl k, Nat.le_refl k⟩
 refine AGr.canon id (AGr.loopI (n := k) (fun k s => k ≤ K0 ∧ ∃ (x0 : List S159) (x2 : Int) (x3 : Int), slices_Reverse_impl_Point.l0 k x0 x2 x3 = some r ∧ s = St.of [(0, .c (.own 0 x0.length)), (2, vI x2), (3, vI x3)] [(0, .row 160 (x0.map c159))]) ⟨hK0, _, _, _, H, rfl⟩ ?_ ?_) ⟨rfl, rfl, rfl, trivial⟩ ⟨rfl, trivial⟩ rfl
 ·rintro _ ⟨_, _, _, _, H, _⟩
  cases H
 ·clear H hK0
  rintro k ih0 _ ⟨hK0, x0, x2, x3, H, rfl⟩
  unfold slices_Reverse_impl_Point.l0 at H
  refine AG.seq ?_
  refine AG.seq ?_
  refine AG.region HM ?_
  refine a_move (v := vI _) ?_
  refine a_move (v := vI _) ?_
  refine a_int (u := .bool (decide (x2 < x3))) ?_
  refine RA.nil nofun ?_
  by_cases hc1 : x2 < x3
  ·rw [if_pos hc1] at H
   refine AG.yes rfl (decide_eq_true hc1) ?_
   refine AG.skip ?_
   refine AG.seq ?_
   refine AG.block ?_
   refine AG.region HM ?_
   refine a_move (v := .c (.own _ _)) ?_
   refine a_move (v := vI _) ?_
   refine a_move (v := .c (.own _ _)) ?_
   refine a_move (v := vI _) ?_
   refine a_move (v := .c (.own _ _)) ?_
   refine a_move (v := vI _) ?_
   by_cases hc2 : 0 ≤ x3
   ·rw [if_pos hc2] at H
    by_cases hc3 : x3 < (x0.length : Int)
    ·rw [if_pos hc3] at H
     refine a_ixO ?_ ⟨hc2, hc3⟩ T160 Tryz.underlying32
     refine a_ldE (v := .agg [_, _]) ?_ (G159 hc2 hc3) T160
     refine a_move (v := .c (.own _ _)) ?_
     refine a_move (v := vI _) ?_
     by_cases hc4 : 0 ≤ x2
     ·rw [if_pos hc4] at H
      by_cases hc5 : x2 < (x0.length : Int)
      ·rw [if_pos hc5] at H
       refine a_ixO ?_ ⟨hc4, hc5⟩ T160 Tryz.underlying32
       refine a_ldE (v := .agg [_, _]) ?_ (G159 hc4 hc5) T160
       refine a_ixO ?_ ⟨hc4, hc5⟩ T160 Tryz.underlying32
       refine a_stF (css' := (x0.set (x2 : Int).toNat (⟨(rd159 x0 x3).f0, (rd159 x0 x3).f1⟩ : S159)).map c159) ?_ (flat_map (fun _ => rfl)) (G159 hc4 hc5) T160 (hcss := by exact set_map rfl)
       refine a_ixO ?_ ⟨hc2, hc3⟩ T160 Tryz.underlying32
       refine a_stF (css' := ((x0.set (x2 : Int).toNat (⟨(rd159 x0 x3).f0, (rd159 x0 x3).f1⟩ : S159)).set (x3 : Int).toNat (⟨(rd159 x0 x2).f0, (rd159 x0 x2).f1⟩ : S159)).map c159) ?_ (flat_map (fun _ => rfl)) (G159 (l := (x0.set (x2 : Int).toNat (⟨(rd159 x0 x3).f0, (rd159 x0 x3).f1⟩ : S159))) (i := x3) hc2 (by simpa using hc3)) T160 (hcss := by exact set_map rfl)
       refine RA.nil (fun _ => by kernel_rfl) ?_
       refine AG.region HM ?_
       refine a_move (v := vI _) ?_
       refine a_int (u := .int .i64 (wrap64 (x2 + 1))) ?_
       refine a_move (v := vI _) ?_
       refine a_int (u := .int .i64 (wrap64 (x3 - 1))) ?_
       refine a_move (v := vI _) ?_
       refine a_move (v := vI _) ?_
       refine RA.nil nofun ?_
       exact AGr.canon id (ih0 _ (by omega) _ ⟨by omega, _, _, _, H, rfl⟩) ⟨(ownE rfl (by simp)), rfl, rfl, trivial⟩ ⟨rfl, trivial⟩ rfl
      ·rw [if_neg hc5] at H
       cases H
     ·rw [if_neg hc4] at H
      cases H
    ·rw [if_neg hc3] at H
     cases H
   ·rw [if_neg hc2] at H
    cases H
  ·rw [if_neg hc1] at H
   refine AG.no rfl (decide_eq_false hc1) ?_
   refine AG.exit ?_
   obtain rfl := Option.some.inj H
   exact RetP.mk (fun κ => cond (Nat.beq κ 0) 0 (κ)) trivial ⟨rfl, trivial⟩ rfl
def slices_Reverse_impl_Point__cut.l0 : Nat → List S159 → Nat → Nat → Int → Int → Option ((List S159))
 | 0, _, _, _, _, _ => none
 | k + 1, x0, x0_lo, x0_n, x2, x3 => if x2 < x3 then (if x0_lo + x0_n ≤ x0.length then (if 0 ≤ x3 then (if x3 < (x0_n : Int) then (if 0 ≤ x2 then (if x2 < (x0_n : Int) then (slices_Reverse_impl_Point__cut.l0 k ((x0.set (((x0_lo : Int) + x2) : Int).toNat (⟨(rd159 x0 ((x0_lo : Int) + x3)).f0, (rd159 x0 ((x0_lo : Int) + x3)).f1⟩ : S159)).set (((x0_lo : Int) + x3) : Int).toNat (⟨(rd159 x0 ((x0_lo : Int) + x2)).f0, (rd159 x0 ((x0_lo : Int) + x2)).f1⟩ : S159)) x0_lo x0_n (wrap64 (x2 + 1)) (wrap64 (x3 - 1))) else (none)) else (none)) else (none)) else (none)) else (none)) else (some x0)
def slices_Reverse_impl_Point__cut.f (k : Nat) (l0 : List S159) (lo0 : Nat) (n0 : Nat) : Option ((List S159)) := slices_Reverse_impl_Point__cut.l0 k l0 lo0 n0 0 (wrap64 ((n0 : Int) - 1))
set_option maxRecDepth 100000 in
theorem slices_Reverse_impl_Point__cut.ok {k : Nat} {l0 : List S159} {lo0 : Nat} {n0 : Nat} {r : List S159} (H : slices_Reverse_impl_Point__cut.f k l0 lo0 n0 = some r) : OkF Tryz.prog 189 [.c (.cut 0 lo0 n0)] [(0, .row 160 (l0.map c159))] (.tup []) [(0, .row 160 (r.map c159))] := by
 unfold slices_Reverse_impl_Point__cut.f at H
 refine OkF.of (N := 28) (rs := []) (avs := []) Tryz.func189 rfl rfl (fun _ _ => results_none rfl _ _ _) (by decide) rfl rfl rfl rfl (fun w0 S => ?_)
 refine AG.seq ?_
 refine AG.region HM ?_
 refine a_move (v := .c (.cut _ _ _)) ?_
 refine a_lenC ?_ Tryz.underlying32
 refine a_int (u := .int .i64 (wrap64 ((n0 : Int) - 1))) ?_
 refine a_move (v := vI _) ?_
 refine a_move (v := vI _) ?_
 refine RA.nil nofun ?_
 refine AG.block ?_
 refine AG.loop ?_
 obtain ⟨K0, hK0, gK0⟩ : ∃ K, k ≤ K ∧ K ≤ k := ⟨k, Nat.le_refl k, Nat.le_refl k⟩
 refine AGr.canon id (AGr.loopI (n := k) (fun k s => k ≤ K0 ∧ ∃ (x0 : List S159) (x0_lo : Nat) (x0_n : Nat) (x2 : Int) (x3 : Int), slices_Reverse_impl_Point__cut.l0 k x0 x0_lo x0_n x2 x3 = some r ∧ s = St.of [(0, .c (.cut 0 x0_lo x0_n)), (2, vI x2), (3, vI x3)] [(0, .row 160 (x0.map c159))]) ⟨hK0, _, _, _, _, _, H, rfl⟩ ?_ ?_) ⟨rfl, rfl, rfl, trivial⟩ ⟨rfl, trivial⟩ rfl
 ·rintro _ ⟨_, _, _, _, _, _, H, _⟩
  cases H
 ·clear H hK0
  rintro k ih0 _ ⟨hK0, x0, x0_lo, x0_n, x2, x3, H, rfl⟩
  unfold slices_Reverse_impl_Point__cut.l0 at H
  refine AG.seq ?_
  refine AG.seq ?_
  refine AG.region HM ?_
  refine a_move (v := vI _) ?_
  refine a_move (v := vI _) ?_
  refine a_int (u := .bool (decide (x2 < x3))) ?_
  refine RA.nil nofun ?_
  by_cases hc1 : x2 < x3
  ·rw [if_pos hc1] at H
   refine AG.yes rfl (decide_eq_true hc1) ?_
   refine AG.skip ?_
   refine AG.seq ?_
   refine AG.block ?_
   refine AG.region HM ?_
   refine a_move (v := .c (.cut _ _ _)) ?_
   refine a_move (v := vI _) ?_
   refine a_move (v := .c (.cut _ _ _)) ?_
   refine a_move (v := vI _) ?_
   refine a_move (v := .c (.cut _ _ _)) ?_
   refine a_move (v := vI _) ?_
   by_cases hc2 : x0_lo + x0_n ≤ x0.length
   ·rw [if_pos hc2] at H
    by_cases hc3 : 0 ≤ x3
    ·rw [if_pos hc3] at H
     by_cases hc4 : x3 < (x0_n : Int)
     ·rw [if_pos hc4] at H
      refine a_ixC ?_ ⟨hc3, hc4⟩ T160 Tryz.underlying32
      refine a_ldE (v := .agg [_, _]) ?_ (G159 (l := x0) (i := ((x0_lo : Int) + x3)) (by omega) (by omega)) T160
      refine a_move (v := .c (.cut _ _ _)) ?_
      refine a_move (v := vI _) ?_
      by_cases hc5 : 0 ≤ x2
      ·rw [if_pos hc5] at H
       by_cases hc6 : x2 < (x0_n : Int)
       ·rw [if_pos hc6] at H
        refine a_ixC ?_ ⟨hc5, hc6⟩ T160 Tryz.underlying32
        refine a_ldE (v := .agg [_, _]) ?_ (G159 (l := x0) (i := ((x0_lo : Int) + x2)) (by omega) (by omega)) T160
        refine a_ixC ?_ ⟨hc5, hc6⟩ T160 Tryz.underlying32
        refine a_stF (css' := (x0.set (((x0_lo : Int) + x2) : Int).toNat (⟨(rd159 x0 ((x0_lo : Int) + x3)).f0, (rd159 x0 ((x0_lo : Int) + x3)).f1⟩ : S159)).map c159) ?_ (flat_map (fun _ => rfl)) (G159 (l := x0) (i := ((x0_lo : Int) + x2)) (by omega) (by omega)) T160 (hcss := by exact set_map rfl)
        refine a_ixC ?_ ⟨hc3, hc4⟩ T160 Tryz.underlying32
        refine a_stF (css' := ((x0.set (((x0_lo : Int) + x2) : Int).toNat (⟨(rd159 x0 ((x0_lo : Int) + x3)).f0, (rd159 x0 ((x0_lo : Int) + x3)).f1⟩ : S159)).set (((x0_lo : Int) + x3) : Int).toNat (⟨(rd159 x0 ((x0_lo : Int) + x2)).f0, (rd159 x0 ((x0_lo : Int) + x2)).f1⟩ : S159)).map c159) ?_ (flat_map (fun _ => rfl)) (G159 (l := (x0.set (((x0_lo : Int) + x2) : Int).toNat (⟨(rd159 x0 ((x0_lo : Int) + x3)).f0, (rd159 x0 ((x0_lo : Int) + x3)).f1⟩ : S159))) (i := ((x0_lo : Int) + x3)) (by omega) (by simp only [List.length_set]; omega)) T160 (hcss := by exact set_map rfl)
        refine RA.nil (fun _ => by kernel_rfl) ?_
        refine AG.region HM ?_
        refine a_move (v := vI _) ?_
        refine a_int (u := .int .i64 (wrap64 (x2 + 1))) ?_
        refine a_move (v := vI _) ?_
        refine a_int (u := .int .i64 (wrap64 (x3 - 1))) ?_
        refine a_move (v := vI _) ?_
        refine a_move (v := vI _) ?_
        refine RA.nil nofun ?_
        exact AGr.canon id (ih0 _ (by omega) _ ⟨by omega, _, _, _, _, _, H, rfl⟩) ⟨rfl, rfl, rfl, trivial⟩ ⟨rfl, trivial⟩ rfl
       ·rw [if_neg hc6] at H
        cases H
      ·rw [if_neg hc5] at H
       cases H
     ·rw [if_neg hc4] at H
      cases H
    ·rw [if_neg hc3] at H
     cases H
   ·rw [if_neg hc2] at H
    cases H
  ·rw [if_neg hc1] at H
   refine AG.no rfl (decide_eq_false hc1) ?_
   refine AG.exit ?_
   obtain rfl := Option.some.inj H
   exact RetP.mk (fun κ => cond (Nat.beq κ 0) 0 (κ)) trivial ⟨rfl, trivial⟩ rfl
def impl_turnPoints.l0 : Nat → Int → List S159 → List S159 → Int → Int → Option ((List S159))
 | 0, _, _, _, _, _ => none
 | k + 1, x1, x5, x11, x12, x13 => if x13 < x12 then (if 0 ≤ x13 then (if x13 < (x11.length : Int) then ((impl_Turned.f k ((rd159 x11 x13).f0) ((rd159 x11 x13).f1) x1).bind fun bt5 => (if x5.length < 8796093022208 then (impl_turnPoints.l0 k x1 (x5 ++ [(⟨bt5.1, bt5.2⟩ : S159)]) x11 x12 (wrap64 (x13 + 1))) else (none))) else (none)) else (none)) else (if x1 > 3 then (if 1 ≤ (x5.length : Int) then ((slices_Reverse_impl_Point__cut.f k x5 1 (x5.length - 1)).bind fun t12 => ((impl_bounds.f k t12).bind fun bt14 => ((impl_shifted.f k t12 (wrap64 (0 - bt14.1)) (wrap64 (0 - bt14.2.1))).bind fun t19 => (some t19)))) else (none)) else ((impl_bounds.f k x5).bind fun bt21 => ((impl_shifted.f k x5 (wrap64 (0 - bt21.1)) (wrap64 (0 - bt21.2.1))).bind fun t26 => (some t26))))
def impl_turnPoints.f (k : Nat) (l0 : List S159) (a1 : Int) : Option ((List S159)) := impl_turnPoints.l0 k a1 (([] : List S159) : List S159) l0 (l0.length : Int) 0
set_option maxRecDepth 100000 in
theorem impl_turnPoints.ok {k : Nat} {l0 : List S159} {a1 : Int} {r : List S159} (H : impl_turnPoints.f k l0 a1 = some r) : OkF Tryz.prog 143 [vR 160 (l0.map c159), vI a1] [] (.c (.own 100 r.length)) [(100, .row 160 (r.map c159))] := by
 unfold impl_turnPoints.f at H
 refine OkF.of (N := 42) (rs := [4]) (avs := [.c (.own 100 r.length)]) Tryz.func143 rfl rfl (fun _ _ => results_tmp rfl _ _ _) (by decide) rfl rfl rfl rfl (fun w0 S => ?_)
 refine AG.seq ?_
 refine AG.region HM ?_
 refine a_nilO (e := 160) 200 ?_ T160
 refine RA.nil nofun ?_
 refine AG.seq ?_
 refine AG.region HM ?_
 refine a_lit (cs := []) (D := []) (css := (([] : List S159) : List S159).map c159) 201 ?_ N32 T160 (hcss := by rfl)
 refine a_move (v := .c (.own _ _)) ?_
 refine RA.nil nofun ?_
 refine AG.seq ?_
 refine AG.seq ?_
 refine AG.region HM ?_
 refine a_move (v := vR _ _) ?_
 refine a_lenR ?_ Tryz.underlying32
 refine a_move (v := vI _) ?_
 refine RA.nil nofun ?_
 refine AG.block ?_
 refine AG.loop ?_
 obtain ⟨K0, hK0, gK0⟩ : ∃ K, k ≤ K ∧ K ≤ k := ⟨k, Nat.le_refl k, Nat.le_refl k⟩
 refine AGr.canon (fun κ => cond (Nat.beq κ 202) 201 (κ)) (AGr.loopI (n := k) (fun k s => k ≤ K0 ∧ ∃ (x1 : Int) (x5 : List S159) (x11 : List S159) (x12 : Int) (x13 : Int), impl_turnPoints.l0 k x1 x5 x11 x12 x13 = some r ∧ s = St.of [(1, vI x1), (5, .c (.own 202 x5.length)), (11, vR 160 (x11.map c159)), (12, vI x12), (13, vI x13)] [(202, .row 160 (x5.map c159))]) ⟨hK0, _, _, _, _, _, H, rfl⟩ ?_ ?_) ⟨rfl, (ownE rfl (by simp)), rfl, rfl, rfl, trivial⟩ ⟨rfl, trivial⟩ rfl
 ·rintro _ ⟨_, _, _, _, _, _, H, _⟩
  cases H
 ·clear H hK0
  rintro k ih0 _ ⟨hK0, x1, x5, x11, x12, x13, H, rfl⟩
  unfold impl_turnPoints.l0 at H
  refine AG.seq ?_
  refine AG.region HM ?_
  refine a_int (u := .bool (decide (x13 < x12))) ?_
  refine RA.nil nofun ?_
  refine AG.seq ?_
  by_cases hc2 : x13 < x12
  ·rw [if_pos hc2] at H
   refine AG.yes rfl (decide_eq_true hc2) ?_
   refine AG.skip ?_
   refine AG.seq ?_
   refine AG.block ?_
   refine AG.seq ?_
   refine AG.region HM ?_
   by_cases hc3 : 0 ≤ x13
   ·rw [if_pos hc3] at H
    by_cases hc4 : x13 < (x11.length : Int)
    ·rw [if_pos hc4] at H
     refine a_ixR (el := c159 (rd159 x11 x13)) ?_ ⟨hc3, hc4⟩ T160 Tryz.underlying32 (hel := R159 hc3 hc4)
     refine a_ldR (v := .agg [_, _]) ?_ T160
     refine a_alloc (cs := [_, _]) 203 ?_ T160
     refine a_stB (cs' := [_, _]) ?_ T160
     refine RA.nil nofun ?_
     refine AG.region HM ?_
     refine a_move (v := .c (.own _ _)) ?_
     refine a_ldB (v := .agg [_, _]) ?_ T160
     refine a_move (v := vI _) ?_
     obtain ⟨⟨t5, t6⟩, e7, H⟩ := bindO H
     refine a_call (v := .agg [.d (.v (.int .i64 t5)), .d (.v (.int .i64 t6))]) (nk := []) (L := []) ?_ rfl (impl_Turned.ok e7) id (qg (qd qn)) trivial trivial trivial rfl
     refine a_lit (cs := [_, _]) (D := []) (css := ([(⟨t5, t6⟩ : S159)]).map c159) 205 ?_ N32 T160
     by_cases hc8 : x5.length < 8796093022208
     ·rw [if_pos hc8] at H
      refine a_appO (css' := (x5 ++ [(⟨t5, t6⟩ : S159)]).map c159) (n' := (x5 ++ [(⟨t5, t6⟩ : S159)]).length) ?_ T160 (by simp [maxLen]; omega) (by simp; omega) Tryz.underlying32 (hc := by exact List.map_append.symm) (hn := by exact List.length_map _)
      refine a_move (v := .c (.own _ _)) ?_
      refine RA.nil nofun ?_
      refine AG.region HM ?_
      refine a_int (u := .int .i64 (wrap64 (x13 + 1))) ?_
      refine a_move (v := vI _) ?_
      refine RA.nil nofun ?_
      exact AGr.canon id (ih0 _ (by omega) _ ⟨by omega, _, _, _, _, _, H, rfl⟩) ⟨rfl, rfl, rfl, rfl, rfl, trivial⟩ ⟨rfl, trivial⟩ rfl
     ·rw [if_neg hc8] at H
      cases H
    ·rw [if_neg hc4] at H
     cases H
   ·rw [if_neg hc3] at H
    cases H
  ·rw [if_neg hc2] at H
   refine AG.no rfl (decide_eq_false hc2) ?_
   refine AG.exit ?_
   refine AG.seq ?_
   refine AG.seq ?_
   refine AG.region HM ?_
   refine a_move (v := vI _) ?_
   refine a_int (u := .bool (decide (x1 > 3))) ?_
   refine RA.nil nofun ?_
   by_cases hc10 : x1 > 3
   ·rw [if_pos hc10] at H
    refine AG.yes rfl (decide_eq_true hc10) ?_
    refine AG.region HM ?_
    refine a_move (v := .c (.own _ _)) ?_
    by_cases hc11 : 1 ≤ (x5.length : Int)
    ·rw [if_pos hc11] at H
     refine a_slO (l := some 1) (h := none) ?_ Tryz.underlying32 T160 ⟨(by decide), hc11, (Int.le_refl _)⟩
     obtain ⟨t12, e13, H⟩ := bindO H
     refine a_callM (v := .tup []) (nk := []) (L := []) (Mk := [(202, _)]) (ck := [(202, .row 160 (t12.map c159))]) ?_ rfl (slices_Reverse_impl_Point__cut.ok e13) (fun κ => cond (Nat.beq κ 0) 202 (κ)) (fun κ => cond (Nat.beq κ 202) 0 (κ)) (mcU m0) trivial ⟨rfl, trivial⟩ trivial ⟨rfl, trivial⟩ trivial ⟨rfl, trivial⟩ rfl rfl rfl
     refine RA.nil nofun ?_
     refine AG.relen 202 t12.length ?_
     refine AG.seq ?_
     refine AG.region HM ?_
     refine a_move (v := .c (.own _ _)) ?_
     obtain ⟨⟨t14, t15, t16, t17⟩, e18, H⟩ := bindO H
     refine a_call (v := .tup [.agg [.d (.v (.int .i64 t14)), .d (.v (.int .i64 t15))], .agg [.d (.v (.int .i64 t16)), .d (.v (.int .i64 t17))]]) (nk := []) (L := [(202, _)]) ?_ rfl (impl_bounds.ok e18) id (qc rO qn) ⟨rfl, trivial⟩ trivial trivial rfl
     refine a_move (v := .tup [_, _]) ?_
     refine a_ext (v := .agg [_, _]) ?_
     refine a_ext (v := .agg [_, _]) ?_
     refine a_alloc (cs := [_, _]) 208 ?_ T160
     refine a_alloc (cs := [_, _]) 209 ?_ T160
     refine a_stB (cs' := [_, _]) ?_ T160
     refine a_stB (cs' := [_, _]) ?_ T160
     refine RA.nil nofun ?_
     refine AG.seq ?_
     refine AG.region HM ?_
     refine a_move (v := .c (.own _ _)) ?_
     refine a_faB (q := 0) ?_ D160_0
     refine a_ldB (v := vI _) ?_ T2
     refine a_un (u := .int .i64 (wrap64 (0 - t14))) ?_
     refine a_faB (q := 1) ?_ D160_1
     refine a_ldB (v := vI _) ?_ T2
     refine a_un (u := .int .i64 (wrap64 (0 - t15))) ?_
     obtain ⟨t19, e20, H⟩ := bindO H
     refine a_call (v := .c (.own 210 t19.length)) (nk := [(210, .row 160 (t19.map c159))]) (L := [(202, _)]) ?_ rfl (impl_shifted.ok e20) (fun κ => cond (Nat.beq κ 210) 100 (κ)) (qc rO (qd (qd qn))) ⟨rfl, trivial⟩ ⟨rfl, trivial⟩ ⟨rfl, trivial⟩ rfl
     refine a_move (v := .c (.own _ _)) ?_
     refine RA.nil nofun ?_
     refine AG.ret ?_
     obtain rfl := Option.some.inj H
     exact RetP.mk (fun κ => cond (Nat.beq κ 100) 210 (κ)) ⟨rfl, trivial⟩ ⟨rfl, trivial⟩ rfl
    ·rw [if_neg hc11] at H
     cases H
   ·rw [if_neg hc10] at H
    refine AG.no rfl (decide_eq_false hc10) ?_
    refine AG.skip ?_
    refine AG.seq ?_
    refine AG.region HM ?_
    refine a_move (v := .c (.own _ _)) ?_
    obtain ⟨⟨t21, t22, t23, t24⟩, e25, H⟩ := bindO H
    refine a_call (v := .tup [.agg [.d (.v (.int .i64 t21)), .d (.v (.int .i64 t22))], .agg [.d (.v (.int .i64 t23)), .d (.v (.int .i64 t24))]]) (nk := []) (L := [(202, _)]) ?_ rfl (impl_bounds.ok e25) id (qc rO qn) ⟨rfl, trivial⟩ trivial trivial rfl
    refine a_move (v := .tup [_, _]) ?_
    refine a_ext (v := .agg [_, _]) ?_
    refine a_ext (v := .agg [_, _]) ?_
    refine a_alloc (cs := [_, _]) 208 ?_ T160
    refine a_alloc (cs := [_, _]) 209 ?_ T160
    refine a_stB (cs' := [_, _]) ?_ T160
    refine a_stB (cs' := [_, _]) ?_ T160
    refine RA.nil nofun ?_
    refine AG.seq ?_
    refine AG.region HM ?_
    refine a_move (v := .c (.own _ _)) ?_
    refine a_faB (q := 0) ?_ D160_0
    refine a_ldB (v := vI _) ?_ T2
    refine a_un (u := .int .i64 (wrap64 (0 - t21))) ?_
    refine a_faB (q := 1) ?_ D160_1
    refine a_ldB (v := vI _) ?_ T2
    refine a_un (u := .int .i64 (wrap64 (0 - t22))) ?_
    obtain ⟨t26, e27, H⟩ := bindO H
    refine a_call (v := .c (.own 210 t26.length)) (nk := [(210, .row 160 (t26.map c159))]) (L := [(202, _)]) ?_ rfl (impl_shifted.ok e27) (fun κ => cond (Nat.beq κ 210) 100 (κ)) (qc rO (qd (qd qn))) ⟨rfl, trivial⟩ ⟨rfl, trivial⟩ ⟨rfl, trivial⟩ rfl
    refine a_move (v := .c (.own _ _)) ?_
    refine RA.nil nofun ?_
    refine AG.ret ?_
    obtain rfl := Option.some.inj H
    exact RetP.mk (fun κ => cond (Nat.beq κ 100) 210 (κ)) ⟨rfl, trivial⟩ ⟨rfl, trivial⟩ rfl
def impl_turnsThatFit.l0 : Nat → List S159 → Int → Int → List Int → Int → Option ((List Int))
 | 0, _, _, _, _, _ => none
 | k + 1, x0, y203_6, y203_7, x5, x10 => if x10 < 8 then ((impl_turnPoints.f k x0 x10).bind fun t3 => ((impl_bounds.f k t3).bind fun bt5 => (if bt5.2.2.1 ≤ y203_6 then (if bt5.2.2.2 ≤ y203_7 then (if x5.length < 17592186044416 then (impl_turnsThatFit.l0 k x0 y203_6 y203_7 (x5 ++ [x10]) (wrap64 (x10 + 1))) else (none)) else (impl_turnsThatFit.l0 k x0 y203_6 y203_7 x5 (wrap64 (x10 + 1)))) else (impl_turnsThatFit.l0 k x0 y203_6 y203_7 x5 (wrap64 (x10 + 1)))))) else (some x5)
def impl_turnsThatFit.f (k : Nat) (l0 : List S159) (a1_0 : ByteArray) (a1_1 : ByteArray) (a1_2 : Int) (a1_3 : ByteArray) (a1_4 : Int) (a1_5 : Int) (a1_6 : Int) (a1_7 : Int) (l1_8 : List S176) : Option ((List Int)) := impl_turnsThatFit.l0 k l0 a1_6 a1_7 (([] : List Int) : List Int) 0
set_option maxRecDepth 100000 in
theorem impl_turnsThatFit.ok {k : Nat} {l0 : List S159} {a1_0 : ByteArray} {a1_1 : ByteArray} {a1_2 : Int} {a1_3 : ByteArray} {a1_4 : Int} {a1_5 : Int} {a1_6 : Int} {a1_7 : Int} {l1_8 : List S176} {r : List Int} (H : impl_turnsThatFit.f k l0 a1_0 a1_1 a1_2 a1_3 a1_4 a1_5 a1_6 a1_7 l1_8 = some r) : OkF Tryz.prog 118 [vR 160 (l0.map c159), .agg [.d (.v (.string a1_0)), .d (.v (.string a1_1)), .d (.v (.int .i64 a1_2)), .d (.v (.string a1_3)), .d (.v (.int .i64 a1_4)), .d (.v (.int .i64 a1_5)), .d (.v (.int .i64 a1_6)), .d (.v (.int .i64 a1_7)), .d (.row 177 (l1_8.map c176))]] [] (.c (.own 100 r.length)) [(100, .row 2 (r.map c2))] := by
 unfold impl_turnsThatFit.f at H
 refine OkF.of (N := 38) (rs := [4]) (avs := [.c (.own 100 r.length)]) Tryz.func118 rfl rfl (fun _ _ => results_tmp rfl _ _ _) (by decide) rfl rfl rfl rfl (fun w0 S => ?_)
 refine AG.seq ?_
 refine AG.region HM ?_
 refine a_box 200 ?_
 refine a_nilO (e := 2) 201 ?_ T2
 refine RA.nil nofun ?_
 refine AG.seq ?_
 refine AG.region HM ?_
 refine a_lit (cs := []) (D := []) (css := (([] : List Int) : List Int).map c2) 202 ?_ N29 T2 (hcss := by rfl)
 refine a_move (v := .c (.own _ _)) ?_
 refine RA.nil nofun ?_
 refine AG.seq ?_
 refine AG.seq ?_
 refine AG.region HM ?_
 refine a_move (v := vI _) ?_
 refine RA.nil nofun ?_
 refine AG.block ?_
 refine AG.loop ?_
 obtain ⟨K0, hK0, gK0⟩ : ∃ K, k ≤ K ∧ K ≤ k := ⟨k, Nat.le_refl k, Nat.le_refl k⟩
 refine AGr.canon (fun κ => cond (Nat.beq κ 203) 200 (cond (Nat.beq κ 204) 202 (κ))) (AGr.loopI (n := k) (fun k s => k ≤ K0 ∧ ∃ (x0 : List S159) (y203_0 : ByteArray) (y203_1 : ByteArray) (y203_2 : Int) (y203_3 : ByteArray) (y203_4 : Int) (y203_5 : Int) (y203_6 : Int) (y203_7 : Int) (y203_8 : List S176) (x5 : List Int) (x10 : Int), impl_turnsThatFit.l0 k x0 y203_6 y203_7 x5 x10 = some r ∧ s = St.of [(0, vR 160 (x0.map c159)), (3, .c (.ptr 203 0)), (5, .c (.own 204 x5.length)), (10, vI x10)] [(203, .box 95 [.d (.v (.string y203_0)), .d (.v (.string y203_1)), .d (.v (.int .i64 y203_2)), .d (.v (.string y203_3)), .d (.v (.int .i64 y203_4)), .d (.v (.int .i64 y203_5)), .d (.v (.int .i64 y203_6)), .d (.v (.int .i64 y203_7)), .d (.row 177 (y203_8.map c176))]), (204, .row 2 (x5.map c2))]) ⟨hK0, _, _, _, _, _, _, _, _, _, _, _, _, H, rfl⟩ ?_ ?_) ⟨rfl, rfl, (ownE rfl (by simp)), rfl, trivial⟩ ⟨rfl, rfl, trivial⟩ rfl
 ·rintro _ ⟨_, _, _, _, _, _, _, _, _, _, _, _, _, H, _⟩
  cases H
 ·clear H hK0
  rintro k ih0 _ ⟨hK0, x0, y203_0, y203_1, y203_2, y203_3, y203_4, y203_5, y203_6, y203_7, y203_8, x5, x10, H, rfl⟩
  unfold impl_turnsThatFit.l0 at H
  refine AG.seq ?_
  refine AG.region HM ?_
  refine a_int (u := .bool (decide (x10 < 8))) ?_
  refine RA.nil nofun ?_
  refine AG.seq ?_
  by_cases hc2 : x10 < 8
  ·rw [if_pos hc2] at H
   refine AG.yes rfl (decide_eq_true hc2) ?_
   refine AG.skip ?_
   refine AG.seq ?_
   refine AG.block ?_
   refine AG.seq ?_
   refine AG.region HM ?_
   refine a_move (v := vI _) ?_
   refine a_move (v := vI _) ?_
   refine RA.nil nofun ?_
   refine AG.seq ?_
   refine AG.region HM ?_
   refine a_move (v := vR _ _) ?_
   refine a_move (v := vI _) ?_
   obtain ⟨t3, e4, H⟩ := bindO H
   refine a_call (v := .c (.own 205 t3.length)) (nk := [(205, .row 160 (t3.map c159))]) (L := []) ?_ rfl (impl_turnPoints.ok e4) (fun κ => cond (Nat.beq κ 205) 100 (κ)) (qd (qd qn)) trivial ⟨rfl, trivial⟩ ⟨rfl, trivial⟩ rfl
   obtain ⟨⟨t5, t6, t7, t8⟩, e9, H⟩ := bindO H
   refine a_call (v := .tup [.agg [.d (.v (.int .i64 t5)), .d (.v (.int .i64 t6))], .agg [.d (.v (.int .i64 t7)), .d (.v (.int .i64 t8))]]) (nk := []) (L := [(205, _)]) ?_ rfl (impl_bounds.ok e9) id (qc rO qn) ⟨rfl, trivial⟩ trivial trivial rfl
   refine a_move (v := .tup [_, _]) ?_
   refine a_ext (v := .agg [_, _]) ?_
   refine a_ext (v := .agg [_, _]) ?_
   refine a_alloc (cs := [_, _]) 207 ?_ T160
   refine a_alloc (cs := [_, _]) 208 ?_ T160
   refine a_stB (cs' := [_, _]) ?_ T160
   refine a_stB (cs' := [_, _]) ?_ T160
   refine RA.nil nofun ?_
   refine AG.seq ?_
   refine AG.region HM ?_
   refine a_faB (q := 0) ?_ D160_0
   refine a_ldB (v := vI _) ?_ T2
   refine a_faB (q := 6) ?_ D95_4
   refine a_ldB (v := vI _) ?_ T2
   refine a_int (u := .bool (decide (t7 ≤ y203_6))) ?_
   refine a_move (v := vB _) ?_
   by_cases hc10 : t7 ≤ y203_6
   ·rw [if_pos hc10] at H
    refine a_faB (q := 1) ?_ D160_1 (hg := Gs.yes rfl rfl rfl (decide_eq_true hc10))
    refine a_ldB (v := vI _) ?_ T2 (hg := Gs.yes rfl rfl rfl (decide_eq_true hc10))
    refine a_faB (q := 7) ?_ D95_5 (hg := Gs.yes rfl rfl rfl (decide_eq_true hc10))
    refine a_ldB (v := vI _) ?_ T2 (hg := Gs.yes rfl rfl rfl (decide_eq_true hc10))
    refine a_int (u := .bool (decide (t8 ≤ y203_7))) ?_ (hg := Gs.yes rfl rfl rfl (decide_eq_true hc10))
    refine a_pick (b := true) (v := vB _) ?_ (decide_eq_true hc10)
    refine RA.nil nofun ?_
    by_cases hc11 : t8 ≤ y203_7
    ·rw [if_pos hc11] at H
     refine AG.yes rfl (decide_eq_true hc11) ?_
     refine AG.region HM ?_
     refine a_move (v := .c (.own _ _)) ?_
     refine a_move (v := vI _) ?_
     refine a_lit (cs := [_]) (D := []) (css := ([x10]).map c2) 209 ?_ N29 T2
     by_cases hc12 : x5.length < 17592186044416
     ·rw [if_pos hc12] at H
      refine a_appO (css' := (x5 ++ [x10]).map c2) (n' := (x5 ++ [x10]).length) ?_ T2 (by simp [maxLen]; omega) (by simp; omega) Tryz.underlying29 (hc := by exact List.map_append.symm) (hn := by exact List.length_map _)
      refine a_move (v := .c (.own _ _)) ?_
      refine RA.nil nofun ?_
      refine AG.region HM ?_
      refine a_int (u := .int .i64 (wrap64 (x10 + 1))) ?_
      refine a_move (v := vI _) ?_
      refine RA.nil nofun ?_
      exact AGr.canon id (ih0 _ (by omega) _ ⟨by omega, _, _, _, _, _, _, _, _, _, _, _, _, H, rfl⟩) ⟨rfl, rfl, rfl, rfl, trivial⟩ ⟨rfl, rfl, trivial⟩ rfl
     ·rw [if_neg hc12] at H
      cases H
    ·rw [if_neg hc11] at H
     refine AG.no rfl (decide_eq_false hc11) ?_
     refine AG.skip ?_
     refine AG.region HM ?_
     refine a_int (u := .int .i64 (wrap64 (x10 + 1))) ?_
     refine a_move (v := vI _) ?_
     refine RA.nil nofun ?_
     exact AGr.canon id (ih0 _ (by omega) _ ⟨by omega, _, _, _, _, _, _, _, _, _, _, _, _, H, rfl⟩) ⟨rfl, rfl, rfl, rfl, trivial⟩ ⟨rfl, rfl, trivial⟩ rfl
   ·rw [if_neg hc10] at H
    refine RA.skip rfl rfl rfl rfl rfl (decide_eq_false hc10) (by decide) ?_
    refine RA.skip rfl rfl rfl rfl rfl (decide_eq_false hc10) (by decide) ?_
    refine RA.skip rfl rfl rfl rfl rfl (decide_eq_false hc10) (by decide) ?_
    refine RA.skip rfl rfl rfl rfl rfl (decide_eq_false hc10) (by decide) ?_
    refine RA.skip rfl rfl rfl rfl rfl (decide_eq_false hc10) (by decide) ?_
    refine a_pick (b := false) (v := vB _) ?_ (decide_eq_false hc10)
    refine RA.nil nofun ?_
    refine AG.no rfl rfl ?_
    refine AG.skip ?_
    refine AG.region HM ?_
    refine a_int (u := .int .i64 (wrap64 (x10 + 1))) ?_
    refine a_move (v := vI _) ?_
    refine RA.nil nofun ?_
    exact AGr.canon id (ih0 _ (by omega) _ ⟨by omega, _, _, _, _, _, _, _, _, _, _, _, _, H, rfl⟩) ⟨rfl, rfl, rfl, rfl, trivial⟩ ⟨rfl, rfl, trivial⟩ rfl
  ·rw [if_neg hc2] at H
   refine AG.no rfl (decide_eq_false hc2) ?_
   refine AG.exit ?_
   refine AG.seq ?_
   refine AG.region HM ?_
   refine a_move (v := .c (.own _ _)) ?_
   refine a_move (v := .c (.own _ _)) ?_
   refine RA.nil nofun ?_
   refine AG.ret ?_
   obtain rfl := Option.some.inj H
   exact RetP.mk (fun κ => cond (Nat.beq κ 100) 204 (κ)) ⟨rfl, trivial⟩ ⟨rfl, trivial⟩ rfl
def impl_unfit_1.f (k : Nat) (a0_0 : ByteArray) (a0_1 : ByteArray) (a0_2 : Int) (a0_3 : ByteArray) (a0_4 : Int) (a0_5 : Int) (a0_6 : Int) (a0_7 : Int) (l0_8 : List S176) (v_0_0 : List S159) : Option (Bool) := (impl_turnsThatFit.f k v_0_0 a0_0 a0_1 a0_2 a0_3 a0_4 a0_5 a0_6 a0_7 l0_8).bind fun t1 => (some (decide ((t1.length : Int) > 0)))
set_option maxRecDepth 100000 in
theorem impl_unfit_1.ok {k : Nat} {a0_0 : ByteArray} {a0_1 : ByteArray} {a0_2 : Int} {a0_3 : ByteArray} {a0_4 : Int} {a0_5 : Int} {a0_6 : Int} {a0_7 : Int} {l0_8 : List S176} {v_0_0 : List S159} {r : Bool} (H : impl_unfit_1.f k a0_0 a0_1 a0_2 a0_3 a0_4 a0_5 a0_6 a0_7 l0_8 v_0_0 = some r) : OkF Tryz.prog 117 [.agg [.d (.v (.string a0_0)), .d (.v (.string a0_1)), .d (.v (.int .i64 a0_2)), .d (.v (.string a0_3)), .d (.v (.int .i64 a0_4)), .d (.v (.int .i64 a0_5)), .d (.v (.int .i64 a0_6)), .d (.v (.int .i64 a0_7)), .d (.row 177 (l0_8.map c176))], .c (.d (.ro [.row 160 (v_0_0.map c159)]))] [] (.c (.d (.v (.bool r)))) [] := by
 unfold impl_unfit_1.f at H
 refine OkF.of (N := 9) (rs := [3]) (avs := [.c (.d (.v (.bool r)))]) Tryz.func117 rfl rfl (fun _ _ => results_tmp rfl _ _ _) (by decide) rfl rfl rfl rfl (fun w0 S => ?_)
 refine AG.seq ?_
 refine AG.region HM ?_
 refine a_box 200 ?_
 refine a_move (v := vB _) ?_
 refine RA.nil nofun ?_
 refine AG.seq ?_
 refine AG.region HM ?_
 refine a_ldR (v := vR _ _) ?_ T32
 refine a_ldB (v := .agg [_, _, _, _, _, _, _, _, _]) ?_ T95
 obtain ⟨t1, e2, H⟩ := bindO H
 refine a_call (v := .c (.own 201 t1.length)) (nk := [(201, .row 2 (t1.map c2))]) (L := []) ?_ rfl (impl_turnsThatFit.ok e2) (fun κ => cond (Nat.beq κ 201) 100 (κ)) (qd (qg qn)) trivial ⟨rfl, trivial⟩ ⟨rfl, trivial⟩ rfl
 refine a_lenO ?_ Tryz.underlying29
 refine a_int (u := .bool (decide ((t1.length : Int) > 0))) ?_
 refine a_move (v := vB _) ?_
 refine RA.nil nofun ?_
 refine AG.ret ?_
 obtain rfl := Option.some.inj H
 exact RetP.mk id ⟨rfl, trivial⟩ trivial rfl
def slices_IndexFunc_impl_Leaf__impl_unfit_1.l0 : Nat → List S94 → List S159 → Int → Int → Option (Int)
 | 0, _, _, _, _ => none
 | k + 1, x0, x1_0_0, x7, x8 => if x8 < x7 then (if 0 ≤ x8 then (if x8 < (x0.length : Int) then ((impl_unfit_1.f k ((rd94 x0 x8).f0) ((rd94 x0 x8).f1) ((rd94 x0 x8).f2) ((rd94 x0 x8).f3.f0) ((rd94 x0 x8).f3.f1) ((rd94 x0 x8).f3.f2) ((rd94 x0 x8).f4) ((rd94 x0 x8).f5) ((rd94 x0 x8).f6) x1_0_0).bind fun t4 => (if t4 = true then (some x8) else (slices_IndexFunc_impl_Leaf__impl_unfit_1.l0 k x0 x1_0_0 x7 (wrap64 (x8 + 1))))) else (none)) else (none)) else (some (-1))
def slices_IndexFunc_impl_Leaf__impl_unfit_1.f (k : Nat) (l0 : List S94) (v1_0_0 : List S159) : Option (Int) := slices_IndexFunc_impl_Leaf__impl_unfit_1.l0 k l0 v1_0_0 (l0.length : Int) 0
set_option maxRecDepth 100000 in
theorem slices_IndexFunc_impl_Leaf__impl_unfit_1.ok {k : Nat} {l0 : List S94} {v1_0_0 : List S159} {r : Int} (H : slices_IndexFunc_impl_Leaf__impl_unfit_1.f k l0 v1_0_0 = some r) : OkF Tryz.prog 168 [vR 95 (l0.map c94), .c (.d (.fn 117 [.ro [.row 160 (v1_0_0.map c159)]]))] [] (.c (.d (.v (.int .i64 r)))) [] := by
 unfold slices_IndexFunc_impl_Leaf__impl_unfit_1.f at H
 refine OkF.of (N := 19) (rs := [4]) (avs := [.c (.d (.v (.int .i64 r)))]) Tryz.func168 rfl rfl (fun _ _ => results_tmp rfl _ _ _) (by decide) rfl rfl rfl rfl (fun w0 S => ?_)
 refine AG.seq ?_
 refine AG.region HM ?_
 refine a_move (v := vI _) ?_
 refine RA.nil nofun ?_
 refine AG.seq ?_
 refine AG.seq ?_
 refine AG.region HM ?_
 refine a_move (v := vR _ _) ?_
 refine a_lenR ?_ Tryz.underlying37
 refine a_move (v := vI _) ?_
 refine RA.nil nofun ?_
 refine AG.block ?_
 refine AG.loop ?_
 obtain ⟨K0, hK0, gK0⟩ : ∃ K, k ≤ K ∧ K ≤ k := ⟨k, Nat.le_refl k, Nat.le_refl k⟩
 refine AGr.canon id (AGr.loopI (n := k) (fun k s => k ≤ K0 ∧ ∃ (x0 : List S94) (x1_0_0 : List S159) (x7 : Int) (x8 : Int), slices_IndexFunc_impl_Leaf__impl_unfit_1.l0 k x0 x1_0_0 x7 x8 = some r ∧ s = St.of [(0, vR 95 (x0.map c94)), (1, .c (.d (.fn 117 [.ro [.row 160 (x1_0_0.map c159)]]))), (7, vI x7), (8, vI x8)] []) ⟨hK0, _, _, _, _, H, rfl⟩ ?_ ?_) ⟨rfl, rfl, rfl, rfl, trivial⟩ trivial rfl
 ·rintro _ ⟨_, _, _, _, _, H, _⟩
  cases H
 ·clear H hK0
  rintro k ih0 _ ⟨hK0, x0, x1_0_0, x7, x8, H, rfl⟩
  unfold slices_IndexFunc_impl_Leaf__impl_unfit_1.l0 at H
  refine AG.seq ?_
  refine AG.region HM ?_
  refine a_int (u := .bool (decide (x8 < x7))) ?_
  refine RA.nil nofun ?_
  refine AG.seq ?_
  by_cases hc1 : x8 < x7
  ·rw [if_pos hc1] at H
   refine AG.yes rfl (decide_eq_true hc1) ?_
   refine AG.skip ?_
   refine AG.seq ?_
   refine AG.block ?_
   refine AG.seq ?_
   refine AG.region HM ?_
   refine a_move (v := vI _) ?_
   refine a_move (v := vI _) ?_
   refine RA.nil nofun ?_
   refine AG.seq ?_
   refine AG.region HM ?_
   refine a_move (v := .c (.d (.fn _ _))) ?_
   refine a_move (v := vR _ _) ?_
   refine a_move (v := vI _) ?_
   by_cases hc2 : 0 ≤ x8
   ·rw [if_pos hc2] at H
    by_cases hc3 : x8 < (x0.length : Int)
    ·rw [if_pos hc3] at H
     refine a_ixR (el := c94 (rd94 x0 x8)) ?_ ⟨hc2, hc3⟩ T95 Tryz.underlying37 (hel := R94 hc2 hc3)
     refine a_ldR (v := .agg [_, _, _, _, _, _, _, _, _]) ?_ T95
     obtain ⟨t4, e5, H⟩ := bindO H
     refine a_callW (v := vB t4) (nk := []) (L := []) ?_ rfl rfl (impl_unfit_1.ok e5) id (qg qn) rfl trivial trivial trivial rfl
     refine RA.nil nofun ?_
     by_cases hc6 : t4 = true
     ·rw [if_pos hc6] at H
      refine AG.yes rfl hc6 ?_
      refine AG.seq ?_
      refine AG.region HM ?_
      refine a_move (v := vI _) ?_
      refine a_move (v := vI _) ?_
      refine RA.nil nofun ?_
      refine AG.ret ?_
      obtain rfl := Option.some.inj H
      exact RetP.mk id ⟨rfl, trivial⟩ trivial rfl
     ·rw [if_neg hc6] at H
      refine AG.no rfl (Bool.eq_false_iff.2 hc6) ?_
      refine AG.skip ?_
      refine AG.region HM ?_
      refine a_int (u := .int .i64 (wrap64 (x8 + 1))) ?_
      refine a_move (v := vI _) ?_
      refine RA.nil nofun ?_
      exact AGr.canon id (ih0 _ (by omega) _ ⟨by omega, _, _, _, _, H, rfl⟩) ⟨rfl, rfl, rfl, rfl, trivial⟩ trivial rfl
    ·rw [if_neg hc3] at H
     cases H
   ·rw [if_neg hc2] at H
    cases H
  ·rw [if_neg hc1] at H
   refine AG.no rfl (decide_eq_false hc1) ?_
   refine AG.exit ?_
   refine AG.seq ?_
   refine AG.region HM ?_
   refine a_move (v := vI _) ?_
   refine RA.nil nofun ?_
   refine AG.ret ?_
   obtain rfl := Option.some.inj H
   exact RetP.mk id ⟨rfl, trivial⟩ trivial rfl
def slices_ContainsFunc_impl_Leaf__impl_unfit_1.f (k : Nat) (l0 : List S94) (v1_0_0 : List S159) : Option (Bool) := (slices_IndexFunc_impl_Leaf__impl_unfit_1.f k l0 v1_0_0).bind fun t1 => (some (decide (t1 ≥ 0)))
set_option maxRecDepth 100000 in
theorem slices_ContainsFunc_impl_Leaf__impl_unfit_1.ok {k : Nat} {l0 : List S94} {v1_0_0 : List S159} {r : Bool} (H : slices_ContainsFunc_impl_Leaf__impl_unfit_1.f k l0 v1_0_0 = some r) : OkF Tryz.prog 116 [vR 95 (l0.map c94), .c (.d (.fn 117 [.ro [.row 160 (v1_0_0.map c159)]]))] [] (.c (.d (.v (.bool r)))) [] := by
 unfold slices_ContainsFunc_impl_Leaf__impl_unfit_1.f at H
 refine OkF.of (N := 9) (rs := [4]) (avs := [.c (.d (.v (.bool r)))]) Tryz.func116 rfl rfl (fun _ _ => results_tmp rfl _ _ _) (by decide) rfl rfl rfl rfl (fun w0 S => ?_)
 refine AG.seq ?_
 refine AG.region HM ?_
 refine a_move (v := vB _) ?_
 refine RA.nil nofun ?_
 refine AG.seq ?_
 refine AG.region HM ?_
 refine a_move (v := vR _ _) ?_
 refine a_move (v := .c (.d (.fn _ _))) ?_
 obtain ⟨t1, e2, H⟩ := bindO H
 refine a_call (v := vI t1) (nk := []) (L := []) ?_ rfl (slices_IndexFunc_impl_Leaf__impl_unfit_1.ok e2) id (qd (qd qn)) trivial trivial trivial rfl
 refine a_int (u := .bool (decide (t1 ≥ 0))) ?_
 refine a_move (v := vB _) ?_
 refine RA.nil nofun ?_
 refine AG.ret ?_
 obtain rfl := Option.some.inj H
 exact RetP.mk id ⟨rfl, trivial⟩ trivial rfl
def impl_unfit.l0 : Nat → List S94 → Int → Int → List S159 → List S146 → List Int → Int → Int → Option ((List Int))
 | 0, _, _, _, _, _, _, _, _ => none
 | k + 1, x1, y203_0, y203_1, y203_2, y203_3, x5, x11, x12 => if x12 < x11 then ((impl_facePolygon.f k y203_0 y203_1 y203_2 y203_3 x12).bind fun t3 => ((slices_ContainsFunc_impl_Leaf__impl_unfit_1.f k x1 t3).bind fun t5 => (if t5 = true then (impl_unfit.l0 k x1 y203_0 y203_1 y203_2 y203_3 x5 x11 (wrap64 (x12 + 1))) else (if x5.length < 17592186044416 then (impl_unfit.l0 k x1 y203_0 y203_1 y203_2 y203_3 (x5 ++ [x12]) x11 (wrap64 (x12 + 1))) else (none))))) else (some x5)
def impl_unfit.f (k : Nat) (a0_0 : Int) (a0_1 : Int) (l0_2 : List S159) (l0_3 : List S146) (l1 : List S94) : Option ((List Int)) := impl_unfit.l0 k l1 a0_0 a0_1 l0_2 l0_3 (([] : List Int) : List Int) (l0_3.length : Int) 0
set_option maxRecDepth 100000 in
theorem impl_unfit.ok {k : Nat} {a0_0 : Int} {a0_1 : Int} {l0_2 : List S159} {l0_3 : List S146} {l1 : List S94} {r : List Int} (H : impl_unfit.f k a0_0 a0_1 l0_2 l0_3 l1 = some r) : OkF Tryz.prog 55 [.agg [.d (.v (.int .i64 a0_0)), .d (.v (.int .i64 a0_1)), .d (.row 160 (l0_2.map c159)), .d (.row 152 (l0_3.map c146))], vR 95 (l1.map c94)] [] (.c (.own 100 r.length)) [(100, .row 2 (r.map c2))] := by
 unfold impl_unfit.f at H
 refine OkF.of (N := 28) (rs := [4]) (avs := [.c (.own 100 r.length)]) Tryz.func55 rfl rfl (fun _ _ => results_tmp rfl _ _ _) (by decide) rfl rfl rfl rfl (fun w0 S => ?_)
 refine AG.seq ?_
 refine AG.region HM ?_
 refine a_box 200 ?_
 refine a_nilO (e := 2) 201 ?_ T2
 refine RA.nil nofun ?_
 refine AG.seq ?_
 refine AG.region HM ?_
 refine a_lit (cs := []) (D := []) (css := (([] : List Int) : List Int).map c2) 202 ?_ N29 T2 (hcss := by rfl)
 refine a_move (v := .c (.own _ _)) ?_
 refine RA.nil nofun ?_
 refine AG.seq ?_
 refine AG.seq ?_
 refine AG.region HM ?_
 refine a_faB (q := 3) ?_ D35_3
 refine a_ldB (v := vR _ _) ?_ T33
 refine a_lenR ?_ Tryz.underlying33
 refine a_move (v := vI _) ?_
 refine RA.nil nofun ?_
 refine AG.block ?_
 refine AG.loop ?_
 obtain ⟨K0, hK0, gK0⟩ : ∃ K, k ≤ K ∧ K ≤ k := ⟨k, Nat.le_refl k, Nat.le_refl k⟩
 refine AGr.canon (fun κ => cond (Nat.beq κ 203) 200 (cond (Nat.beq κ 204) 202 (κ))) (AGr.loopI (n := k) (fun k s => k ≤ K0 ∧ ∃ (x1 : List S94) (y203_0 : Int) (y203_1 : Int) (y203_2 : List S159) (y203_3 : List S146) (x5 : List Int) (x11 : Int) (x12 : Int), impl_unfit.l0 k x1 y203_0 y203_1 y203_2 y203_3 x5 x11 x12 = some r ∧ s = St.of [(1, vR 95 (x1.map c94)), (2, .c (.ptr 203 0)), (5, .c (.own 204 x5.length)), (11, vI x11), (12, vI x12)] [(203, .box 35 [.d (.v (.int .i64 y203_0)), .d (.v (.int .i64 y203_1)), .d (.row 160 (y203_2.map c159)), .d (.row 152 (y203_3.map c146))]), (204, .row 2 (x5.map c2))]) ⟨hK0, _, _, _, _, _, _, _, _, H, rfl⟩ ?_ ?_) ⟨rfl, rfl, (ownE rfl (by simp)), rfl, rfl, trivial⟩ ⟨rfl, rfl, trivial⟩ rfl
 ·rintro _ ⟨_, _, _, _, _, _, _, _, _, H, _⟩
  cases H
 ·clear H hK0
  rintro k ih0 _ ⟨hK0, x1, y203_0, y203_1, y203_2, y203_3, x5, x11, x12, H, rfl⟩
  unfold impl_unfit.l0 at H
  refine AG.seq ?_
  refine AG.region HM ?_
  refine a_int (u := .bool (decide (x12 < x11))) ?_
  refine RA.nil nofun ?_
  refine AG.seq ?_
  by_cases hc2 : x12 < x11
  ·rw [if_pos hc2] at H
   refine AG.yes rfl (decide_eq_true hc2) ?_
   refine AG.skip ?_
   refine AG.seq ?_
   refine AG.block ?_
   refine AG.seq ?_
   refine AG.region HM ?_
   refine a_move (v := vI _) ?_
   refine a_move (v := vI _) ?_
   refine RA.nil nofun ?_
   refine AG.seq ?_
   refine AG.region HM ?_
   refine a_ldB (v := .agg [_, _, _, _]) ?_ T35
   refine a_move (v := vI _) ?_
   obtain ⟨t3, e4, H⟩ := bindO H
   refine a_call (v := .c (.own 205 t3.length)) (nk := [(205, .row 160 (t3.map c159))]) (L := []) ?_ rfl (impl_facePolygon.ok e4) (fun κ => cond (Nat.beq κ 205) 100 (κ)) (qg (qd qn)) trivial ⟨rfl, trivial⟩ ⟨rfl, trivial⟩ rfl
   refine a_alloc (cs := [_]) 206 ?_ T32
   refine a_stB (cs' := [_]) ?_ T32
   refine RA.nil nofun ?_
   refine AG.seq ?_
   refine AG.region HM ?_
   refine a_move (v := vR _ _) ?_
   refine a_fnc (ks := [206]) ?_
   obtain ⟨t5, e6, H⟩ := bindO H
   refine a_call (v := vB t5) (nk := []) (L := [(206, _), (205, _)]) ?_ rfl (slices_ContainsFunc_impl_Leaf__impl_unfit_1.ok e6) id (qd (qc (rF1 (rP (κ := 206) (off := 0) (cs := [.own 205 t3.length]) (pC rO p0))) qn)) ⟨rfl, rfl, trivial⟩ trivial trivial rfl
   refine a_un (u := .bool (!t5)) ?_
   refine RA.nil nofun ?_
   by_cases hc7 : t5 = true
   ·rw [if_pos hc7] at H
    refine AG.no rfl (congrArg Bool.not hc7) ?_
    refine AG.skip ?_
    refine AG.region HM ?_
    refine a_int (u := .int .i64 (wrap64 (x12 + 1))) ?_
    refine a_move (v := vI _) ?_
    refine RA.nil nofun ?_
    exact AGr.canon id (ih0 _ (by omega) _ ⟨by omega, _, _, _, _, _, _, _, _, H, rfl⟩) ⟨rfl, rfl, rfl, rfl, rfl, trivial⟩ ⟨rfl, rfl, trivial⟩ rfl
   ·rw [if_neg hc7] at H
    refine AG.yes rfl (congrArg Bool.not (Bool.eq_false_iff.2 hc7)) ?_
    refine AG.region HM ?_
    refine a_move (v := .c (.own _ _)) ?_
    refine a_move (v := vI _) ?_
    refine a_lit (cs := [_]) (D := []) (css := ([x12]).map c2) 208 ?_ N29 T2
    by_cases hc8 : x5.length < 17592186044416
    ·rw [if_pos hc8] at H
     refine a_appO (css' := (x5 ++ [x12]).map c2) (n' := (x5 ++ [x12]).length) ?_ T2 (by simp [maxLen]; omega) (by simp; omega) Tryz.underlying29 (hc := by exact List.map_append.symm) (hn := by exact List.length_map _)
     refine a_move (v := .c (.own _ _)) ?_
     refine RA.nil nofun ?_
     refine AG.region HM ?_
     refine a_int (u := .int .i64 (wrap64 (x12 + 1))) ?_
     refine a_move (v := vI _) ?_
     refine RA.nil nofun ?_
     exact AGr.canon id (ih0 _ (by omega) _ ⟨by omega, _, _, _, _, _, _, _, _, H, rfl⟩) ⟨rfl, rfl, rfl, rfl, rfl, trivial⟩ ⟨rfl, rfl, trivial⟩ rfl
    ·rw [if_neg hc8] at H
     cases H
  ·rw [if_neg hc2] at H
   refine AG.no rfl (decide_eq_false hc2) ?_
   refine AG.exit ?_
   refine AG.seq ?_
   refine AG.region HM ?_
   refine a_move (v := .c (.own _ _)) ?_
   refine a_move (v := .c (.own _ _)) ?_
   refine RA.nil nofun ?_
   refine AG.ret ?_
   obtain rfl := Option.some.inj H
   exact RetP.mk (fun κ => cond (Nat.beq κ 100) 204 (κ)) ⟨rfl, trivial⟩ ⟨rfl, trivial⟩ rfl
def slices_Sort_int64.f (l0 : List Int) : Option (List Int) := if l0.length < 4611686018427387904 then some (sortI l0) else none
theorem slices_Sort_int64.ok {l0 r : List Int} (H : slices_Sort_int64.f l0 = some r) : OkF Tryz.prog 126 [.c (.own 0 l0.length)] [(0, .row 2 (l0.map c2))] (.tup []) [(0, .row 2 (r.map c2))] := by
 unfold slices_Sort_int64.f at H
 by_cases h : l0.length < 4611686018427387904
 ·rw [if_pos h] at H
  obtain rfl := Option.some.inj H
  exact Go.Proofs.YtadjbffiomkljaaGreat.SortI.sortInts _ h
 ·rw [if_neg h] at H
  cases H
def impl_common.f (a0_0 : Int) (a0_1 : Int) (a0_2 : Int) (a0_3 : Int) (a1_0 : Int) (a1_1 : Int) (a1_2 : Int) (a1_3 : Int) : Option (Int × Int × Int × Int × Bool) := if (wrap64 ((mn (wrap64 (a0_0 + a0_2)) (wrap64 (a1_0 + a1_2))) - (mx a0_0 a1_0))) > 0 then (some (mx a0_0 a1_0, mx a0_1 a1_1, wrap64 ((mn (wrap64 (a0_0 + a0_2)) (wrap64 (a1_0 + a1_2))) - (mx a0_0 a1_0)), wrap64 ((mn (wrap64 (a0_1 + a0_3)) (wrap64 (a1_1 + a1_3))) - (mx a0_1 a1_1)), decide ((wrap64 ((mn (wrap64 (a0_1 + a0_3)) (wrap64 (a1_1 + a1_3))) - (mx a0_1 a1_1))) > 0))) else (some (mx a0_0 a1_0, mx a0_1 a1_1, wrap64 ((mn (wrap64 (a0_0 + a0_2)) (wrap64 (a1_0 + a1_2))) - (mx a0_0 a1_0)), wrap64 ((mn (wrap64 (a0_1 + a0_3)) (wrap64 (a1_1 + a1_3))) - (mx a0_1 a1_1)), false))
set_option maxRecDepth 100000 in
theorem impl_common.ok {a0_0 : Int} {a0_1 : Int} {a0_2 : Int} {a0_3 : Int} {a1_0 : Int} {a1_1 : Int} {a1_2 : Int} {a1_3 : Int} {r0 : Int} {r1 : Int} {r2 : Int} {r3 : Int} {r4 : Bool} (H : impl_common.f a0_0 a0_1 a0_2 a0_3 a1_0 a1_1 a1_2 a1_3 = some (r0, r1, r2, r3, r4)) : OkF Tryz.prog 177 [.agg [.d (.v (.int .i64 a0_0)), .d (.v (.int .i64 a0_1)), .d (.v (.int .i64 a0_2)), .d (.v (.int .i64 a0_3))], .agg [.d (.v (.int .i64 a1_0)), .d (.v (.int .i64 a1_1)), .d (.v (.int .i64 a1_2)), .d (.v (.int .i64 a1_3))]] [] (.tup [.agg [.d (.v (.int .i64 r0)), .d (.v (.int .i64 r1)), .d (.v (.int .i64 r2)), .d (.v (.int .i64 r3))], .c (.d (.v (.bool r4)))]) [] := by
 unfold impl_common.f at H
 refine OkF.ofC (N := 57) (rs := [4, 5]) (avs := [.agg [.d (.v (.int .i64 r0)), .d (.v (.int .i64 r1)), .d (.v (.int .i64 r2)), .d (.v (.int .i64 r3))], .c (.d (.v (.bool r4)))]) [(4, 177)] Tryz.func177 rfl rfl (rc_ct rfl rfl) (by decide) rfl (by decide) rfl rfl rfl rfl (fun w0 S => ?_)
 refine AG.seq ?_
 refine AG.region HM ?_
 refine a_box 200 ?_
 refine a_box 201 ?_
 refine a_alloc (cs := [_, _, _, _]) 202 ?_ T177
 refine a_move (v := vB _) ?_
 refine RA.nil nofun ?_
 refine AG.seq ?_
 refine AG.region HM ?_
 refine a_faB (q := 0) ?_ D177_0
 refine a_ldB (v := vI _) ?_ T2
 refine a_faB (q := 0) ?_ D177_0
 refine a_ldB (v := vI _) ?_ T2
 refine a_minmax (mx := true) (r := mx a0_0 a1_0) ?_
 refine a_faB (q := 1) ?_ D177_1
 refine a_ldB (v := vI _) ?_ T2
 refine a_faB (q := 1) ?_ D177_1
 refine a_ldB (v := vI _) ?_ T2
 refine a_minmax (mx := true) (r := mx a0_1 a1_1) ?_
 refine a_move (v := vI _) ?_
 refine a_move (v := vI _) ?_
 refine RA.nil (fun _ => by kernel_rfl) ?_
 refine AG.seq ?_
 refine AG.region HM ?_
 refine a_move (v := vI _) ?_
 refine a_move (v := vI _) ?_
 refine a_faB (q := 0) ?_ D177_0
 refine a_ldB (v := vI _) ?_ T2
 refine a_faB (q := 2) ?_ D177_2
 refine a_ldB (v := vI _) ?_ T2
 refine a_int (u := .int .i64 (wrap64 (a0_0 + a0_2))) ?_
 refine a_faB (q := 0) ?_ D177_0
 refine a_ldB (v := vI _) ?_ T2
 refine a_faB (q := 2) ?_ D177_2
 refine a_ldB (v := vI _) ?_ T2
 refine a_int (u := .int .i64 (wrap64 (a1_0 + a1_2))) ?_
 refine a_minmax (mx := false) (r := mn (wrap64 (a0_0 + a0_2)) (wrap64 (a1_0 + a1_2))) ?_
 refine a_move (v := vI _) ?_
 refine a_int (u := .int .i64 (wrap64 ((mn (wrap64 (a0_0 + a0_2)) (wrap64 (a1_0 + a1_2))) - (mx a0_0 a1_0)))) ?_
 refine a_faB (q := 1) ?_ D177_1
 refine a_ldB (v := vI _) ?_ T2
 refine a_faB (q := 3) ?_ D177_3
 refine a_ldB (v := vI _) ?_ T2
 refine a_int (u := .int .i64 (wrap64 (a0_1 + a0_3))) ?_
 refine a_faB (q := 1) ?_ D177_1
 refine a_ldB (v := vI _) ?_ T2
 refine a_faB (q := 3) ?_ D177_3
 refine a_ldB (v := vI _) ?_ T2
 refine a_int (u := .int .i64 (wrap64 (a1_1 + a1_3))) ?_
 refine a_minmax (mx := false) (r := mn (wrap64 (a0_1 + a0_3)) (wrap64 (a1_1 + a1_3))) ?_
 refine a_move (v := vI _) ?_
 refine a_int (u := .int .i64 (wrap64 ((mn (wrap64 (a0_1 + a0_3)) (wrap64 (a1_1 + a1_3))) - (mx a0_1 a1_1)))) ?_
 refine a_build (cs := [_, _, _, _]) ?_ T177 rfl (hin := I177)
 refine a_alloc (cs := [_, _, _, _]) 203 ?_ T177
 refine a_stB (cs' := [_, _, _, _]) ?_ T177
 refine RA.nil nofun ?_
 refine AG.seq ?_
 refine AG.region HM ?_
 refine a_ldB (v := .agg [_, _, _, _]) ?_ T177
 refine a_faB (q := 2) ?_ D177_2
 refine a_ldB (v := vI _) ?_ T2
 refine a_int (u := .bool (decide ((wrap64 ((mn (wrap64 (a0_0 + a0_2)) (wrap64 (a1_0 + a1_2))) - (mx a0_0 a1_0))) > 0))) ?_
 refine a_move (v := vB _) ?_
 by_cases hc1 : (wrap64 ((mn (wrap64 (a0_0 + a0_2)) (wrap64 (a1_0 + a1_2))) - (mx a0_0 a1_0))) > 0
 ·rw [if_pos hc1] at H
  refine a_faB (q := 3) ?_ D177_3 (hg := Gs.yes rfl rfl rfl (decide_eq_true hc1))
  refine a_ldB (v := vI _) ?_ T2 (hg := Gs.yes rfl rfl rfl (decide_eq_true hc1))
  refine a_int (u := .bool (decide ((wrap64 ((mn (wrap64 (a0_1 + a0_3)) (wrap64 (a1_1 + a1_3))) - (mx a0_1 a1_1))) > 0))) ?_ (hg := Gs.yes rfl rfl rfl (decide_eq_true hc1))
  refine a_pick (b := true) (v := vB _) ?_ (decide_eq_true hc1)
  refine a_stB (cs' := [_, _, _, _]) ?_ T177
  refine a_move (v := vB _) ?_
  refine RA.nil (fun _ => by kernel_rfl) ?_
  refine AG.ret ?_
  simp only [Option.some.injEq, Prod.mk.injEq] at H
  obtain ⟨rfl, rfl, rfl, rfl, rfl⟩ := H
  exact RetL.cell T177 rfl rfl rfl (RetL.nil (RetP.mk id ⟨rfl, rfl, trivial⟩ trivial rfl))
 ·rw [if_neg hc1] at H
  refine RA.skip rfl rfl rfl rfl rfl (decide_eq_false hc1) (by decide) ?_
  refine RA.skip rfl rfl rfl rfl rfl (decide_eq_false hc1) (by decide) ?_
  refine RA.skip rfl rfl rfl rfl rfl (decide_eq_false hc1) (by decide) ?_
  refine a_pick (b := false) (v := vB _) ?_ (decide_eq_false hc1)
  refine a_stB (cs' := [_, _, _, _]) ?_ T177
  refine a_move (v := vB _) ?_
  refine RA.nil (fun _ => by kernel_rfl) ?_
  refine AG.ret ?_
  simp only [Option.some.injEq, Prod.mk.injEq] at H
  obtain ⟨rfl, rfl, rfl, rfl, rfl⟩ := H
  exact RetL.cell T177 rfl rfl rfl (RetL.nil (RetP.mk id ⟨rfl, rfl, trivial⟩ trivial rfl))
def impl_boxesMeet.f (a0_0 : Int) (a0_1 : Int) (a0_2 : Int) (a0_3 : Int) (a1_0 : Int) (a1_1 : Int) (a1_2 : Int) (a1_3 : Int) : Option (Bool) := (impl_common.f a0_0 a0_1 a0_2 a0_3 a1_0 a1_1 a1_2 a1_3).bind fun bt1 => (some bt1.2.2.2.2)
set_option maxRecDepth 100000 in
theorem impl_boxesMeet.ok {a0_0 : Int} {a0_1 : Int} {a0_2 : Int} {a0_3 : Int} {a1_0 : Int} {a1_1 : Int} {a1_2 : Int} {a1_3 : Int} {r : Bool} (H : impl_boxesMeet.f a0_0 a0_1 a0_2 a0_3 a1_0 a1_1 a1_2 a1_3 = some r) : OkF Tryz.prog 129 [.agg [.d (.v (.int .i64 a0_0)), .d (.v (.int .i64 a0_1)), .d (.v (.int .i64 a0_2)), .d (.v (.int .i64 a0_3))], .agg [.d (.v (.int .i64 a1_0)), .d (.v (.int .i64 a1_1)), .d (.v (.int .i64 a1_2)), .d (.v (.int .i64 a1_3))]] [] (.c (.d (.v (.bool r)))) [] := by
 unfold impl_boxesMeet.f at H
 refine OkF.of (N := 14) (rs := [4]) (avs := [.c (.d (.v (.bool r)))]) Tryz.func129 rfl rfl (fun _ _ => results_tmp rfl _ _ _) (by decide) rfl rfl rfl rfl (fun w0 S => ?_)
 refine AG.seq ?_
 refine AG.region HM ?_
 refine a_box 200 ?_
 refine a_box 201 ?_
 refine a_move (v := vB _) ?_
 refine RA.nil nofun ?_
 refine AG.seq ?_
 refine AG.region HM ?_
 refine a_ldB (v := .agg [_, _, _, _]) ?_ T177
 refine a_ldB (v := .agg [_, _, _, _]) ?_ T177
 obtain ⟨⟨t1, t2, t3, t4, t5⟩, e6, H⟩ := bindO H
 refine a_call (v := .tup [.agg [.d (.v (.int .i64 t1)), .d (.v (.int .i64 t2)), .d (.v (.int .i64 t3)), .d (.v (.int .i64 t4))], .c (.d (.v (.bool t5)))]) (nk := []) (L := []) ?_ rfl (impl_common.ok e6) id (qg (qg qn)) trivial trivial trivial rfl
 refine a_move (v := .tup [_, _]) ?_
 refine a_ext (v := .agg [_, _, _, _]) ?_
 refine a_ext (v := vB _) ?_
 refine a_alloc (cs := [_, _, _, _]) 203 ?_ T177
 refine a_stB (cs' := [_, _, _, _]) ?_ T177
 refine a_move (v := vB _) ?_
 refine RA.nil nofun ?_
 refine AG.seq ?_
 refine AG.region HM ?_
 refine a_move (v := vB _) ?_
 refine a_move (v := vB _) ?_
 refine RA.nil nofun ?_
 refine AG.ret ?_
 obtain rfl := Option.some.inj H
 exact RetP.mk id ⟨rfl, trivial⟩ trivial rfl
def impl_UsableArea_1.f (a0_0 : Int) (a0_1 : Int) (a0_2 : Int) (a0_3 : Int) (v_0_0 : Int) (v_0_1 : Int) (v_0_2 : Int) (v_0_3 : Int) : Option (Bool) := (impl_boxesMeet.f a0_0 a0_1 a0_2 a0_3 v_0_0 v_0_1 v_0_2 v_0_3).bind fun t1 => (some t1)
set_option maxRecDepth 100000 in
theorem impl_UsableArea_1.ok {a0_0 : Int} {a0_1 : Int} {a0_2 : Int} {a0_3 : Int} {v_0_0 : Int} {v_0_1 : Int} {v_0_2 : Int} {v_0_3 : Int} {r : Bool} (H : impl_UsableArea_1.f a0_0 a0_1 a0_2 a0_3 v_0_0 v_0_1 v_0_2 v_0_3 = some r) : OkF Tryz.prog 128 [.agg [.d (.v (.int .i64 a0_0)), .d (.v (.int .i64 a0_1)), .d (.v (.int .i64 a0_2)), .d (.v (.int .i64 a0_3))], .c (.d (.ro [.v (.int .i64 v_0_0), .v (.int .i64 v_0_1), .v (.int .i64 v_0_2), .v (.int .i64 v_0_3)]))] [] (.c (.d (.v (.bool r)))) [] := by
 unfold impl_UsableArea_1.f at H
 refine OkF.of (N := 7) (rs := [3]) (avs := [.c (.d (.v (.bool r)))]) Tryz.func128 rfl rfl (fun _ _ => results_tmp rfl _ _ _) (by decide) rfl rfl rfl rfl (fun w0 S => ?_)
 refine AG.seq ?_
 refine AG.region HM ?_
 refine a_box 200 ?_
 refine a_move (v := vB _) ?_
 refine RA.nil nofun ?_
 refine AG.seq ?_
 refine AG.region HM ?_
 refine a_ldB (v := .agg [_, _, _, _]) ?_ T177
 refine a_ldR (v := .agg [_, _, _, _]) ?_ T177
 obtain ⟨t1, e2, H⟩ := bindO H
 refine a_call (v := vB t1) (nk := []) (L := []) ?_ rfl (impl_boxesMeet.ok e2) id (qg (qg qn)) trivial trivial trivial rfl
 refine a_move (v := vB _) ?_
 refine RA.nil nofun ?_
 refine AG.ret ?_
 obtain rfl := Option.some.inj H
 exact RetP.mk id ⟨rfl, trivial⟩ trivial rfl
def slices_IndexFunc_impl_Box__impl_UsableArea_1.l0 : Nat → List S176 → Int → Int → Int → Int → Int → Int → Option (Int)
 | 0, _, _, _, _, _, _, _ => none
 | k + 1, x0, x1_0_0, x1_0_1, x1_0_2, x1_0_3, x7, x8 => if x8 < x7 then (if 0 ≤ x8 then (if x8 < (x0.length : Int) then ((impl_UsableArea_1.f ((rd176 x0 x8).f0) ((rd176 x0 x8).f1) ((rd176 x0 x8).f2) ((rd176 x0 x8).f3) x1_0_0 x1_0_1 x1_0_2 x1_0_3).bind fun t4 => (if t4 = true then (some x8) else (slices_IndexFunc_impl_Box__impl_UsableArea_1.l0 k x0 x1_0_0 x1_0_1 x1_0_2 x1_0_3 x7 (wrap64 (x8 + 1))))) else (none)) else (none)) else (some (-1))
def slices_IndexFunc_impl_Box__impl_UsableArea_1.f (k : Nat) (l0 : List S176) (v1_0_0 : Int) (v1_0_1 : Int) (v1_0_2 : Int) (v1_0_3 : Int) : Option (Int) := slices_IndexFunc_impl_Box__impl_UsableArea_1.l0 k l0 v1_0_0 v1_0_1 v1_0_2 v1_0_3 (l0.length : Int) 0
set_option maxRecDepth 100000 in
theorem slices_IndexFunc_impl_Box__impl_UsableArea_1.ok {k : Nat} {l0 : List S176} {v1_0_0 : Int} {v1_0_1 : Int} {v1_0_2 : Int} {v1_0_3 : Int} {r : Int} (H : slices_IndexFunc_impl_Box__impl_UsableArea_1.f k l0 v1_0_0 v1_0_1 v1_0_2 v1_0_3 = some r) : OkF Tryz.prog 176 [vR 177 (l0.map c176), .c (.d (.fn 128 [.ro [.v (.int .i64 v1_0_0), .v (.int .i64 v1_0_1), .v (.int .i64 v1_0_2), .v (.int .i64 v1_0_3)]]))] [] (.c (.d (.v (.int .i64 r)))) [] := by
 unfold slices_IndexFunc_impl_Box__impl_UsableArea_1.f at H
 refine OkF.of (N := 19) (rs := [4]) (avs := [.c (.d (.v (.int .i64 r)))]) Tryz.func176 rfl rfl (fun _ _ => results_tmp rfl _ _ _) (by decide) rfl rfl rfl rfl (fun w0 S => ?_)
 refine AG.seq ?_
 refine AG.region HM ?_
 refine a_move (v := vI _) ?_
 refine RA.nil nofun ?_
 refine AG.seq ?_
 refine AG.seq ?_
 refine AG.region HM ?_
 refine a_move (v := vR _ _) ?_
 refine a_lenR ?_ Tryz.underlying93
 refine a_move (v := vI _) ?_
 refine RA.nil nofun ?_
 refine AG.block ?_
 refine AG.loop ?_
 obtain ⟨K0, hK0, gK0⟩ : ∃ K, k ≤ K ∧ K ≤ k := ⟨k, Nat.le_refl k, Nat.le_refl k⟩
 refine AGr.canon id (AGr.loopI (n := k) (fun k s => k ≤ K0 ∧ ∃ (x0 : List S176) (x1_0_0 : Int) (x1_0_1 : Int) (x1_0_2 : Int) (x1_0_3 : Int) (x7 : Int) (x8 : Int), slices_IndexFunc_impl_Box__impl_UsableArea_1.l0 k x0 x1_0_0 x1_0_1 x1_0_2 x1_0_3 x7 x8 = some r ∧ s = St.of [(0, vR 177 (x0.map c176)), (1, .c (.d (.fn 128 [.ro [.v (.int .i64 x1_0_0), .v (.int .i64 x1_0_1), .v (.int .i64 x1_0_2), .v (.int .i64 x1_0_3)]]))), (7, vI x7), (8, vI x8)] []) ⟨hK0, _, _, _, _, _, _, _, H, rfl⟩ ?_ ?_) ⟨rfl, rfl, rfl, rfl, trivial⟩ trivial rfl
 ·rintro _ ⟨_, _, _, _, _, _, _, _, H, _⟩
  cases H
 ·clear H hK0
  rintro k ih0 _ ⟨hK0, x0, x1_0_0, x1_0_1, x1_0_2, x1_0_3, x7, x8, H, rfl⟩
  unfold slices_IndexFunc_impl_Box__impl_UsableArea_1.l0 at H
  refine AG.seq ?_
  refine AG.region HM ?_
  refine a_int (u := .bool (decide (x8 < x7))) ?_
  refine RA.nil nofun ?_
  refine AG.seq ?_
  by_cases hc1 : x8 < x7
  ·rw [if_pos hc1] at H
   refine AG.yes rfl (decide_eq_true hc1) ?_
   refine AG.skip ?_
   refine AG.seq ?_
   refine AG.block ?_
   refine AG.seq ?_
   refine AG.region HM ?_
   refine a_move (v := vI _) ?_
   refine a_move (v := vI _) ?_
   refine RA.nil nofun ?_
   refine AG.seq ?_
   refine AG.region HM ?_
   refine a_move (v := .c (.d (.fn _ _))) ?_
   refine a_move (v := vR _ _) ?_
   refine a_move (v := vI _) ?_
   by_cases hc2 : 0 ≤ x8
   ·rw [if_pos hc2] at H
    by_cases hc3 : x8 < (x0.length : Int)
    ·rw [if_pos hc3] at H
     refine a_ixR (el := c176 (rd176 x0 x8)) ?_ ⟨hc2, hc3⟩ T177 Tryz.underlying93 (hel := R176 hc2 hc3)
     refine a_ldR (v := .agg [_, _, _, _]) ?_ T177
     obtain ⟨t4, e5, H⟩ := bindO H
     refine a_callW (v := vB t4) (nk := []) (L := []) ?_ rfl rfl (impl_UsableArea_1.ok e5) id (qg qn) rfl trivial trivial trivial rfl
     refine RA.nil nofun ?_
     by_cases hc6 : t4 = true
     ·rw [if_pos hc6] at H
      refine AG.yes rfl hc6 ?_
      refine AG.seq ?_
      refine AG.region HM ?_
      refine a_move (v := vI _) ?_
      refine a_move (v := vI _) ?_
      refine RA.nil nofun ?_
      refine AG.ret ?_
      obtain rfl := Option.some.inj H
      exact RetP.mk id ⟨rfl, trivial⟩ trivial rfl
     ·rw [if_neg hc6] at H
      refine AG.no rfl (Bool.eq_false_iff.2 hc6) ?_
      refine AG.skip ?_
      refine AG.region HM ?_
      refine a_int (u := .int .i64 (wrap64 (x8 + 1))) ?_
      refine a_move (v := vI _) ?_
      refine RA.nil nofun ?_
      exact AGr.canon id (ih0 _ (by omega) _ ⟨by omega, _, _, _, _, _, _, _, H, rfl⟩) ⟨rfl, rfl, rfl, rfl, trivial⟩ trivial rfl
    ·rw [if_neg hc3] at H
     cases H
   ·rw [if_neg hc2] at H
    cases H
  ·rw [if_neg hc1] at H
   refine AG.no rfl (decide_eq_false hc1) ?_
   refine AG.exit ?_
   refine AG.seq ?_
   refine AG.region HM ?_
   refine a_move (v := vI _) ?_
   refine RA.nil nofun ?_
   refine AG.ret ?_
   obtain rfl := Option.some.inj H
   exact RetP.mk id ⟨rfl, trivial⟩ trivial rfl
def slices_ContainsFunc_impl_Box__impl_UsableArea_1.f (k : Nat) (l0 : List S176) (v1_0_0 : Int) (v1_0_1 : Int) (v1_0_2 : Int) (v1_0_3 : Int) : Option (Bool) := (slices_IndexFunc_impl_Box__impl_UsableArea_1.f k l0 v1_0_0 v1_0_1 v1_0_2 v1_0_3).bind fun t1 => (some (decide (t1 ≥ 0)))
set_option maxRecDepth 100000 in
theorem slices_ContainsFunc_impl_Box__impl_UsableArea_1.ok {k : Nat} {l0 : List S176} {v1_0_0 : Int} {v1_0_1 : Int} {v1_0_2 : Int} {v1_0_3 : Int} {r : Bool} (H : slices_ContainsFunc_impl_Box__impl_UsableArea_1.f k l0 v1_0_0 v1_0_1 v1_0_2 v1_0_3 = some r) : OkF Tryz.prog 127 [vR 177 (l0.map c176), .c (.d (.fn 128 [.ro [.v (.int .i64 v1_0_0), .v (.int .i64 v1_0_1), .v (.int .i64 v1_0_2), .v (.int .i64 v1_0_3)]]))] [] (.c (.d (.v (.bool r)))) [] := by
 unfold slices_ContainsFunc_impl_Box__impl_UsableArea_1.f at H
 refine OkF.of (N := 9) (rs := [4]) (avs := [.c (.d (.v (.bool r)))]) Tryz.func127 rfl rfl (fun _ _ => results_tmp rfl _ _ _) (by decide) rfl rfl rfl rfl (fun w0 S => ?_)
 refine AG.seq ?_
 refine AG.region HM ?_
 refine a_move (v := vB _) ?_
 refine RA.nil nofun ?_
 refine AG.seq ?_
 refine AG.region HM ?_
 refine a_move (v := vR _ _) ?_
 refine a_move (v := .c (.d (.fn _ _))) ?_
 obtain ⟨t1, e2, H⟩ := bindO H
 refine a_call (v := vI t1) (nk := []) (L := []) ?_ rfl (slices_IndexFunc_impl_Box__impl_UsableArea_1.ok e2) id (qd (qd qn)) trivial trivial trivial rfl
 refine a_int (u := .bool (decide (t1 ≥ 0))) ?_
 refine a_move (v := vB _) ?_
 refine RA.nil nofun ?_
 refine AG.ret ?_
 obtain rfl := Option.some.inj H
 exact RetP.mk id ⟨rfl, trivial⟩ trivial rfl
mutual
def impl_UsableArea.l0 : Nat → List S176 → List Int → List Int → List S176 → Int → Int → Option (Int × Int)
 | 0, _, _, _, _, _, _ => none
 | k + 1, y204_8, x4, x5, x22, x23, x24 => if x24 < x23 then (if 0 ≤ x24 then (if x24 < (x22.length : Int) then (if x4.length + 2 < 17592186044416 then (if x5.length + 2 < 17592186044416 then (impl_UsableArea.l0 k y204_8 (x4 ++ [(rd176 x22 x24).f0, wrap64 (((rd176 x22 x24).f0) + ((rd176 x22 x24).f2))]) (x5 ++ [(rd176 x22 x24).f1, wrap64 (((rd176 x22 x24).f1) + ((rd176 x22 x24).f3))]) x22 x23 (wrap64 (x24 + 1))) else (none)) else (none)) else (none)) else (none)) else ((slices_Sort_int64.f x4).bind fun t13 => ((slices_Sort_int64.f x5).bind fun t15 => (impl_UsableArea.l1 k y204_8 t13 t15 0 1)))
def impl_UsableArea.l1 : Nat → List S176 → List Int → List Int → Int → Int → Option (Int × Int)
 | 0, _, _, _, _, _ => none
 | k + 1, y212_8, x4, x5, x8, x9 => if x9 < (x4.length : Int) then (impl_UsableArea.l2 k y212_8 x4 x5 x8 x9 1) else (some (x8, 0))
def impl_UsableArea.l2 : Nat → List S176 → List Int → List Int → Int → Int → Int → Option (Int × Int)
 | 0, _, _, _, _, _, _ => none
 | k + 1, y215_8, x4, x5, x8, x9, x10 => if x10 < (x5.length : Int) then (if 0 ≤ (wrap64 (x9 - 1)) then (if (wrap64 (x9 - 1)) < (x4.length : Int) then (if 0 ≤ (wrap64 (x10 - 1)) then (if (wrap64 (x10 - 1)) < (x5.length : Int) then (if 0 ≤ x9 then (if x9 < (x4.length : Int) then (if 0 ≤ x10 then ((slices_ContainsFunc_impl_Box__impl_UsableArea_1.f k y215_8 (rd2 x4 (wrap64 (x9 - 1))) (rd2 x5 (wrap64 (x10 - 1))) (wrap64 ((rd2 x4 x9) - (rd2 x4 (wrap64 (x9 - 1))))) (wrap64 ((rd2 x5 x10) - (rd2 x5 (wrap64 (x10 - 1)))))).bind fun t26 => (if t26 = true then (impl_UsableArea.l2 k y215_8 x4 x5 x8 x9 (wrap64 (x10 + 1))) else (impl_UsableArea.l2 k y215_8 x4 x5 (wrap64 (x8 + (wrap64 ((wrap64 ((rd2 x4 x9) - (rd2 x4 (wrap64 (x9 - 1))))) * (wrap64 ((rd2 x5 x10) - (rd2 x5 (wrap64 (x10 - 1))))))))) x9 (wrap64 (x10 + 1))))) else (none)) else (none)) else (none)) else (none)) else (none)) else (none)) else (none)) else (impl_UsableArea.l1 k y215_8 x4 x5 x8 (wrap64 (x9 + 1)))
end
def impl_UsableArea.f (k : Nat) (a0_0 : ByteArray) (a0_1 : ByteArray) (a0_2 : Int) (a0_3 : ByteArray) (a0_4 : Int) (a0_5 : Int) (a0_6 : Int) (a0_7 : Int) (l0_8 : List S176) : Option (Int × Int) := (impl_ValidLeaf.f k a0_0 a0_1 a0_2 a0_3 a0_4 a0_5 a0_6 a0_7 l0_8).bind fun t1 => (if t1 = true then (impl_UsableArea.l0 k l0_8 ([0, a0_6]) ([0, a0_7]) l0_8 (l0_8.length : Int) 0) else (some (0, 1)))
set_option maxRecDepth 100000 in
theorem impl_UsableArea.ok {k : Nat} {a0_0 : ByteArray} {a0_1 : ByteArray} {a0_2 : Int} {a0_3 : ByteArray} {a0_4 : Int} {a0_5 : Int} {a0_6 : Int} {a0_7 : Int} {l0_8 : List S176} {r0 : Int} {r1 : Int} (H : impl_UsableArea.f k a0_0 a0_1 a0_2 a0_3 a0_4 a0_5 a0_6 a0_7 l0_8 = some (r0, r1)) : OkF Tryz.prog 64 [.agg [.d (.v (.string a0_0)), .d (.v (.string a0_1)), .d (.v (.int .i64 a0_2)), .d (.v (.string a0_3)), .d (.v (.int .i64 a0_4)), .d (.v (.int .i64 a0_5)), .d (.v (.int .i64 a0_6)), .d (.v (.int .i64 a0_7)), .d (.row 177 (l0_8.map c176))]] [] (.tup [.c (.d (.v (.int .i64 r0))), .c (.d (.v (.int .i64 r1)))]) [] := by
 unfold impl_UsableArea.f at H
 refine OkF.of (N := 109) (rs := [2, 3]) (avs := [.c (.d (.v (.int .i64 r0))), .c (.d (.v (.int .i64 r1)))]) Tryz.func64 rfl rfl (fun _ _ => results_tmp2 rfl _ _ _) (by decide) rfl rfl rfl rfl (fun w0 S => ?_)
 refine AG.seq ?_
 refine AG.region HM ?_
 refine a_box 200 ?_
 refine a_move (v := vI _) ?_
 refine a_move (v := vI _) ?_
 refine RA.nil nofun ?_
 refine AG.seq ?_
 refine AG.seq ?_
 refine AG.region HM ?_
 refine a_ldB (v := .agg [_, _, _, _, _, _, _, _, _]) ?_ T95
 obtain ⟨t1, e2, H⟩ := bindO H
 refine a_call (v := vB t1) (nk := []) (L := []) ?_ rfl (impl_ValidLeaf.ok e2) id (qg qn) trivial trivial trivial rfl
 refine a_un (u := .bool (!t1)) ?_
 refine RA.nil nofun ?_
 by_cases hc3 : t1 = true
 ·rw [if_pos hc3] at H
  refine AG.no rfl (congrArg Bool.not hc3) ?_
  refine AG.skip ?_
  refine AG.seq ?_
  refine AG.region HM ?_
  refine a_faB (q := 6) ?_ D95_4
  refine a_ldB (v := vI _) ?_ T2
  refine a_lit (cs := [_, _]) (D := []) (css := ([0, a0_6]).map c2) 202 ?_ N29 T2 (hcss := by rfl)
  refine a_faB (q := 7) ?_ D95_5
  refine a_ldB (v := vI _) ?_ T2
  refine a_lit (cs := [_, _]) (D := []) (css := ([0, a0_7]).map c2) 203 ?_ N29 T2 (hcss := by rfl)
  refine a_move (v := .c (.own _ _)) ?_
  refine a_move (v := .c (.own _ _)) ?_
  refine RA.nil (fun _ => by kernel_rfl) ?_
  refine AG.seq ?_
  refine AG.seq ?_
  refine AG.region HM ?_
  refine a_faB (q := 8) ?_ D95_6
  refine a_ldB (v := vR _ _) ?_ T93
  refine a_lenR ?_ Tryz.underlying93
  refine a_move (v := vI _) ?_
  refine RA.nil nofun ?_
  refine AG.block ?_
  refine AG.loop ?_
  obtain ⟨K0, hK0, gK0⟩ : ∃ K, k ≤ K ∧ K ≤ k := ⟨k, Nat.le_refl k, Nat.le_refl k⟩
  refine AGr.canon (fun κ => cond (Nat.beq κ 204) 200 (cond (Nat.beq κ 205) 202 (cond (Nat.beq κ 206) 203 (κ)))) (AGr.loopI (n := k) (fun k s => k ≤ K0 ∧ ∃ (y204_0 : ByteArray) (y204_1 : ByteArray) (y204_2 : Int) (y204_3 : ByteArray) (y204_4 : Int) (y204_5 : Int) (y204_6 : Int) (y204_7 : Int) (y204_8 : List S176) (x4 : List Int) (x5 : List Int) (x22 : List S176) (x23 : Int) (x24 : Int), impl_UsableArea.l0 k y204_8 x4 x5 x22 x23 x24 = some (r0, r1) ∧ s = St.of [(1, .c (.ptr 204 0)), (4, .c (.own 205 x4.length)), (5, .c (.own 206 x5.length)), (22, vR 177 (x22.map c176)), (23, vI x23), (24, vI x24)] [(204, .box 95 [.d (.v (.string y204_0)), .d (.v (.string y204_1)), .d (.v (.int .i64 y204_2)), .d (.v (.string y204_3)), .d (.v (.int .i64 y204_4)), .d (.v (.int .i64 y204_5)), .d (.v (.int .i64 y204_6)), .d (.v (.int .i64 y204_7)), .d (.row 177 (y204_8.map c176))]), (205, .row 2 (x4.map c2)), (206, .row 2 (x5.map c2))]) ⟨hK0, _, _, _, _, _, _, _, _, _, _, _, _, _, _, H, rfl⟩ ?_ ?_) ⟨rfl, (ownE rfl (by simp)), (ownE rfl (by simp)), rfl, rfl, rfl, trivial⟩ ⟨rfl, rfl, rfl, trivial⟩ rfl
  ·rintro _ ⟨_, _, _, _, _, _, _, _, _, _, _, _, _, _, _, H, _⟩
   cases H
  ·clear H hK0
   rintro k ih0 _ ⟨hK0, y204_0, y204_1, y204_2, y204_3, y204_4, y204_5, y204_6, y204_7, y204_8, x4, x5, x22, x23, x24, H, rfl⟩
   unfold impl_UsableArea.l0 at H
   refine AG.seq ?_
   refine AG.region HM ?_
   refine a_int (u := .bool (decide (x24 < x23))) ?_
   refine RA.nil nofun ?_
   refine AG.seq ?_
   by_cases hc6 : x24 < x23
   ·rw [if_pos hc6] at H
    refine AG.yes rfl (decide_eq_true hc6) ?_
    refine AG.skip ?_
    refine AG.seq ?_
    refine AG.block ?_
    refine AG.seq ?_
    refine AG.region HM ?_
    by_cases hc7 : 0 ≤ x24
    ·rw [if_pos hc7] at H
     by_cases hc8 : x24 < (x22.length : Int)
     ·rw [if_pos hc8] at H
      refine a_ixR (el := c176 (rd176 x22 x24)) ?_ ⟨hc7, hc8⟩ T177 Tryz.underlying93 (hel := R176 hc7 hc8)
      refine a_ldR (v := .agg [_, _, _, _]) ?_ T177
      refine a_alloc (cs := [_, _, _, _]) 207 ?_ T177
      refine a_stB (cs' := [_, _, _, _]) ?_ T177
      refine RA.nil nofun ?_
      refine AG.seq ?_
      refine AG.region HM ?_
      refine a_move (v := .c (.own _ _)) ?_
      refine a_faB (q := 0) ?_ D177_0
      refine a_ldB (v := vI _) ?_ T2
      refine a_faB (q := 0) ?_ D177_0
      refine a_ldB (v := vI _) ?_ T2
      refine a_faB (q := 2) ?_ D177_2
      refine a_ldB (v := vI _) ?_ T2
      refine a_int (u := .int .i64 (wrap64 (((rd176 x22 x24).f0) + ((rd176 x22 x24).f2)))) ?_
      refine a_lit (cs := [_, _]) (D := []) (css := ([(rd176 x22 x24).f0, wrap64 (((rd176 x22 x24).f0) + ((rd176 x22 x24).f2))]).map c2) 208 ?_ N29 T2
      by_cases hc9 : x4.length + 2 < 17592186044416
      ·rw [if_pos hc9] at H
       refine a_appO (css' := (x4 ++ [(rd176 x22 x24).f0, wrap64 (((rd176 x22 x24).f0) + ((rd176 x22 x24).f2))]).map c2) (n' := (x4 ++ [(rd176 x22 x24).f0, wrap64 (((rd176 x22 x24).f0) + ((rd176 x22 x24).f2))]).length) ?_ T2 (by simp [maxLen]; omega) (by simp; omega) Tryz.underlying29 (hc := by exact List.map_append.symm) (hn := by exact List.length_map _)
       refine a_move (v := .c (.own _ _)) ?_
       refine RA.nil nofun ?_
       refine AG.region HM ?_
       refine a_move (v := .c (.own _ _)) ?_
       refine a_faB (q := 1) ?_ D177_1
       refine a_ldB (v := vI _) ?_ T2
       refine a_faB (q := 1) ?_ D177_1
       refine a_ldB (v := vI _) ?_ T2
       refine a_faB (q := 3) ?_ D177_3
       refine a_ldB (v := vI _) ?_ T2
       refine a_int (u := .int .i64 (wrap64 (((rd176 x22 x24).f1) + ((rd176 x22 x24).f3)))) ?_
       refine a_lit (cs := [_, _]) (D := []) (css := ([(rd176 x22 x24).f1, wrap64 (((rd176 x22 x24).f1) + ((rd176 x22 x24).f3))]).map c2) 209 ?_ N29 T2
       by_cases hc11 : x5.length + 2 < 17592186044416
       ·rw [if_pos hc11] at H
        refine a_appO (css' := (x5 ++ [(rd176 x22 x24).f1, wrap64 (((rd176 x22 x24).f1) + ((rd176 x22 x24).f3))]).map c2) (n' := (x5 ++ [(rd176 x22 x24).f1, wrap64 (((rd176 x22 x24).f1) + ((rd176 x22 x24).f3))]).length) ?_ T2 (by simp [maxLen]; omega) (by simp; omega) Tryz.underlying29 (hc := by exact List.map_append.symm) (hn := by exact List.length_map _)
        refine a_move (v := .c (.own _ _)) ?_
        refine RA.nil nofun ?_
        refine AG.region HM ?_
        refine a_int (u := .int .i64 (wrap64 (x24 + 1))) ?_
        refine a_move (v := vI _) ?_
        refine RA.nil nofun ?_
        exact AGr.canon id (ih0 _ (by omega) _ ⟨by omega, _, _, _, _, _, _, _, _, _, _, _, _, _, _, H, rfl⟩) ⟨rfl, rfl, rfl, rfl, rfl, rfl, trivial⟩ ⟨rfl, rfl, rfl, trivial⟩ rfl
       ·rw [if_neg hc11] at H
        cases H
      ·rw [if_neg hc9] at H
       cases H
     ·rw [if_neg hc8] at H
      cases H
    ·rw [if_neg hc7] at H
     cases H
   ·rw [if_neg hc6] at H
    refine AG.no rfl (decide_eq_false hc6) ?_
    refine AG.exit ?_
    refine AG.seq ?_
    refine AG.region HM ?_
    refine a_move (v := .c (.own _ _)) ?_
    obtain ⟨t13, e14, H⟩ := bindO H
    refine a_callM (v := .tup []) (nk := []) (L := []) (Mk := [(205, _)]) (ck := [(205, .row 2 (t13.map c2))]) ?_ rfl (slices_Sort_int64.ok e14) (fun κ => cond (Nat.beq κ 0) 205 (κ)) (fun κ => cond (Nat.beq κ 205) 0 (κ)) (mcO m0) trivial ⟨rfl, trivial⟩ trivial ⟨rfl, trivial⟩ trivial ⟨rfl, trivial⟩ rfl rfl rfl
    refine RA.nil nofun ?_
    refine AG.relen 205 t13.length ?_
    refine AG.seq ?_
    refine AG.region HM ?_
    refine a_move (v := .c (.own _ _)) ?_
    obtain ⟨t15, e16, H⟩ := bindO H
    refine a_callM (v := .tup []) (nk := []) (L := []) (Mk := [(206, _)]) (ck := [(206, .row 2 (t15.map c2))]) ?_ rfl (slices_Sort_int64.ok e16) (fun κ => cond (Nat.beq κ 0) 206 (κ)) (fun κ => cond (Nat.beq κ 206) 0 (κ)) (mcO m0) trivial ⟨rfl, trivial⟩ trivial ⟨rfl, trivial⟩ trivial ⟨rfl, trivial⟩ rfl rfl rfl
    refine RA.nil nofun ?_
    refine AG.relen 206 t15.length ?_
    refine AG.seq ?_
    refine AG.region HM ?_
    refine a_move (v := vI _) ?_
    refine RA.nil nofun ?_
    refine AG.seq ?_
    refine AG.seq ?_
    refine AG.region HM ?_
    refine a_move (v := vI _) ?_
    refine RA.nil nofun ?_
    refine AG.block ?_
    refine AG.loop ?_
    obtain ⟨K1, hK1, gK1⟩ : ∃ K, k ≤ K ∧ K ≤ k := ⟨k, Nat.le_refl k, Nat.le_refl k⟩
    refine AGr.canon (fun κ => cond (Nat.beq κ 212) 204 (cond (Nat.beq κ 213) 205 (cond (Nat.beq κ 214) 206 (κ)))) (AGr.loopI (n := k) (fun k s => k ≤ K1 ∧ ∃ (y212_0 : ByteArray) (y212_1 : ByteArray) (y212_2 : Int) (y212_3 : ByteArray) (y212_4 : Int) (y212_5 : Int) (y212_6 : Int) (y212_7 : Int) (y212_8 : List S176) (x4 : List Int) (x5 : List Int) (x8 : Int) (x9 : Int), impl_UsableArea.l1 k y212_8 x4 x5 x8 x9 = some (r0, r1) ∧ s = St.of [(1, .c (.ptr 212 0)), (4, .c (.own 213 x4.length)), (5, .c (.own 214 x5.length)), (8, vI x8), (9, vI x9)] [(212, .box 95 [.d (.v (.string y212_0)), .d (.v (.string y212_1)), .d (.v (.int .i64 y212_2)), .d (.v (.string y212_3)), .d (.v (.int .i64 y212_4)), .d (.v (.int .i64 y212_5)), .d (.v (.int .i64 y212_6)), .d (.v (.int .i64 y212_7)), .d (.row 177 (y212_8.map c176))]), (213, .row 2 (x4.map c2)), (214, .row 2 (x5.map c2))]) ⟨hK1, _, _, _, _, _, _, _, _, _, _, _, _, _, H, rfl⟩ ?_ ?_) ⟨rfl, rfl, rfl, rfl, rfl, trivial⟩ ⟨rfl, rfl, rfl, trivial⟩ rfl
    ·rintro _ ⟨_, _, _, _, _, _, _, _, _, _, _, _, _, _, H, _⟩
     cases H
    ·clear H hK1
     rintro k ih1 _ ⟨hK1, y212_0, y212_1, y212_2, y212_3, y212_4, y212_5, y212_6, y212_7, y212_8, x4, x5, x8, x9, H, rfl⟩
     unfold impl_UsableArea.l1 at H
     refine AG.seq ?_
     refine AG.seq ?_
     refine AG.region HM ?_
     refine a_move (v := vI _) ?_
     refine a_move (v := .c (.own _ _)) ?_
     refine a_lenO ?_ Tryz.underlying29
     refine a_int (u := .bool (decide (x9 < (x4.length : Int)))) ?_
     refine RA.nil nofun ?_
     by_cases hc17 : x9 < (x4.length : Int)
     ·rw [if_pos hc17] at H
      refine AG.yes rfl (decide_eq_true hc17) ?_
      refine AG.skip ?_
      refine AG.seq ?_
      refine AG.block ?_
      refine AG.seq ?_
      refine AG.region HM ?_
      refine a_move (v := vI _) ?_
      refine RA.nil nofun ?_
      refine AG.block ?_
      refine AG.loop ?_
      obtain ⟨K2, hK2, gK2⟩ : ∃ K, k ≤ K ∧ K ≤ k := ⟨k, Nat.le_refl k, Nat.le_refl k⟩
      refine AGr.canon (fun κ => cond (Nat.beq κ 215) 212 (cond (Nat.beq κ 216) 213 (cond (Nat.beq κ 217) 214 (κ)))) (AGr.loopI (n := k) (fun k s => k ≤ K2 ∧ ∃ (y215_0 : ByteArray) (y215_1 : ByteArray) (y215_2 : Int) (y215_3 : ByteArray) (y215_4 : Int) (y215_5 : Int) (y215_6 : Int) (y215_7 : Int) (y215_8 : List S176) (x4 : List Int) (x5 : List Int) (x8 : Int) (x9 : Int) (x10 : Int), impl_UsableArea.l2 k y215_8 x4 x5 x8 x9 x10 = some (r0, r1) ∧ s = St.of [(1, .c (.ptr 215 0)), (4, .c (.own 216 x4.length)), (5, .c (.own 217 x5.length)), (8, vI x8), (9, vI x9), (10, vI x10)] [(215, .box 95 [.d (.v (.string y215_0)), .d (.v (.string y215_1)), .d (.v (.int .i64 y215_2)), .d (.v (.string y215_3)), .d (.v (.int .i64 y215_4)), .d (.v (.int .i64 y215_5)), .d (.v (.int .i64 y215_6)), .d (.v (.int .i64 y215_7)), .d (.row 177 (y215_8.map c176))]), (216, .row 2 (x4.map c2)), (217, .row 2 (x5.map c2))]) ⟨hK2, _, _, _, _, _, _, _, _, _, _, _, _, _, _, H, rfl⟩ ?_ ?_) ⟨rfl, rfl, rfl, rfl, rfl, rfl, trivial⟩ ⟨rfl, rfl, rfl, trivial⟩ rfl
      ·rintro _ ⟨_, _, _, _, _, _, _, _, _, _, _, _, _, _, _, H, _⟩
       cases H
      ·clear H hK2
       rintro k ih2 _ ⟨hK2, y215_0, y215_1, y215_2, y215_3, y215_4, y215_5, y215_6, y215_7, y215_8, x4, x5, x8, x9, x10, H, rfl⟩
       unfold impl_UsableArea.l2 at H
       refine AG.seq ?_
       refine AG.seq ?_
       refine AG.region HM ?_
       refine a_move (v := vI _) ?_
       refine a_move (v := .c (.own _ _)) ?_
       refine a_lenO ?_ Tryz.underlying29
       refine a_int (u := .bool (decide (x10 < (x5.length : Int)))) ?_
       refine RA.nil nofun ?_
       by_cases hc18 : x10 < (x5.length : Int)
       ·rw [if_pos hc18] at H
        refine AG.yes rfl (decide_eq_true hc18) ?_
        refine AG.skip ?_
        refine AG.seq ?_
        refine AG.block ?_
        refine AG.seq ?_
        refine AG.region HM ?_
        refine a_move (v := .c (.own _ _)) ?_
        refine a_move (v := vI _) ?_
        refine a_int (u := .int .i64 (wrap64 (x9 - 1))) ?_
        by_cases hc19 : 0 ≤ (wrap64 (x9 - 1))
        ·rw [if_pos hc19] at H
         by_cases hc20 : (wrap64 (x9 - 1)) < (x4.length : Int)
         ·rw [if_pos hc20] at H
          refine a_ixO ?_ ⟨hc19, hc20⟩ T2 Tryz.underlying29
          refine a_ldE (v := vI _) ?_ (G2 hc19 hc20) T2
          refine a_move (v := .c (.own _ _)) ?_
          refine a_move (v := vI _) ?_
          refine a_int (u := .int .i64 (wrap64 (x10 - 1))) ?_
          by_cases hc21 : 0 ≤ (wrap64 (x10 - 1))
          ·rw [if_pos hc21] at H
           by_cases hc22 : (wrap64 (x10 - 1)) < (x5.length : Int)
           ·rw [if_pos hc22] at H
            refine a_ixO ?_ ⟨hc21, hc22⟩ T2 Tryz.underlying29
            refine a_ldE (v := vI _) ?_ (G2 hc21 hc22) T2
            refine a_move (v := .c (.own _ _)) ?_
            refine a_move (v := vI _) ?_
            by_cases hc23 : 0 ≤ x9
            ·rw [if_pos hc23] at H
             by_cases hc24 : x9 < (x4.length : Int)
             ·rw [if_pos hc24] at H
              refine a_ixO ?_ ⟨hc23, hc24⟩ T2 Tryz.underlying29
              refine a_ldE (v := vI _) ?_ (G2 hc23 hc24) T2
              refine a_move (v := .c (.own _ _)) ?_
              refine a_move (v := vI _) ?_
              refine a_int (u := .int .i64 (wrap64 (x9 - 1))) ?_
              refine a_ixO ?_ ⟨hc19, hc20⟩ T2 Tryz.underlying29
              refine a_ldE (v := vI _) ?_ (G2 hc19 hc20) T2
              refine a_int (u := .int .i64 (wrap64 ((rd2 x4 x9) - (rd2 x4 (wrap64 (x9 - 1)))))) ?_
              refine a_move (v := .c (.own _ _)) ?_
              refine a_move (v := vI _) ?_
              by_cases hc25 : 0 ≤ x10
              ·rw [if_pos hc25] at H
               refine a_ixO ?_ ⟨hc25, hc18⟩ T2 Tryz.underlying29
               refine a_ldE (v := vI _) ?_ (G2 hc25 hc18) T2
               refine a_move (v := .c (.own _ _)) ?_
               refine a_move (v := vI _) ?_
               refine a_int (u := .int .i64 (wrap64 (x10 - 1))) ?_
               refine a_ixO ?_ ⟨hc21, hc22⟩ T2 Tryz.underlying29
               refine a_ldE (v := vI _) ?_ (G2 hc21 hc22) T2
               refine a_int (u := .int .i64 (wrap64 ((rd2 x5 x10) - (rd2 x5 (wrap64 (x10 - 1)))))) ?_
               refine a_build (cs := [_, _, _, _]) ?_ T177 rfl (hin := I177)
               refine a_alloc (cs := [_, _, _, _]) 218 ?_ T177
               refine a_stB (cs' := [_, _, _, _]) ?_ T177
               refine RA.nil (fun _ => by kernel_rfl) ?_
               refine AG.seq ?_
               refine AG.region HM ?_
               refine a_faB (q := 8) ?_ D95_6
               refine a_ldB (v := vR _ _) ?_ T93
               refine a_fnc (ks := [218]) ?_
               obtain ⟨t26, e27, H⟩ := bindO H
               refine a_call (v := vB t26) (nk := []) (L := [(218, _)]) ?_ rfl (slices_ContainsFunc_impl_Box__impl_UsableArea_1.ok e27) id (qd (qc (rF1 (rP (pD (pD (pD (pD p0)))))) qn)) ⟨rfl, trivial⟩ trivial trivial rfl
               refine a_un (u := .bool (!t26)) ?_
               refine RA.nil nofun ?_
               by_cases hc28 : t26 = true
               ·rw [if_pos hc28] at H
                refine AG.no rfl (congrArg Bool.not hc28) ?_
                refine AG.skip ?_
                refine AG.region HM ?_
                refine a_move (v := vI _) ?_
                refine a_int (u := .int .i64 (wrap64 (x10 + 1))) ?_
                refine a_move (v := vI _) ?_
                refine RA.nil nofun ?_
                exact AGr.canon id (ih2 _ (by omega) _ ⟨by omega, _, _, _, _, _, _, _, _, _, _, _, _, _, _, H, rfl⟩) ⟨rfl, rfl, rfl, rfl, rfl, rfl, trivial⟩ ⟨rfl, rfl, rfl, trivial⟩ rfl
               ·rw [if_neg hc28] at H
                refine AG.yes rfl (congrArg Bool.not (Bool.eq_false_iff.2 hc28)) ?_
                refine AG.region HM ?_
                refine a_move (v := vI _) ?_
                refine a_faB (q := 2) ?_ D177_2
                refine a_ldB (v := vI _) ?_ T2
                refine a_faB (q := 3) ?_ D177_3
                refine a_ldB (v := vI _) ?_ T2
                refine a_int (u := .int .i64 (wrap64 ((wrap64 ((rd2 x4 x9) - (rd2 x4 (wrap64 (x9 - 1))))) * (wrap64 ((rd2 x5 x10) - (rd2 x5 (wrap64 (x10 - 1)))))))) ?_
                refine a_int (u := .int .i64 (wrap64 (x8 + (wrap64 ((wrap64 ((rd2 x4 x9) - (rd2 x4 (wrap64 (x9 - 1))))) * (wrap64 ((rd2 x5 x10) - (rd2 x5 (wrap64 (x10 - 1)))))))))) ?_
                refine a_move (v := vI _) ?_
                refine RA.nil nofun ?_
                refine AG.region HM ?_
                refine a_move (v := vI _) ?_
                refine a_int (u := .int .i64 (wrap64 (x10 + 1))) ?_
                refine a_move (v := vI _) ?_
                refine RA.nil nofun ?_
                exact AGr.canon id (ih2 _ (by omega) _ ⟨by omega, _, _, _, _, _, _, _, _, _, _, _, _, _, _, H, rfl⟩) ⟨rfl, rfl, rfl, rfl, rfl, rfl, trivial⟩ ⟨rfl, rfl, rfl, trivial⟩ rfl
              ·rw [if_neg hc25] at H
               cases H
             ·rw [if_neg hc24] at H
              cases H
            ·rw [if_neg hc23] at H
             cases H
           ·rw [if_neg hc22] at H
            cases H
          ·rw [if_neg hc21] at H
           cases H
         ·rw [if_neg hc20] at H
          cases H
        ·rw [if_neg hc19] at H
         cases H
       ·rw [if_neg hc18] at H
        refine AG.no rfl (decide_eq_false hc18) ?_
        refine AG.exit ?_
        refine AG.region HM ?_
        refine a_move (v := vI _) ?_
        refine a_int (u := .int .i64 (wrap64 (x9 + 1))) ?_
        refine a_move (v := vI _) ?_
        refine RA.nil nofun ?_
        exact AGr.canon (fun κ => cond (Nat.beq κ 212) 215 (cond (Nat.beq κ 213) 216 (cond (Nat.beq κ 214) 217 (κ)))) (ih1 _ (by omega) _ ⟨by omega, _, _, _, _, _, _, _, _, _, _, _, _, _, H, rfl⟩) ⟨rfl, rfl, rfl, rfl, rfl, trivial⟩ ⟨rfl, rfl, rfl, trivial⟩ rfl
     ·rw [if_neg hc17] at H
      refine AG.no rfl (decide_eq_false hc17) ?_
      refine AG.exit ?_
      refine AG.seq ?_
      refine AG.region HM ?_
      refine a_move (v := vI _) ?_
      refine a_move (v := vI _) ?_
      refine a_move (v := vI _) ?_
      refine RA.nil nofun ?_
      refine AG.ret ?_
      simp only [Option.some.injEq, Prod.mk.injEq] at H
      obtain ⟨rfl, rfl⟩ := H
      exact RetP.mk id ⟨rfl, rfl, trivial⟩ trivial rfl
 ·rw [if_neg hc3] at H
  refine AG.yes rfl (congrArg Bool.not (Bool.eq_false_iff.2 hc3)) ?_
  refine AG.seq ?_
  refine AG.region HM ?_
  refine a_move (v := vI _) ?_
  refine a_move (v := vI _) ?_
  refine RA.nil nofun ?_
  refine AG.ret ?_
  simp only [Option.some.injEq, Prod.mk.injEq] at H
  obtain ⟨rfl, rfl⟩ := H
  exact RetP.mk id ⟨rfl, rfl, trivial⟩ trivial rfl
def slices_Clone_int64.f (l0 : List Int) : Option (List Int) := if l0.length * 8 ≤ 140737488355328 then some (l0) else none
theorem slices_Clone_int64.ok {l0 r : List Int} (H : slices_Clone_int64.f l0 = some r) : OkF Tryz.prog 130 [.c (.d (.row 2 (l0.map c2)))] [] (.c (.own 100 r.length)) [(100, .row 2 (r.map c2))] := by
 unfold slices_Clone_int64.f at H
 by_cases h : l0.length * 8 ≤ 140737488355328
 ·rw [if_pos h] at H
  obtain rfl := Option.some.inj H
  exact Go.Proofs.YtadjbffiomkljaaGreat.CloneI.cloneInts _ h
 ·rw [if_neg h] at H
  cases H
def slices_Reverse_int64.f (l0 : List Int) : Option (List Int) := if l0.length < 4611686018427387904 then some (l0.reverse) else none
theorem slices_Reverse_int64.ok {l0 r : List Int} (H : slices_Reverse_int64.f l0 = some r) : OkF Tryz.prog 131 [.c (.own 0 l0.length)] [(0, .row 2 (l0.map c2))] (.tup []) [(0, .row 2 (r.map c2))] := by
 unfold slices_Reverse_int64.f at H
 by_cases h : l0.length < 4611686018427387904
 ·rw [if_pos h] at H
  obtain rfl := Option.some.inj H
  exact Go.Proofs.YtadjbffiomkljaaGreat.ReverseI.reverseInts _ h
 ·rw [if_neg h] at H
  cases H
end Go.Proofs.YtadjbffiomkljaaGreat.PFnExactEnoughStock

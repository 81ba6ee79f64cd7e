/- What each function that the law FnExactWasteOf reaches comes to, and the proof that its walk comes to it; laid by a program of this session. No condition. -/
import Derived.Test.YtadjbffiomkljaaGreatPFnExactWasteOfx1
import Derived.KernelRfl
import Derived.OwnWalk
import Derived.Test.YtadjbffiomkljaaGreatProg
set_option linter.unusedVariables false
set_option linter.unusedSimpArgs false
namespace Go.Proofs.YtadjbffiomkljaaGreat.PFnExactWasteOf
open Go Go.RowKit Go.Proofs.YtadjbffiomkljaaGreatM Go.Proofs Go.Proofs.YtadjbffiomkljaaGreat.SortI Go.Proofs.YtadjbffiomkljaaGreat.CompactI
/-! ### impl_ValidPoint: function 200 -/
def impl_ValidPoint.f (a0_0 : Int) (a0_1 : Int) : Option (Bool) := (impl_within.f a0_0 0 20000).bind fun t1 => (if t1 = true then ((impl_within.f a0_1 0 20000).bind fun t4 => (some t4)) else (some false))
set_option maxRecDepth 100000 in
theorem impl_ValidPoint.ok {a0_0 : Int} {a0_1 : Int} {r : Bool} (H : impl_ValidPoint.f a0_0 a0_1 = some r) : OkF Tryz.prog 200 [.agg [.d (.v (.int .i64 a0_0)), .d (.v (.int .i64 a0_1))]] [] (.c (.d (.v (.bool r)))) [] := by
 unfold impl_ValidPoint.f at H
 refine OkF.of (N := 11) (rs := [2]) (avs := [.c (.d (.v (.bool r)))]) Tryz.func200 rfl rfl (fun _ _ => results_tmp rfl _ _ _) (by decide) rfl rfl rfl rfl (fun w0 S => ?_)
 refine AG.seq ?_
 refine AG.region HM ?_
 refine a_box 200 ?_
 refine a_move (v := vB _) ?_
 refine RA.nil nofun ?_
 refine AG.seq ?_
 refine AG.region HM ?_
 refine a_faB (q := 0) ?_ D160_0
 refine a_ldB (v := vI _) ?_ T2
 obtain ⟨t1, e2, H⟩ := bindO H
 refine a_call (v := vB t1) (nk := []) (L := []) ?_ rfl (impl_within.ok e2) id (qd (qd (qd qn))) trivial trivial trivial rfl
 refine a_move (v := vB _) ?_
 by_cases hc3 : t1 = true
 ·rw [if_pos hc3] at H
  refine a_faB (q := 1) ?_ D160_1 (hg := Gs.yes rfl rfl rfl hc3)
  refine a_ldB (v := vI _) ?_ T2 (hg := Gs.yes rfl rfl rfl hc3)
  obtain ⟨t4, e5, H⟩ := bindO H
  refine a_call (v := vB t4) (nk := []) (L := []) ?_ rfl (impl_within.ok e5) id (qd (qd (qd qn))) trivial trivial trivial rfl (hg := Gs.yes rfl rfl rfl hc3)
  refine a_pick (b := true) (v := vB _) ?_ hc3
  refine a_move (v := vB _) ?_
  refine RA.nil nofun ?_
  refine AG.ret ?_
  obtain rfl := Option.some.inj H
  exact RetP.mk id ⟨rfl, trivial⟩ trivial rfl
 ·rw [if_neg hc3] at H
  refine RA.skip rfl rfl rfl rfl rfl (Bool.eq_false_iff.2 hc3) (by decide) ?_
  refine RA.skip rfl rfl rfl rfl rfl (Bool.eq_false_iff.2 hc3) (by decide) ?_
  refine RA.skip rfl rfl rfl rfl rfl (Bool.eq_false_iff.2 hc3) (by decide) ?_
  refine a_pick (b := false) (v := vB _) ?_ (Bool.eq_false_iff.2 hc3)
  refine a_move (v := vB _) ?_
  refine RA.nil nofun ?_
  refine AG.ret ?_
  obtain rfl := Option.some.inj H
  exact RetP.mk id ⟨rfl, trivial⟩ trivial rfl
/-! ### impl_validPoints: function 162 -/
def impl_validPoints.l0 : Nat → List S159 → Int → Int → Option (Bool)
 | 0, _, _, _ => none
 | k + 1, x5, x6, x7 => if x7 < x6 then (if 0 ≤ x7 then (if x7 < (x5.length : Int) then ((impl_ValidPoint.f ((rd159 x5 x7).f0) ((rd159 x5 x7).f1)).bind fun t4 => (if t4 = true then (impl_validPoints.l0 k x5 x6 (wrap64 (x7 + 1))) else (some false))) else (none)) else (none)) else (some true)
def impl_validPoints.f (k : Nat) (l0 : List S159) : Option (Bool) := impl_validPoints.l0 k l0 (l0.length : Int) 0
set_option maxRecDepth 100000 in
theorem impl_validPoints.ok {k : Nat} {l0 : List S159} {r : Bool} (H : impl_validPoints.f k l0 = some r) : OkF Tryz.prog 162 [vR 160 (l0.map c159)] [] (.c (.d (.v (.bool r)))) [] := by
 unfold impl_validPoints.f at H
 refine OkF.of (N := 15) (rs := [2]) (avs := [.c (.d (.v (.bool r)))]) Tryz.func162 rfl rfl (fun _ _ => results_tmp rfl _ _ _) (by decide) rfl rfl rfl rfl (fun w0 S => ?_)
 refine AG.seq ?_
 refine AG.region HM ?_
 refine a_move (v := vB _) ?_
 refine RA.nil nofun ?_
 refine AG.seq ?_
 refine AG.seq ?_
 refine AG.region HM ?_
 refine a_move (v := vR _ _) ?_
 refine a_lenR ?_ Tryz.underlying32
 refine a_move (v := vI _) ?_
 refine RA.nil nofun ?_
 refine AG.block ?_
 refine AG.loop ?_
 obtain ⟨K0, hK0, gK0⟩ : ∃ K, k ≤ K ∧ K ≤ k := ⟨k, Nat.le_refl k, Nat.le_refl k⟩
 refine AGr.canon id (AGr.loopI (n := k) (fun k s => k ≤ K0 ∧ ∃ (x5 : List S159) (x6 : Int) (x7 : Int), impl_validPoints.l0 k x5 x6 x7 = some r ∧ s = St.of [(5, vR 160 (x5.map c159)), (6, vI x6), (7, vI x7)] []) ⟨hK0, _, _, _, H, rfl⟩ ?_ ?_) ⟨rfl, rfl, rfl, trivial⟩ trivial rfl
 ·rintro _ ⟨_, _, _, _, H, _⟩
  cases H
 ·clear H hK0
  rintro k ih0 _ ⟨hK0, x5, x6, x7, H, rfl⟩
  unfold impl_validPoints.l0 at H
  refine AG.seq ?_
  refine AG.region HM ?_
  refine a_int (u := .bool (decide (x7 < x6))) ?_
  refine RA.nil nofun ?_
  refine AG.seq ?_
  by_cases hc1 : x7 < x6
  ·rw [if_pos hc1] at H
   refine AG.yes rfl (decide_eq_true hc1) ?_
   refine AG.skip ?_
   refine AG.seq ?_
   refine AG.block ?_
   refine AG.seq ?_
   refine AG.region HM ?_
   by_cases hc2 : 0 ≤ x7
   ·rw [if_pos hc2] at H
    by_cases hc3 : x7 < (x5.length : Int)
    ·rw [if_pos hc3] at H
     refine a_ixR (el := c159 (rd159 x5 x7)) ?_ ⟨hc2, hc3⟩ T160 Tryz.underlying32 (hel := R159 hc2 hc3)
     refine a_ldR (v := .agg [_, _]) ?_ T160
     refine a_alloc (cs := [_, _]) 200 ?_ T160
     refine a_stB (cs' := [_, _]) ?_ T160
     refine RA.nil nofun ?_
     refine AG.seq ?_
     refine AG.region HM ?_
     refine a_ldB (v := .agg [_, _]) ?_ T160
     obtain ⟨t4, e5, H⟩ := bindO H
     refine a_call (v := vB t4) (nk := []) (L := []) ?_ rfl (impl_ValidPoint.ok e5) id (qg qn) trivial trivial trivial rfl
     refine a_un (u := .bool (!t4)) ?_
     refine RA.nil nofun ?_
     by_cases hc6 : t4 = true
     ·rw [if_pos hc6] at H
      refine AG.no rfl (congrArg Bool.not hc6) ?_
      refine AG.skip ?_
      refine AG.region HM ?_
      refine a_int (u := .int .i64 (wrap64 (x7 + 1))) ?_
      refine a_move (v := vI _) ?_
      refine RA.nil nofun ?_
      exact AGr.canon id (ih0 _ (by omega) _ ⟨by omega, _, _, _, H, rfl⟩) ⟨rfl, rfl, rfl, trivial⟩ trivial rfl
     ·rw [if_neg hc6] at H
      refine AG.yes rfl (congrArg Bool.not (Bool.eq_false_iff.2 hc6)) ?_
      refine AG.seq ?_
      refine AG.region HM ?_
      refine a_move (v := vB _) ?_
      refine RA.nil nofun ?_
      refine AG.ret ?_
      obtain rfl := Option.some.inj H
      exact RetP.mk id ⟨rfl, trivial⟩ trivial rfl
    ·rw [if_neg hc3] at H
     cases H
   ·rw [if_neg hc2] at H
    cases H
  ·rw [if_neg hc1] at H
   refine AG.no rfl (decide_eq_false hc1) ?_
   refine AG.exit ?_
   refine AG.seq ?_
   refine AG.region HM ?_
   refine a_move (v := vB _) ?_
   refine RA.nil nofun ?_
   refine AG.ret ?_
   obtain rfl := Option.some.inj H
   exact RetP.mk id ⟨rfl, trivial⟩ trivial rfl
/-! ### impl_side: function 201 -/
def impl_side.f (a0_0 : Int) (a0_1 : Int) (a1_0 : Int) (a1_1 : Int) (a2_0 : Int) (a2_1 : Int) : Option (Int) := if (wrap64 ((wrap64 ((wrap64 (a1_0 - a0_0)) * (wrap64 (a2_1 - a0_1)))) - (wrap64 ((wrap64 (a1_1 - a0_1)) * (wrap64 (a2_0 - a0_0)))))) > 0 then (some 1) else (if (wrap64 ((wrap64 ((wrap64 (a1_0 - a0_0)) * (wrap64 (a2_1 - a0_1)))) - (wrap64 ((wrap64 (a1_1 - a0_1)) * (wrap64 (a2_0 - a0_0)))))) < 0 then (some (-1)) else (some 0))
set_option maxRecDepth 100000 in
theorem impl_side.ok {a0_0 : Int} {a0_1 : Int} {a1_0 : Int} {a1_1 : Int} {a2_0 : Int} {a2_1 : Int} {r : Int} (H : impl_side.f a0_0 a0_1 a1_0 a1_1 a2_0 a2_1 = some r) : OkF Tryz.prog 201 [.agg [.d (.v (.int .i64 a0_0)), .d (.v (.int .i64 a0_1))], .agg [.d (.v (.int .i64 a1_0)), .d (.v (.int .i64 a1_1))], .agg [.d (.v (.int .i64 a2_0)), .d (.v (.int .i64 a2_1))]] [] (.c (.d (.v (.int .i64 r)))) [] := by
 unfold impl_side.f at H
 refine OkF.of (N := 37) (rs := [6]) (avs := [.c (.d (.v (.int .i64 r)))]) Tryz.func201 rfl rfl (fun _ _ => results_tmp rfl _ _ _) (by decide) rfl rfl rfl rfl (fun w0 S => ?_)
 refine AG.seq ?_
 refine AG.region HM ?_
 refine a_box 200 ?_
 refine a_box 201 ?_
 refine a_box 202 ?_
 refine a_move (v := vI _) ?_
 refine RA.nil nofun ?_
 refine AG.seq ?_
 refine AG.region HM ?_
 refine a_faB (q := 0) ?_ D160_0
 refine a_ldB (v := vI _) ?_ T2
 refine a_faB (q := 0) ?_ D160_0
 refine a_ldB (v := vI _) ?_ T2
 refine a_int (u := .int .i64 (wrap64 (a1_0 - a0_0))) ?_
 refine a_faB (q := 1) ?_ D160_1
 refine a_ldB (v := vI _) ?_ T2
 refine a_faB (q := 1) ?_ D160_1
 refine a_ldB (v := vI _) ?_ T2
 refine a_int (u := .int .i64 (wrap64 (a2_1 - a0_1))) ?_
 refine a_int (u := .int .i64 (wrap64 ((wrap64 (a1_0 - a0_0)) * (wrap64 (a2_1 - a0_1))))) ?_
 refine a_faB (q := 1) ?_ D160_1
 refine a_ldB (v := vI _) ?_ T2
 refine a_faB (q := 1) ?_ D160_1
 refine a_ldB (v := vI _) ?_ T2
 refine a_int (u := .int .i64 (wrap64 (a1_1 - a0_1))) ?_
 refine a_faB (q := 0) ?_ D160_0
 refine a_ldB (v := vI _) ?_ T2
 refine a_faB (q := 0) ?_ D160_0
 refine a_ldB (v := vI _) ?_ T2
 refine a_int (u := .int .i64 (wrap64 (a2_0 - a0_0))) ?_
 refine a_int (u := .int .i64 (wrap64 ((wrap64 (a1_1 - a0_1)) * (wrap64 (a2_0 - a0_0))))) ?_
 refine a_int (u := .int .i64 (wrap64 ((wrap64 ((wrap64 (a1_0 - a0_0)) * (wrap64 (a2_1 - a0_1)))) - (wrap64 ((wrap64 (a1_1 - a0_1)) * (wrap64 (a2_0 - a0_0))))))) ?_
 refine a_move (v := vI _) ?_
 refine RA.nil nofun ?_
 refine AG.seq ?_
 refine AG.block ?_
 refine AG.seq ?_
 refine AG.region HM ?_
 refine a_move (v := vI _) ?_
 refine a_int (u := .bool (decide ((wrap64 ((wrap64 ((wrap64 (a1_0 - a0_0)) * (wrap64 (a2_1 - a0_1)))) - (wrap64 ((wrap64 (a1_1 - a0_1)) * (wrap64 (a2_0 - a0_0)))))) > 0))) ?_
 refine a_move (v := vB _) ?_
 refine RA.nil nofun ?_
 by_cases hc1 : (wrap64 ((wrap64 ((wrap64 (a1_0 - a0_0)) * (wrap64 (a2_1 - a0_1)))) - (wrap64 ((wrap64 (a1_1 - a0_1)) * (wrap64 (a2_0 - a0_0)))))) > 0
 ·rw [if_pos hc1] at H
  refine AG.yes rfl (decide_eq_true hc1) ?_
  refine AG.seq ?_
  refine AG.region HM ?_
  refine a_move (v := vI _) ?_
  refine RA.nil nofun ?_
  refine AG.ret ?_
  obtain rfl := Option.some.inj H
  exact RetP.mk id ⟨rfl, trivial⟩ trivial rfl
 ·rw [if_neg hc1] at H
  refine AG.no rfl (decide_eq_false hc1) ?_
  refine AG.seq ?_
  refine AG.region HM ?_
  refine a_move (v := vI _) ?_
  refine a_int (u := .bool (decide ((wrap64 ((wrap64 ((wrap64 (a1_0 - a0_0)) * (wrap64 (a2_1 - a0_1)))) - (wrap64 ((wrap64 (a1_1 - a0_1)) * (wrap64 (a2_0 - a0_0)))))) < 0))) ?_
  refine a_move (v := vB _) ?_
  refine RA.nil nofun ?_
  by_cases hc2 : (wrap64 ((wrap64 ((wrap64 (a1_0 - a0_0)) * (wrap64 (a2_1 - a0_1)))) - (wrap64 ((wrap64 (a1_1 - a0_1)) * (wrap64 (a2_0 - a0_0)))))) < 0
  ·rw [if_pos hc2] at H
   refine AG.yes rfl (decide_eq_true hc2) ?_
   refine AG.seq ?_
   refine AG.region HM ?_
   refine a_move (v := vI _) ?_
   refine RA.nil nofun ?_
   refine AG.ret ?_
   obtain rfl := Option.some.inj H
   exact RetP.mk id ⟨rfl, trivial⟩ trivial rfl
  ·rw [if_neg hc2] at H
   refine AG.no rfl (decide_eq_false hc2) ?_
   refine AG.skip ?_
   refine AG.seq ?_
   refine AG.region HM ?_
   refine a_move (v := vI _) ?_
   refine RA.nil nofun ?_
   refine AG.ret ?_
   obtain rfl := Option.some.inj H
   exact RetP.mk id ⟨rfl, trivial⟩ trivial rfl
/-! ### impl_on: function 163 -/
def impl_on.f (a0_0 : Int) (a0_1 : Int) (a1_0 : Int) (a1_1 : Int) (a2_0 : Int) (a2_1 : Int) : Option (Bool) := (impl_side.f a0_0 a0_1 a1_0 a1_1 a2_0 a2_1).bind fun t1 => (if t1 = 0 then ((impl_within.f a2_0 (mn a0_0 a1_0) (mx a0_0 a1_0)).bind fun t4 => (if t4 = true then ((impl_within.f a2_1 (mn a0_1 a1_1) (mx a0_1 a1_1)).bind fun t7 => (some t7)) else (some false))) else (some false))
set_option maxRecDepth 100000 in
theorem impl_on.ok {a0_0 : Int} {a0_1 : Int} {a1_0 : Int} {a1_1 : Int} {a2_0 : Int} {a2_1 : Int} {r : Bool} (H : impl_on.f a0_0 a0_1 a1_0 a1_1 a2_0 a2_1 = some r) : OkF Tryz.prog 163 [.agg [.d (.v (.int .i64 a0_0)), .d (.v (.int .i64 a0_1))], .agg [.d (.v (.int .i64 a1_0)), .d (.v (.int .i64 a1_1))], .agg [.d (.v (.int .i64 a2_0)), .d (.v (.int .i64 a2_1))]] [] (.c (.d (.v (.bool r)))) [] := by
 unfold impl_on.f at H
 refine OkF.of (N := 42) (rs := [6]) (avs := [.c (.d (.v (.bool r)))]) Tryz.func163 rfl rfl (fun _ _ => results_tmp rfl _ _ _) (by decide) rfl rfl rfl rfl (fun w0 S => ?_)
 refine AG.seq ?_
 refine AG.region HM ?_
 refine a_box 200 ?_
 refine a_box 201 ?_
 refine a_box 202 ?_
 refine a_move (v := vB _) ?_
 refine RA.nil nofun ?_
 refine AG.seq ?_
 refine AG.region HM ?_
 refine a_ldB (v := .agg [_, _]) ?_ T160
 refine a_ldB (v := .agg [_, _]) ?_ T160
 refine a_ldB (v := .agg [_, _]) ?_ T160
 obtain ⟨t1, e2, H⟩ := bindO H
 refine a_call (v := vI t1) (nk := []) (L := []) ?_ rfl (impl_side.ok e2) id (qg (qg (qg qn))) trivial trivial trivial rfl
 refine a_int (u := .bool ((t1 == 0))) ?_
 refine a_move (v := vB _) ?_
 by_cases hc3 : t1 = 0
 ·rw [if_pos hc3] at H
  refine a_faB (q := 0) ?_ D160_0 (hg := Gs.yes rfl rfl rfl (beq_iff_eq.2 hc3))
  refine a_ldB (v := vI _) ?_ T2 (hg := Gs.yes rfl rfl rfl (beq_iff_eq.2 hc3))
  refine a_faB (q := 0) ?_ D160_0 (hg := Gs.yes rfl rfl rfl (beq_iff_eq.2 hc3))
  refine a_ldB (v := vI _) ?_ T2 (hg := Gs.yes rfl rfl rfl (beq_iff_eq.2 hc3))
  refine a_faB (q := 0) ?_ D160_0 (hg := Gs.yes rfl rfl rfl (beq_iff_eq.2 hc3))
  refine a_ldB (v := vI _) ?_ T2 (hg := Gs.yes rfl rfl rfl (beq_iff_eq.2 hc3))
  refine a_minmax (mx := false) (r := mn a0_0 a1_0) ?_ (hg := Gs.yes rfl rfl rfl (beq_iff_eq.2 hc3))
  refine a_faB (q := 0) ?_ D160_0 (hg := Gs.yes rfl rfl rfl (beq_iff_eq.2 hc3))
  refine a_ldB (v := vI _) ?_ T2 (hg := Gs.yes rfl rfl rfl (beq_iff_eq.2 hc3))
  refine a_faB (q := 0) ?_ D160_0 (hg := Gs.yes rfl rfl rfl (beq_iff_eq.2 hc3))
  refine a_ldB (v := vI _) ?_ T2 (hg := Gs.yes rfl rfl rfl (beq_iff_eq.2 hc3))
  refine a_minmax (mx := true) (r := mx a0_0 a1_0) ?_ (hg := Gs.yes rfl rfl rfl (beq_iff_eq.2 hc3))
  obtain ⟨t4, e5, H⟩ := bindO H
  refine a_call (v := vB t4) (nk := []) (L := []) ?_ rfl (impl_within.ok e5) id (qd (qd (qd qn))) trivial trivial trivial rfl (hg := Gs.yes rfl rfl rfl (beq_iff_eq.2 hc3))
  refine a_pick (b := true) (v := vB _) ?_ (beq_iff_eq.2 hc3)
  refine a_move (v := vB _) ?_
  by_cases hc6 : t4 = true
  ·rw [if_pos hc6] at H
   refine a_faB (q := 1) ?_ D160_1 (hg := Gs.yes rfl rfl rfl hc6)
   refine a_ldB (v := vI _) ?_ T2 (hg := Gs.yes rfl rfl rfl hc6)
   refine a_faB (q := 1) ?_ D160_1 (hg := Gs.yes rfl rfl rfl hc6)
   refine a_ldB (v := vI _) ?_ T2 (hg := Gs.yes rfl rfl rfl hc6)
   refine a_faB (q := 1) ?_ D160_1 (hg := Gs.yes rfl rfl rfl hc6)
   refine a_ldB (v := vI _) ?_ T2 (hg := Gs.yes rfl rfl rfl hc6)
   refine a_minmax (mx := false) (r := mn a0_1 a1_1) ?_ (hg := Gs.yes rfl rfl rfl hc6)
   refine a_faB (q := 1) ?_ D160_1 (hg := Gs.yes rfl rfl rfl hc6)
   refine a_ldB (v := vI _) ?_ T2 (hg := Gs.yes rfl rfl rfl hc6)
   refine a_faB (q := 1) ?_ D160_1 (hg := Gs.yes rfl rfl rfl hc6)
   refine a_ldB (v := vI _) ?_ T2 (hg := Gs.yes rfl rfl rfl hc6)
   refine a_minmax (mx := true) (r := mx a0_1 a1_1) ?_ (hg := Gs.yes rfl rfl rfl hc6)
   obtain ⟨t7, e8, H⟩ := bindO H
   refine a_call (v := vB t7) (nk := []) (L := []) ?_ rfl (impl_within.ok e8) id (qd (qd (qd qn))) trivial trivial trivial rfl (hg := Gs.yes rfl rfl rfl hc6)
   refine a_pick (b := true) (v := vB _) ?_ hc6
   refine a_move (v := vB _) ?_
   refine RA.nil nofun ?_
   refine AG.ret ?_
   obtain rfl := Option.some.inj H
   exact RetP.mk id ⟨rfl, trivial⟩ trivial rfl
  ·rw [if_neg hc6] at H
   refine RA.skip rfl rfl rfl rfl rfl (Bool.eq_false_iff.2 hc6) (by decide) ?_
   refine RA.skip rfl rfl rfl rfl rfl (Bool.eq_false_iff.2 hc6) (by decide) ?_
   refine RA.skip rfl rfl rfl rfl rfl (Bool.eq_false_iff.2 hc6) (by decide) ?_
   refine RA.skip rfl rfl rfl rfl rfl (Bool.eq_false_iff.2 hc6) (by decide) ?_
   refine RA.skip rfl rfl rfl rfl rfl (Bool.eq_false_iff.2 hc6) (by decide) ?_
   refine RA.skip rfl rfl rfl rfl rfl (Bool.eq_false_iff.2 hc6) (by decide) ?_
   refine RA.skip rfl rfl rfl rfl rfl (Bool.eq_false_iff.2 hc6) (by decide) ?_
   refine RA.skip rfl rfl rfl rfl rfl (Bool.eq_false_iff.2 hc6) (by decide) ?_
   refine RA.skip rfl rfl rfl rfl rfl (Bool.eq_false_iff.2 hc6) (by decide) ?_
   refine RA.skip rfl rfl rfl rfl rfl (Bool.eq_false_iff.2 hc6) (by decide) ?_
   refine RA.skip rfl rfl rfl rfl rfl (Bool.eq_false_iff.2 hc6) (by decide) ?_
   refine RA.skip rfl rfl rfl rfl rfl (Bool.eq_false_iff.2 hc6) (by decide) ?_
   refine RA.skip rfl rfl rfl rfl rfl (Bool.eq_false_iff.2 hc6) (by decide) ?_
   refine a_pick (b := false) (v := vB _) ?_ (Bool.eq_false_iff.2 hc6)
   refine a_move (v := vB _) ?_
   refine RA.nil nofun ?_
   refine AG.ret ?_
   obtain rfl := Option.some.inj H
   exact RetP.mk id ⟨rfl, trivial⟩ trivial rfl
 ·rw [if_neg hc3] at H
  refine RA.skip rfl rfl rfl rfl rfl (beq_eq_false_iff_ne.2 hc3) (by decide) ?_
  refine RA.skip rfl rfl rfl rfl rfl (beq_eq_false_iff_ne.2 hc3) (by decide) ?_
  refine RA.skip rfl rfl rfl rfl rfl (beq_eq_false_iff_ne.2 hc3) (by decide) ?_
  refine RA.skip rfl rfl rfl rfl rfl (beq_eq_false_iff_ne.2 hc3) (by decide) ?_
  refine RA.skip rfl rfl rfl rfl rfl (beq_eq_false_iff_ne.2 hc3) (by decide) ?_
  refine RA.skip rfl rfl rfl rfl rfl (beq_eq_false_iff_ne.2 hc3) (by decide) ?_
  refine RA.skip rfl rfl rfl rfl rfl (beq_eq_false_iff_ne.2 hc3) (by decide) ?_
  refine RA.skip rfl rfl rfl rfl rfl (beq_eq_false_iff_ne.2 hc3) (by decide) ?_
  refine RA.skip rfl rfl rfl rfl rfl (beq_eq_false_iff_ne.2 hc3) (by decide) ?_
  refine RA.skip rfl rfl rfl rfl rfl (beq_eq_false_iff_ne.2 hc3) (by decide) ?_
  refine RA.skip rfl rfl rfl rfl rfl (beq_eq_false_iff_ne.2 hc3) (by decide) ?_
  refine RA.skip rfl rfl rfl rfl rfl (beq_eq_false_iff_ne.2 hc3) (by decide) ?_
  refine RA.skip rfl rfl rfl rfl rfl (beq_eq_false_iff_ne.2 hc3) (by decide) ?_
  refine a_pick (b := false) (v := vB _) ?_ (beq_eq_false_iff_ne.2 hc3)
  refine a_move (v := vB _) ?_
  refine RA.skip rfl rfl rfl rfl rfl rfl (by decide) ?_
  refine RA.skip rfl rfl rfl rfl rfl rfl (by decide) ?_
  refine RA.skip rfl rfl rfl rfl rfl rfl (by decide) ?_
  refine RA.skip rfl rfl rfl rfl rfl rfl (by decide) ?_
  refine RA.skip rfl rfl rfl rfl rfl rfl (by decide) ?_
  refine RA.skip rfl rfl rfl rfl rfl rfl (by decide) ?_
  refine RA.skip rfl rfl rfl rfl rfl rfl (by decide) ?_
  refine RA.skip rfl rfl rfl rfl rfl rfl (by decide) ?_
  refine RA.skip rfl rfl rfl rfl rfl rfl (by decide) ?_
  refine RA.skip rfl rfl rfl rfl rfl rfl (by decide) ?_
  refine RA.skip rfl rfl rfl rfl rfl rfl (by decide) ?_
  refine RA.skip rfl rfl rfl rfl rfl rfl (by decide) ?_
  refine RA.skip rfl rfl rfl rfl rfl rfl (by decide) ?_
  refine a_pick (b := false) (v := vB _) ?_ rfl
  refine a_move (v := vB _) ?_
  refine RA.nil nofun ?_
  refine AG.ret ?_
  obtain rfl := Option.some.inj H
  exact RetP.mk id ⟨rfl, trivial⟩ trivial rfl
/-! ### impl_crossing: function 202 -/
def impl_crossing.f (a0_0 : Int) (a0_1 : Int) (a1_0 : Int) (a1_1 : Int) (a2_0 : Int) (a2_1 : Int) (a3_0 : Int) (a3_1 : Int) : Option (Bool) := (impl_side.f a0_0 a0_1 a1_0 a1_1 a2_0 a2_1).bind fun t1 => ((impl_side.f a0_0 a0_1 a1_0 a1_1 a3_0 a3_1).bind fun t3 => (if (wrap64 (t1 * t3)) < 0 then ((impl_side.f a2_0 a2_1 a3_0 a3_1 a0_0 a0_1).bind fun t6 => ((impl_side.f a2_0 a2_1 a3_0 a3_1 a1_0 a1_1).bind fun t8 => (some (decide ((wrap64 (t6 * t8)) < 0))))) else (some false)))
set_option maxRecDepth 100000 in
theorem impl_crossing.ok {a0_0 : Int} {a0_1 : Int} {a1_0 : Int} {a1_1 : Int} {a2_0 : Int} {a2_1 : Int} {a3_0 : Int} {a3_1 : Int} {r : Bool} (H : impl_crossing.f a0_0 a0_1 a1_0 a1_1 a2_0 a2_1 a3_0 a3_1 = some r) : OkF Tryz.prog 202 [.agg [.d (.v (.int .i64 a0_0)), .d (.v (.int .i64 a0_1))], .agg [.d (.v (.int .i64 a1_0)), .d (.v (.int .i64 a1_1))], .agg [.d (.v (.int .i64 a2_0)), .d (.v (.int .i64 a2_1))], .agg [.d (.v (.int .i64 a3_0)), .d (.v (.int .i64 a3_1))]] [] (.c (.d (.v (.bool r)))) [] := by
 unfold impl_crossing.f at H
 refine OkF.of (N := 31) (rs := [8]) (avs := [.c (.d (.v (.bool r)))]) Tryz.func202 rfl rfl (fun _ _ => results_tmp rfl _ _ _) (by decide) rfl rfl rfl rfl (fun w0 S => ?_)
 refine AG.seq ?_
 refine AG.region HM ?_
 refine a_box 200 ?_
 refine a_box 201 ?_
 refine a_box 202 ?_
 refine a_box 203 ?_
 refine a_move (v := vB _) ?_
 refine RA.nil nofun ?_
 refine AG.seq ?_
 refine AG.region HM ?_
 refine a_ldB (v := .agg [_, _]) ?_ T160
 refine a_ldB (v := .agg [_, _]) ?_ T160
 refine a_ldB (v := .agg [_, _]) ?_ T160
 obtain ⟨t1, e2, H⟩ := bindO H
 refine a_call (v := vI t1) (nk := []) (L := []) ?_ rfl (impl_side.ok e2) id (qg (qg (qg qn))) trivial trivial trivial rfl
 refine a_ldB (v := .agg [_, _]) ?_ T160
 refine a_ldB (v := .agg [_, _]) ?_ T160
 refine a_ldB (v := .agg [_, _]) ?_ T160
 obtain ⟨t3, e4, H⟩ := bindO H
 refine a_call (v := vI t3) (nk := []) (L := []) ?_ rfl (impl_side.ok e4) id (qg (qg (qg qn))) trivial trivial trivial rfl
 refine a_int (u := .int .i64 (wrap64 (t1 * t3))) ?_
 refine a_int (u := .bool (decide ((wrap64 (t1 * t3)) < 0))) ?_
 refine a_move (v := vB _) ?_
 by_cases hc5 : (wrap64 (t1 * t3)) < 0
 ·rw [if_pos hc5] at H
  refine a_ldB (v := .agg [_, _]) ?_ T160 (hg := Gs.yes rfl rfl rfl (decide_eq_true hc5))
  refine a_ldB (v := .agg [_, _]) ?_ T160 (hg := Gs.yes rfl rfl rfl (decide_eq_true hc5))
  refine a_ldB (v := .agg [_, _]) ?_ T160 (hg := Gs.yes rfl rfl rfl (decide_eq_true hc5))
  obtain ⟨t6, e7, H⟩ := bindO H
  refine a_call (v := vI t6) (nk := []) (L := []) ?_ rfl (impl_side.ok e7) id (qg (qg (qg qn))) trivial trivial trivial rfl (hg := Gs.yes rfl rfl rfl (decide_eq_true hc5))
  refine a_ldB (v := .agg [_, _]) ?_ T160 (hg := Gs.yes rfl rfl rfl (decide_eq_true hc5))
  refine a_ldB (v := .agg [_, _]) ?_ T160 (hg := Gs.yes rfl rfl rfl (decide_eq_true hc5))
  refine a_ldB (v := .agg [_, _]) ?_ T160 (hg := Gs.yes rfl rfl rfl (decide_eq_true hc5))
  obtain ⟨t8, e9, H⟩ := bindO H
  refine a_call (v := vI t8) (nk := []) (L := []) ?_ rfl (impl_side.ok e9) id (qg (qg (qg qn))) trivial trivial trivial rfl (hg := Gs.yes rfl rfl rfl (decide_eq_true hc5))
  refine a_int (u := .int .i64 (wrap64 (t6 * t8))) ?_ (hg := Gs.yes rfl rfl rfl (decide_eq_true hc5))
  refine a_int (u := .bool (decide ((wrap64 (t6 * t8)) < 0))) ?_ (hg := Gs.yes rfl rfl rfl (decide_eq_true hc5))
  refine a_pick (b := true) (v := vB _) ?_ (decide_eq_true hc5)
  refine a_move (v := vB _) ?_
  refine RA.nil (fun _ => by kernel_rfl) ?_
  refine AG.ret ?_
  obtain rfl := Option.some.inj H
  exact RetP.mk id ⟨rfl, trivial⟩ trivial rfl
 ·rw [if_neg hc5] at H
  refine RA.skip rfl rfl rfl rfl rfl (decide_eq_false hc5) (by decide) ?_
  refine RA.skip rfl rfl rfl rfl rfl (decide_eq_false hc5) (by decide) ?_
  refine RA.skip rfl rfl rfl rfl rfl (decide_eq_false hc5) (by decide) ?_
  refine RA.skip rfl rfl rfl rfl rfl (decide_eq_false hc5) (by decide) ?_
  refine RA.skip rfl rfl rfl rfl rfl (decide_eq_false hc5) (by decide) ?_
  refine RA.skip rfl rfl rfl rfl rfl (decide_eq_false hc5) (by decide) ?_
  refine RA.skip rfl rfl rfl rfl rfl (decide_eq_false hc5) (by decide) ?_
  refine RA.skip rfl rfl rfl rfl rfl (decide_eq_false hc5) (by decide) ?_
  refine RA.skip rfl rfl rfl rfl rfl (decide_eq_false hc5) (by decide) ?_
  refine RA.skip rfl rfl rfl rfl rfl (decide_eq_false hc5) (by decide) ?_
  refine a_pick (b := false) (v := vB _) ?_ (decide_eq_false hc5)
  refine a_move (v := vB _) ?_
  refine RA.nil (fun _ => by kernel_rfl) ?_
  refine AG.ret ?_
  obtain rfl := Option.some.inj H
  exact RetP.mk id ⟨rfl, trivial⟩ trivial rfl
/-! ### impl_touching: function 164 -/
def impl_touching.f (a0_0 : Int) (a0_1 : Int) (a1_0 : Int) (a1_1 : Int) (a2_0 : Int) (a2_1 : Int) (a3_0 : Int) (a3_1 : Int) : Option (Bool) := (impl_crossing.f a0_0 a0_1 a1_0 a1_1 a2_0 a2_1 a3_0 a3_1).bind fun t1 => (if t1 = true then (some true) else ((impl_on.f a0_0 a0_1 a1_0 a1_1 a2_0 a2_1).bind fun t4 => (if t4 = true then (some true) else ((impl_on.f a0_0 a0_1 a1_0 a1_1 a3_0 a3_1).bind fun t7 => (if t7 = true then (some true) else ((impl_on.f a2_0 a2_1 a3_0 a3_1 a0_0 a0_1).bind fun t10 => (if t10 = true then (some true) else ((impl_on.f a2_0 a2_1 a3_0 a3_1 a1_0 a1_1).bind fun t13 => (some t13)))))))))
set_option maxRecDepth 100000 in
theorem impl_touching.ok {a0_0 : Int} {a0_1 : Int} {a1_0 : Int} {a1_1 : Int} {a2_0 : Int} {a2_1 : Int} {a3_0 : Int} {a3_1 : Int} {r : Bool} (H : impl_touching.f a0_0 a0_1 a1_0 a1_1 a2_0 a2_1 a3_0 a3_1 = some r) : OkF Tryz.prog 164 [.agg [.d (.v (.int .i64 a0_0)), .d (.v (.int .i64 a0_1))], .agg [.d (.v (.int .i64 a1_0)), .d (.v (.int .i64 a1_1))], .agg [.d (.v (.int .i64 a2_0)), .d (.v (.int .i64 a2_1))], .agg [.d (.v (.int .i64 a3_0)), .d (.v (.int .i64 a3_1))]] [] (.c (.d (.v (.bool r)))) [] := by
 unfold impl_touching.f at H
 refine OkF.of (N := 38) (rs := [8]) (avs := [.c (.d (.v (.bool r)))]) Tryz.func164 rfl rfl (fun _ _ => results_tmp rfl _ _ _) (by decide) rfl rfl rfl rfl (fun w0 S => ?_)
 refine AG.seq ?_
 refine AG.region HM ?_
 refine a_box 200 ?_
 refine a_box 201 ?_
 refine a_box 202 ?_
 refine a_box 203 ?_
 refine a_move (v := vB _) ?_
 refine RA.nil nofun ?_
 refine AG.seq ?_
 refine AG.region HM ?_
 refine a_ldB (v := .agg [_, _]) ?_ T160
 refine a_ldB (v := .agg [_, _]) ?_ T160
 refine a_ldB (v := .agg [_, _]) ?_ T160
 refine a_ldB (v := .agg [_, _]) ?_ T160
 obtain ⟨t1, e2, H⟩ := bindO H
 refine a_call (v := vB t1) (nk := []) (L := []) ?_ rfl (impl_crossing.ok e2) id (qg (qg (qg (qg qn)))) trivial trivial trivial rfl
 refine a_move (v := vB _) ?_
 by_cases hc3 : t1 = true
 ·rw [if_pos hc3] at H
  refine RA.skip rfl rfl rfl rfl rfl hc3 (by decide) ?_
  refine RA.skip rfl rfl rfl rfl rfl hc3 (by decide) ?_
  refine RA.skip rfl rfl rfl rfl rfl hc3 (by decide) ?_
  refine RA.skip rfl rfl rfl rfl rfl hc3 (by decide) ?_
  refine a_pick (b := true) (v := vB _) ?_ hc3
  refine a_move (v := vB _) ?_
  refine RA.skip rfl rfl rfl rfl rfl rfl (by decide) ?_
  refine RA.skip rfl rfl rfl rfl rfl rfl (by decide) ?_
  refine RA.skip rfl rfl rfl rfl rfl rfl (by decide) ?_
  refine RA.skip rfl rfl rfl rfl rfl rfl (by decide) ?_
  refine a_pick (b := true) (v := vB _) ?_ rfl
  refine a_move (v := vB _) ?_
  refine RA.skip rfl rfl rfl rfl rfl rfl (by decide) ?_
  refine RA.skip rfl rfl rfl rfl rfl rfl (by decide) ?_
  refine RA.skip rfl rfl rfl rfl rfl rfl (by decide) ?_
  refine RA.skip rfl rfl rfl rfl rfl rfl (by decide) ?_
  refine a_pick (b := true) (v := vB _) ?_ rfl
  refine a_move (v := vB _) ?_
  refine RA.skip rfl rfl rfl rfl rfl rfl (by decide) ?_
  refine RA.skip rfl rfl rfl rfl rfl rfl (by decide) ?_
  refine RA.skip rfl rfl rfl rfl rfl rfl (by decide) ?_
  refine RA.skip rfl rfl rfl rfl rfl rfl (by decide) ?_
  refine a_pick (b := true) (v := vB _) ?_ rfl
  refine a_move (v := vB _) ?_
  refine RA.nil nofun ?_
  refine AG.ret ?_
  obtain rfl := Option.some.inj H
  exact RetP.mk id ⟨rfl, trivial⟩ trivial rfl
 ·rw [if_neg hc3] at H
  refine a_ldB (v := .agg [_, _]) ?_ T160 (hg := Gs.yes rfl rfl rfl (Bool.eq_false_iff.2 hc3))
  refine a_ldB (v := .agg [_, _]) ?_ T160 (hg := Gs.yes rfl rfl rfl (Bool.eq_false_iff.2 hc3))
  refine a_ldB (v := .agg [_, _]) ?_ T160 (hg := Gs.yes rfl rfl rfl (Bool.eq_false_iff.2 hc3))
  obtain ⟨t4, e5, H⟩ := bindO H
  refine a_call (v := vB t4) (nk := []) (L := []) ?_ rfl (impl_on.ok e5) id (qg (qg (qg qn))) trivial trivial trivial rfl (hg := Gs.yes rfl rfl rfl (Bool.eq_false_iff.2 hc3))
  refine a_pick (b := false) (v := vB _) ?_ (Bool.eq_false_iff.2 hc3)
  refine a_move (v := vB _) ?_
  by_cases hc6 : t4 = true
  ·rw [if_pos hc6] at H
   refine RA.skip rfl rfl rfl rfl rfl hc6 (by decide) ?_
   refine RA.skip rfl rfl rfl rfl rfl hc6 (by decide) ?_
   refine RA.skip rfl rfl rfl rfl rfl hc6 (by decide) ?_
   refine RA.skip rfl rfl rfl rfl rfl hc6 (by decide) ?_
   refine a_pick (b := true) (v := vB _) ?_ hc6
   refine a_move (v := vB _) ?_
   refine RA.skip rfl rfl rfl rfl rfl rfl (by decide) ?_
   refine RA.skip rfl rfl rfl rfl rfl rfl (by decide) ?_
   refine RA.skip rfl rfl rfl rfl rfl rfl (by decide) ?_
   refine RA.skip rfl rfl rfl rfl rfl rfl (by decide) ?_
   refine a_pick (b := true) (v := vB _) ?_ rfl
   refine a_move (v := vB _) ?_
   refine RA.skip rfl rfl rfl rfl rfl rfl (by decide) ?_
   refine RA.skip rfl rfl rfl rfl rfl rfl (by decide) ?_
   refine RA.skip rfl rfl rfl rfl rfl rfl (by decide) ?_
   refine RA.skip rfl rfl rfl rfl rfl rfl (by decide) ?_
   refine a_pick (b := true) (v := vB _) ?_ rfl
   refine a_move (v := vB _) ?_
   refine RA.nil nofun ?_
   refine AG.ret ?_
   obtain rfl := Option.some.inj H
   exact RetP.mk id ⟨rfl, trivial⟩ trivial rfl
  ·rw [if_neg hc6] at H
   refine a_ldB (v := .agg [_, _]) ?_ T160 (hg := Gs.yes rfl rfl rfl (Bool.eq_false_iff.2 hc6))
   refine a_ldB (v := .agg [_, _]) ?_ T160 (hg := Gs.yes rfl rfl rfl (Bool.eq_false_iff.2 hc6))
   refine a_ldB (v := .agg [_, _]) ?_ T160 (hg := Gs.yes rfl rfl rfl (Bool.eq_false_iff.2 hc6))
   obtain ⟨t7, e8, H⟩ := bindO H
   refine a_call (v := vB t7) (nk := []) (L := []) ?_ rfl (impl_on.ok e8) id (qg (qg (qg qn))) trivial trivial trivial rfl (hg := Gs.yes rfl rfl rfl (Bool.eq_false_iff.2 hc6))
   refine a_pick (b := false) (v := vB _) ?_ (Bool.eq_false_iff.2 hc6)
   refine a_move (v := vB _) ?_
   by_cases hc9 : t7 = true
   ·rw [if_pos hc9] at H
    refine RA.skip rfl rfl rfl rfl rfl hc9 (by decide) ?_
    refine RA.skip rfl rfl rfl rfl rfl hc9 (by decide) ?_
    refine RA.skip rfl rfl rfl rfl rfl hc9 (by decide) ?_
    refine RA.skip rfl rfl rfl rfl rfl hc9 (by decide) ?_
    refine a_pick (b := true) (v := vB _) ?_ hc9
    refine a_move (v := vB _) ?_
    refine RA.skip rfl rfl rfl rfl rfl rfl (by decide) ?_
    refine RA.skip rfl rfl rfl rfl rfl rfl (by decide) ?_
    refine RA.skip rfl rfl rfl rfl rfl rfl (by decide) ?_
    refine RA.skip rfl rfl rfl rfl rfl rfl (by decide) ?_
    refine a_pick (b := true) (v := vB _) ?_ rfl
    refine a_move (v := vB _) ?_
    refine RA.nil nofun ?_
    refine AG.ret ?_
    obtain rfl := Option.some.inj H
    exact RetP.mk id ⟨rfl, trivial⟩ trivial rfl
   ·rw [if_neg hc9] at H
    refine a_ldB (v := .agg [_, _]) ?_ T160 (hg := Gs.yes rfl rfl rfl (Bool.eq_false_iff.2 hc9))
    refine a_ldB (v := .agg [_, _]) ?_ T160 (hg := Gs.yes rfl rfl rfl (Bool.eq_false_iff.2 hc9))
    refine a_ldB (v := .agg [_, _]) ?_ T160 (hg := Gs.yes rfl rfl rfl (Bool.eq_false_iff.2 hc9))
    obtain ⟨t10, e11, H⟩ := bindO H
    refine a_call (v := vB t10) (nk := []) (L := []) ?_ rfl (impl_on.ok e11) id (qg (qg (qg qn))) trivial trivial trivial rfl (hg := Gs.yes rfl rfl rfl (Bool.eq_false_iff.2 hc9))
    refine a_pick (b := false) (v := vB _) ?_ (Bool.eq_false_iff.2 hc9)
    refine a_move (v := vB _) ?_
    by_cases hc12 : t10 = true
    ·rw [if_pos hc12] at H
     refine RA.skip rfl rfl rfl rfl rfl hc12 (by decide) ?_
     refine RA.skip rfl rfl rfl rfl rfl hc12 (by decide) ?_
     refine RA.skip rfl rfl rfl rfl rfl hc12 (by decide) ?_
     refine RA.skip rfl rfl rfl rfl rfl hc12 (by decide) ?_
     refine a_pick (b := true) (v := vB _) ?_ hc12
     refine a_move (v := vB _) ?_
     refine RA.nil nofun ?_
     refine AG.ret ?_
     obtain rfl := Option.some.inj H
     exact RetP.mk id ⟨rfl, trivial⟩ trivial rfl
    ·rw [if_neg hc12] at H
     refine a_ldB (v := .agg [_, _]) ?_ T160 (hg := Gs.yes rfl rfl rfl (Bool.eq_false_iff.2 hc12))
     refine a_ldB (v := .agg [_, _]) ?_ T160 (hg := Gs.yes rfl rfl rfl (Bool.eq_false_iff.2 hc12))
     refine a_ldB (v := .agg [_, _]) ?_ T160 (hg := Gs.yes rfl rfl rfl (Bool.eq_false_iff.2 hc12))
     obtain ⟨t13, e14, H⟩ := bindO H
     refine a_call (v := vB t13) (nk := []) (L := []) ?_ rfl (impl_on.ok e14) id (qg (qg (qg qn))) trivial trivial trivial rfl (hg := Gs.yes rfl rfl rfl (Bool.eq_false_iff.2 hc12))
     refine a_pick (b := false) (v := vB _) ?_ (Bool.eq_false_iff.2 hc12)
     refine a_move (v := vB _) ?_
     refine RA.nil nofun ?_
     refine AG.ret ?_
     obtain rfl := Option.some.inj H
     exact RetP.mk id ⟨rfl, trivial⟩ trivial rfl
/-! ### impl_ValidPolygon: function 114 -/
mutual
def impl_ValidPolygon.j0 : Nat → List S159 → Int → Bool → Option (Bool)
 | 0, _, _, _ => none
 | k + 1, x0, x3, x21 => if x21 = true then (some false) else (impl_ValidPolygon.l0 k x0 x3 (x0.length : Int) 0)
def impl_ValidPolygon.l0 : Nat → List S159 → Int → Int → Int → Option (Bool)
 | 0, _, _, _, _ => none
 | k + 1, x0, x3, x23, x24 => if x24 < x23 then (if 0 ≤ x24 then (if x24 < (x0.length : Int) then (if x3 = 0 then (none) else (if 0 ≤ (Int.tmod (wrap64 (x24 + 1)) x3) then (if (Int.tmod (wrap64 (x24 + 1)) x3) < (x0.length : Int) then (if 0 ≤ (Int.tmod (wrap64 (x24 + 2)) x3) then (if (Int.tmod (wrap64 (x24 + 2)) x3) < (x0.length : Int) then (if (((rd159 x0 x24).f0) == ((rd159 x0 (Int.tmod (wrap64 (x24 + 1)) x3)).f0) && (((rd159 x0 x24).f1) == ((rd159 x0 (Int.tmod (wrap64 (x24 + 1)) x3)).f1))) = true then (impl_ValidPolygon.j1 k x0 x3 x24 ((rd159 x0 x24).f0) ((rd159 x0 x24).f1) ((rd159 x0 (Int.tmod (wrap64 (x24 + 1)) x3)).f0) ((rd159 x0 (Int.tmod (wrap64 (x24 + 1)) x3)).f1) x23 x24 true) else ((impl_on.f ((rd159 x0 x24).f0) ((rd159 x0 x24).f1) ((rd159 x0 (Int.tmod (wrap64 (x24 + 1)) x3)).f0) ((rd159 x0 (Int.tmod (wrap64 (x24 + 1)) x3)).f1) ((rd159 x0 (Int.tmod (wrap64 (x24 + 2)) x3)).f0) ((rd159 x0 (Int.tmod (wrap64 (x24 + 2)) x3)).f1)).bind fun t15 => (if t15 = true then (impl_ValidPolygon.j1 k x0 x3 x24 ((rd159 x0 x24).f0) ((rd159 x0 x24).f1) ((rd159 x0 (Int.tmod (wrap64 (x24 + 1)) x3)).f0) ((rd159 x0 (Int.tmod (wrap64 (x24 + 1)) x3)).f1) x23 x24 true) else ((impl_on.f ((rd159 x0 (Int.tmod (wrap64 (x24 + 1)) x3)).f0) ((rd159 x0 (Int.tmod (wrap64 (x24 + 1)) x3)).f1) ((rd159 x0 (Int.tmod (wrap64 (x24 + 2)) x3)).f0) ((rd159 x0 (Int.tmod (wrap64 (x24 + 2)) x3)).f1) ((rd159 x0 x24).f0) ((rd159 x0 x24).f1)).bind fun t18 => (impl_ValidPolygon.j1 k x0 x3 x24 ((rd159 x0 x24).f0) ((rd159 x0 x24).f1) ((rd159 x0 (Int.tmod (wrap64 (x24 + 1)) x3)).f0) ((rd159 x0 (Int.tmod (wrap64 (x24 + 1)) x3)).f1) x23 x24 t18))))) else (none)) else (none)) else (none)) else (none))) else (none)) else (none)) else ((impl_doubled.f k x0).bind fun t31 => (some (decide (t31 > 0))))
def impl_ValidPolygon.j1 : Nat → List S159 → Int → Int → Int → Int → Int → Int → Int → Int → Bool → Option (Bool)
 | 0, _, _, _, _, _, _, _, _, _, _ => none
 | k + 1, x0, x3, x4, y207_0, y207_1, y208_0, y208_1, x23, x24, x59 => if x59 = true then (some false) else (impl_ValidPolygon.l1 k x0 x3 x4 y207_0 y207_1 y208_0 y208_1 (wrap64 (x4 + 2)) x23 x24)
def impl_ValidPolygon.l1 : Nat → List S159 → Int → Int → Int → Int → Int → Int → Int → Int → Int → Option (Bool)
 | 0, _, _, _, _, _, _, _, _, _, _ => none
 | k + 1, x0, x3, x4, y209_0, y209_1, y210_0, y210_1, x8, x23, x24 => if x8 < x3 then (if x3 = 0 then (none) else (if (Int.tmod (wrap64 (x8 + 1)) x3) = x4 then (impl_ValidPolygon.l1 k x0 x3 x4 y209_0 y209_1 y210_0 y210_1 (wrap64 (x8 + 1)) x23 x24) else (if 0 ≤ x8 then (if x8 < (x0.length : Int) then (if 0 ≤ (Int.tmod (wrap64 (x8 + 1)) x3) then (if (Int.tmod (wrap64 (x8 + 1)) x3) < (x0.length : Int) then ((impl_touching.f y209_0 y209_1 y210_0 y210_1 ((rd159 x0 x8).f0) ((rd159 x0 x8).f1) ((rd159 x0 (Int.tmod (wrap64 (x8 + 1)) x3)).f0) ((rd159 x0 (Int.tmod (wrap64 (x8 + 1)) x3)).f1)).bind fun t28 => (if t28 = true then (some false) else (impl_ValidPolygon.l1 k x0 x3 x4 y209_0 y209_1 y210_0 y210_1 (wrap64 (x8 + 1)) x23 x24))) else (none)) else (none)) else (none)) else (none)))) else (impl_ValidPolygon.l0 k x0 x3 x23 (wrap64 (x24 + 1)))
end
def impl_ValidPolygon.f (k : Nat) (l0 : List S159) : Option (Bool) := if (l0.length : Int) < 3 then (impl_ValidPolygon.j0 k l0 (l0.length : Int) true) else (if (l0.length : Int) > 24 then (impl_ValidPolygon.j0 k l0 (l0.length : Int) true) else ((impl_validPoints.f k l0).bind fun t3 => (impl_ValidPolygon.j0 k l0 (l0.length : Int) (!t3))))
set_option maxRecDepth 100000 in
theorem impl_ValidPolygon.ok {k : Nat} {l0 : List S159} {r : Bool} (H : impl_ValidPolygon.f k l0 = some r) : OkF Tryz.prog 114 [vR 160 (l0.map c159)] [] (.c (.d (.v (.bool r)))) [] := by
 unfold impl_ValidPolygon.f at H
 refine OkF.of (N := 93) (rs := [2]) (avs := [.c (.d (.v (.bool r)))]) Tryz.func114 rfl rfl (fun _ _ => results_tmp rfl _ _ _) (by decide) rfl rfl rfl rfl (fun w0 S => ?_)
 refine AG.seq ?_
 refine AG.region HM ?_
 refine a_move (v := vB _) ?_
 refine RA.nil nofun ?_
 refine AG.seq ?_
 refine AG.region HM ?_
 refine a_move (v := vR _ _) ?_
 refine a_lenR ?_ Tryz.underlying32
 refine a_move (v := vI _) ?_
 refine RA.nil nofun ?_
 refine AG.seq ?_
 refine AG.seq ?_
 refine AG.joinR (fun s => ∃ q, q ≤ k ∧ ∃ (x0 : List S159) (x3 : Int) (x21 : Bool), impl_ValidPolygon.j0 q x0 x3 x21 = some r ∧ s = St.of [(0, vR 160 (x0.map c159)), (3, vI x3), (21, vB x21)] []) ?_ ?_
 ·skip
  refine AG.region HM ?_
  refine a_move (v := vI _) ?_
  refine a_int (u := .bool (decide ((l0.length : Int) < 3))) ?_
  refine a_move (v := vB _) ?_
  by_cases hc1 : (l0.length : Int) < 3
  ·rw [if_pos hc1] at H
   refine RA.skip rfl rfl rfl rfl rfl (decide_eq_true hc1) (by decide) ?_
   refine RA.skip rfl rfl rfl rfl rfl (decide_eq_true hc1) (by decide) ?_
   refine a_pick (b := true) (v := vB _) ?_ (decide_eq_true hc1)
   refine a_move (v := vB _) ?_
   refine RA.skip rfl rfl rfl rfl rfl rfl (by decide) ?_
   refine RA.skip rfl rfl rfl rfl rfl rfl (by decide) ?_
   refine RA.skip rfl rfl rfl rfl rfl rfl (by decide) ?_
   refine a_pick (b := true) (v := vB _) ?_ rfl
   refine RA.nil nofun ?_
   exact CanR.mk id ⟨_, (by omega), _, _, _, H, rfl⟩ ⟨rfl, rfl, rfl, trivial⟩ trivial rfl
  ·rw [if_neg hc1] at H
   refine a_move (v := vI _) ?_ (hg := Gs.yes rfl rfl rfl (decide_eq_false hc1))
   refine a_int (u := .bool (decide ((l0.length : Int) > 24))) ?_ (hg := Gs.yes rfl rfl rfl (decide_eq_false hc1))
   refine a_pick (b := false) (v := vB _) ?_ (decide_eq_false hc1)
   refine a_move (v := vB _) ?_
   by_cases hc2 : (l0.length : Int) > 24
   ·rw [if_pos hc2] at H
    refine RA.skip rfl rfl rfl rfl rfl (decide_eq_true hc2) (by decide) ?_
    refine RA.skip rfl rfl rfl rfl rfl (decide_eq_true hc2) (by decide) ?_
    refine RA.skip rfl rfl rfl rfl rfl (decide_eq_true hc2) (by decide) ?_
    refine a_pick (b := true) (v := vB _) ?_ (decide_eq_true hc2)
    refine RA.nil nofun ?_
    exact CanR.mk id ⟨_, (by omega), _, _, _, H, rfl⟩ ⟨rfl, rfl, rfl, trivial⟩ trivial rfl
   ·rw [if_neg hc2] at H
    refine a_move (v := vR _ _) ?_ (hg := Gs.yes rfl rfl rfl (decide_eq_false hc2))
    obtain ⟨t3, e4, H⟩ := bindO H
    refine a_call (v := vB t3) (nk := []) (L := []) ?_ rfl (impl_validPoints.ok e4) id (qd qn) trivial trivial trivial rfl (hg := Gs.yes rfl rfl rfl (decide_eq_false hc2))
    refine a_un (u := .bool (!t3)) ?_ (hg := Gs.yes rfl rfl rfl (decide_eq_false hc2))
    refine a_pick (b := false) (v := vB _) ?_ (decide_eq_false hc2)
    refine RA.nil nofun ?_
    exact CanR.mk id ⟨_, (by omega), _, _, _, H, rfl⟩ ⟨rfl, rfl, rfl, trivial⟩ trivial rfl
 ·clear H
  rintro _ ⟨k, hj0, x0, x3, x21, H, rfl⟩
  cases k with
  | zero => cases H
  | succ k =>
   rw [impl_ValidPolygon.j0] at H
   by_cases hc5 : x21 = true
   ·rw [if_pos hc5] at H
    refine AG.yes rfl hc5 ?_
    refine AG.seq ?_
    refine AG.region HM ?_
    refine a_move (v := vB _) ?_
    refine RA.nil nofun ?_
    refine AG.ret ?_
    obtain rfl := Option.some.inj H
    exact RetP.mk id ⟨rfl, trivial⟩ trivial rfl
   ·rw [if_neg hc5] at H
    refine AG.no rfl (Bool.eq_false_iff.2 hc5) ?_
    refine AG.skip ?_
    refine AG.seq ?_
    refine AG.seq ?_
    refine AG.region HM ?_
    refine a_move (v := vR _ _) ?_
    refine a_lenR ?_ Tryz.underlying32
    refine a_move (v := vI _) ?_
    refine RA.nil nofun ?_
    refine AG.block ?_
    refine AG.loop ?_
    obtain ⟨K0, hK0, gK0⟩ : ∃ K, k ≤ K ∧ K ≤ k := ⟨k, Nat.le_refl k, Nat.le_refl k⟩
    refine AGr.canon id (AGr.loopI (n := k) (fun k s => k ≤ K0 ∧ ∃ (x0 : List S159) (x3 : Int) (x23 : Int) (x24 : Int), impl_ValidPolygon.l0 k x0 x3 x23 x24 = some r ∧ s = St.of [(0, vR 160 (x0.map c159)), (3, vI x3), (23, vI x23), (24, vI x24)] []) ⟨hK0, _, _, _, _, H, rfl⟩ ?_ ?_) ⟨rfl, rfl, rfl, rfl, trivial⟩ trivial rfl
    ·rintro _ ⟨_, _, _, _, _, H, _⟩
     cases H
    ·clear H hK0
     rintro k ih0 _ ⟨hK0, x0, x3, x23, x24, H, rfl⟩
     unfold impl_ValidPolygon.l0 at H
     refine AG.seq ?_
     refine AG.region HM ?_
     refine a_int (u := .bool (decide (x24 < x23))) ?_
     refine RA.nil nofun ?_
     refine AG.seq ?_
     by_cases hc6 : x24 < x23
     ·rw [if_pos hc6] at H
      refine AG.yes rfl (decide_eq_true hc6) ?_
      refine AG.skip ?_
      refine AG.seq ?_
      refine AG.block ?_
      refine AG.seq ?_
      refine AG.region HM ?_
      refine a_move (v := vI _) ?_
      refine a_move (v := vI _) ?_
      refine RA.nil nofun ?_
      refine AG.seq ?_
      refine AG.region HM ?_
      refine a_move (v := vR _ _) ?_
      refine a_move (v := vI _) ?_
      by_cases hc7 : 0 ≤ x24
      ·rw [if_pos hc7] at H
       by_cases hc8 : x24 < (x0.length : Int)
       ·rw [if_pos hc8] at H
        refine a_ixR (el := c159 (rd159 x0 x24)) ?_ ⟨hc7, hc8⟩ T160 Tryz.underlying32 (hel := R159 hc7 hc8)
        refine a_ldR (v := .agg [_, _]) ?_ T160
        refine a_move (v := vR _ _) ?_
        refine a_move (v := vI _) ?_
        refine a_int (u := .int .i64 (wrap64 (x24 + 1))) ?_
        refine a_move (v := vI _) ?_
        by_cases hc9 : x3 = 0
        ·rw [if_pos hc9] at H
         cases H
        ·rw [if_neg hc9] at H
         refine a_rem (r := Int.tmod (wrap64 (x24 + 1)) x3) ?_ hc9
         by_cases hc10 : 0 ≤ (Int.tmod (wrap64 (x24 + 1)) x3)
         ·rw [if_pos hc10] at H
          by_cases hc11 : (Int.tmod (wrap64 (x24 + 1)) x3) < (x0.length : Int)
          ·rw [if_pos hc11] at H
           refine a_ixR (el := c159 (rd159 x0 (Int.tmod (wrap64 (x24 + 1)) x3))) ?_ ⟨hc10, hc11⟩ T160 Tryz.underlying32 (hel := R159 hc10 hc11)
           refine a_ldR (v := .agg [_, _]) ?_ T160
           refine a_move (v := vR _ _) ?_
           refine a_move (v := vI _) ?_
           refine a_int (u := .int .i64 (wrap64 (x24 + 2))) ?_
           refine a_move (v := vI _) ?_
           refine a_rem (r := Int.tmod (wrap64 (x24 + 2)) x3) ?_ hc9
           by_cases hc12 : 0 ≤ (Int.tmod (wrap64 (x24 + 2)) x3)
           ·rw [if_pos hc12] at H
            by_cases hc13 : (Int.tmod (wrap64 (x24 + 2)) x3) < (x0.length : Int)
            ·rw [if_pos hc13] at H
             refine a_ixR (el := c159 (rd159 x0 (Int.tmod (wrap64 (x24 + 2)) x3))) ?_ ⟨hc12, hc13⟩ T160 Tryz.underlying32 (hel := R159 hc12 hc13)
             refine a_ldR (v := .agg [_, _]) ?_ T160
             refine a_alloc (cs := [_, _]) 202 ?_ T160
             refine a_alloc (cs := [_, _]) 203 ?_ T160
             refine a_alloc (cs := [_, _]) 204 ?_ T160
             refine a_stB (cs' := [_, _]) ?_ T160
             refine a_stB (cs' := [_, _]) ?_ T160
             refine a_stB (cs' := [_, _]) ?_ T160
             refine RA.nil (fun _ => by kernel_rfl) ?_
             refine AG.seq ?_
             refine AG.seq ?_
             refine AG.joinR (fun s => ∃ q, q ≤ k ∧ ∃ (x0 : List S159) (x3 : Int) (x4 : Int) (y207_0 : Int) (y207_1 : Int) (y208_0 : Int) (y208_1 : Int) (x23 : Int) (x24 : Int) (x59 : Bool), impl_ValidPolygon.j1 q x0 x3 x4 y207_0 y207_1 y208_0 y208_1 x23 x24 x59 = some r ∧ s = St.of [(0, vR 160 (x0.map c159)), (3, vI x3), (4, vI x4), (5, .c (.ptr 207 0)), (6, .c (.ptr 208 0)), (23, vI x23), (24, vI x24), (59, vB x59)] [(207, .box 160 [.d (.v (.int .i64 y207_0)), .d (.v (.int .i64 y207_1))]), (208, .box 160 [.d (.v (.int .i64 y208_0)), .d (.v (.int .i64 y208_1))])]) ?_ ?_
             ·skip
              refine AG.region HM ?_
              refine a_ldB (v := .agg [_, _]) ?_ T160
              refine a_ldB (v := .agg [_, _]) ?_ T160
              refine a_eqS (b := (((rd159 x0 x24).f0) == ((rd159 x0 (Int.tmod (wrap64 (x24 + 1)) x3)).f0) && (((rd159 x0 x24).f1) == ((rd159 x0 (Int.tmod (wrap64 (x24 + 1)) x3)).f1)))) ?_ (.inl ⟨rfl, rfl⟩) (Q160 ((rd159 x0 x24).f0) ((rd159 x0 (Int.tmod (wrap64 (x24 + 1)) x3)).f0) ((rd159 x0 x24).f1) ((rd159 x0 (Int.tmod (wrap64 (x24 + 1)) x3)).f1)).1
              refine a_move (v := vB _) ?_
              by_cases hc14 : (((rd159 x0 x24).f0) == ((rd159 x0 (Int.tmod (wrap64 (x24 + 1)) x3)).f0) && (((rd159 x0 x24).f1) == ((rd159 x0 (Int.tmod (wrap64 (x24 + 1)) x3)).f1))) = true
              ·rw [if_pos hc14] at H
               refine RA.skip rfl rfl rfl rfl rfl hc14 (by decide) ?_
               refine RA.skip rfl rfl rfl rfl rfl hc14 (by decide) ?_
               refine RA.skip rfl rfl rfl rfl rfl hc14 (by decide) ?_
               refine RA.skip rfl rfl rfl rfl rfl hc14 (by decide) ?_
               refine a_pick (b := true) (v := vB _) ?_ hc14
               refine a_move (v := vB _) ?_
               refine RA.skip rfl rfl rfl rfl rfl rfl (by decide) ?_
               refine RA.skip rfl rfl rfl rfl rfl rfl (by decide) ?_
               refine RA.skip rfl rfl rfl rfl rfl rfl (by decide) ?_
               refine RA.skip rfl rfl rfl rfl rfl rfl (by decide) ?_
               refine a_pick (b := true) (v := vB _) ?_ rfl
               refine RA.nil nofun ?_
               exact CanR.mk (fun κ => cond (Nat.beq κ 207) 202 (cond (Nat.beq κ 208) 203 (κ))) ⟨_, (by omega), _, _, _, _, _, _, _, _, _, _, H, rfl⟩ ⟨rfl, rfl, rfl, rfl, rfl, rfl, rfl, rfl, trivial⟩ ⟨rfl, rfl, trivial⟩ rfl
              ·rw [if_neg hc14] at H
               refine a_ldB (v := .agg [_, _]) ?_ T160 (hg := Gs.yes rfl rfl rfl (Bool.eq_false_iff.2 hc14))
               refine a_ldB (v := .agg [_, _]) ?_ T160 (hg := Gs.yes rfl rfl rfl (Bool.eq_false_iff.2 hc14))
               refine a_ldB (v := .agg [_, _]) ?_ T160 (hg := Gs.yes rfl rfl rfl (Bool.eq_false_iff.2 hc14))
               obtain ⟨t15, e16, H⟩ := bindO H
               refine a_call (v := vB t15) (nk := []) (L := []) ?_ rfl (impl_on.ok e16) id (qg (qg (qg qn))) trivial trivial trivial rfl (hg := Gs.yes rfl rfl rfl (Bool.eq_false_iff.2 hc14))
               refine a_pick (b := false) (v := vB _) ?_ (Bool.eq_false_iff.2 hc14)
               refine a_move (v := vB _) ?_
               by_cases hc17 : t15 = true
               ·rw [if_pos hc17] at H
                refine RA.skip rfl rfl rfl rfl rfl hc17 (by decide) ?_
                refine RA.skip rfl rfl rfl rfl rfl hc17 (by decide) ?_
                refine RA.skip rfl rfl rfl rfl rfl hc17 (by decide) ?_
                refine RA.skip rfl rfl rfl rfl rfl hc17 (by decide) ?_
                refine a_pick (b := true) (v := vB _) ?_ hc17
                refine RA.nil nofun ?_
                exact CanR.mk (fun κ => cond (Nat.beq κ 207) 202 (cond (Nat.beq κ 208) 203 (κ))) ⟨_, (by omega), _, _, _, _, _, _, _, _, _, _, H, rfl⟩ ⟨rfl, rfl, rfl, rfl, rfl, rfl, rfl, rfl, trivial⟩ ⟨rfl, rfl, trivial⟩ rfl
               ·rw [if_neg hc17] at H
                refine a_ldB (v := .agg [_, _]) ?_ T160 (hg := Gs.yes rfl rfl rfl (Bool.eq_false_iff.2 hc17))
                refine a_ldB (v := .agg [_, _]) ?_ T160 (hg := Gs.yes rfl rfl rfl (Bool.eq_false_iff.2 hc17))
                refine a_ldB (v := .agg [_, _]) ?_ T160 (hg := Gs.yes rfl rfl rfl (Bool.eq_false_iff.2 hc17))
                obtain ⟨t18, e19, H⟩ := bindO H
                refine a_call (v := vB t18) (nk := []) (L := []) ?_ rfl (impl_on.ok e19) id (qg (qg (qg qn))) trivial trivial trivial rfl (hg := Gs.yes rfl rfl rfl (Bool.eq_false_iff.2 hc17))
                refine a_pick (b := false) (v := vB _) ?_ (Bool.eq_false_iff.2 hc17)
                refine RA.nil nofun ?_
                exact CanR.mk (fun κ => cond (Nat.beq κ 207) 202 (cond (Nat.beq κ 208) 203 (κ))) ⟨_, (by omega), _, _, _, _, _, _, _, _, _, _, H, rfl⟩ ⟨rfl, rfl, rfl, rfl, rfl, rfl, rfl, rfl, trivial⟩ ⟨rfl, rfl, trivial⟩ rfl
             ·clear H
              rintro _ ⟨k, hj1, x0, x3, x4, y207_0, y207_1, y208_0, y208_1, x23, x24, x59, H, rfl⟩
              cases k with
              | zero => cases H
              | succ k =>
               rw [impl_ValidPolygon.j1] at H
               by_cases hc20 : x59 = true
               ·rw [if_pos hc20] at H
                refine AG.yes rfl hc20 ?_
                refine AG.seq ?_
                refine AG.region HM ?_
                refine a_move (v := vB _) ?_
                refine RA.nil nofun ?_
                refine AG.ret ?_
                obtain rfl := Option.some.inj H
                exact RetP.mk id ⟨rfl, trivial⟩ trivial rfl
               ·rw [if_neg hc20] at H
                refine AG.no rfl (Bool.eq_false_iff.2 hc20) ?_
                refine AG.skip ?_
                refine AG.seq ?_
                refine AG.region HM ?_
                refine a_move (v := vI _) ?_
                refine a_int (u := .int .i64 (wrap64 (x4 + 2))) ?_
                refine a_move (v := vI _) ?_
                refine RA.nil nofun ?_
                refine AG.block ?_
                refine AG.loop ?_
                obtain ⟨K1, hK1, gK1⟩ : ∃ K, k ≤ K ∧ K ≤ k := ⟨k, Nat.le_refl k, Nat.le_refl k⟩
                refine AGr.canon (fun κ => cond (Nat.beq κ 209) 207 (cond (Nat.beq κ 210) 208 (κ))) (AGr.loopI (n := k) (fun k s => k ≤ K1 ∧ ∃ (x0 : List S159) (x3 : Int) (x4 : Int) (y209_0 : Int) (y209_1 : Int) (y210_0 : Int) (y210_1 : Int) (x8 : Int) (x23 : Int) (x24 : Int), impl_ValidPolygon.l1 k x0 x3 x4 y209_0 y209_1 y210_0 y210_1 x8 x23 x24 = some r ∧ s = St.of [(0, vR 160 (x0.map c159)), (3, vI x3), (4, vI x4), (5, .c (.ptr 209 0)), (6, .c (.ptr 210 0)), (8, vI x8), (23, vI x23), (24, vI x24)] [(209, .box 160 [.d (.v (.int .i64 y209_0)), .d (.v (.int .i64 y209_1))]), (210, .box 160 [.d (.v (.int .i64 y210_0)), .d (.v (.int .i64 y210_1))])]) ⟨hK1, _, _, _, _, _, _, _, _, _, _, H, rfl⟩ ?_ ?_) ⟨rfl, rfl, rfl, rfl, rfl, rfl, rfl, rfl, trivial⟩ ⟨rfl, rfl, trivial⟩ rfl
                ·rintro _ ⟨_, _, _, _, _, _, _, _, _, _, _, H, _⟩
                 cases H
                ·clear H hK1
                 rintro k ih1 _ ⟨hK1, x0, x3, x4, y209_0, y209_1, y210_0, y210_1, x8, x23, x24, H, rfl⟩
                 unfold impl_ValidPolygon.l1 at H
                 refine AG.seq ?_
                 refine AG.seq ?_
                 refine AG.region HM ?_
                 refine a_move (v := vI _) ?_
                 refine a_move (v := vI _) ?_
                 refine a_int (u := .bool (decide (x8 < x3))) ?_
                 refine RA.nil nofun ?_
                 by_cases hc21 : x8 < x3
                 ·rw [if_pos hc21] at H
                  refine AG.yes rfl (decide_eq_true hc21) ?_
                  refine AG.skip ?_
                  refine AG.seq ?_
                  refine AG.block ?_
                  refine AG.seq ?_
                  refine AG.region HM ?_
                  refine a_move (v := vI _) ?_
                  refine a_int (u := .int .i64 (wrap64 (x8 + 1))) ?_
                  refine a_move (v := vI _) ?_
                  by_cases hc22 : x3 = 0
                  ·rw [if_pos hc22] at H
                   cases H
                  ·rw [if_neg hc22] at H
                   refine a_rem (r := Int.tmod (wrap64 (x8 + 1)) x3) ?_ hc22
                   refine a_move (v := vI _) ?_
                   refine a_int (u := .bool (((Int.tmod (wrap64 (x8 + 1)) x3) != x4))) ?_
                   refine a_move (v := vB _) ?_
                   by_cases hc23 : (Int.tmod (wrap64 (x8 + 1)) x3) = x4
                   ·rw [if_pos hc23] at H
                    refine RA.skip rfl rfl rfl rfl rfl (bne_eq_false_iff_eq.2 hc23) (by decide) ?_
                    refine RA.skip rfl rfl rfl rfl rfl (bne_eq_false_iff_eq.2 hc23) (by decide) ?_
                    refine RA.skip rfl rfl rfl rfl rfl (bne_eq_false_iff_eq.2 hc23) (by decide) ?_
                    refine RA.skip rfl rfl rfl rfl rfl (bne_eq_false_iff_eq.2 hc23) (by decide) ?_
                    refine RA.skip rfl rfl rfl rfl rfl (bne_eq_false_iff_eq.2 hc23) (by decide) ?_
                    refine RA.skip rfl rfl rfl rfl rfl (bne_eq_false_iff_eq.2 hc23) (by decide) ?_
                    refine RA.skip rfl rfl rfl rfl rfl (bne_eq_false_iff_eq.2 hc23) (by decide) ?_
                    refine RA.skip rfl rfl rfl rfl rfl (bne_eq_false_iff_eq.2 hc23) (by decide) ?_
                    refine RA.skip rfl rfl rfl rfl rfl (bne_eq_false_iff_eq.2 hc23) (by decide) ?_
                    refine RA.skip rfl rfl rfl rfl rfl (bne_eq_false_iff_eq.2 hc23) (by decide) ?_
                    refine RA.skip rfl rfl rfl rfl rfl (bne_eq_false_iff_eq.2 hc23) (by decide) ?_
                    refine RA.skip rfl rfl rfl rfl rfl (bne_eq_false_iff_eq.2 hc23) (by decide) ?_
                    refine RA.skip rfl rfl rfl rfl rfl (bne_eq_false_iff_eq.2 hc23) (by decide) ?_
                    refine RA.skip rfl rfl rfl rfl rfl (bne_eq_false_iff_eq.2 hc23) (by decide) ?_
                    refine a_pick (b := false) (v := vB _) ?_ (bne_eq_false_iff_eq.2 hc23)
                    refine RA.nil (fun _ => by kernel_rfl) ?_
                    refine AG.no rfl rfl ?_
                    refine AG.skip ?_
                    refine AG.region HM ?_
                    refine a_move (v := vI _) ?_
                    refine a_int (u := .int .i64 (wrap64 (x8 + 1))) ?_
                    refine a_move (v := vI _) ?_
                    refine RA.nil nofun ?_
                    exact AGr.canon id (ih1 _ (by omega) _ ⟨by omega, _, _, _, _, _, _, _, _, _, _, H, rfl⟩) ⟨rfl, rfl, rfl, rfl, rfl, rfl, rfl, rfl, trivial⟩ ⟨rfl, rfl, trivial⟩ rfl
                   ·rw [if_neg hc23] at H
                    refine a_ldB (v := .agg [_, _]) ?_ T160 (hg := Gs.yes rfl rfl rfl (bne_iff_ne.2 hc23))
                    refine a_ldB (v := .agg [_, _]) ?_ T160 (hg := Gs.yes rfl rfl rfl (bne_iff_ne.2 hc23))
                    refine a_move (v := vR _ _) ?_ (hg := Gs.yes rfl rfl rfl (bne_iff_ne.2 hc23))
                    refine a_move (v := vI _) ?_ (hg := Gs.yes rfl rfl rfl (bne_iff_ne.2 hc23))
                    by_cases hc24 : 0 ≤ x8
                    ·rw [if_pos hc24] at H
                     by_cases hc25 : x8 < (x0.length : Int)
                     ·rw [if_pos hc25] at H
                      refine a_ixR (el := c159 (rd159 x0 x8)) ?_ ⟨hc24, hc25⟩ T160 Tryz.underlying32 (hel := R159 hc24 hc25) (hg := Gs.yes rfl rfl rfl (bne_iff_ne.2 hc23))
                      refine a_ldR (v := .agg [_, _]) ?_ T160 (hg := Gs.yes rfl rfl rfl (bne_iff_ne.2 hc23))
                      refine a_move (v := vR _ _) ?_ (hg := Gs.yes rfl rfl rfl (bne_iff_ne.2 hc23))
                      refine a_move (v := vI _) ?_ (hg := Gs.yes rfl rfl rfl (bne_iff_ne.2 hc23))
                      refine a_int (u := .int .i64 (wrap64 (x8 + 1))) ?_ (hg := Gs.yes rfl rfl rfl (bne_iff_ne.2 hc23))
                      refine a_move (v := vI _) ?_ (hg := Gs.yes rfl rfl rfl (bne_iff_ne.2 hc23))
                      refine a_rem (r := Int.tmod (wrap64 (x8 + 1)) x3) ?_ hc22 (hg := Gs.yes rfl rfl rfl (bne_iff_ne.2 hc23))
                      by_cases hc26 : 0 ≤ (Int.tmod (wrap64 (x8 + 1)) x3)
                      ·rw [if_pos hc26] at H
                       by_cases hc27 : (Int.tmod (wrap64 (x8 + 1)) x3) < (x0.length : Int)
                       ·rw [if_pos hc27] at H
                        refine a_ixR (el := c159 (rd159 x0 (Int.tmod (wrap64 (x8 + 1)) x3))) ?_ ⟨hc26, hc27⟩ T160 Tryz.underlying32 (hel := R159 hc26 hc27) (hg := Gs.yes rfl rfl rfl (bne_iff_ne.2 hc23))
                        refine a_ldR (v := .agg [_, _]) ?_ T160 (hg := Gs.yes rfl rfl rfl (bne_iff_ne.2 hc23))
                        obtain ⟨t28, e29, H⟩ := bindO H
                        refine a_call (v := vB t28) (nk := []) (L := []) ?_ rfl (impl_touching.ok e29) id (qg (qg (qg (qg qn)))) trivial trivial trivial rfl (hg := Gs.yes rfl rfl rfl (bne_iff_ne.2 hc23))
                        refine a_pick (b := true) (v := vB _) ?_ (bne_iff_ne.2 hc23)
                        refine RA.nil (fun _ => by kernel_rfl) ?_
                        by_cases hc30 : t28 = true
                        ·rw [if_pos hc30] at H
                         refine AG.yes rfl hc30 ?_
                         refine AG.seq ?_
                         refine AG.region HM ?_
                         refine a_move (v := vB _) ?_
                         refine RA.nil nofun ?_
                         refine AG.ret ?_
                         obtain rfl := Option.some.inj H
                         exact RetP.mk id ⟨rfl, trivial⟩ trivial rfl
                        ·rw [if_neg hc30] at H
                         refine AG.no rfl (Bool.eq_false_iff.2 hc30) ?_
                         refine AG.skip ?_
                         refine AG.region HM ?_
                         refine a_move (v := vI _) ?_
                         refine a_int (u := .int .i64 (wrap64 (x8 + 1))) ?_
                         refine a_move (v := vI _) ?_
                         refine RA.nil nofun ?_
                         exact AGr.canon id (ih1 _ (by omega) _ ⟨by omega, _, _, _, _, _, _, _, _, _, _, H, rfl⟩) ⟨rfl, rfl, rfl, rfl, rfl, rfl, rfl, rfl, trivial⟩ ⟨rfl, rfl, trivial⟩ rfl
                       ·rw [if_neg hc27] at H
                        cases H
                      ·rw [if_neg hc26] at H
                       cases H
                     ·rw [if_neg hc25] at H
                      cases H
                    ·rw [if_neg hc24] at H
                     cases H
                 ·rw [if_neg hc21] at H
                  refine AG.no rfl (decide_eq_false hc21) ?_
                  refine AG.exit ?_
                  refine AG.region HM ?_
                  refine a_int (u := .int .i64 (wrap64 (x24 + 1))) ?_
                  refine a_move (v := vI _) ?_
                  refine RA.nil nofun ?_
                  exact AGr.canon id (ih0 _ (by omega) _ ⟨by omega, _, _, _, _, H, rfl⟩) ⟨rfl, rfl, rfl, rfl, trivial⟩ trivial rfl
            ·rw [if_neg hc13] at H
             cases H
           ·rw [if_neg hc12] at H
            cases H
          ·rw [if_neg hc11] at H
           cases H
         ·rw [if_neg hc10] at H
          cases H
       ·rw [if_neg hc8] at H
        cases H
      ·rw [if_neg hc7] at H
       cases H
     ·rw [if_neg hc6] at H
      refine AG.no rfl (decide_eq_false hc6) ?_
      refine AG.exit ?_
      refine AG.seq ?_
      refine AG.region HM ?_
      refine a_move (v := vR _ _) ?_
      obtain ⟨t31, e32, H⟩ := bindO H
      refine a_call (v := vI t31) (nk := []) (L := []) ?_ rfl (impl_doubled.ok e32) id (qd qn) trivial trivial trivial rfl
      refine a_int (u := .bool (decide (t31 > 0))) ?_
      refine a_move (v := vB _) ?_
      refine RA.nil nofun ?_
      refine AG.ret ?_
      obtain rfl := Option.some.inj H
      exact RetP.mk id ⟨rfl, trivial⟩ trivial rfl
/-! ### impl_ValidDrawing: function 53 -/
mutual
def impl_ValidDrawing.j0 : Nat → Int → Int → List S159 → List S146 → Bool → Option (Bool)
 | 0, _, _, _, _, _ => none
 | k + 1, y203_0, y203_1, y203_2, y203_3, x30 => if x30 = true then (some false) else (impl_ValidDrawing.l0 k y203_0 y203_1 y203_2 y203_3 y203_2 (y203_2.length : Int) 0)
def impl_ValidDrawing.j1 : Nat → List S159 → List S146 → Option (Bool)
 | 0, _, _ => none
 | k + 1, y209_2, y209_3 => impl_ValidDrawing.l1 k y209_2 y209_3 y209_3 (y209_3.length : Int) 0
def impl_ValidDrawing.l0 : Nat → Int → Int → List S159 → List S146 → List S159 → Int → Int → Option (Bool)
 | 0, _, _, _, _, _, _, _ => none
 | k + 1, y204_0, y204_1, y204_2, y204_3, x32, x33, x34 => if x34 < x33 then (if 0 ≤ x34 then (if x34 < (x32.length : Int) then ((impl_within.f ((rd159 x32 x34).f0) 0 y204_0).bind fun t12 => (if t12 = true then ((impl_within.f ((rd159 x32 x34).f1) 0 y204_1).bind fun t15 => (if t15 = true then (if x34 ≤ (y204_2.length : Int) then ((slices_Contains_impl_Point.f k (y204_2.take ((x34 : Int).toNat)) ((rd159 x32 x34).f0) ((rd159 x32 x34).f1)).bind fun t19 => (if t19 = true then (some false) else (impl_ValidDrawing.l0 k y204_0 y204_1 y204_2 y204_3 x32 x33 (wrap64 (x34 + 1))))) else (none)) else (some false))) else (some false))) else (none)) else (none)) else (impl_ValidDrawing.j1 k y204_2 y204_3)
def impl_ValidDrawing.l1 : Nat → List S159 → List S146 → List S146 → Int → Int → Option (Bool)
 | 0, _, _, _, _, _ => none
 | k + 1, y210_2, y210_3, x63, x64, x65 => if x65 < x64 then (if 0 ≤ x65 then (if x65 < (x63.length : Int) then ((impl_IsName.f k ((rd146 x63 x65).f0)).bind fun t25 => (if t25 = true then (if x65 > 0 then (if 0 ≤ (wrap64 (x65 - 1)) then (if (wrap64 (x65 - 1)) < (y210_3.length : Int) then (impl_ValidDrawing.j2 k y210_2 y210_3 ((rd146 x63 x65).f1) x63 x64 x65 (!(Op.bytesLess (((rd146 y210_3 (wrap64 (x65 - 1))).f0).toList) (((rd146 x63 x65).f0).toList)))) else (none)) else (none)) else (impl_ValidDrawing.j2 k y210_2 y210_3 ((rd146 x63 x65).f1) x63 x64 x65 false)) else (impl_ValidDrawing.j2 k y210_2 y210_3 ((rd146 x63 x65).f1) x63 x64 x65 true))) else (none)) else (none)) else (some true)
def impl_ValidDrawing.j2 : Nat → List S159 → List S146 → List Int → List S146 → Int → Int → Bool → Option (Bool)
 | 0, _, _, _, _, _, _, _ => none
 | k + 1, y213_2, y213_3, y214_1, x63, x64, x65, x89 => if x89 = true then (some false) else ((impl_ringPolygon.f k y213_2 y214_1).bind fun bt32 => (if bt32.2 = true then ((impl_ValidPolygon.f k bt32.1).bind fun t36 => (if t36 = true then (impl_ValidDrawing.l1 k y213_2 y213_3 x63 x64 (wrap64 (x65 + 1))) else (some false))) else (some false)))
end
def impl_ValidDrawing.f (k : Nat) (a0_0 : Int) (a0_1 : Int) (l0_2 : List S159) (l0_3 : List S146) : Option (Bool) := (impl_within.f a0_0 10 20000).bind fun t1 => (if t1 = true then ((impl_within.f a0_1 10 20000).bind fun t4 => (if t4 = true then (if (l0_2.length : Int) > 48 then (impl_ValidDrawing.j0 k a0_0 a0_1 l0_2 l0_3 true) else (impl_ValidDrawing.j0 k a0_0 a0_1 l0_2 l0_3 (decide ((l0_3.length : Int) > 24)))) else (impl_ValidDrawing.j0 k a0_0 a0_1 l0_2 l0_3 true))) else (impl_ValidDrawing.j0 k a0_0 a0_1 l0_2 l0_3 true))
set_option maxRecDepth 100000 in
theorem impl_ValidDrawing.ok {k : Nat} {a0_0 : Int} {a0_1 : Int} {l0_2 : List S159} {l0_3 : List S146} {r : Bool} (H : impl_ValidDrawing.f k a0_0 a0_1 l0_2 l0_3 = some r) : OkF Tryz.prog 53 [.agg [.d (.v (.int .i64 a0_0)), .d (.v (.int .i64 a0_1)), .d (.row 160 (l0_2.map c159)), .d (.row 152 (l0_3.map c146))]] [] (.c (.d (.v (.bool r)))) [] := by
 unfold impl_ValidDrawing.f at H
 refine OkF.of (N := 106) (rs := [2]) (avs := [.c (.d (.v (.bool r)))]) Tryz.func53 rfl rfl (fun _ _ => results_tmp rfl _ _ _) (by decide) rfl rfl rfl rfl (fun w0 S => ?_)
 refine AG.seq ?_
 refine AG.region HM ?_
 refine a_box 200 ?_
 refine a_move (v := vB _) ?_
 refine RA.nil nofun ?_
 refine AG.seq ?_
 refine AG.seq ?_
 refine AG.joinR (fun s => ∃ q, q ≤ k ∧ ∃ (y203_0 : Int) (y203_1 : Int) (y203_2 : List S159) (y203_3 : List S146) (x30 : Bool), impl_ValidDrawing.j0 q y203_0 y203_1 y203_2 y203_3 x30 = some r ∧ s = St.of [(1, .c (.ptr 203 0)), (30, vB x30)] [(203, .box 35 [.d (.v (.int .i64 y203_0)), .d (.v (.int .i64 y203_1)), .d (.row 160 (y203_2.map c159)), .d (.row 152 (y203_3.map c146))])]) ?_ ?_
 ·skip
  refine AG.region HM ?_
  refine a_faB (q := 0) ?_ D35_0
  refine a_ldB (v := vI _) ?_ T2
  obtain ⟨t1, e2, H⟩ := bindO H
  refine a_call (v := vB t1) (nk := []) (L := []) ?_ rfl (impl_within.ok e2) id (qd (qd (qd qn))) trivial trivial trivial rfl
  refine a_un (u := .bool (!t1)) ?_
  refine a_move (v := vB _) ?_
  by_cases hc3 : t1 = true
  ·rw [if_pos hc3] at H
   refine a_faB (q := 1) ?_ D35_1 (hg := Gs.yes rfl rfl rfl (congrArg Bool.not hc3))
   refine a_ldB (v := vI _) ?_ T2 (hg := Gs.yes rfl rfl rfl (congrArg Bool.not hc3))
   obtain ⟨t4, e5, H⟩ := bindO H
   refine a_call (v := vB t4) (nk := []) (L := []) ?_ rfl (impl_within.ok e5) id (qd (qd (qd qn))) trivial trivial trivial rfl (hg := Gs.yes rfl rfl rfl (congrArg Bool.not hc3))
   refine a_un (u := .bool (!t4)) ?_ (hg := Gs.yes rfl rfl rfl (congrArg Bool.not hc3))
   refine a_pick (b := false) (v := vB _) ?_ (congrArg Bool.not hc3)
   refine a_move (v := vB _) ?_
   by_cases hc6 : t4 = true
   ·rw [if_pos hc6] at H
    refine a_faB (q := 2) ?_ D35_2 (hg := Gs.yes rfl rfl rfl (congrArg Bool.not hc6))
    refine a_ldB (v := vR _ _) ?_ T32 (hg := Gs.yes rfl rfl rfl (congrArg Bool.not hc6))
    refine a_lenR ?_ Tryz.underlying32 (hg := Gs.yes rfl rfl rfl (congrArg Bool.not hc6))
    refine a_int (u := .bool (decide ((l0_2.length : Int) > 48))) ?_ (hg := Gs.yes rfl rfl rfl (congrArg Bool.not hc6))
    refine a_pick (b := false) (v := vB _) ?_ (congrArg Bool.not hc6)
    refine a_move (v := vB _) ?_
    by_cases hc7 : (l0_2.length : Int) > 48
    ·rw [if_pos hc7] at H
     refine RA.skip rfl rfl rfl rfl rfl (decide_eq_true hc7) (by decide) ?_
     refine RA.skip rfl rfl rfl rfl rfl (decide_eq_true hc7) (by decide) ?_
     refine RA.skip rfl rfl rfl rfl rfl (decide_eq_true hc7) (by decide) ?_
     refine RA.skip rfl rfl rfl rfl rfl (decide_eq_true hc7) (by decide) ?_
     refine a_pick (b := true) (v := vB _) ?_ (decide_eq_true hc7)
     refine RA.nil nofun ?_
     exact CanR.mk (fun κ => cond (Nat.beq κ 203) 200 (κ)) ⟨_, (by omega), _, _, _, _, _, H, rfl⟩ ⟨rfl, rfl, trivial⟩ ⟨rfl, trivial⟩ rfl
    ·rw [if_neg hc7] at H
     refine a_faB (q := 3) ?_ D35_3 (hg := Gs.yes rfl rfl rfl (decide_eq_false hc7))
     refine a_ldB (v := vR _ _) ?_ T33 (hg := Gs.yes rfl rfl rfl (decide_eq_false hc7))
     refine a_lenR ?_ Tryz.underlying33 (hg := Gs.yes rfl rfl rfl (decide_eq_false hc7))
     refine a_int (u := .bool (decide ((l0_3.length : Int) > 24))) ?_ (hg := Gs.yes rfl rfl rfl (decide_eq_false hc7))
     refine a_pick (b := false) (v := vB _) ?_ (decide_eq_false hc7)
     refine RA.nil nofun ?_
     exact CanR.mk (fun κ => cond (Nat.beq κ 203) 200 (κ)) ⟨_, (by omega), _, _, _, _, _, H, rfl⟩ ⟨rfl, rfl, trivial⟩ ⟨rfl, trivial⟩ rfl
   ·rw [if_neg hc6] at H
    refine RA.skip rfl rfl rfl rfl rfl (congrArg Bool.not (Bool.eq_false_iff.2 hc6)) (by decide) ?_
    refine RA.skip rfl rfl rfl rfl rfl (congrArg Bool.not (Bool.eq_false_iff.2 hc6)) (by decide) ?_
    refine RA.skip rfl rfl rfl rfl rfl (congrArg Bool.not (Bool.eq_false_iff.2 hc6)) (by decide) ?_
    refine RA.skip rfl rfl rfl rfl rfl (congrArg Bool.not (Bool.eq_false_iff.2 hc6)) (by decide) ?_
    refine a_pick (b := true) (v := vB _) ?_ (congrArg Bool.not (Bool.eq_false_iff.2 hc6))
    refine a_move (v := vB _) ?_
    refine RA.skip rfl rfl rfl rfl rfl rfl (by decide) ?_
    refine RA.skip rfl rfl rfl rfl rfl rfl (by decide) ?_
    refine RA.skip rfl rfl rfl rfl rfl rfl (by decide) ?_
    refine RA.skip rfl rfl rfl rfl rfl rfl (by decide) ?_
    refine a_pick (b := true) (v := vB _) ?_ rfl
    refine RA.nil nofun ?_
    exact CanR.mk (fun κ => cond (Nat.beq κ 203) 200 (κ)) ⟨_, (by omega), _, _, _, _, _, H, rfl⟩ ⟨rfl, rfl, trivial⟩ ⟨rfl, trivial⟩ rfl
  ·rw [if_neg hc3] at H
   refine RA.skip rfl rfl rfl rfl rfl (congrArg Bool.not (Bool.eq_false_iff.2 hc3)) (by decide) ?_
   refine RA.skip rfl rfl rfl rfl rfl (congrArg Bool.not (Bool.eq_false_iff.2 hc3)) (by decide) ?_
   refine RA.skip rfl rfl rfl rfl rfl (congrArg Bool.not (Bool.eq_false_iff.2 hc3)) (by decide) ?_
   refine RA.skip rfl rfl rfl rfl rfl (congrArg Bool.not (Bool.eq_false_iff.2 hc3)) (by decide) ?_
   refine a_pick (b := true) (v := vB _) ?_ (congrArg Bool.not (Bool.eq_false_iff.2 hc3))
   refine a_move (v := vB _) ?_
   refine RA.skip rfl rfl rfl rfl rfl rfl (by decide) ?_
   refine RA.skip rfl rfl rfl rfl rfl rfl (by decide) ?_
   refine RA.skip rfl rfl rfl rfl rfl rfl (by decide) ?_
   refine RA.skip rfl rfl rfl rfl rfl rfl (by decide) ?_
   refine a_pick (b := true) (v := vB _) ?_ rfl
   refine a_move (v := vB _) ?_
   refine RA.skip rfl rfl rfl rfl rfl rfl (by decide) ?_
   refine RA.skip rfl rfl rfl rfl rfl rfl (by decide) ?_
   refine RA.skip rfl rfl rfl rfl rfl rfl (by decide) ?_
   refine RA.skip rfl rfl rfl rfl rfl rfl (by decide) ?_
   refine a_pick (b := true) (v := vB _) ?_ rfl
   refine RA.nil nofun ?_
   exact CanR.mk (fun κ => cond (Nat.beq κ 203) 200 (κ)) ⟨_, (by omega), _, _, _, _, _, H, rfl⟩ ⟨rfl, rfl, trivial⟩ ⟨rfl, trivial⟩ rfl
 ·clear H
  rintro _ ⟨k, hj0, y203_0, y203_1, y203_2, y203_3, x30, H, rfl⟩
  cases k with
  | zero => cases H
  | succ k =>
   rw [impl_ValidDrawing.j0] at H
   by_cases hc8 : x30 = true
   ·rw [if_pos hc8] at H
    refine AG.yes rfl hc8 ?_
    refine AG.seq ?_
    refine AG.region HM ?_
    refine a_move (v := vB _) ?_
    refine RA.nil nofun ?_
    refine AG.ret ?_
    obtain rfl := Option.some.inj H
    exact RetP.mk id ⟨rfl, trivial⟩ trivial rfl
   ·rw [if_neg hc8] at H
    refine AG.no rfl (Bool.eq_false_iff.2 hc8) ?_
    refine AG.skip ?_
    refine AG.seq ?_
    refine AG.seq ?_
    refine AG.region HM ?_
    refine a_faB (q := 2) ?_ D35_2
    refine a_ldB (v := vR _ _) ?_ T32
    refine a_lenR ?_ Tryz.underlying32
    refine a_move (v := vI _) ?_
    refine RA.nil nofun ?_
    refine AG.joinR (fun s => ∃ q, q ≤ k ∧ ∃ (y209_0 : Int) (y209_1 : Int) (y209_2 : List S159) (y209_3 : List S146), impl_ValidDrawing.j1 q y209_2 y209_3 = some r ∧ s = St.of [(1, .c (.ptr 209 0))] [(209, .box 35 [.d (.v (.int .i64 y209_0)), .d (.v (.int .i64 y209_1)), .d (.row 160 (y209_2.map c159)), .d (.row 152 (y209_3.map c146))])]) ?_ ?_
    ·skip
     refine AG.block ?_
     refine AG.loop ?_
     obtain ⟨K0, hK0, gK0⟩ : ∃ K, k ≤ K ∧ K ≤ k := ⟨k, Nat.le_refl k, Nat.le_refl k⟩
     refine AGr.canon (fun κ => cond (Nat.beq κ 204) 203 (κ)) (AGr.loopI (n := k) (fun k s => k ≤ K0 ∧ ∃ (y204_0 : Int) (y204_1 : Int) (y204_2 : List S159) (y204_3 : List S146) (x32 : List S159) (x33 : Int) (x34 : Int), impl_ValidDrawing.l0 k y204_0 y204_1 y204_2 y204_3 x32 x33 x34 = some r ∧ s = St.of [(1, .c (.ptr 204 0)), (32, vR 160 (x32.map c159)), (33, vI x33), (34, vI x34)] [(204, .box 35 [.d (.v (.int .i64 y204_0)), .d (.v (.int .i64 y204_1)), .d (.row 160 (y204_2.map c159)), .d (.row 152 (y204_3.map c146))])]) ⟨hK0, _, _, _, _, _, _, _, H, rfl⟩ ?_ ?_) ⟨rfl, rfl, rfl, rfl, trivial⟩ ⟨rfl, trivial⟩ rfl
     ·rintro _ ⟨_, _, _, _, _, _, _, _, H, _⟩
      cases H
     ·clear H hK0
      rintro k ih0 _ ⟨hK0, y204_0, y204_1, y204_2, y204_3, x32, x33, x34, H, rfl⟩
      unfold impl_ValidDrawing.l0 at H
      refine AG.seq ?_
      refine AG.region HM ?_
      refine a_int (u := .bool (decide (x34 < x33))) ?_
      refine RA.nil nofun ?_
      refine AG.seq ?_
      by_cases hc9 : x34 < x33
      ·rw [if_pos hc9] at H
       refine AG.yes rfl (decide_eq_true hc9) ?_
       refine AG.skip ?_
       refine AG.seq ?_
       refine AG.block ?_
       refine AG.seq ?_
       refine AG.region HM ?_
       refine a_move (v := vI _) ?_
       by_cases hc10 : 0 ≤ x34
       ·rw [if_pos hc10] at H
        by_cases hc11 : x34 < (x32.length : Int)
        ·rw [if_pos hc11] at H
         refine a_ixR (el := c159 (rd159 x32 x34)) ?_ ⟨hc10, hc11⟩ T160 Tryz.underlying32 (hel := R159 hc10 hc11)
         refine a_ldR (v := .agg [_, _]) ?_ T160
         refine a_alloc (cs := [_, _]) 205 ?_ T160
         refine a_move (v := vI _) ?_
         refine a_stB (cs' := [_, _]) ?_ T160
         refine RA.nil nofun ?_
         refine AG.seq ?_
         refine AG.region HM ?_
         refine a_faB (q := 0) ?_ D160_0
         refine a_ldB (v := vI _) ?_ T2
         refine a_faB (q := 0) ?_ D35_0
         refine a_ldB (v := vI _) ?_ T2
         obtain ⟨t12, e13, H⟩ := bindO H
         refine a_call (v := vB t12) (nk := []) (L := []) ?_ rfl (impl_within.ok e13) id (qd (qd (qd qn))) trivial trivial trivial rfl
         refine a_un (u := .bool (!t12)) ?_
         refine a_move (v := vB _) ?_
         by_cases hc14 : t12 = true
         ·rw [if_pos hc14] at H
          refine a_faB (q := 1) ?_ D160_1 (hg := Gs.yes rfl rfl rfl (congrArg Bool.not hc14))
          refine a_ldB (v := vI _) ?_ T2 (hg := Gs.yes rfl rfl rfl (congrArg Bool.not hc14))
          refine a_faB (q := 1) ?_ D35_1 (hg := Gs.yes rfl rfl rfl (congrArg Bool.not hc14))
          refine a_ldB (v := vI _) ?_ T2 (hg := Gs.yes rfl rfl rfl (congrArg Bool.not hc14))
          obtain ⟨t15, e16, H⟩ := bindO H
          refine a_call (v := vB t15) (nk := []) (L := []) ?_ rfl (impl_within.ok e16) id (qd (qd (qd qn))) trivial trivial trivial rfl (hg := Gs.yes rfl rfl rfl (congrArg Bool.not hc14))
          refine a_un (u := .bool (!t15)) ?_ (hg := Gs.yes rfl rfl rfl (congrArg Bool.not hc14))
          refine a_pick (b := false) (v := vB _) ?_ (congrArg Bool.not hc14)
          refine a_move (v := vB _) ?_
          by_cases hc17 : t15 = true
          ·rw [if_pos hc17] at H
           refine a_faB (q := 2) ?_ D35_2 (hg := Gs.yes rfl rfl rfl (congrArg Bool.not hc17))
           refine a_ldB (v := vR _ _) ?_ T32 (hg := Gs.yes rfl rfl rfl (congrArg Bool.not hc17))
           refine a_move (v := vI _) ?_ (hg := Gs.yes rfl rfl rfl (congrArg Bool.not hc17))
           by_cases hc18 : x34 ≤ (y204_2.length : Int)
           ·rw [if_pos hc18] at H
            refine a_slR (l := none) (h := some x34) (css' := (y204_2.take ((x34 : Int).toNat)).map c159) ?_ Tryz.underlying32 T160 ⟨(Int.le_refl 0), hc10, (lenM (p := fun n => x34 ≤ n) hc18)⟩ (map_take_drop _ _ _ _) (hg := Gs.yes rfl rfl rfl (congrArg Bool.not hc17))
            refine a_ldB (v := .agg [_, _]) ?_ T160 (hg := Gs.yes rfl rfl rfl (congrArg Bool.not hc17))
            obtain ⟨t19, e20, H⟩ := bindO H
            refine a_call (v := vB t19) (nk := []) (L := []) ?_ rfl (slices_Contains_impl_Point.ok e20) id (qd (qg qn)) trivial trivial trivial rfl (hg := Gs.yes rfl rfl rfl (congrArg Bool.not hc17))
            refine a_pick (b := false) (v := vB _) ?_ (congrArg Bool.not hc17)
            refine RA.nil (fun _ => by kernel_rfl) ?_
            by_cases hc21 : t19 = true
            ·rw [if_pos hc21] at H
             refine AG.yes rfl hc21 ?_
             refine AG.seq ?_
             refine AG.region HM ?_
             refine a_move (v := vB _) ?_
             refine RA.nil nofun ?_
             refine AG.ret ?_
             obtain rfl := Option.some.inj H
             exact RetP.mk id ⟨rfl, trivial⟩ trivial rfl
            ·rw [if_neg hc21] at H
             refine AG.no rfl (Bool.eq_false_iff.2 hc21) ?_
             refine AG.skip ?_
             refine AG.region HM ?_
             refine a_int (u := .int .i64 (wrap64 (x34 + 1))) ?_
             refine a_move (v := vI _) ?_
             refine RA.nil nofun ?_
             exact AGr.canon id (ih0 _ (by omega) _ ⟨by omega, _, _, _, _, _, _, _, H, rfl⟩) ⟨rfl, rfl, rfl, rfl, trivial⟩ ⟨rfl, trivial⟩ rfl
           ·rw [if_neg hc18] at H
            cases H
          ·rw [if_neg hc17] at H
           refine RA.skip rfl rfl rfl rfl rfl (congrArg Bool.not (Bool.eq_false_iff.2 hc17)) (by decide) ?_
           refine RA.skip rfl rfl rfl rfl rfl (congrArg Bool.not (Bool.eq_false_iff.2 hc17)) (by decide) ?_
           refine RA.skip rfl rfl rfl rfl rfl (congrArg Bool.not (Bool.eq_false_iff.2 hc17)) (by decide) ?_
           refine RA.skip rfl rfl rfl rfl rfl (congrArg Bool.not (Bool.eq_false_iff.2 hc17)) (by decide) ?_
           refine RA.skip rfl rfl rfl rfl rfl (congrArg Bool.not (Bool.eq_false_iff.2 hc17)) (by decide) ?_
           refine RA.skip rfl rfl rfl rfl rfl (congrArg Bool.not (Bool.eq_false_iff.2 hc17)) (by decide) ?_
           refine a_pick (b := true) (v := vB _) ?_ (congrArg Bool.not (Bool.eq_false_iff.2 hc17))
           refine RA.nil (fun _ => by kernel_rfl) ?_
           refine AG.yes rfl rfl ?_
           refine AG.seq ?_
           refine AG.region HM ?_
           refine a_move (v := vB _) ?_
           refine RA.nil nofun ?_
           refine AG.ret ?_
           obtain rfl := Option.some.inj H
           exact RetP.mk id ⟨rfl, trivial⟩ trivial rfl
         ·rw [if_neg hc14] at H
          refine RA.skip rfl rfl rfl rfl rfl (congrArg Bool.not (Bool.eq_false_iff.2 hc14)) (by decide) ?_
          refine RA.skip rfl rfl rfl rfl rfl (congrArg Bool.not (Bool.eq_false_iff.2 hc14)) (by decide) ?_
          refine RA.skip rfl rfl rfl rfl rfl (congrArg Bool.not (Bool.eq_false_iff.2 hc14)) (by decide) ?_
          refine RA.skip rfl rfl rfl rfl rfl (congrArg Bool.not (Bool.eq_false_iff.2 hc14)) (by decide) ?_
          refine RA.skip rfl rfl rfl rfl rfl (congrArg Bool.not (Bool.eq_false_iff.2 hc14)) (by decide) ?_
          refine RA.skip rfl rfl rfl rfl rfl (congrArg Bool.not (Bool.eq_false_iff.2 hc14)) (by decide) ?_
          refine a_pick (b := true) (v := vB _) ?_ (congrArg Bool.not (Bool.eq_false_iff.2 hc14))
          refine a_move (v := vB _) ?_
          refine RA.skip rfl rfl rfl rfl rfl rfl (by decide) ?_
          refine RA.skip rfl rfl rfl rfl rfl rfl (by decide) ?_
          refine RA.skip rfl rfl rfl rfl rfl rfl (by decide) ?_
          refine RA.skip rfl rfl rfl rfl rfl rfl (by decide) ?_
          refine RA.skip rfl rfl rfl rfl rfl rfl (by decide) ?_
          refine RA.skip rfl rfl rfl rfl rfl rfl (by decide) ?_
          refine a_pick (b := true) (v := vB _) ?_ rfl
          refine RA.nil (fun _ => by kernel_rfl) ?_
          refine AG.yes rfl rfl ?_
          refine AG.seq ?_
          refine AG.region HM ?_
          refine a_move (v := vB _) ?_
          refine RA.nil nofun ?_
          refine AG.ret ?_
          obtain rfl := Option.some.inj H
          exact RetP.mk id ⟨rfl, trivial⟩ trivial rfl
        ·rw [if_neg hc11] at H
         cases H
       ·rw [if_neg hc10] at H
        cases H
      ·rw [if_neg hc9] at H
       refine AG.no rfl (decide_eq_false hc9) ?_
       refine AG.exit ?_
       exact CanR.mk (fun κ => cond (Nat.beq κ 209) 204 (κ)) ⟨_, (by omega), _, _, _, _, H, rfl⟩ ⟨rfl, trivial⟩ ⟨rfl, trivial⟩ rfl
    ·clear H
     rintro _ ⟨k, hj1, y209_0, y209_1, y209_2, y209_3, H, rfl⟩
     cases k with
     | zero => cases H
     | succ k =>
      rw [impl_ValidDrawing.j1] at H
      refine AG.seq ?_
      refine AG.seq ?_
      refine AG.region HM ?_
      refine a_faB (q := 3) ?_ D35_3
      refine a_ldB (v := vR _ _) ?_ T33
      refine a_lenR ?_ Tryz.underlying33
      refine a_move (v := vI _) ?_
      refine RA.nil nofun ?_
      refine AG.block ?_
      refine AG.loop ?_
      obtain ⟨K1, hK1, gK1⟩ : ∃ K, k ≤ K ∧ K ≤ k := ⟨k, Nat.le_refl k, Nat.le_refl k⟩
      refine AGr.canon (fun κ => cond (Nat.beq κ 210) 209 (κ)) (AGr.loopI (n := k) (fun k s => k ≤ K1 ∧ ∃ (y210_0 : Int) (y210_1 : Int) (y210_2 : List S159) (y210_3 : List S146) (x63 : List S146) (x64 : Int) (x65 : Int), impl_ValidDrawing.l1 k y210_2 y210_3 x63 x64 x65 = some r ∧ s = St.of [(1, .c (.ptr 210 0)), (63, vR 152 (x63.map c146)), (64, vI x64), (65, vI x65)] [(210, .box 35 [.d (.v (.int .i64 y210_0)), .d (.v (.int .i64 y210_1)), .d (.row 160 (y210_2.map c159)), .d (.row 152 (y210_3.map c146))])]) ⟨hK1, _, _, _, _, _, _, _, H, rfl⟩ ?_ ?_) ⟨rfl, rfl, rfl, rfl, trivial⟩ ⟨rfl, trivial⟩ rfl
      ·rintro _ ⟨_, _, _, _, _, _, _, _, H, _⟩
       cases H
      ·clear H hK1
       rintro k ih1 _ ⟨hK1, y210_0, y210_1, y210_2, y210_3, x63, x64, x65, H, rfl⟩
       unfold impl_ValidDrawing.l1 at H
       refine AG.seq ?_
       refine AG.region HM ?_
       refine a_int (u := .bool (decide (x65 < x64))) ?_
       refine RA.nil nofun ?_
       refine AG.seq ?_
       by_cases hc22 : x65 < x64
       ·rw [if_pos hc22] at H
        refine AG.yes rfl (decide_eq_true hc22) ?_
        refine AG.skip ?_
        refine AG.seq ?_
        refine AG.block ?_
        refine AG.seq ?_
        refine AG.region HM ?_
        refine a_move (v := vI _) ?_
        by_cases hc23 : 0 ≤ x65
        ·rw [if_pos hc23] at H
         by_cases hc24 : x65 < (x63.length : Int)
         ·rw [if_pos hc24] at H
          refine a_ixR (el := c146 (rd146 x63 x65)) ?_ ⟨hc23, hc24⟩ T152 Tryz.underlying33 (hel := R146 hc23 hc24)
          refine a_ldR (v := .agg [_, _]) ?_ T152
          refine a_alloc (cs := [_, _]) 211 ?_ T152
          refine a_move (v := vI _) ?_
          refine a_stB (cs' := [_, _]) ?_ T152
          refine RA.nil nofun ?_
          refine AG.seq ?_
          refine AG.seq ?_
          refine AG.joinR (fun s => ∃ q, q ≤ k ∧ ∃ (y213_0 : Int) (y213_1 : Int) (y213_2 : List S159) (y213_3 : List S146) (y214_0 : ByteArray) (y214_1 : List Int) (x63 : List S146) (x64 : Int) (x65 : Int) (x89 : Bool), impl_ValidDrawing.j2 q y213_2 y213_3 y214_1 x63 x64 x65 x89 = some r ∧ s = St.of [(1, .c (.ptr 213 0)), (6, .c (.ptr 214 0)), (63, vR 152 (x63.map c146)), (64, vI x64), (65, vI x65), (89, vB x89)] [(213, .box 35 [.d (.v (.int .i64 y213_0)), .d (.v (.int .i64 y213_1)), .d (.row 160 (y213_2.map c159)), .d (.row 152 (y213_3.map c146))]), (214, .box 152 [.d (.v (.string y214_0)), .d (.row 2 (y214_1.map c2))])]) ?_ ?_
          ·skip
           refine AG.region HM ?_
           refine a_faB (q := 0) ?_ D152_0
           refine a_ldB (v := vS _) ?_ T9
           obtain ⟨t25, e26, H⟩ := bindO H
           refine a_call (v := vB t25) (nk := []) (L := []) ?_ rfl (impl_IsName.ok e26) id (qd qn) trivial trivial trivial rfl
           refine a_un (u := .bool (!t25)) ?_
           refine a_move (v := vB _) ?_
           by_cases hc27 : t25 = true
           ·rw [if_pos hc27] at H
            refine a_move (v := vI _) ?_ (hg := Gs.yes rfl rfl rfl (congrArg Bool.not hc27))
            refine a_int (u := .bool (decide (x65 > 0))) ?_ (hg := Gs.yes rfl rfl rfl (congrArg Bool.not hc27))
            refine a_move (v := vB _) ?_ (hg := Gs.yes rfl rfl rfl (congrArg Bool.not hc27))
            by_cases hc28 : x65 > 0
            ·rw [if_pos hc28] at H
             refine a_faB (q := 3) ?_ D35_3 (hg := Gs.yes rfl rfl rfl (decide_eq_true hc28))
             refine a_ldB (v := vR _ _) ?_ T33 (hg := Gs.yes rfl rfl rfl (decide_eq_true hc28))
             refine a_move (v := vI _) ?_ (hg := Gs.yes rfl rfl rfl (decide_eq_true hc28))
             refine a_int (u := .int .i64 (wrap64 (x65 - 1))) ?_ (hg := Gs.yes rfl rfl rfl (decide_eq_true hc28))
             by_cases hc29 : 0 ≤ (wrap64 (x65 - 1))
             ·rw [if_pos hc29] at H
              by_cases hc30 : (wrap64 (x65 - 1)) < (y210_3.length : Int)
              ·rw [if_pos hc30] at H
               refine a_ixR (el := c146 (rd146 y210_3 (wrap64 (x65 - 1)))) ?_ ⟨hc29, hc30⟩ T152 Tryz.underlying33 (hel := R146 hc29 hc30) (hg := Gs.yes rfl rfl rfl (decide_eq_true hc28))
               refine a_faR (cells' := [_, _]) ?_ D152_0 (hg := Gs.yes rfl rfl rfl (decide_eq_true hc28))
               refine a_ldR (v := vS _) ?_ T9 (hg := Gs.yes rfl rfl rfl (decide_eq_true hc28))
               refine a_faB (q := 0) ?_ D152_0 (hg := Gs.yes rfl rfl rfl (decide_eq_true hc28))
               refine a_ldB (v := vS _) ?_ T9 (hg := Gs.yes rfl rfl rfl (decide_eq_true hc28))
               refine a_bin (u := .bool (!(Op.bytesLess (((rd146 y210_3 (wrap64 (x65 - 1))).f0).toList) (((rd146 x63 x65).f0).toList)))) ?_ (hg := Gs.yes rfl rfl rfl (decide_eq_true hc28))
               refine a_pick (b := true) (v := vB _) ?_ (decide_eq_true hc28) (hg := Gs.yes rfl rfl rfl (congrArg Bool.not hc27))
               refine a_pick (b := false) (v := vB _) ?_ (congrArg Bool.not hc27)
               refine RA.nil (fun _ => by kernel_rfl) ?_
               exact CanR.mk (fun κ => cond (Nat.beq κ 213) 210 (cond (Nat.beq κ 214) 211 (κ))) ⟨_, (by omega), _, _, _, _, _, _, _, _, _, _, H, rfl⟩ ⟨rfl, rfl, rfl, rfl, rfl, rfl, trivial⟩ ⟨rfl, rfl, trivial⟩ rfl
              ·rw [if_neg hc30] at H
               cases H
             ·rw [if_neg hc29] at H
              cases H
            ·rw [if_neg hc28] at H
             refine RA.skip rfl rfl rfl rfl rfl (decide_eq_false hc28) (by decide) ?_
             refine RA.skip rfl rfl rfl rfl rfl (decide_eq_false hc28) (by decide) ?_
             refine RA.skip rfl rfl rfl rfl rfl (decide_eq_false hc28) (by decide) ?_
             refine RA.skip rfl rfl rfl rfl rfl (decide_eq_false hc28) (by decide) ?_
             refine RA.skip rfl rfl rfl rfl rfl (decide_eq_false hc28) (by decide) ?_
             refine RA.skip rfl rfl rfl rfl rfl (decide_eq_false hc28) (by decide) ?_
             refine RA.skip rfl rfl rfl rfl rfl (decide_eq_false hc28) (by decide) ?_
             refine RA.skip rfl rfl rfl rfl rfl (decide_eq_false hc28) (by decide) ?_
             refine RA.skip rfl rfl rfl rfl rfl (decide_eq_false hc28) (by decide) ?_
             refine RA.skip rfl rfl rfl rfl rfl (decide_eq_false hc28) (by decide) ?_
             refine a_pick (b := false) (v := vB _) ?_ (decide_eq_false hc28) (hg := Gs.yes rfl rfl rfl (congrArg Bool.not hc27))
             refine a_pick (b := false) (v := vB _) ?_ (congrArg Bool.not hc27)
             refine RA.nil (fun _ => by kernel_rfl) ?_
             exact CanR.mk (fun κ => cond (Nat.beq κ 213) 210 (cond (Nat.beq κ 214) 211 (κ))) ⟨_, (by omega), _, _, _, _, _, _, _, _, _, _, H, rfl⟩ ⟨rfl, rfl, rfl, rfl, rfl, rfl, trivial⟩ ⟨rfl, rfl, trivial⟩ rfl
           ·rw [if_neg hc27] at H
            refine RA.skip rfl rfl rfl rfl rfl (congrArg Bool.not (Bool.eq_false_iff.2 hc27)) (by decide) ?_
            refine RA.skip rfl rfl rfl rfl rfl (congrArg Bool.not (Bool.eq_false_iff.2 hc27)) (by decide) ?_
            refine RA.skip rfl rfl rfl rfl rfl (congrArg Bool.not (Bool.eq_false_iff.2 hc27)) (by decide) ?_
            refine RA.skip0 rfl rfl rfl rfl rfl ?_
            refine RA.skip0 rfl rfl rfl rfl rfl ?_
            refine RA.skip0 rfl rfl rfl rfl rfl ?_
            refine RA.skip0 rfl rfl rfl rfl rfl ?_
            refine RA.skip0 rfl rfl rfl rfl rfl ?_
            refine RA.skip0 rfl rfl rfl rfl rfl ?_
            refine RA.skip0 rfl rfl rfl rfl rfl ?_
            refine RA.skip0 rfl rfl rfl rfl rfl ?_
            refine RA.skip0 rfl rfl rfl rfl rfl ?_
            refine RA.skip0 rfl rfl rfl rfl rfl ?_
            refine RA.skip rfl rfl rfl rfl rfl (congrArg Bool.not (Bool.eq_false_iff.2 hc27)) (by decide) ?_
            refine a_pick (b := true) (v := vB _) ?_ (congrArg Bool.not (Bool.eq_false_iff.2 hc27))
            refine RA.nil (fun _ => by kernel_rfl) ?_
            exact CanR.mk (fun κ => cond (Nat.beq κ 213) 210 (cond (Nat.beq κ 214) 211 (κ))) ⟨_, (by omega), _, _, _, _, _, _, _, _, _, _, H, rfl⟩ ⟨rfl, rfl, rfl, rfl, rfl, rfl, trivial⟩ ⟨rfl, rfl, trivial⟩ rfl
          ·clear H
           rintro _ ⟨k, hj2, y213_0, y213_1, y213_2, y213_3, y214_0, y214_1, x63, x64, x65, x89, H, rfl⟩
           cases k with
           | zero => cases H
           | succ k =>
            rw [impl_ValidDrawing.j2] at H
            by_cases hc31 : x89 = true
            ·rw [if_pos hc31] at H
             refine AG.yes rfl hc31 ?_
             refine AG.seq ?_
             refine AG.region HM ?_
             refine a_move (v := vB _) ?_
             refine RA.nil nofun ?_
             refine AG.ret ?_
             obtain rfl := Option.some.inj H
             exact RetP.mk id ⟨rfl, trivial⟩ trivial rfl
            ·rw [if_neg hc31] at H
             refine AG.no rfl (Bool.eq_false_iff.2 hc31) ?_
             refine AG.skip ?_
             refine AG.seq ?_
             refine AG.region HM ?_
             refine a_faB (q := 2) ?_ D35_2
             refine a_ldB (v := vR _ _) ?_ T32
             refine a_faB (q := 1) ?_ D152_1
             refine a_ldB (v := vR _ _) ?_ T29
             obtain ⟨⟨t32, t33⟩, e34, H⟩ := bindO H
             refine a_call (v := .tup [.c (.own 215 t32.length), .c (.d (.v (.bool t33)))]) (nk := [(215, .row 160 (t32.map c159))]) (L := []) ?_ rfl (impl_ringPolygon.ok e34) (fun κ => cond (Nat.beq κ 215) 100 (κ)) (qd (qd qn)) trivial ⟨rfl, trivial⟩ ⟨rfl, trivial⟩ rfl
             refine a_move (v := .tup [_, _]) ?_
             refine a_ext (v := .c (.own _ _)) ?_
             refine a_ext (v := vB _) ?_
             refine a_move (v := .c (.own _ _)) ?_
             refine a_move (v := vB _) ?_
             refine RA.nil nofun ?_
             refine AG.seq ?_
             refine AG.region HM ?_
             refine a_move (v := vB _) ?_
             refine a_un (u := .bool (!t33)) ?_
             refine a_move (v := vB _) ?_
             by_cases hc35 : t33 = true
             ·rw [if_pos hc35] at H
              refine a_move (v := .c (.own _ _)) ?_ (hg := Gs.yes rfl rfl rfl (congrArg Bool.not hc35))
              obtain ⟨t36, e37, H⟩ := bindO H
              refine a_call (v := vB t36) (nk := []) (L := [(215, _)]) ?_ rfl (impl_ValidPolygon.ok e37) id (qc rO qn) ⟨rfl, trivial⟩ trivial trivial rfl (hg := Gs.yes rfl rfl rfl (congrArg Bool.not hc35))
              refine a_un (u := .bool (!t36)) ?_ (hg := Gs.yes rfl rfl rfl (congrArg Bool.not hc35))
              refine a_pick (b := false) (v := vB _) ?_ (congrArg Bool.not hc35)
              refine RA.nil nofun ?_
              by_cases hc38 : t36 = true
              ·rw [if_pos hc38] at H
               refine AG.no rfl (congrArg Bool.not hc38) ?_
               refine AG.skip ?_
               refine AG.region HM ?_
               refine a_int (u := .int .i64 (wrap64 (x65 + 1))) ?_
               refine a_move (v := vI _) ?_
               refine RA.nil nofun ?_
               exact AGr.canon (fun κ => cond (Nat.beq κ 210) 213 (κ)) (ih1 _ (by omega) _ ⟨by omega, _, _, _, _, _, _, _, H, rfl⟩) ⟨rfl, rfl, rfl, rfl, trivial⟩ ⟨rfl, trivial⟩ rfl
              ·rw [if_neg hc38] at H
               refine AG.yes rfl (congrArg Bool.not (Bool.eq_false_iff.2 hc38)) ?_
               refine AG.seq ?_
               refine AG.region HM ?_
               refine a_move (v := vB _) ?_
               refine RA.nil nofun ?_
               refine AG.ret ?_
               obtain rfl := Option.some.inj H
               exact RetP.mk id ⟨rfl, trivial⟩ trivial rfl
             ·rw [if_neg hc35] at H
              refine RA.skip rfl rfl rfl rfl rfl (congrArg Bool.not (Bool.eq_false_iff.2 hc35)) (by decide) ?_
              refine RA.skip rfl rfl rfl rfl rfl (congrArg Bool.not (Bool.eq_false_iff.2 hc35)) (by decide) ?_
              refine RA.skip rfl rfl rfl rfl rfl (congrArg Bool.not (Bool.eq_false_iff.2 hc35)) (by decide) ?_
              refine a_pick (b := true) (v := vB _) ?_ (congrArg Bool.not (Bool.eq_false_iff.2 hc35))
              refine RA.nil nofun ?_
              refine AG.yes rfl rfl ?_
              refine AG.seq ?_
              refine AG.region HM ?_
              refine a_move (v := vB _) ?_
              refine RA.nil nofun ?_
              refine AG.ret ?_
              obtain rfl := Option.some.inj H
              exact RetP.mk id ⟨rfl, trivial⟩ trivial rfl
         ·rw [if_neg hc24] at H
          cases H
        ·rw [if_neg hc23] at H
         cases H
       ·rw [if_neg hc22] at H
        refine AG.no rfl (decide_eq_false hc22) ?_
        refine AG.exit ?_
        refine AG.seq ?_
        refine AG.region HM ?_
        refine a_move (v := vB _) ?_
        refine RA.nil nofun ?_
        refine AG.ret ?_
        obtain rfl := Option.some.inj H
        exact RetP.mk id ⟨rfl, trivial⟩ trivial rfl
/-! ### impl_validVeneers_1: function 180 -/
def impl_validVeneers_1.f (a0_0 : ByteArray) (a0_1 : Int) (a0_2 : Int) : Option (Bool) := (impl_ValidVeneer.f a0_0 a0_1 a0_2).bind fun t1 => (some (!t1))
set_option maxRecDepth 100000 in
theorem impl_validVeneers_1.ok {a0_0 : ByteArray} {a0_1 : Int} {a0_2 : Int} {r : Bool} (H : impl_validVeneers_1.f a0_0 a0_1 a0_2 = some r) : OkF Tryz.prog 180 [.agg [.d (.v (.string a0_0)), .d (.v (.int .i64 a0_1)), .d (.v (.int .i64 a0_2))]] [] (.c (.d (.v (.bool r)))) [] := by
 unfold impl_validVeneers_1.f at H
 refine OkF.of (N := 6) (rs := [2]) (avs := [.c (.d (.v (.bool r)))]) Tryz.func180 rfl rfl (fun _ _ => results_tmp rfl _ _ _) (by decide) rfl rfl rfl rfl (fun w0 S => ?_)
 refine AG.seq ?_
 refine AG.region HM ?_
 refine a_box 200 ?_
 refine a_move (v := vB _) ?_
 refine RA.nil nofun ?_
 refine AG.seq ?_
 refine AG.region HM ?_
 refine a_ldB (v := .agg [_, _, _]) ?_ T92
 obtain ⟨t1, e2, H⟩ := bindO H
 refine a_call (v := vB t1) (nk := []) (L := []) ?_ rfl (impl_ValidVeneer.ok e2) id (qg qn) trivial trivial trivial rfl
 refine a_un (u := .bool (!t1)) ?_
 refine a_move (v := vB _) ?_
 refine RA.nil nofun ?_
 refine AG.ret ?_
 obtain rfl := Option.some.inj H
 exact RetP.mk id ⟨rfl, trivial⟩ trivial rfl
/-! ### slices_IndexFunc_impl_Veneer__impl_validVeneers_1: function 216 -/
def slices_IndexFunc_impl_Veneer__impl_validVeneers_1.l0 : Nat → List S81 → Int → Int → Option (Int)
 | 0, _, _, _ => none
 | k + 1, x0, x7, x8 => if x8 < x7 then (if 0 ≤ x8 then (if x8 < (x0.length : Int) then ((impl_validVeneers_1.f ((rd81 x0 x8).f0) ((rd81 x0 x8).f1) ((rd81 x0 x8).f2)).bind fun t4 => (if t4 = true then (some x8) else (slices_IndexFunc_impl_Veneer__impl_validVeneers_1.l0 k x0 x7 (wrap64 (x8 + 1))))) else (none)) else (none)) else (some (-1))
def slices_IndexFunc_impl_Veneer__impl_validVeneers_1.f (k : Nat) (l0 : List S81) : Option (Int) := slices_IndexFunc_impl_Veneer__impl_validVeneers_1.l0 k l0 (l0.length : Int) 0
set_option maxRecDepth 100000 in
theorem slices_IndexFunc_impl_Veneer__impl_validVeneers_1.ok {k : Nat} {l0 : List S81} {r : Int} (H : slices_IndexFunc_impl_Veneer__impl_validVeneers_1.f k l0 = some r) : OkF Tryz.prog 216 [vR 92 (l0.map c81), .c (.d (.fn 180 []))] [] (.c (.d (.v (.int .i64 r)))) [] := by
 unfold slices_IndexFunc_impl_Veneer__impl_validVeneers_1.f at H
 refine OkF.of (N := 19) (rs := [4]) (avs := [.c (.d (.v (.int .i64 r)))]) Tryz.func216 rfl rfl (fun _ _ => results_tmp rfl _ _ _) (by decide) rfl rfl rfl rfl (fun w0 S => ?_)
 refine AG.seq ?_
 refine AG.region HM ?_
 refine a_move (v := vI _) ?_
 refine RA.nil nofun ?_
 refine AG.seq ?_
 refine AG.seq ?_
 refine AG.region HM ?_
 refine a_move (v := vR _ _) ?_
 refine a_lenR ?_ Tryz.underlying56
 refine a_move (v := vI _) ?_
 refine RA.nil nofun ?_
 refine AG.block ?_
 refine AG.loop ?_
 obtain ⟨K0, hK0, gK0⟩ : ∃ K, k ≤ K ∧ K ≤ k := ⟨k, Nat.le_refl k, Nat.le_refl k⟩
 refine AGr.canon id (AGr.loopI (n := k) (fun k s => k ≤ K0 ∧ ∃ (x0 : List S81) (x7 : Int) (x8 : Int), slices_IndexFunc_impl_Veneer__impl_validVeneers_1.l0 k x0 x7 x8 = some r ∧ s = St.of [(0, vR 92 (x0.map c81)), (1, .c (.d (.fn 180 []))), (7, vI x7), (8, vI x8)] []) ⟨hK0, _, _, _, H, rfl⟩ ?_ ?_) ⟨rfl, rfl, rfl, rfl, trivial⟩ trivial rfl
 ·rintro _ ⟨_, _, _, _, H, _⟩
  cases H
 ·clear H hK0
  rintro k ih0 _ ⟨hK0, x0, x7, x8, H, rfl⟩
  unfold slices_IndexFunc_impl_Veneer__impl_validVeneers_1.l0 at H
  refine AG.seq ?_
  refine AG.region HM ?_
  refine a_int (u := .bool (decide (x8 < x7))) ?_
  refine RA.nil nofun ?_
  refine AG.seq ?_
  by_cases hc1 : x8 < x7
  ·rw [if_pos hc1] at H
   refine AG.yes rfl (decide_eq_true hc1) ?_
   refine AG.skip ?_
   refine AG.seq ?_
   refine AG.block ?_
   refine AG.seq ?_
   refine AG.region HM ?_
   refine a_move (v := vI _) ?_
   refine a_move (v := vI _) ?_
   refine RA.nil nofun ?_
   refine AG.seq ?_
   refine AG.region HM ?_
   refine a_move (v := .c (.d (.fn _ _))) ?_
   refine a_move (v := vR _ _) ?_
   refine a_move (v := vI _) ?_
   by_cases hc2 : 0 ≤ x8
   ·rw [if_pos hc2] at H
    by_cases hc3 : x8 < (x0.length : Int)
    ·rw [if_pos hc3] at H
     refine a_ixR (el := c81 (rd81 x0 x8)) ?_ ⟨hc2, hc3⟩ T92 Tryz.underlying56 (hel := R81 hc2 hc3)
     refine a_ldR (v := .agg [_, _, _]) ?_ T92
     obtain ⟨t4, e5, H⟩ := bindO H
     refine a_callV (v := vB t4) (nk := []) (L := []) ?_ rfl (impl_validVeneers_1.ok e5) id (qg qn) trivial trivial trivial rfl
     refine RA.nil nofun ?_
     by_cases hc6 : t4 = true
     ·rw [if_pos hc6] at H
      refine AG.yes rfl hc6 ?_
      refine AG.seq ?_
      refine AG.region HM ?_
      refine a_move (v := vI _) ?_
      refine a_move (v := vI _) ?_
      refine RA.nil nofun ?_
      refine AG.ret ?_
      obtain rfl := Option.some.inj H
      exact RetP.mk id ⟨rfl, trivial⟩ trivial rfl
     ·rw [if_neg hc6] at H
      refine AG.no rfl (Bool.eq_false_iff.2 hc6) ?_
      refine AG.skip ?_
      refine AG.region HM ?_
      refine a_int (u := .int .i64 (wrap64 (x8 + 1))) ?_
      refine a_move (v := vI _) ?_
      refine RA.nil nofun ?_
      exact AGr.canon id (ih0 _ (by omega) _ ⟨by omega, _, _, _, H, rfl⟩) ⟨rfl, rfl, rfl, rfl, trivial⟩ trivial rfl
    ·rw [if_neg hc3] at H
     cases H
   ·rw [if_neg hc2] at H
    cases H
  ·rw [if_neg hc1] at H
   refine AG.no rfl (decide_eq_false hc1) ?_
   refine AG.exit ?_
   refine AG.seq ?_
   refine AG.region HM ?_
   refine a_move (v := vI _) ?_
   refine RA.nil nofun ?_
   refine AG.ret ?_
   obtain rfl := Option.some.inj H
   exact RetP.mk id ⟨rfl, trivial⟩ trivial rfl
/-! ### slices_ContainsFunc_impl_Veneer__impl_validVeneers_1: function 179 -/
def slices_ContainsFunc_impl_Veneer__impl_validVeneers_1.f (k : Nat) (l0 : List S81) : Option (Bool) := (slices_IndexFunc_impl_Veneer__impl_validVeneers_1.f k l0).bind fun t1 => (some (decide (t1 ≥ 0)))
set_option maxRecDepth 100000 in
theorem slices_ContainsFunc_impl_Veneer__impl_validVeneers_1.ok {k : Nat} {l0 : List S81} {r : Bool} (H : slices_ContainsFunc_impl_Veneer__impl_validVeneers_1.f k l0 = some r) : OkF Tryz.prog 179 [vR 92 (l0.map c81), .c (.d (.fn 180 []))] [] (.c (.d (.v (.bool r)))) [] := by
 unfold slices_ContainsFunc_impl_Veneer__impl_validVeneers_1.f at H
 refine OkF.of (N := 9) (rs := [4]) (avs := [.c (.d (.v (.bool r)))]) Tryz.func179 rfl rfl (fun _ _ => results_tmp rfl _ _ _) (by decide) rfl rfl rfl rfl (fun w0 S => ?_)
 refine AG.seq ?_
 refine AG.region HM ?_
 refine a_move (v := vB _) ?_
 refine RA.nil nofun ?_
 refine AG.seq ?_
 refine AG.region HM ?_
 refine a_move (v := vR _ _) ?_
 refine a_move (v := .c (.d (.fn _ _))) ?_
 obtain ⟨t1, e2, H⟩ := bindO H
 refine a_call (v := vI t1) (nk := []) (L := []) ?_ rfl (slices_IndexFunc_impl_Veneer__impl_validVeneers_1.ok e2) id (qd (qd qn)) trivial trivial trivial rfl
 refine a_int (u := .bool (decide (t1 ≥ 0))) ?_
 refine a_move (v := vB _) ?_
 refine RA.nil nofun ?_
 refine AG.ret ?_
 obtain rfl := Option.some.inj H
 exact RetP.mk id ⟨rfl, trivial⟩ trivial rfl
/-! ### impl_validVeneers: function 134 -/
def impl_validVeneers.f (k : Nat) (l0 : List S81) : Option (Bool) := (slices_ContainsFunc_impl_Veneer__impl_validVeneers_1.f k l0).bind fun t1 => (some (!t1))
set_option maxRecDepth 100000 in
theorem impl_validVeneers.ok {k : Nat} {l0 : List S81} {r : Bool} (H : impl_validVeneers.f k l0 = some r) : OkF Tryz.prog 134 [vR 92 (l0.map c81)] [] (.c (.d (.v (.bool r)))) [] := by
 unfold impl_validVeneers.f at H
 refine OkF.of (N := 6) (rs := [2]) (avs := [.c (.d (.v (.bool r)))]) Tryz.func134 rfl rfl (fun _ _ => results_tmp rfl _ _ _) (by decide) rfl rfl rfl rfl (fun w0 S => ?_)
 refine AG.seq ?_
 refine AG.region HM ?_
 refine a_move (v := vB _) ?_
 refine RA.nil nofun ?_
 refine AG.seq ?_
 refine AG.region HM ?_
 refine a_move (v := vR _ _) ?_
 obtain ⟨t1, e2, H⟩ := bindO H
 refine a_call (v := vB t1) (nk := []) (L := []) ?_ rfl (slices_ContainsFunc_impl_Veneer__impl_validVeneers_1.ok e2) id (qd (qd qn)) trivial trivial trivial rfl
 refine a_un (u := .bool (!t1)) ?_
 refine a_move (v := vB _) ?_
 refine RA.nil nofun ?_
 refine AG.ret ?_
 obtain rfl := Option.some.inj H
 exact RetP.mk id ⟨rfl, trivial⟩ trivial rfl
/-! ### impl_ValidPicture: function 76 -/
def impl_ValidPicture.f (k : Nat) (a0_0 : Int) (a0_1 : Int) (l0_2 : List S159) (l0_3 : List S146) (l0_4 : List S81) : Option (Bool) := (impl_ValidDrawing.f k a0_0 a0_1 l0_2 l0_3).bind fun t1 => (if t1 = true then (if (l0_4.length : Int) = (l0_3.length : Int) then ((impl_validVeneers.f k l0_4).bind fun t5 => (some t5)) else (some false)) else (some false))
set_option maxRecDepth 100000 in
theorem impl_ValidPicture.ok {k : Nat} {a0_0 : Int} {a0_1 : Int} {l0_2 : List S159} {l0_3 : List S146} {l0_4 : List S81} {r : Bool} (H : impl_ValidPicture.f k a0_0 a0_1 l0_2 l0_3 l0_4 = some r) : OkF Tryz.prog 76 [.agg [.d (.v (.int .i64 a0_0)), .d (.v (.int .i64 a0_1)), .d (.row 160 (l0_2.map c159)), .d (.row 152 (l0_3.map c146)), .d (.row 92 (l0_4.map c81))]] [] (.c (.d (.v (.bool r)))) [] := by
 unfold impl_ValidPicture.f at H
 refine OkF.of (N := 21) (rs := [2]) (avs := [.c (.d (.v (.bool r)))]) Tryz.func76 rfl rfl (fun _ _ => results_tmp rfl _ _ _) (by decide) rfl rfl rfl rfl (fun w0 S => ?_)
 refine AG.seq ?_
 refine AG.region HM ?_
 refine a_box 200 ?_
 refine a_move (v := vB _) ?_
 refine RA.nil nofun ?_
 refine AG.seq ?_
 refine AG.region HM ?_
 refine a_faB (q := 0) ?_ D58_0
 refine a_ldB (v := .agg [_, _, _, _]) ?_ T35
 obtain ⟨t1, e2, H⟩ := bindO H
 refine a_call (v := vB t1) (nk := []) (L := []) ?_ rfl (impl_ValidDrawing.ok e2) id (qg qn) trivial trivial trivial rfl
 refine a_move (v := vB _) ?_
 by_cases hc3 : t1 = true
 ·rw [if_pos hc3] at H
  refine a_faB (q := 4) ?_ D58_1 (hg := Gs.yes rfl rfl rfl hc3)
  refine a_ldB (v := vR _ _) ?_ T56 (hg := Gs.yes rfl rfl rfl hc3)
  refine a_lenR ?_ Tryz.underlying56 (hg := Gs.yes rfl rfl rfl hc3)
  refine a_faB (q := 0) ?_ D58_0 (hg := Gs.yes rfl rfl rfl hc3)
  refine a_faB (q := 3) ?_ D35_3 (hg := Gs.yes rfl rfl rfl hc3)
  refine a_ldB (v := vR _ _) ?_ T33 (hg := Gs.yes rfl rfl rfl hc3)
  refine a_lenR ?_ Tryz.underlying33 (hg := Gs.yes rfl rfl rfl hc3)
  refine a_int (u := .bool (((l0_4.length : Int) == (l0_3.length : Int)))) ?_ (hg := Gs.yes rfl rfl rfl hc3)
  refine a_pick (b := true) (v := vB _) ?_ hc3
  refine a_move (v := vB _) ?_
  by_cases hc4 : (l0_4.length : Int) = (l0_3.length : Int)
  ·rw [if_pos hc4] at H
   refine a_faB (q := 4) ?_ D58_1 (hg := Gs.yes rfl rfl rfl (beq_iff_eq.2 hc4))
   refine a_ldB (v := vR _ _) ?_ T56 (hg := Gs.yes rfl rfl rfl (beq_iff_eq.2 hc4))
   obtain ⟨t5, e6, H⟩ := bindO H
   refine a_call (v := vB t5) (nk := []) (L := []) ?_ rfl (impl_validVeneers.ok e6) id (qd qn) trivial trivial trivial rfl (hg := Gs.yes rfl rfl rfl (beq_iff_eq.2 hc4))
   refine a_pick (b := true) (v := vB _) ?_ (beq_iff_eq.2 hc4)
   refine a_move (v := vB _) ?_
   refine RA.nil nofun ?_
   refine AG.ret ?_
   obtain rfl := Option.some.inj H
   exact RetP.mk id ⟨rfl, trivial⟩ trivial rfl
  ·rw [if_neg hc4] at H
   refine RA.skip rfl rfl rfl rfl rfl (beq_eq_false_iff_ne.2 hc4) (by decide) ?_
   refine RA.skip rfl rfl rfl rfl rfl (beq_eq_false_iff_ne.2 hc4) (by decide) ?_
   refine RA.skip rfl rfl rfl rfl rfl (beq_eq_false_iff_ne.2 hc4) (by decide) ?_
   refine a_pick (b := false) (v := vB _) ?_ (beq_eq_false_iff_ne.2 hc4)
   refine a_move (v := vB _) ?_
   refine RA.nil nofun ?_
   refine AG.ret ?_
   obtain rfl := Option.some.inj H
   exact RetP.mk id ⟨rfl, trivial⟩ trivial rfl
 ·rw [if_neg hc3] at H
  refine RA.skip rfl rfl rfl rfl rfl (Bool.eq_false_iff.2 hc3) (by decide) ?_
  refine RA.skip rfl rfl rfl rfl rfl (Bool.eq_false_iff.2 hc3) (by decide) ?_
  refine RA.skip rfl rfl rfl rfl rfl (Bool.eq_false_iff.2 hc3) (by decide) ?_
  refine RA.skip rfl rfl rfl rfl rfl (Bool.eq_false_iff.2 hc3) (by decide) ?_
  refine RA.skip rfl rfl rfl rfl rfl (Bool.eq_false_iff.2 hc3) (by decide) ?_
  refine RA.skip rfl rfl rfl rfl rfl (Bool.eq_false_iff.2 hc3) (by decide) ?_
  refine RA.skip rfl rfl rfl rfl rfl (Bool.eq_false_iff.2 hc3) (by decide) ?_
  refine RA.skip rfl rfl rfl rfl rfl (Bool.eq_false_iff.2 hc3) (by decide) ?_
  refine a_pick (b := false) (v := vB _) ?_ (Bool.eq_false_iff.2 hc3)
  refine a_move (v := vB _) ?_
  refine RA.skip rfl rfl rfl rfl rfl rfl (by decide) ?_
  refine RA.skip rfl rfl rfl rfl rfl rfl (by decide) ?_
  refine RA.skip rfl rfl rfl rfl rfl rfl (by decide) ?_
  refine a_pick (b := false) (v := vB _) ?_ rfl
  refine a_move (v := vB _) ?_
  refine RA.nil nofun ?_
  refine AG.ret ?_
  obtain rfl := Option.some.inj H
  exact RetP.mk id ⟨rfl, trivial⟩ trivial rfl
/-! ### impl_validPlacement: function 135 -/
def impl_validPlacement.f (a0_0 : Int) (a0_1 : Int) (a0_2 : Int) (a0_3 : Int) (a0_4 : Int) : Option (Bool) := (impl_within.f a0_0 0 23).bind fun t1 => (if t1 = true then ((impl_within.f a0_1 0 15).bind fun t4 => (if t4 = true then ((impl_within.f a0_2 0 20000).bind fun t7 => (if t7 = true then ((impl_within.f a0_3 0 20000).bind fun t10 => (if t10 = true then ((impl_within.f a0_4 0 7).bind fun t13 => (some t13)) else (some false))) else (some false))) else (some false))) else (some false))
set_option maxRecDepth 100000 in
theorem impl_validPlacement.ok {a0_0 : Int} {a0_1 : Int} {a0_2 : Int} {a0_3 : Int} {a0_4 : Int} {r : Bool} (H : impl_validPlacement.f a0_0 a0_1 a0_2 a0_3 a0_4 = some r) : OkF Tryz.prog 135 [.agg [.d (.v (.int .i64 a0_0)), .d (.v (.int .i64 a0_1)), .d (.v (.int .i64 a0_2)), .d (.v (.int .i64 a0_3)), .d (.v (.int .i64 a0_4))]] [] (.c (.d (.v (.bool r)))) [] := by
 unfold impl_validPlacement.f at H
 refine OkF.of (N := 26) (rs := [2]) (avs := [.c (.d (.v (.bool r)))]) Tryz.func135 rfl rfl (fun _ _ => results_tmp rfl _ _ _) (by decide) rfl rfl rfl rfl (fun w0 S => ?_)
 refine AG.seq ?_
 refine AG.region HM ?_
 refine a_box 200 ?_
 refine a_move (v := vB _) ?_
 refine RA.nil nofun ?_
 refine AG.seq ?_
 refine AG.region HM ?_
 refine a_faB (q := 0) ?_ D116_0
 refine a_ldB (v := vI _) ?_ T2
 obtain ⟨t1, e2, H⟩ := bindO H
 refine a_call (v := vB t1) (nk := []) (L := []) ?_ rfl (impl_within.ok e2) id (qd (qd (qd qn))) trivial trivial trivial rfl
 refine a_move (v := vB _) ?_
 by_cases hc3 : t1 = true
 ·rw [if_pos hc3] at H
  refine a_faB (q := 1) ?_ D116_1 (hg := Gs.yes rfl rfl rfl hc3)
  refine a_ldB (v := vI _) ?_ T2 (hg := Gs.yes rfl rfl rfl hc3)
  obtain ⟨t4, e5, H⟩ := bindO H
  refine a_call (v := vB t4) (nk := []) (L := []) ?_ rfl (impl_within.ok e5) id (qd (qd (qd qn))) trivial trivial trivial rfl (hg := Gs.yes rfl rfl rfl hc3)
  refine a_pick (b := true) (v := vB _) ?_ hc3
  refine a_move (v := vB _) ?_
  by_cases hc6 : t4 = true
  ·rw [if_pos hc6] at H
   refine a_faB (q := 2) ?_ D116_2 (hg := Gs.yes rfl rfl rfl hc6)
   refine a_ldB (v := vI _) ?_ T2 (hg := Gs.yes rfl rfl rfl hc6)
   obtain ⟨t7, e8, H⟩ := bindO H
   refine a_call (v := vB t7) (nk := []) (L := []) ?_ rfl (impl_within.ok e8) id (qd (qd (qd qn))) trivial trivial trivial rfl (hg := Gs.yes rfl rfl rfl hc6)
   refine a_pick (b := true) (v := vB _) ?_ hc6
   refine a_move (v := vB _) ?_
   by_cases hc9 : t7 = true
   ·rw [if_pos hc9] at H
    refine a_faB (q := 3) ?_ D116_3 (hg := Gs.yes rfl rfl rfl hc9)
    refine a_ldB (v := vI _) ?_ T2 (hg := Gs.yes rfl rfl rfl hc9)
    obtain ⟨t10, e11, H⟩ := bindO H
    refine a_call (v := vB t10) (nk := []) (L := []) ?_ rfl (impl_within.ok e11) id (qd (qd (qd qn))) trivial trivial trivial rfl (hg := Gs.yes rfl rfl rfl hc9)
    refine a_pick (b := true) (v := vB _) ?_ hc9
    refine a_move (v := vB _) ?_
    by_cases hc12 : t10 = true
    ·rw [if_pos hc12] at H
     refine a_faB (q := 4) ?_ D116_4 (hg := Gs.yes rfl rfl rfl hc12)
     refine a_ldB (v := vI _) ?_ T2 (hg := Gs.yes rfl rfl rfl hc12)
     obtain ⟨t13, e14, H⟩ := bindO H
     refine a_call (v := vB t13) (nk := []) (L := []) ?_ rfl (impl_within.ok e14) id (qd (qd (qd qn))) trivial trivial trivial rfl (hg := Gs.yes rfl rfl rfl hc12)
     refine a_pick (b := true) (v := vB _) ?_ hc12
     refine a_move (v := vB _) ?_
     refine RA.nil nofun ?_
     refine AG.ret ?_
     obtain rfl := Option.some.inj H
     exact RetP.mk id ⟨rfl, trivial⟩ trivial rfl
    ·rw [if_neg hc12] at H
     refine RA.skip rfl rfl rfl rfl rfl (Bool.eq_false_iff.2 hc12) (by decide) ?_
     refine RA.skip rfl rfl rfl rfl rfl (Bool.eq_false_iff.2 hc12) (by decide) ?_
     refine RA.skip rfl rfl rfl rfl rfl (Bool.eq_false_iff.2 hc12) (by decide) ?_
     refine a_pick (b := false) (v := vB _) ?_ (Bool.eq_false_iff.2 hc12)
     refine a_move (v := vB _) ?_
     refine RA.nil nofun ?_
     refine AG.ret ?_
     obtain rfl := Option.some.inj H
     exact RetP.mk id ⟨rfl, trivial⟩ trivial rfl
   ·rw [if_neg hc9] at H
    refine RA.skip rfl rfl rfl rfl rfl (Bool.eq_false_iff.2 hc9) (by decide) ?_
    refine RA.skip rfl rfl rfl rfl rfl (Bool.eq_false_iff.2 hc9) (by decide) ?_
    refine RA.skip rfl rfl rfl rfl rfl (Bool.eq_false_iff.2 hc9) (by decide) ?_
    refine a_pick (b := false) (v := vB _) ?_ (Bool.eq_false_iff.2 hc9)
    refine a_move (v := vB _) ?_
    refine RA.skip rfl rfl rfl rfl rfl rfl (by decide) ?_
    refine RA.skip rfl rfl rfl rfl rfl rfl (by decide) ?_
    refine RA.skip rfl rfl rfl rfl rfl rfl (by decide) ?_
    refine a_pick (b := false) (v := vB _) ?_ rfl
    refine a_move (v := vB _) ?_
    refine RA.nil nofun ?_
    refine AG.ret ?_
    obtain rfl := Option.some.inj H
    exact RetP.mk id ⟨rfl, trivial⟩ trivial rfl
  ·rw [if_neg hc6] at H
   refine RA.skip rfl rfl rfl rfl rfl (Bool.eq_false_iff.2 hc6) (by decide) ?_
   refine RA.skip rfl rfl rfl rfl rfl (Bool.eq_false_iff.2 hc6) (by decide) ?_
   refine RA.skip rfl rfl rfl rfl rfl (Bool.eq_false_iff.2 hc6) (by decide) ?_
   refine a_pick (b := false) (v := vB _) ?_ (Bool.eq_false_iff.2 hc6)
   refine a_move (v := vB _) ?_
   refine RA.skip rfl rfl rfl rfl rfl rfl (by decide) ?_
   refine RA.skip rfl rfl rfl rfl rfl rfl (by decide) ?_
   refine RA.skip rfl rfl rfl rfl rfl rfl (by decide) ?_
   refine a_pick (b := false) (v := vB _) ?_ rfl
   refine a_move (v := vB _) ?_
   refine RA.skip rfl rfl rfl rfl rfl rfl (by decide) ?_
   refine RA.skip rfl rfl rfl rfl rfl rfl (by decide) ?_
   refine RA.skip rfl rfl rfl rfl rfl rfl (by decide) ?_
   refine a_pick (b := false) (v := vB _) ?_ rfl
   refine a_move (v := vB _) ?_
   refine RA.nil nofun ?_
   refine AG.ret ?_
   obtain rfl := Option.some.inj H
   exact RetP.mk id ⟨rfl, trivial⟩ trivial rfl
 ·rw [if_neg hc3] at H
  refine RA.skip rfl rfl rfl rfl rfl (Bool.eq_false_iff.2 hc3) (by decide) ?_
  refine RA.skip rfl rfl rfl rfl rfl (Bool.eq_false_iff.2 hc3) (by decide) ?_
  refine RA.skip rfl rfl rfl rfl rfl (Bool.eq_false_iff.2 hc3) (by decide) ?_
  refine a_pick (b := false) (v := vB _) ?_ (Bool.eq_false_iff.2 hc3)
  refine a_move (v := vB _) ?_
  refine RA.skip rfl rfl rfl rfl rfl rfl (by decide) ?_
  refine RA.skip rfl rfl rfl rfl rfl rfl (by decide) ?_
  refine RA.skip rfl rfl rfl rfl rfl rfl (by decide) ?_
  refine a_pick (b := false) (v := vB _) ?_ rfl
  refine a_move (v := vB _) ?_
  refine RA.skip rfl rfl rfl rfl rfl rfl (by decide) ?_
  refine RA.skip rfl rfl rfl rfl rfl rfl (by decide) ?_
  refine RA.skip rfl rfl rfl rfl rfl rfl (by decide) ?_
  refine a_pick (b := false) (v := vB _) ?_ rfl
  refine a_move (v := vB _) ?_
  refine RA.skip rfl rfl rfl rfl rfl rfl (by decide) ?_
  refine RA.skip rfl rfl rfl rfl rfl rfl (by decide) ?_
  refine RA.skip rfl rfl rfl rfl rfl rfl (by decide) ?_
  refine a_pick (b := false) (v := vB _) ?_ rfl
  refine a_move (v := vB _) ?_
  refine RA.nil nofun ?_
  refine AG.ret ?_
  obtain rfl := Option.some.inj H
  exact RetP.mk id ⟨rfl, trivial⟩ trivial rfl
/-! ### impl_ValidPlacements: function 77 -/
def impl_ValidPlacements.l0 : Nat → List S115 → List S115 → Int → Int → Option (Bool)
 | 0, _, _, _, _ => none
 | k + 1, x0, x5, x6, x7 => if x7 < x6 then (if 0 ≤ x7 then (if x7 < (x5.length : Int) then ((impl_validPlacement.f ((rd115 x5 x7).f0) ((rd115 x5 x7).f1) ((rd115 x5 x7).f2) ((rd115 x5 x7).f3) ((rd115 x5 x7).f4)).bind fun t4 => (if t4 = true then (if x7 > 0 then (if 0 ≤ (wrap64 (x7 - 1)) then (if (wrap64 (x7 - 1)) < (x0.length : Int) then (if ((rd115 x0 (wrap64 (x7 - 1))).f0) ≥ ((rd115 x5 x7).f0) then (some false) else (impl_ValidPlacements.l0 k x0 x5 x6 (wrap64 (x7 + 1)))) else (none)) else (none)) else (impl_ValidPlacements.l0 k x0 x5 x6 (wrap64 (x7 + 1)))) else (some false))) else (none)) else (none)) else (some (decide ((x0.length : Int) ≤ 24)))
def impl_ValidPlacements.f (k : Nat) (l0 : List S115) : Option (Bool) := impl_ValidPlacements.l0 k l0 l0 (l0.length : Int) 0
set_option maxRecDepth 100000 in
theorem impl_ValidPlacements.ok {k : Nat} {l0 : List S115} {r : Bool} (H : impl_ValidPlacements.f k l0 = some r) : OkF Tryz.prog 77 [vR 116 (l0.map c115)] [] (.c (.d (.v (.bool r)))) [] := by
 unfold impl_ValidPlacements.f at H
 refine OkF.of (N := 34) (rs := [2]) (avs := [.c (.d (.v (.bool r)))]) Tryz.func77 rfl rfl (fun _ _ => results_tmp rfl _ _ _) (by decide) rfl rfl rfl rfl (fun w0 S => ?_)
 refine AG.seq ?_
 refine AG.region HM ?_
 refine a_move (v := vB _) ?_
 refine RA.nil nofun ?_
 refine AG.seq ?_
 refine AG.seq ?_
 refine AG.region HM ?_
 refine a_move (v := vR _ _) ?_
 refine a_lenR ?_ Tryz.underlying60
 refine a_move (v := vI _) ?_
 refine RA.nil nofun ?_
 refine AG.block ?_
 refine AG.loop ?_
 obtain ⟨K0, hK0, gK0⟩ : ∃ K, k ≤ K ∧ K ≤ k := ⟨k, Nat.le_refl k, Nat.le_refl k⟩
 refine AGr.canon id (AGr.loopI (n := k) (fun k s => k ≤ K0 ∧ ∃ (x0 : List S115) (x5 : List S115) (x6 : Int) (x7 : Int), impl_ValidPlacements.l0 k x0 x5 x6 x7 = some r ∧ s = St.of [(0, vR 116 (x0.map c115)), (5, vR 116 (x5.map c115)), (6, vI x6), (7, vI x7)] []) ⟨hK0, _, _, _, _, H, rfl⟩ ?_ ?_) ⟨rfl, rfl, rfl, rfl, trivial⟩ trivial rfl
 ·rintro _ ⟨_, _, _, _, _, H, _⟩
  cases H
 ·clear H hK0
  rintro k ih0 _ ⟨hK0, x0, x5, x6, x7, H, rfl⟩
  unfold impl_ValidPlacements.l0 at H
  refine AG.seq ?_
  refine AG.region HM ?_
  refine a_int (u := .bool (decide (x7 < x6))) ?_
  refine RA.nil nofun ?_
  refine AG.seq ?_
  by_cases hc1 : x7 < x6
  ·rw [if_pos hc1] at H
   refine AG.yes rfl (decide_eq_true hc1) ?_
   refine AG.skip ?_
   refine AG.seq ?_
   refine AG.block ?_
   refine AG.seq ?_
   refine AG.region HM ?_
   refine a_move (v := vI _) ?_
   by_cases hc2 : 0 ≤ x7
   ·rw [if_pos hc2] at H
    by_cases hc3 : x7 < (x5.length : Int)
    ·rw [if_pos hc3] at H
     refine a_ixR (el := c115 (rd115 x5 x7)) ?_ ⟨hc2, hc3⟩ T116 Tryz.underlying60 (hel := R115 hc2 hc3)
     refine a_ldR (v := .agg [_, _, _, _, _]) ?_ T116
     refine a_alloc (cs := [_, _, _, _, _]) 200 ?_ T116
     refine a_move (v := vI _) ?_
     refine a_stB (cs' := [_, _, _, _, _]) ?_ T116
     refine RA.nil nofun ?_
     refine AG.seq ?_
     refine AG.region HM ?_
     refine a_ldB (v := .agg [_, _, _, _, _]) ?_ T116
     obtain ⟨t4, e5, H⟩ := bindO H
     refine a_call (v := vB t4) (nk := []) (L := []) ?_ rfl (impl_validPlacement.ok e5) id (qg qn) trivial trivial trivial rfl
     refine a_un (u := .bool (!t4)) ?_
     refine a_move (v := vB _) ?_
     by_cases hc6 : t4 = true
     ·rw [if_pos hc6] at H
      refine a_move (v := vI _) ?_ (hg := Gs.yes rfl rfl rfl (congrArg Bool.not hc6))
      refine a_int (u := .bool (decide (x7 > 0))) ?_ (hg := Gs.yes rfl rfl rfl (congrArg Bool.not hc6))
      refine a_move (v := vB _) ?_ (hg := Gs.yes rfl rfl rfl (congrArg Bool.not hc6))
      by_cases hc7 : x7 > 0
      ·rw [if_pos hc7] at H
       refine a_move (v := vR _ _) ?_ (hg := Gs.yes rfl rfl rfl (decide_eq_true hc7))
       refine a_move (v := vI _) ?_ (hg := Gs.yes rfl rfl rfl (decide_eq_true hc7))
       refine a_int (u := .int .i64 (wrap64 (x7 - 1))) ?_ (hg := Gs.yes rfl rfl rfl (decide_eq_true hc7))
       by_cases hc8 : 0 ≤ (wrap64 (x7 - 1))
       ·rw [if_pos hc8] at H
        by_cases hc9 : (wrap64 (x7 - 1)) < (x0.length : Int)
        ·rw [if_pos hc9] at H
         refine a_ixR (el := c115 (rd115 x0 (wrap64 (x7 - 1)))) ?_ ⟨hc8, hc9⟩ T116 Tryz.underlying60 (hel := R115 hc8 hc9) (hg := Gs.yes rfl rfl rfl (decide_eq_true hc7))
         refine a_faR (cells' := [_, _, _, _, _]) ?_ D116_0 (hg := Gs.yes rfl rfl rfl (decide_eq_true hc7))
         refine a_ldR (v := vI _) ?_ T2 (hg := Gs.yes rfl rfl rfl (decide_eq_true hc7))
         refine a_faB (q := 0) ?_ D116_0 (hg := Gs.yes rfl rfl rfl (decide_eq_true hc7))
         refine a_ldB (v := vI _) ?_ T2 (hg := Gs.yes rfl rfl rfl (decide_eq_true hc7))
         refine a_int (u := .bool (decide (((rd115 x0 (wrap64 (x7 - 1))).f0) ≥ ((rd115 x5 x7).f0)))) ?_ (hg := Gs.yes rfl rfl rfl (decide_eq_true hc7))
         refine a_pick (b := true) (v := vB _) ?_ (decide_eq_true hc7) (hg := Gs.yes rfl rfl rfl (congrArg Bool.not hc6))
         refine a_pick (b := false) (v := vB _) ?_ (congrArg Bool.not hc6)
         refine RA.nil (fun _ => by kernel_rfl) ?_
         by_cases hc10 : ((rd115 x0 (wrap64 (x7 - 1))).f0) ≥ ((rd115 x5 x7).f0)
         ·rw [if_pos hc10] at H
          refine AG.yes rfl (decide_eq_true hc10) ?_
          refine AG.seq ?_
          refine AG.region HM ?_
          refine a_move (v := vB _) ?_
          refine RA.nil nofun ?_
          refine AG.ret ?_
          obtain rfl := Option.some.inj H
          exact RetP.mk id ⟨rfl, trivial⟩ trivial rfl
         ·rw [if_neg hc10] at H
          refine AG.no rfl (decide_eq_false hc10) ?_
          refine AG.skip ?_
          refine AG.region HM ?_
          refine a_int (u := .int .i64 (wrap64 (x7 + 1))) ?_
          refine a_move (v := vI _) ?_
          refine RA.nil nofun ?_
          exact AGr.canon id (ih0 _ (by omega) _ ⟨by omega, _, _, _, _, H, rfl⟩) ⟨rfl, rfl, rfl, rfl, trivial⟩ trivial rfl
        ·rw [if_neg hc9] at H
         cases H
       ·rw [if_neg hc8] at H
        cases H
      ·rw [if_neg hc7] at H
       refine RA.skip rfl rfl rfl rfl rfl (decide_eq_false hc7) (by decide) ?_
       refine RA.skip rfl rfl rfl rfl rfl (decide_eq_false hc7) (by decide) ?_
       refine RA.skip rfl rfl rfl rfl rfl (decide_eq_false hc7) (by decide) ?_
       refine RA.skip rfl rfl rfl rfl rfl (decide_eq_false hc7) (by decide) ?_
       refine RA.skip rfl rfl rfl rfl rfl (decide_eq_false hc7) (by decide) ?_
       refine RA.skip rfl rfl rfl rfl rfl (decide_eq_false hc7) (by decide) ?_
       refine RA.skip rfl rfl rfl rfl rfl (decide_eq_false hc7) (by decide) ?_
       refine RA.skip rfl rfl rfl rfl rfl (decide_eq_false hc7) (by decide) ?_
       refine RA.skip rfl rfl rfl rfl rfl (decide_eq_false hc7) (by decide) ?_
       refine a_pick (b := false) (v := vB _) ?_ (decide_eq_false hc7) (hg := Gs.yes rfl rfl rfl (congrArg Bool.not hc6))
       refine a_pick (b := false) (v := vB _) ?_ (congrArg Bool.not hc6)
       refine RA.nil (fun _ => by kernel_rfl) ?_
       refine AG.no rfl rfl ?_
       refine AG.skip ?_
       refine AG.region HM ?_
       refine a_int (u := .int .i64 (wrap64 (x7 + 1))) ?_
       refine a_move (v := vI _) ?_
       refine RA.nil nofun ?_
       exact AGr.canon id (ih0 _ (by omega) _ ⟨by omega, _, _, _, _, H, rfl⟩) ⟨rfl, rfl, rfl, rfl, trivial⟩ trivial rfl
     ·rw [if_neg hc6] at H
      refine RA.skip rfl rfl rfl rfl rfl (congrArg Bool.not (Bool.eq_false_iff.2 hc6)) (by decide) ?_
      refine RA.skip rfl rfl rfl rfl rfl (congrArg Bool.not (Bool.eq_false_iff.2 hc6)) (by decide) ?_
      refine RA.skip rfl rfl rfl rfl rfl (congrArg Bool.not (Bool.eq_false_iff.2 hc6)) (by decide) ?_
      refine RA.skip0 rfl rfl rfl rfl rfl ?_
      refine RA.skip0 rfl rfl rfl rfl rfl ?_
      refine RA.skip0 rfl rfl rfl rfl rfl ?_
      refine RA.skip0 rfl rfl rfl rfl rfl ?_
      refine RA.skip0 rfl rfl rfl rfl rfl ?_
      refine RA.skip0 rfl rfl rfl rfl rfl ?_
      refine RA.skip0 rfl rfl rfl rfl rfl ?_
      refine RA.skip0 rfl rfl rfl rfl rfl ?_
      refine RA.skip0 rfl rfl rfl rfl rfl ?_
      refine RA.skip rfl rfl rfl rfl rfl (congrArg Bool.not (Bool.eq_false_iff.2 hc6)) (by decide) ?_
      refine a_pick (b := true) (v := vB _) ?_ (congrArg Bool.not (Bool.eq_false_iff.2 hc6))
      refine RA.nil (fun _ => by kernel_rfl) ?_
      refine AG.yes rfl rfl ?_
      refine AG.seq ?_
      refine AG.region HM ?_
      refine a_move (v := vB _) ?_
      refine RA.nil nofun ?_
      refine AG.ret ?_
      obtain rfl := Option.some.inj H
      exact RetP.mk id ⟨rfl, trivial⟩ trivial rfl
    ·rw [if_neg hc3] at H
     cases H
   ·rw [if_neg hc2] at H
    cases H
  ·rw [if_neg hc1] at H
   refine AG.no rfl (decide_eq_false hc1) ?_
   refine AG.exit ?_
   refine AG.seq ?_
   refine AG.region HM ?_
   refine a_move (v := vR _ _) ?_
   refine a_lenR ?_ Tryz.underlying60
   refine a_int (u := .bool (decide ((x0.length : Int) ≤ 24))) ?_
   refine a_move (v := vB _) ?_
   refine RA.nil nofun ?_
   refine AG.ret ?_
   obtain rfl := Option.some.inj H
   exact RetP.mk id ⟨rfl, trivial⟩ trivial rfl
/-! ### impl_facePolygon: function 79 -/
def impl_facePolygon.f (k : Nat) (a0_0 : Int) (a0_1 : Int) (l0_2 : List S159) (l0_3 : List S146) (a1 : Int) : Option ((List S159)) := if 0 ≤ a1 then (if a1 < (l0_3.length : Int) then ((impl_ringPolygon.f k l0_2 ((rd146 l0_3 a1).f1)).bind fun bt3 => (some bt3.1)) else (none)) else (none)
set_option maxRecDepth 100000 in
theorem impl_facePolygon.ok {k : Nat} {a0_0 : Int} {a0_1 : Int} {l0_2 : List S159} {l0_3 : List S146} {a1 : Int} {r : List S159} (H : impl_facePolygon.f k a0_0 a0_1 l0_2 l0_3 a1 = some r) : OkF Tryz.prog 79 [.agg [.d (.v (.int .i64 a0_0)), .d (.v (.int .i64 a0_1)), .d (.row 160 (l0_2.map c159)), .d (.row 152 (l0_3.map c146))], vI a1] [] (.c (.own 100 r.length)) [(100, .row 160 (r.map c159))] := by
 unfold impl_facePolygon.f at H
 refine OkF.of (N := 20) (rs := [4]) (avs := [.c (.own 100 r.length)]) Tryz.func79 rfl rfl (fun _ _ => results_tmp rfl _ _ _) (by decide) rfl rfl rfl rfl (fun w0 S => ?_)
 refine AG.seq ?_
 refine AG.region HM ?_
 refine a_box 200 ?_
 refine a_nilO (e := 160) 201 ?_ T160
 refine RA.nil nofun ?_
 refine AG.seq ?_
 refine AG.region HM ?_
 refine a_faB (q := 2) ?_ D35_2
 refine a_ldB (v := vR _ _) ?_ T32
 refine a_faB (q := 3) ?_ D35_3
 refine a_ldB (v := vR _ _) ?_ T33
 refine a_move (v := vI _) ?_
 by_cases hc1 : 0 ≤ a1
 ·rw [if_pos hc1] at H
  by_cases hc2 : a1 < (l0_3.length : Int)
  ·rw [if_pos hc2] at H
   refine a_ixR (el := c146 (rd146 l0_3 a1)) ?_ ⟨hc1, hc2⟩ T152 Tryz.underlying33 (hel := R146 hc1 hc2)
   refine a_faR (cells' := [_]) ?_ D152_1
   refine a_ldR (v := vR _ _) ?_ T29
   obtain ⟨⟨t3, t4⟩, e5, H⟩ := bindO H
   refine a_call (v := .tup [.c (.own 202 t3.length), .c (.d (.v (.bool t4)))]) (nk := [(202, .row 160 (t3.map c159))]) (L := []) ?_ rfl (impl_ringPolygon.ok e5) (fun κ => cond (Nat.beq κ 202) 100 (κ)) (qd (qd qn)) trivial ⟨rfl, trivial⟩ ⟨rfl, trivial⟩ rfl
   refine a_move (v := .tup [_, _]) ?_
   refine a_ext (v := .c (.own _ _)) ?_
   refine a_ext (v := vB _) ?_
   refine a_move (v := .c (.own _ _)) ?_
   refine a_move (v := vB _) ?_
   refine RA.nil (fun _ => by kernel_rfl) ?_
   refine AG.seq ?_
   refine AG.region HM ?_
   refine a_move (v := .c (.own _ _)) ?_
   refine a_move (v := .c (.own _ _)) ?_
   refine RA.nil nofun ?_
   refine AG.ret ?_
   obtain rfl := Option.some.inj H
   exact RetP.mk (fun κ => cond (Nat.beq κ 100) 202 (κ)) ⟨rfl, trivial⟩ ⟨rfl, trivial⟩ rfl
  ·rw [if_neg hc2] at H
   cases H
 ·rw [if_neg hc1] at H
  cases H
/-! ### slices_Sort_int64: function 126 -/
def slices_Sort_int64.f (l0 : List Int) : Option (List Int) := if l0.length < 4611686018427387904 then some (sortI l0) else none
theorem slices_Sort_int64.ok {l0 r : List Int} (H : slices_Sort_int64.f l0 = some r) : OkF Tryz.prog 126 [.c (.own 0 l0.length)] [(0, .row 2 (l0.map c2))] (.tup []) [(0, .row 2 (r.map c2))] := by
 unfold slices_Sort_int64.f at H
 by_cases h : l0.length < 4611686018427387904
 ·rw [if_pos h] at H
  obtain rfl := Option.some.inj H
  exact Go.Proofs.YtadjbffiomkljaaGreat.SortI.sortInts _ h
 ·rw [if_neg h] at H
  cases H
/-! ### slices_Compact_int64: function 136 -/
def slices_Compact_int64.f (l0 : List Int) : Option (List Int) := if l0.length < 4611686018427387904 then some (compactI l0) else none
theorem slices_Compact_int64.ok {l0 r : List Int} (H : slices_Compact_int64.f l0 = some r) : OkC Tryz.prog 136 2 (l0.map c2) (r.map c2) := by
 unfold slices_Compact_int64.f at H
 by_cases h : l0.length < 4611686018427387904
 ·rw [if_pos h] at H
  obtain rfl := Option.some.inj H
  exact Go.Proofs.YtadjbffiomkljaaGreat.CompactI.compactInts _ h
 ·rw [if_neg h] at H
  cases H
/-! ### impl_UsedLeaves: function 80 -/
def impl_UsedLeaves.l0 : Nat → List Int → List S115 → Int → Int → Option ((List Int) × Int)
 | 0, _, _, _, _ => none
 | k + 1, x4, x11, x12, x13 => if x13 < x12 then (if 0 ≤ x13 then (if x13 < (x11.length : Int) then (if x4.length < 17592186044416 then (impl_UsedLeaves.l0 k (x4 ++ [(rd115 x11 x13).f1]) x11 x12 (wrap64 (x13 + 1))) else (none)) else (none)) else (none)) else ((slices_Sort_int64.f x4).bind fun t10 => ((slices_Compact_int64.f t10).bind fun t12 => (some (t12, 0))))
def impl_UsedLeaves.f (k : Nat) (l0 : List S115) : Option ((List Int) × Int) := (impl_ValidPlacements.f k l0).bind fun t1 => (if t1 = true then (impl_UsedLeaves.l0 k (([] : List Int) : List Int) l0 (l0.length : Int) 0) else (some (([] : List Int), 1)))
set_option maxRecDepth 100000 in
theorem impl_UsedLeaves.ok {k : Nat} {l0 : List S115} {r0 : List Int} {r1 : Int} (H : impl_UsedLeaves.f k l0 = some (r0, r1)) : OkF Tryz.prog 80 [vR 116 (l0.map c115)] [] (.tup [.c (.own 100 r0.length), .c (.d (.v (.int .i64 r1)))]) [(100, .row 2 (r0.map c2))] := by
 unfold impl_UsedLeaves.f at H
 refine OkF.of (N := 27) (rs := [2, 3]) (avs := [.c (.own 100 r0.length), .c (.d (.v (.int .i64 r1)))]) Tryz.func80 rfl rfl (fun _ _ => results_tmp2 rfl _ _ _) (by decide) rfl rfl rfl rfl (fun w0 S => ?_)
 refine AG.seq ?_
 refine AG.region HM ?_
 refine a_nilO (e := 2) 200 ?_ T2
 refine a_move (v := vI _) ?_
 refine RA.nil nofun ?_
 refine AG.seq ?_
 refine AG.seq ?_
 refine AG.region HM ?_
 refine a_move (v := vR _ _) ?_
 obtain ⟨t1, e2, H⟩ := bindO H
 refine a_call (v := vB t1) (nk := []) (L := []) ?_ rfl (impl_ValidPlacements.ok e2) id (qd qn) trivial trivial trivial rfl
 refine a_un (u := .bool (!t1)) ?_
 refine RA.nil nofun ?_
 by_cases hc3 : t1 = true
 ·rw [if_pos hc3] at H
  refine AG.no rfl (congrArg Bool.not hc3) ?_
  refine AG.skip ?_
  refine AG.seq ?_
  refine AG.region HM ?_
  refine a_lit (cs := []) (D := []) (css := (([] : List Int) : List Int).map c2) 203 ?_ N29 T2 (hcss := by rfl)
  refine a_move (v := .c (.own _ _)) ?_
  refine RA.nil nofun ?_
  refine AG.seq ?_
  refine AG.seq ?_
  refine AG.region HM ?_
  refine a_move (v := vR _ _) ?_
  refine a_lenR ?_ Tryz.underlying60
  refine a_move (v := vI _) ?_
  refine RA.nil nofun ?_
  refine AG.block ?_
  refine AG.loop ?_
  obtain ⟨K0, hK0, gK0⟩ : ∃ K, k ≤ K ∧ K ≤ k := ⟨k, Nat.le_refl k, Nat.le_refl k⟩
  refine AGr.canon (fun κ => cond (Nat.beq κ 204) 203 (κ)) (AGr.loopI (n := k) (fun k s => k ≤ K0 ∧ ∃ (x4 : List Int) (x11 : List S115) (x12 : Int) (x13 : Int), impl_UsedLeaves.l0 k x4 x11 x12 x13 = some (r0, r1) ∧ s = St.of [(4, .c (.own 204 x4.length)), (11, vR 116 (x11.map c115)), (12, vI x12), (13, vI x13)] [(204, .row 2 (x4.map c2))]) ⟨hK0, _, _, _, _, H, rfl⟩ ?_ ?_) ⟨(ownE rfl (by simp)), rfl, rfl, rfl, trivial⟩ ⟨rfl, trivial⟩ rfl
  ·rintro _ ⟨_, _, _, _, _, H, _⟩
   cases H
  ·clear H hK0
   rintro k ih0 _ ⟨hK0, x4, x11, x12, x13, H, rfl⟩
   unfold impl_UsedLeaves.l0 at H
   refine AG.seq ?_
   refine AG.region HM ?_
   refine a_int (u := .bool (decide (x13 < x12))) ?_
   refine RA.nil nofun ?_
   refine AG.seq ?_
   by_cases hc5 : x13 < x12
   ·rw [if_pos hc5] at H
    refine AG.yes rfl (decide_eq_true hc5) ?_
    refine AG.skip ?_
    refine AG.seq ?_
    refine AG.block ?_
    refine AG.seq ?_
    refine AG.region HM ?_
    by_cases hc6 : 0 ≤ x13
    ·rw [if_pos hc6] at H
     by_cases hc7 : x13 < (x11.length : Int)
     ·rw [if_pos hc7] at H
      refine a_ixR (el := c115 (rd115 x11 x13)) ?_ ⟨hc6, hc7⟩ T116 Tryz.underlying60 (hel := R115 hc6 hc7)
      refine a_ldR (v := .agg [_, _, _, _, _]) ?_ T116
      refine a_alloc (cs := [_, _, _, _, _]) 205 ?_ T116
      refine a_stB (cs' := [_, _, _, _, _]) ?_ T116
      refine RA.nil nofun ?_
      refine AG.region HM ?_
      refine a_move (v := .c (.own _ _)) ?_
      refine a_faB (q := 1) ?_ D116_1
      refine a_ldB (v := vI _) ?_ T2
      refine a_lit (cs := [_]) (D := []) (css := ([(rd115 x11 x13).f1]).map c2) 206 ?_ N29 T2
      by_cases hc8 : x4.length < 17592186044416
      ·rw [if_pos hc8] at H
       refine a_appO (css' := (x4 ++ [(rd115 x11 x13).f1]).map c2) (n' := (x4 ++ [(rd115 x11 x13).f1]).length) ?_ T2 (by simp [maxLen]; omega) (by simp; omega) Tryz.underlying29 (hc := by exact List.map_append.symm) (hn := by exact List.length_map _)
       refine a_move (v := .c (.own _ _)) ?_
       refine RA.nil nofun ?_
       refine AG.region HM ?_
       refine a_int (u := .int .i64 (wrap64 (x13 + 1))) ?_
       refine a_move (v := vI _) ?_
       refine RA.nil nofun ?_
       exact AGr.canon id (ih0 _ (by omega) _ ⟨by omega, _, _, _, _, H, rfl⟩) ⟨rfl, rfl, rfl, rfl, trivial⟩ ⟨rfl, trivial⟩ rfl
      ·rw [if_neg hc8] at H
       cases H
     ·rw [if_neg hc7] at H
      cases H
    ·rw [if_neg hc6] at H
     cases H
   ·rw [if_neg hc5] at H
    refine AG.no rfl (decide_eq_false hc5) ?_
    refine AG.exit ?_
    refine AG.seq ?_
    refine AG.region HM ?_
    refine a_move (v := .c (.own _ _)) ?_
    obtain ⟨t10, e11, H⟩ := bindO H
    refine a_callM (v := .tup []) (nk := []) (L := []) (Mk := [(204, _)]) (ck := [(204, .row 2 (t10.map c2))]) ?_ rfl (slices_Sort_int64.ok e11) (fun κ => cond (Nat.beq κ 0) 204 (κ)) (fun κ => cond (Nat.beq κ 204) 0 (κ)) (mcO m0) trivial ⟨rfl, trivial⟩ trivial ⟨rfl, trivial⟩ trivial ⟨rfl, trivial⟩ rfl rfl rfl
    refine RA.nil nofun ?_
    refine AG.relen 204 t10.length ?_
    refine AG.seq ?_
    refine AG.region HM ?_
    refine a_move (v := .c (.own _ _)) ?_
    obtain ⟨t12, e13, H⟩ := bindO H
    refine a_callC (css' := t12.map c2) (n' := t12.length) ?_ rfl (slices_Compact_int64.ok e13) (hn := by exact List.length_map _)
    refine a_move (v := .c (.own _ _)) ?_
    refine a_move (v := vI _) ?_
    refine RA.nil nofun ?_
    refine AG.ret ?_
    simp only [Option.some.injEq, Prod.mk.injEq] at H
    obtain ⟨rfl, rfl⟩ := H
    exact RetP.mk (fun κ => cond (Nat.beq κ 100) 204 (κ)) ⟨rfl, rfl, trivial⟩ ⟨rfl, trivial⟩ rfl
 ·rw [if_neg hc3] at H
  refine AG.yes rfl (congrArg Bool.not (Bool.eq_false_iff.2 hc3)) ?_
  refine AG.seq ?_
  refine AG.region HM ?_
  refine a_nilO (e := 2) 202 ?_ T2
  refine a_move (v := vI _) ?_
  refine RA.nil nofun ?_
  refine AG.ret ?_
  simp only [Option.some.injEq, Prod.mk.injEq] at H
  obtain ⟨rfl, rfl⟩ := H
  exact RetP.mk (fun κ => cond (Nat.beq κ 100) 202 (κ)) ⟨(ownE rfl (by simp)), rfl, trivial⟩ ⟨rfl, trivial⟩ rfl
/-! ### impl_WasteOf: function 31 -/
mutual
def impl_WasteOf.j0 : Nat → List S94 → List S115 → Int → Int → List S159 → List S146 → List S81 → Bool → Option (Int × Int)
 | 0, _, _, _, _, _, _, _, _ => none
 | k + 1, x1, x2, y204_0, y204_1, y204_2, y204_3, y204_4, x27 => if x27 = true then (some (0, 1)) else (impl_WasteOf.l0 k x1 x2 y204_0 y204_1 y204_2 y204_3 y204_4 0 x2 (x2.length : Int) 0)
def impl_WasteOf.j1 : Nat → List S94 → List S115 → Int → Option (Int × Int)
 | 0, _, _, _ => none
 | k + 1, x1, x2, x8 => (impl_UsedLeaves.f k x2).bind fun bt19 => (impl_WasteOf.l1 k x1 x8 bt19.1 (bt19.1.length : Int) 0)
def impl_WasteOf.l0 : Nat → List S94 → List S115 → Int → Int → List S159 → List S146 → List S81 → Int → List S115 → Int → Int → Option (Int × Int)
 | 0, _, _, _, _, _, _, _, _, _, _, _ => none
 | k + 1, x1, x2, y205_0, y205_1, y205_2, y205_3, y205_4, x8, x28, x29, x30 => if x30 < x29 then (if 0 ≤ x30 then (if x30 < (x28.length : Int) then (if ((rd115 x28 x30).f0) ≥ (y205_4.length : Int) then (impl_WasteOf.j2 k x1 x2 y205_0 y205_1 y205_2 y205_3 y205_4 x8 ((rd115 x28 x30).f0) x28 x29 x30 true) else (impl_WasteOf.j2 k x1 x2 y205_0 y205_1 y205_2 y205_3 y205_4 x8 ((rd115 x28 x30).f0) x28 x29 x30 (decide (((rd115 x28 x30).f1) ≥ (x1.length : Int))))) else (none)) else (none)) else (impl_WasteOf.j1 k x1 x2 x8)
def impl_WasteOf.j2 : Nat → List S94 → List S115 → Int → Int → List S159 → List S146 → List S81 → Int → Int → List S115 → Int → Int → Bool → Option (Int × Int)
 | 0, _, _, _, _, _, _, _, _, _, _, _, _, _ => none
 | k + 1, x1, x2, y211_0, y211_1, y211_2, y211_3, y211_4, x8, y212_0, x28, x29, x30, x46 => if x46 = true then (some (0, 2)) else ((impl_facePolygon.f k y211_0 y211_1 y211_2 y211_3 y212_0).bind fun t15 => ((impl_doubled.f k t15).bind fun t17 => (impl_WasteOf.l0 k x1 x2 y211_0 y211_1 y211_2 y211_3 y211_4 (wrap64 (x8 - t17)) x28 x29 (wrap64 (x30 + 1)))))
def impl_WasteOf.l1 : Nat → List S94 → Int → List Int → Int → Int → Option (Int × Int)
 | 0, _, _, _, _, _ => none
 | k + 1, x1, x8, x61, x62, x63 => if x63 < x62 then (if 0 ≤ x63 then (if x63 < (x61.length : Int) then (if 0 ≤ (rd2 x61 x63) then (if (rd2 x61 x63) < (x1.length : Int) then (impl_WasteOf.l1 k x1 (wrap64 (x8 + (wrap64 ((wrap64 (2 * ((rd94 x1 (rd2 x61 x63)).f4))) * ((rd94 x1 (rd2 x61 x63)).f5))))) x61 x62 (wrap64 (x63 + 1))) else (none)) else (none)) else (none)) else (none)) else (some (x8, 0))
end
def impl_WasteOf.f (k : Nat) (a0_0 : Int) (a0_1 : Int) (l0_2 : List S159) (l0_3 : List S146) (l0_4 : List S81) (l1 : List S94) (l2 : List S115) : Option (Int × Int) := (impl_ValidPicture.f k a0_0 a0_1 l0_2 l0_3 l0_4).bind fun t1 => (if t1 = true then ((impl_ValidLeaves.f k l1).bind fun t4 => (if t4 = true then ((impl_ValidPlacements.f k l2).bind fun t7 => (impl_WasteOf.j0 k l1 l2 a0_0 a0_1 l0_2 l0_3 l0_4 (!t7))) else (impl_WasteOf.j0 k l1 l2 a0_0 a0_1 l0_2 l0_3 l0_4 true))) else (impl_WasteOf.j0 k l1 l2 a0_0 a0_1 l0_2 l0_3 l0_4 true))
set_option maxRecDepth 100000 in
theorem impl_WasteOf.ok {k : Nat} {a0_0 : Int} {a0_1 : Int} {l0_2 : List S159} {l0_3 : List S146} {l0_4 : List S81} {l1 : List S94} {l2 : List S115} {r0 : Int} {r1 : Int} (H : impl_WasteOf.f k a0_0 a0_1 l0_2 l0_3 l0_4 l1 l2 = some (r0, r1)) : OkF Tryz.prog 31 [.agg [.d (.v (.int .i64 a0_0)), .d (.v (.int .i64 a0_1)), .d (.row 160 (l0_2.map c159)), .d (.row 152 (l0_3.map c146)), .d (.row 92 (l0_4.map c81))], vR 95 (l1.map c94), vR 116 (l2.map c115)] [] (.tup [.c (.d (.v (.int .i64 r0))), .c (.d (.v (.int .i64 r1)))]) [] := by
 unfold impl_WasteOf.f at H
 refine OkF.of (N := 83) (rs := [6, 7]) (avs := [.c (.d (.v (.int .i64 r0))), .c (.d (.v (.int .i64 r1)))]) Tryz.func31 rfl rfl (fun _ _ => results_tmp2 rfl _ _ _) (by decide) rfl rfl rfl rfl (fun w0 S => ?_)
 refine AG.seq ?_
 refine AG.region HM ?_
 refine a_box 200 ?_
 refine a_move (v := vI _) ?_
 refine a_move (v := vI _) ?_
 refine RA.nil nofun ?_
 refine AG.seq ?_
 refine AG.seq ?_
 refine AG.joinR (fun s => ∃ q, q ≤ k ∧ ∃ (x1 : List S94) (x2 : List S115) (y204_0 : Int) (y204_1 : Int) (y204_2 : List S159) (y204_3 : List S146) (y204_4 : List S81) (x27 : Bool), impl_WasteOf.j0 q x1 x2 y204_0 y204_1 y204_2 y204_3 y204_4 x27 = some (r0, r1) ∧ s = St.of [(1, vR 95 (x1.map c94)), (2, vR 116 (x2.map c115)), (3, .c (.ptr 204 0)), (27, vB x27)] [(204, .box 58 [.d (.v (.int .i64 y204_0)), .d (.v (.int .i64 y204_1)), .d (.row 160 (y204_2.map c159)), .d (.row 152 (y204_3.map c146)), .d (.row 92 (y204_4.map c81))])]) ?_ ?_
 ·skip
  refine AG.region HM ?_
  refine a_ldB (v := .agg [_, _, _, _, _]) ?_ T58
  obtain ⟨t1, e2, H⟩ := bindO H
  refine a_call (v := vB t1) (nk := []) (L := []) ?_ rfl (impl_ValidPicture.ok e2) id (qg qn) trivial trivial trivial rfl
  refine a_un (u := .bool (!t1)) ?_
  refine a_move (v := vB _) ?_
  by_cases hc3 : t1 = true
  ·rw [if_pos hc3] at H
   refine a_move (v := vR _ _) ?_ (hg := Gs.yes rfl rfl rfl (congrArg Bool.not hc3))
   obtain ⟨t4, e5, H⟩ := bindO H
   refine a_call (v := vB t4) (nk := []) (L := []) ?_ rfl (impl_ValidLeaves.ok e5) id (qd qn) trivial trivial trivial rfl (hg := Gs.yes rfl rfl rfl (congrArg Bool.not hc3))
   refine a_un (u := .bool (!t4)) ?_ (hg := Gs.yes rfl rfl rfl (congrArg Bool.not hc3))
   refine a_pick (b := false) (v := vB _) ?_ (congrArg Bool.not hc3)
   refine a_move (v := vB _) ?_
   by_cases hc6 : t4 = true
   ·rw [if_pos hc6] at H
    refine a_move (v := vR _ _) ?_ (hg := Gs.yes rfl rfl rfl (congrArg Bool.not hc6))
    obtain ⟨t7, e8, H⟩ := bindO H
    refine a_call (v := vB t7) (nk := []) (L := []) ?_ rfl (impl_ValidPlacements.ok e8) id (qd qn) trivial trivial trivial rfl (hg := Gs.yes rfl rfl rfl (congrArg Bool.not hc6))
    refine a_un (u := .bool (!t7)) ?_ (hg := Gs.yes rfl rfl rfl (congrArg Bool.not hc6))
    refine a_pick (b := false) (v := vB _) ?_ (congrArg Bool.not hc6)
    refine RA.nil nofun ?_
    exact CanR.mk (fun κ => cond (Nat.beq κ 204) 200 (κ)) ⟨_, (by omega), _, _, _, _, _, _, _, _, H, rfl⟩ ⟨rfl, rfl, rfl, rfl, trivial⟩ ⟨rfl, trivial⟩ rfl
   ·rw [if_neg hc6] at H
    refine RA.skip rfl rfl rfl rfl rfl (congrArg Bool.not (Bool.eq_false_iff.2 hc6)) (by decide) ?_
    refine RA.skip rfl rfl rfl rfl rfl (congrArg Bool.not (Bool.eq_false_iff.2 hc6)) (by decide) ?_
    refine RA.skip rfl rfl rfl rfl rfl (congrArg Bool.not (Bool.eq_false_iff.2 hc6)) (by decide) ?_
    refine a_pick (b := true) (v := vB _) ?_ (congrArg Bool.not (Bool.eq_false_iff.2 hc6))
    refine RA.nil nofun ?_
    exact CanR.mk (fun κ => cond (Nat.beq κ 204) 200 (κ)) ⟨_, (by omega), _, _, _, _, _, _, _, _, H, rfl⟩ ⟨rfl, rfl, rfl, rfl, trivial⟩ ⟨rfl, trivial⟩ rfl
  ·rw [if_neg hc3] at H
   refine RA.skip rfl rfl rfl rfl rfl (congrArg Bool.not (Bool.eq_false_iff.2 hc3)) (by decide) ?_
   refine RA.skip rfl rfl rfl rfl rfl (congrArg Bool.not (Bool.eq_false_iff.2 hc3)) (by decide) ?_
   refine RA.skip rfl rfl rfl rfl rfl (congrArg Bool.not (Bool.eq_false_iff.2 hc3)) (by decide) ?_
   refine a_pick (b := true) (v := vB _) ?_ (congrArg Bool.not (Bool.eq_false_iff.2 hc3))
   refine a_move (v := vB _) ?_
   refine RA.skip rfl rfl rfl rfl rfl rfl (by decide) ?_
   refine RA.skip rfl rfl rfl rfl rfl rfl (by decide) ?_
   refine RA.skip rfl rfl rfl rfl rfl rfl (by decide) ?_
   refine a_pick (b := true) (v := vB _) ?_ rfl
   refine RA.nil nofun ?_
   exact CanR.mk (fun κ => cond (Nat.beq κ 204) 200 (κ)) ⟨_, (by omega), _, _, _, _, _, _, _, _, H, rfl⟩ ⟨rfl, rfl, rfl, rfl, trivial⟩ ⟨rfl, trivial⟩ rfl
 ·clear H
  rintro _ ⟨k, hj0, x1, x2, y204_0, y204_1, y204_2, y204_3, y204_4, x27, H, rfl⟩
  cases k with
  | zero => cases H
  | succ k =>
   rw [impl_WasteOf.j0] at H
   by_cases hc9 : x27 = true
   ·rw [if_pos hc9] at H
    refine AG.yes rfl hc9 ?_
    refine AG.seq ?_
    refine AG.region HM ?_
    refine a_move (v := vI _) ?_
    refine a_move (v := vI _) ?_
    refine RA.nil nofun ?_
    refine AG.ret ?_
    simp only [Option.some.injEq, Prod.mk.injEq] at H
    obtain ⟨rfl, rfl⟩ := H
    exact RetP.mk id ⟨rfl, rfl, trivial⟩ trivial rfl
   ·rw [if_neg hc9] at H
    refine AG.no rfl (Bool.eq_false_iff.2 hc9) ?_
    refine AG.skip ?_
    refine AG.seq ?_
    refine AG.region HM ?_
    refine a_move (v := vI _) ?_
    refine RA.nil nofun ?_
    refine AG.seq ?_
    refine AG.seq ?_
    refine AG.region HM ?_
    refine a_move (v := vR _ _) ?_
    refine a_lenR ?_ Tryz.underlying60
    refine a_move (v := vI _) ?_
    refine RA.nil nofun ?_
    refine AG.joinR (fun s => ∃ q, q ≤ k ∧ ∃ (x1 : List S94) (x2 : List S115) (x8 : Int), impl_WasteOf.j1 q x1 x2 x8 = some (r0, r1) ∧ s = St.of [(1, vR 95 (x1.map c94)), (2, vR 116 (x2.map c115)), (8, vI x8)] []) ?_ ?_
    ·skip
     refine AG.block ?_
     refine AG.loop ?_
     obtain ⟨K0, hK0, gK0⟩ : ∃ K, k ≤ K ∧ K ≤ k := ⟨k, Nat.le_refl k, Nat.le_refl k⟩
     refine AGr.canon (fun κ => cond (Nat.beq κ 205) 204 (κ)) (AGr.loopI (n := k) (fun k s => k ≤ K0 ∧ ∃ (x1 : List S94) (x2 : List S115) (y205_0 : Int) (y205_1 : Int) (y205_2 : List S159) (y205_3 : List S146) (y205_4 : List S81) (x8 : Int) (x28 : List S115) (x29 : Int) (x30 : Int), impl_WasteOf.l0 k x1 x2 y205_0 y205_1 y205_2 y205_3 y205_4 x8 x28 x29 x30 = some (r0, r1) ∧ s = St.of [(1, vR 95 (x1.map c94)), (2, vR 116 (x2.map c115)), (3, .c (.ptr 205 0)), (8, vI x8), (28, vR 116 (x28.map c115)), (29, vI x29), (30, vI x30)] [(205, .box 58 [.d (.v (.int .i64 y205_0)), .d (.v (.int .i64 y205_1)), .d (.row 160 (y205_2.map c159)), .d (.row 152 (y205_3.map c146)), .d (.row 92 (y205_4.map c81))])]) ⟨hK0, _, _, _, _, _, _, _, _, _, _, _, H, rfl⟩ ?_ ?_) ⟨rfl, rfl, rfl, rfl, rfl, rfl, rfl, trivial⟩ ⟨rfl, trivial⟩ rfl
     ·rintro _ ⟨_, _, _, _, _, _, _, _, _, _, _, _, H, _⟩
      cases H
     ·clear H hK0
      rintro k ih0 _ ⟨hK0, x1, x2, y205_0, y205_1, y205_2, y205_3, y205_4, x8, x28, x29, x30, H, rfl⟩
      unfold impl_WasteOf.l0 at H
      refine AG.seq ?_
      refine AG.region HM ?_
      refine a_int (u := .bool (decide (x30 < x29))) ?_
      refine RA.nil nofun ?_
      refine AG.seq ?_
      by_cases hc10 : x30 < x29
      ·rw [if_pos hc10] at H
       refine AG.yes rfl (decide_eq_true hc10) ?_
       refine AG.skip ?_
       refine AG.seq ?_
       refine AG.block ?_
       refine AG.seq ?_
       refine AG.region HM ?_
       by_cases hc11 : 0 ≤ x30
       ·rw [if_pos hc11] at H
        by_cases hc12 : x30 < (x28.length : Int)
        ·rw [if_pos hc12] at H
         refine a_ixR (el := c115 (rd115 x28 x30)) ?_ ⟨hc11, hc12⟩ T116 Tryz.underlying60 (hel := R115 hc11 hc12)
         refine a_ldR (v := .agg [_, _, _, _, _]) ?_ T116
         refine a_alloc (cs := [_, _, _, _, _]) 206 ?_ T116
         refine a_stB (cs' := [_, _, _, _, _]) ?_ T116
         refine RA.nil nofun ?_
         refine AG.seq ?_
         refine AG.seq ?_
         refine AG.joinR (fun s => ∃ q, q ≤ k ∧ ∃ (x1 : List S94) (x2 : List S115) (y211_0 : Int) (y211_1 : Int) (y211_2 : List S159) (y211_3 : List S146) (y211_4 : List S81) (x8 : Int) (y212_0 : Int) (y212_1 : Int) (y212_2 : Int) (y212_3 : Int) (y212_4 : Int) (x28 : List S115) (x29 : Int) (x30 : Int) (x46 : Bool), impl_WasteOf.j2 q x1 x2 y211_0 y211_1 y211_2 y211_3 y211_4 x8 y212_0 x28 x29 x30 x46 = some (r0, r1) ∧ s = St.of [(1, vR 95 (x1.map c94)), (2, vR 116 (x2.map c115)), (3, .c (.ptr 211 0)), (8, vI x8), (10, .c (.ptr 212 0)), (28, vR 116 (x28.map c115)), (29, vI x29), (30, vI x30), (46, vB x46)] [(211, .box 58 [.d (.v (.int .i64 y211_0)), .d (.v (.int .i64 y211_1)), .d (.row 160 (y211_2.map c159)), .d (.row 152 (y211_3.map c146)), .d (.row 92 (y211_4.map c81))]), (212, .box 116 [.d (.v (.int .i64 y212_0)), .d (.v (.int .i64 y212_1)), .d (.v (.int .i64 y212_2)), .d (.v (.int .i64 y212_3)), .d (.v (.int .i64 y212_4))])]) ?_ ?_
         ·skip
          refine AG.region HM ?_
          refine a_faB (q := 0) ?_ D116_0
          refine a_ldB (v := vI _) ?_ T2
          refine a_faB (q := 4) ?_ D58_1
          refine a_ldB (v := vR _ _) ?_ T56
          refine a_lenR ?_ Tryz.underlying56
          refine a_int (u := .bool (decide (((rd115 x28 x30).f0) ≥ (y205_4.length : Int)))) ?_
          refine a_move (v := vB _) ?_
          by_cases hc13 : ((rd115 x28 x30).f0) ≥ (y205_4.length : Int)
          ·rw [if_pos hc13] at H
           refine RA.skip rfl rfl rfl rfl rfl (decide_eq_true hc13) (by decide) ?_
           refine RA.skip rfl rfl rfl rfl rfl (decide_eq_true hc13) (by decide) ?_
           refine RA.skip rfl rfl rfl rfl rfl (decide_eq_true hc13) (by decide) ?_
           refine RA.skip rfl rfl rfl rfl rfl (decide_eq_true hc13) (by decide) ?_
           refine RA.skip rfl rfl rfl rfl rfl (decide_eq_true hc13) (by decide) ?_
           refine a_pick (b := true) (v := vB _) ?_ (decide_eq_true hc13)
           refine RA.nil nofun ?_
           exact CanR.mk (fun κ => cond (Nat.beq κ 211) 205 (cond (Nat.beq κ 212) 206 (κ))) ⟨_, (by omega), _, _, _, _, _, _, _, _, _, _, _, _, _, _, _, _, _, H, rfl⟩ ⟨rfl, rfl, rfl, rfl, rfl, rfl, rfl, rfl, rfl, trivial⟩ ⟨rfl, rfl, trivial⟩ rfl
          ·rw [if_neg hc13] at H
           refine a_faB (q := 1) ?_ D116_1 (hg := Gs.yes rfl rfl rfl (decide_eq_false hc13))
           refine a_ldB (v := vI _) ?_ T2 (hg := Gs.yes rfl rfl rfl (decide_eq_false hc13))
           refine a_move (v := vR _ _) ?_ (hg := Gs.yes rfl rfl rfl (decide_eq_false hc13))
           refine a_lenR ?_ Tryz.underlying37 (hg := Gs.yes rfl rfl rfl (decide_eq_false hc13))
           refine a_int (u := .bool (decide (((rd115 x28 x30).f1) ≥ (x1.length : Int)))) ?_ (hg := Gs.yes rfl rfl rfl (decide_eq_false hc13))
           refine a_pick (b := false) (v := vB _) ?_ (decide_eq_false hc13)
           refine RA.nil nofun ?_
           exact CanR.mk (fun κ => cond (Nat.beq κ 211) 205 (cond (Nat.beq κ 212) 206 (κ))) ⟨_, (by omega), _, _, _, _, _, _, _, _, _, _, _, _, _, _, _, _, _, H, rfl⟩ ⟨rfl, rfl, rfl, rfl, rfl, rfl, rfl, rfl, rfl, trivial⟩ ⟨rfl, rfl, trivial⟩ rfl
         ·clear H
          rintro _ ⟨k, hj2, x1, x2, y211_0, y211_1, y211_2, y211_3, y211_4, x8, y212_0, y212_1, y212_2, y212_3, y212_4, x28, x29, x30, x46, H, rfl⟩
          cases k with
          | zero => cases H
          | succ k =>
           rw [impl_WasteOf.j2] at H
           by_cases hc14 : x46 = true
           ·rw [if_pos hc14] at H
            refine AG.yes rfl hc14 ?_
            refine AG.seq ?_
            refine AG.region HM ?_
            refine a_move (v := vI _) ?_
            refine a_move (v := vI _) ?_
            refine RA.nil nofun ?_
            refine AG.ret ?_
            simp only [Option.some.injEq, Prod.mk.injEq] at H
            obtain ⟨rfl, rfl⟩ := H
            exact RetP.mk id ⟨rfl, rfl, trivial⟩ trivial rfl
           ·rw [if_neg hc14] at H
            refine AG.no rfl (Bool.eq_false_iff.2 hc14) ?_
            refine AG.skip ?_
            refine AG.region HM ?_
            refine a_move (v := vI _) ?_
            refine a_faB (q := 0) ?_ D58_0
            refine a_ldB (v := .agg [_, _, _, _]) ?_ T35
            refine a_faB (q := 0) ?_ D116_0
            refine a_ldB (v := vI _) ?_ T2
            obtain ⟨t15, e16, H⟩ := bindO H
            refine a_call (v := .c (.own 209 t15.length)) (nk := [(209, .row 160 (t15.map c159))]) (L := []) ?_ rfl (impl_facePolygon.ok e16) (fun κ => cond (Nat.beq κ 209) 100 (κ)) (qg (qd qn)) trivial ⟨rfl, trivial⟩ ⟨rfl, trivial⟩ rfl
            obtain ⟨t17, e18, H⟩ := bindO H
            refine a_call (v := vI t17) (nk := []) (L := [(209, _)]) ?_ rfl (impl_doubled.ok e18) id (qc rO qn) ⟨rfl, trivial⟩ trivial trivial rfl
            refine a_int (u := .int .i64 (wrap64 (x8 - t17))) ?_
            refine a_move (v := vI _) ?_
            refine RA.nil nofun ?_
            refine AG.region HM ?_
            refine a_int (u := .int .i64 (wrap64 (x30 + 1))) ?_
            refine a_move (v := vI _) ?_
            refine RA.nil nofun ?_
            exact AGr.canon (fun κ => cond (Nat.beq κ 205) 211 (κ)) (ih0 _ (by omega) _ ⟨by omega, _, _, _, _, _, _, _, _, _, _, _, H, rfl⟩) ⟨rfl, rfl, rfl, rfl, rfl, rfl, rfl, trivial⟩ ⟨rfl, trivial⟩ rfl
        ·rw [if_neg hc12] at H
         cases H
       ·rw [if_neg hc11] at H
        cases H
      ·rw [if_neg hc10] at H
       refine AG.no rfl (decide_eq_false hc10) ?_
       refine AG.exit ?_
       exact CanR.mk id ⟨_, (by omega), _, _, _, H, rfl⟩ ⟨rfl, rfl, rfl, trivial⟩ trivial rfl
    ·clear H
     rintro _ ⟨k, hj1, x1, x2, x8, H, rfl⟩
     cases k with
     | zero => cases H
     | succ k =>
      rw [impl_WasteOf.j1] at H
      refine AG.seq ?_
      refine AG.region HM ?_
      refine a_move (v := vR _ _) ?_
      obtain ⟨⟨t19, t20⟩, e21, H⟩ := bindO H
      refine a_call (v := .tup [.c (.own 213 t19.length), .c (.d (.v (.int .i64 t20)))]) (nk := [(213, .row 2 (t19.map c2))]) (L := []) ?_ rfl (impl_UsedLeaves.ok e21) (fun κ => cond (Nat.beq κ 213) 100 (κ)) (qd qn) trivial ⟨rfl, trivial⟩ ⟨rfl, trivial⟩ rfl
      refine a_move (v := .tup [_, _]) ?_
      refine a_ext (v := .c (.own _ _)) ?_
      refine a_ext (v := vI _) ?_
      refine a_move (v := .c (.own _ _)) ?_
      refine a_move (v := vI _) ?_
      refine RA.nil nofun ?_
      refine AG.seq ?_
      refine AG.seq ?_
      refine AG.region HM ?_
      refine a_move (v := .c (.own _ _)) ?_
      refine a_lenO ?_ Tryz.underlying29
      refine a_move (v := vI _) ?_
      refine RA.nil nofun ?_
      refine AG.block ?_
      refine AG.loop ?_
      obtain ⟨K1, hK1, gK1⟩ : ∃ K, k ≤ K ∧ K ≤ k := ⟨k, Nat.le_refl k, Nat.le_refl k⟩
      refine AGr.canon (fun κ => cond (Nat.beq κ 214) 213 (κ)) (AGr.loopI (n := k) (fun k s => k ≤ K1 ∧ ∃ (x1 : List S94) (x8 : Int) (x61 : List Int) (x62 : Int) (x63 : Int), impl_WasteOf.l1 k x1 x8 x61 x62 x63 = some (r0, r1) ∧ s = St.of [(1, vR 95 (x1.map c94)), (8, vI x8), (61, .c (.own 214 x61.length)), (62, vI x62), (63, vI x63)] [(214, .row 2 (x61.map c2))]) ⟨hK1, _, _, _, _, _, H, rfl⟩ ?_ ?_) ⟨rfl, rfl, rfl, rfl, rfl, trivial⟩ ⟨rfl, trivial⟩ rfl
      ·rintro _ ⟨_, _, _, _, _, _, H, _⟩
       cases H
      ·clear H hK1
       rintro k ih1 _ ⟨hK1, x1, x8, x61, x62, x63, H, rfl⟩
       unfold impl_WasteOf.l1 at H
       refine AG.seq ?_
       refine AG.region HM ?_
       refine a_int (u := .bool (decide (x63 < x62))) ?_
       refine RA.nil nofun ?_
       refine AG.seq ?_
       by_cases hc22 : x63 < x62
       ·rw [if_pos hc22] at H
        refine AG.yes rfl (decide_eq_true hc22) ?_
        refine AG.skip ?_
        refine AG.seq ?_
        refine AG.block ?_
        refine AG.seq ?_
        refine AG.region HM ?_
        by_cases hc23 : 0 ≤ x63
        ·rw [if_pos hc23] at H
         by_cases hc24 : x63 < (x61.length : Int)
         ·rw [if_pos hc24] at H
          refine a_ixO ?_ ⟨hc23, hc24⟩ T2 Tryz.underlying29
          refine a_ldE (v := vI _) ?_ (G2 hc23 hc24) T2
          refine a_move (v := vI _) ?_
          refine RA.nil nofun ?_
          refine AG.region HM ?_
          refine a_move (v := vI _) ?_
          refine a_move (v := vR _ _) ?_
          refine a_move (v := vI _) ?_
          by_cases hc25 : 0 ≤ (rd2 x61 x63)
          ·rw [if_pos hc25] at H
           by_cases hc26 : (rd2 x61 x63) < (x1.length : Int)
           ·rw [if_pos hc26] at H
            refine a_ixR (el := c94 (rd94 x1 (rd2 x61 x63))) ?_ ⟨hc25, hc26⟩ T95 Tryz.underlying37 (hel := R94 hc25 hc26)
            refine a_faR (cells' := [_, _, _]) ?_ D95_4
            refine a_ldR (v := vI _) ?_ T2
            refine a_int (u := .int .i64 (wrap64 (2 * ((rd94 x1 (rd2 x61 x63)).f4)))) ?_
            refine a_move (v := vR _ _) ?_
            refine a_move (v := vI _) ?_
            refine a_ixR (el := c94 (rd94 x1 (rd2 x61 x63))) ?_ ⟨hc25, hc26⟩ T95 Tryz.underlying37 (hel := R94 hc25 hc26)
            refine a_faR (cells' := [_, _]) ?_ D95_5
            refine a_ldR (v := vI _) ?_ T2
            refine a_int (u := .int .i64 (wrap64 ((wrap64 (2 * ((rd94 x1 (rd2 x61 x63)).f4))) * ((rd94 x1 (rd2 x61 x63)).f5)))) ?_
            refine a_int (u := .int .i64 (wrap64 (x8 + (wrap64 ((wrap64 (2 * ((rd94 x1 (rd2 x61 x63)).f4))) * ((rd94 x1 (rd2 x61 x63)).f5)))))) ?_
            refine a_move (v := vI _) ?_
            refine RA.nil (fun _ => by kernel_rfl) ?_
            refine AG.region HM ?_
            refine a_int (u := .int .i64 (wrap64 (x63 + 1))) ?_
            refine a_move (v := vI _) ?_
            refine RA.nil nofun ?_
            exact AGr.canon id (ih1 _ (by omega) _ ⟨by omega, _, _, _, _, _, H, rfl⟩) ⟨rfl, rfl, rfl, rfl, rfl, trivial⟩ ⟨rfl, trivial⟩ rfl
           ·rw [if_neg hc26] at H
            cases H
          ·rw [if_neg hc25] at H
           cases H
         ·rw [if_neg hc24] at H
          cases H
        ·rw [if_neg hc23] at H
         cases H
       ·rw [if_neg hc22] at H
        refine AG.no rfl (decide_eq_false hc22) ?_
        refine AG.exit ?_
        refine AG.seq ?_
        refine AG.region HM ?_
        refine a_move (v := vI _) ?_
        refine a_move (v := vI _) ?_
        refine a_move (v := vI _) ?_
        refine RA.nil nofun ?_
        refine AG.ret ?_
        simp only [Option.some.injEq, Prod.mk.injEq] at H
        obtain ⟨rfl, rfl⟩ := H
        exact RetP.mk id ⟨rfl, rfl, trivial⟩ trivial rfl
/-! ### laws_eqPoint: function 119 -/
def laws_eqPoint.f (a0_0 : Int) (a0_1 : Int) (a1_0 : Int) (a1_1 : Int) : Option (Bool) := if a0_0 = a1_0 then (if a0_1 = a1_1 then (some true) else (some false)) else (some false)
set_option maxRecDepth 100000 in
theorem laws_eqPoint.ok {a0_0 : Int} {a0_1 : Int} {a1_0 : Int} {a1_1 : Int} {r : Bool} (H : laws_eqPoint.f a0_0 a0_1 a1_0 a1_1 = some r) : OkF Tryz.prog 119 [.agg [.d (.v (.int .i64 a0_0)), .d (.v (.int .i64 a0_1))], .agg [.d (.v (.int .i64 a1_0)), .d (.v (.int .i64 a1_1))]] [] (.c (.d (.v (.bool r)))) [] := by
 unfold laws_eqPoint.f at H
 refine OkF.of (N := 15) (rs := [4]) (avs := [.c (.d (.v (.bool r)))]) Tryz.func119 rfl rfl (fun _ _ => results_tmp rfl _ _ _) (by decide) rfl rfl rfl rfl (fun w0 S => ?_)
 refine AG.seq ?_
 refine AG.region HM ?_
 refine a_box 200 ?_
 refine a_box 201 ?_
 refine a_move (v := vB _) ?_
 refine RA.nil nofun ?_
 refine AG.seq ?_
 refine AG.seq ?_
 refine AG.region HM ?_
 refine a_faB (q := 0) ?_ D160_0
 refine a_ldB (v := vI _) ?_ T2
 refine a_faB (q := 0) ?_ D160_0
 refine a_ldB (v := vI _) ?_ T2
 refine a_int (u := .bool ((a0_0 != a1_0))) ?_
 refine RA.nil nofun ?_
 by_cases hc1 : a0_0 = a1_0
 ·rw [if_pos hc1] at H
  refine AG.no rfl (bne_eq_false_iff_eq.2 hc1) ?_
  refine AG.skip ?_
  refine AG.seq ?_
  refine AG.seq ?_
  refine AG.region HM ?_
  refine a_faB (q := 1) ?_ D160_1
  refine a_ldB (v := vI _) ?_ T2
  refine a_faB (q := 1) ?_ D160_1
  refine a_ldB (v := vI _) ?_ T2
  refine a_int (u := .bool ((a0_1 != a1_1))) ?_
  refine RA.nil nofun ?_
  by_cases hc2 : a0_1 = a1_1
  ·rw [if_pos hc2] at H
   refine AG.no rfl (bne_eq_false_iff_eq.2 hc2) ?_
   refine AG.skip ?_
   refine AG.seq ?_
   refine AG.region HM ?_
   refine a_move (v := vB _) ?_
   refine RA.nil nofun ?_
   refine AG.ret ?_
   obtain rfl := Option.some.inj H
   exact RetP.mk id ⟨rfl, trivial⟩ trivial rfl
  ·rw [if_neg hc2] at H
   refine AG.yes rfl (bne_iff_ne.2 hc2) ?_
   refine AG.seq ?_
   refine AG.region HM ?_
   refine a_move (v := vB _) ?_
   refine RA.nil nofun ?_
   refine AG.ret ?_
   obtain rfl := Option.some.inj H
   exact RetP.mk id ⟨rfl, trivial⟩ trivial rfl
 ·rw [if_neg hc1] at H
  refine AG.yes rfl (bne_iff_ne.2 hc1) ?_
  refine AG.seq ?_
  refine AG.region HM ?_
  refine a_move (v := vB _) ?_
  refine RA.nil nofun ?_
  refine AG.ret ?_
  obtain rfl := Option.some.inj H
  exact RetP.mk id ⟨rfl, trivial⟩ trivial rfl
/-! ### laws_eqPointS: function 56 -/
def laws_eqPointS.l0 : Nat → List S159 → List S159 → Int → Option (Bool)
 | 0, _, _, _ => none
 | k + 1, x0, x1, x5 => if x5 < (x0.length : Int) then (if 0 ≤ x5 then (if x5 < (x1.length : Int) then ((laws_eqPoint.f ((rd159 x0 x5).f0) ((rd159 x0 x5).f1) ((rd159 x1 x5).f0) ((rd159 x1 x5).f1)).bind fun t5 => (if t5 = true then (laws_eqPointS.l0 k x0 x1 (wrap64 (x5 + 1))) else (some false))) else (none)) else (none)) else (some true)
def laws_eqPointS.f (k : Nat) (l0 : List S159) (l1 : List S159) : Option (Bool) := if (l0.length : Int) = (l1.length : Int) then (laws_eqPointS.l0 k l0 l1 0) else (some false)
set_option maxRecDepth 100000 in
theorem laws_eqPointS.ok {k : Nat} {l0 : List S159} {l1 : List S159} {r : Bool} (H : laws_eqPointS.f k l0 l1 = some r) : OkF Tryz.prog 56 [vR 160 (l0.map c159), vR 160 (l1.map c159)] [] (.c (.d (.v (.bool r)))) [] := by
 unfold laws_eqPointS.f at H
 refine OkF.of (N := 27) (rs := [4]) (avs := [.c (.d (.v (.bool r)))]) Tryz.func56 rfl rfl (fun _ _ => results_tmp rfl _ _ _) (by decide) rfl rfl rfl rfl (fun w0 S => ?_)
 refine AG.seq ?_
 refine AG.region HM ?_
 refine a_move (v := vB _) ?_
 refine RA.nil nofun ?_
 refine AG.seq ?_
 refine AG.seq ?_
 refine AG.region HM ?_
 refine a_move (v := vR _ _) ?_
 refine a_lenR ?_ Tryz.underlying32
 refine a_move (v := vR _ _) ?_
 refine a_lenR ?_ Tryz.underlying32
 refine a_int (u := .bool (((l0.length : Int) != (l1.length : Int)))) ?_
 refine RA.nil nofun ?_
 by_cases hc1 : (l0.length : Int) = (l1.length : Int)
 ·rw [if_pos hc1] at H
  refine AG.no rfl (bne_eq_false_iff_eq.2 hc1) ?_
  refine AG.skip ?_
  refine AG.seq ?_
  refine AG.seq ?_
  refine AG.region HM ?_
  refine a_move (v := vI _) ?_
  refine RA.nil nofun ?_
  refine AG.block ?_
  refine AG.loop ?_
  obtain ⟨K0, hK0, gK0⟩ : ∃ K, k ≤ K ∧ K ≤ k := ⟨k, Nat.le_refl k, Nat.le_refl k⟩
  refine AGr.canon id (AGr.loopI (n := k) (fun k s => k ≤ K0 ∧ ∃ (x0 : List S159) (x1 : List S159) (x5 : Int), laws_eqPointS.l0 k x0 x1 x5 = some r ∧ s = St.of [(0, vR 160 (x0.map c159)), (1, vR 160 (x1.map c159)), (5, vI x5)] []) ⟨hK0, _, _, _, H, rfl⟩ ?_ ?_) ⟨rfl, rfl, rfl, trivial⟩ trivial rfl
  ·rintro _ ⟨_, _, _, _, H, _⟩
   cases H
  ·clear H hK0
   rintro k ih0 _ ⟨hK0, x0, x1, x5, H, rfl⟩
   unfold laws_eqPointS.l0 at H
   refine AG.seq ?_
   refine AG.seq ?_
   refine AG.region HM ?_
   refine a_move (v := vI _) ?_
   refine a_move (v := vR _ _) ?_
   refine a_lenR ?_ Tryz.underlying32
   refine a_int (u := .bool (decide (x5 < (x0.length : Int)))) ?_
   refine RA.nil nofun ?_
   by_cases hc2 : x5 < (x0.length : Int)
   ·rw [if_pos hc2] at H
    refine AG.yes rfl (decide_eq_true hc2) ?_
    refine AG.skip ?_
    refine AG.seq ?_
    refine AG.block ?_
    refine AG.seq ?_
    refine AG.region HM ?_
    refine a_move (v := vR _ _) ?_
    refine a_move (v := vI _) ?_
    by_cases hc3 : 0 ≤ x5
    ·rw [if_pos hc3] at H
     refine a_ixR (el := c159 (rd159 x0 x5)) ?_ ⟨hc3, hc2⟩ T160 Tryz.underlying32 (hel := R159 hc3 hc2)
     refine a_ldR (v := .agg [_, _]) ?_ T160
     refine a_move (v := vR _ _) ?_
     refine a_move (v := vI _) ?_
     by_cases hc4 : x5 < (x1.length : Int)
     ·rw [if_pos hc4] at H
      refine a_ixR (el := c159 (rd159 x1 x5)) ?_ ⟨hc3, hc4⟩ T160 Tryz.underlying32 (hel := R159 hc3 hc4)
      refine a_ldR (v := .agg [_, _]) ?_ T160
      obtain ⟨t5, e6, H⟩ := bindO H
      refine a_call (v := vB t5) (nk := []) (L := []) ?_ rfl (laws_eqPoint.ok e6) id (qg (qg qn)) trivial trivial trivial rfl
      refine a_un (u := .bool (!t5)) ?_
      refine RA.nil (fun _ => by kernel_rfl) ?_
      by_cases hc7 : t5 = true
      ·rw [if_pos hc7] at H
       refine AG.no rfl (congrArg Bool.not hc7) ?_
       refine AG.skip ?_
       refine AG.region HM ?_
       refine a_move (v := vI _) ?_
       refine a_int (u := .int .i64 (wrap64 (x5 + 1))) ?_
       refine a_move (v := vI _) ?_
       refine RA.nil nofun ?_
       exact AGr.canon id (ih0 _ (by omega) _ ⟨by omega, _, _, _, H, rfl⟩) ⟨rfl, rfl, rfl, trivial⟩ trivial rfl
      ·rw [if_neg hc7] at H
       refine AG.yes rfl (congrArg Bool.not (Bool.eq_false_iff.2 hc7)) ?_
       refine AG.seq ?_
       refine AG.region HM ?_
       refine a_move (v := vB _) ?_
       refine RA.nil nofun ?_
       refine AG.ret ?_
       obtain rfl := Option.some.inj H
       exact RetP.mk id ⟨rfl, trivial⟩ trivial rfl
     ·rw [if_neg hc4] at H
      cases H
    ·rw [if_neg hc3] at H
     cases H
   ·rw [if_neg hc2] at H
    refine AG.no rfl (decide_eq_false hc2) ?_
    refine AG.exit ?_
    refine AG.seq ?_
    refine AG.region HM ?_
    refine a_move (v := vB _) ?_
    refine RA.nil nofun ?_
    refine AG.ret ?_
    obtain rfl := Option.some.inj H
    exact RetP.mk id ⟨rfl, trivial⟩ trivial rfl
 ·rw [if_neg hc1] at H
  refine AG.yes rfl (bne_iff_ne.2 hc1) ?_
  refine AG.seq ?_
  refine AG.region HM ?_
  refine a_move (v := vB _) ?_
  refine RA.nil nofun ?_
  refine AG.ret ?_
  obtain rfl := Option.some.inj H
  exact RetP.mk id ⟨rfl, trivial⟩ trivial rfl
/-! ### laws_eqInt64S: function 15 -/
def laws_eqInt64S.l0 : Nat → List Int → List Int → Int → Option (Bool)
 | 0, _, _, _ => none
 | k + 1, x0, x1, x5 => if x5 < (x0.length : Int) then (if 0 ≤ x5 then (if x5 < (x1.length : Int) then (if (rd2 x0 x5) = (rd2 x1 x5) then (laws_eqInt64S.l0 k x0 x1 (wrap64 (x5 + 1))) else (some false)) else (none)) else (none)) else (some true)
def laws_eqInt64S.f (k : Nat) (l0 : List Int) (l1 : List Int) : Option (Bool) := if (l0.length : Int) = (l1.length : Int) then (laws_eqInt64S.l0 k l0 l1 0) else (some false)
set_option maxRecDepth 100000 in
theorem laws_eqInt64S.ok {k : Nat} {l0 : List Int} {l1 : List Int} {r : Bool} (H : laws_eqInt64S.f k l0 l1 = some r) : OkF Tryz.prog 15 [vR 2 (l0.map c2), vR 2 (l1.map c2)] [] (.c (.d (.v (.bool r)))) [] := by
 unfold laws_eqInt64S.f at H
 refine OkF.of (N := 26) (rs := [4]) (avs := [.c (.d (.v (.bool r)))]) Tryz.func15 rfl rfl (fun _ _ => results_tmp rfl _ _ _) (by decide) rfl rfl rfl rfl (fun w0 S => ?_)
 refine AG.seq ?_
 refine AG.region HM ?_
 refine a_move (v := vB _) ?_
 refine RA.nil nofun ?_
 refine AG.seq ?_
 refine AG.seq ?_
 refine AG.region HM ?_
 refine a_move (v := vR _ _) ?_
 refine a_lenR ?_ Tryz.underlying29
 refine a_move (v := vR _ _) ?_
 refine a_lenR ?_ Tryz.underlying29
 refine a_int (u := .bool (((l0.length : Int) != (l1.length : Int)))) ?_
 refine RA.nil nofun ?_
 by_cases hc1 : (l0.length : Int) = (l1.length : Int)
 ·rw [if_pos hc1] at H
  refine AG.no rfl (bne_eq_false_iff_eq.2 hc1) ?_
  refine AG.skip ?_
  refine AG.seq ?_
  refine AG.seq ?_
  refine AG.region HM ?_
  refine a_move (v := vI _) ?_
  refine RA.nil nofun ?_
  refine AG.block ?_
  refine AG.loop ?_
  obtain ⟨K0, hK0, gK0⟩ : ∃ K, k ≤ K ∧ K ≤ k := ⟨k, Nat.le_refl k, Nat.le_refl k⟩
  refine AGr.canon id (AGr.loopI (n := k) (fun k s => k ≤ K0 ∧ ∃ (x0 : List Int) (x1 : List Int) (x5 : Int), laws_eqInt64S.l0 k x0 x1 x5 = some r ∧ s = St.of [(0, vR 2 (x0.map c2)), (1, vR 2 (x1.map c2)), (5, vI x5)] []) ⟨hK0, _, _, _, H, rfl⟩ ?_ ?_) ⟨rfl, rfl, rfl, trivial⟩ trivial rfl
  ·rintro _ ⟨_, _, _, _, H, _⟩
   cases H
  ·clear H hK0
   rintro k ih0 _ ⟨hK0, x0, x1, x5, H, rfl⟩
   unfold laws_eqInt64S.l0 at H
   refine AG.seq ?_
   refine AG.seq ?_
   refine AG.region HM ?_
   refine a_move (v := vI _) ?_
   refine a_move (v := vR _ _) ?_
   refine a_lenR ?_ Tryz.underlying29
   refine a_int (u := .bool (decide (x5 < (x0.length : Int)))) ?_
   refine RA.nil nofun ?_
   by_cases hc2 : x5 < (x0.length : Int)
   ·rw [if_pos hc2] at H
    refine AG.yes rfl (decide_eq_true hc2) ?_
    refine AG.skip ?_
    refine AG.seq ?_
    refine AG.block ?_
    refine AG.seq ?_
    refine AG.region HM ?_
    refine a_move (v := vR _ _) ?_
    refine a_move (v := vI _) ?_
    by_cases hc3 : 0 ≤ x5
    ·rw [if_pos hc3] at H
     refine a_ixR (el := c2 (rd2 x0 x5)) ?_ ⟨hc3, hc2⟩ T2 Tryz.underlying29 (hel := R2 hc3 hc2)
     refine a_ldR (v := vI _) ?_ T2
     refine a_move (v := vR _ _) ?_
     refine a_move (v := vI _) ?_
     by_cases hc4 : x5 < (x1.length : Int)
     ·rw [if_pos hc4] at H
      refine a_ixR (el := c2 (rd2 x1 x5)) ?_ ⟨hc3, hc4⟩ T2 Tryz.underlying29 (hel := R2 hc3 hc4)
      refine a_ldR (v := vI _) ?_ T2
      refine a_int (u := .bool (((rd2 x0 x5) != (rd2 x1 x5)))) ?_
      refine RA.nil (fun _ => by kernel_rfl) ?_
      by_cases hc5 : (rd2 x0 x5) = (rd2 x1 x5)
      ·rw [if_pos hc5] at H
       refine AG.no rfl (bne_eq_false_iff_eq.2 hc5) ?_
       refine AG.skip ?_
       refine AG.region HM ?_
       refine a_move (v := vI _) ?_
       refine a_int (u := .int .i64 (wrap64 (x5 + 1))) ?_
       refine a_move (v := vI _) ?_
       refine RA.nil nofun ?_
       exact AGr.canon id (ih0 _ (by omega) _ ⟨by omega, _, _, _, H, rfl⟩) ⟨rfl, rfl, rfl, trivial⟩ trivial rfl
      ·rw [if_neg hc5] at H
       refine AG.yes rfl (bne_iff_ne.2 hc5) ?_
       refine AG.seq ?_
       refine AG.region HM ?_
       refine a_move (v := vB _) ?_
       refine RA.nil nofun ?_
       refine AG.ret ?_
       obtain rfl := Option.some.inj H
       exact RetP.mk id ⟨rfl, trivial⟩ trivial rfl
     ·rw [if_neg hc4] at H
      cases H
    ·rw [if_neg hc3] at H
     cases H
   ·rw [if_neg hc2] at H
    refine AG.no rfl (decide_eq_false hc2) ?_
    refine AG.exit ?_
    refine AG.seq ?_
    refine AG.region HM ?_
    refine a_move (v := vB _) ?_
    refine RA.nil nofun ?_
    refine AG.ret ?_
    obtain rfl := Option.some.inj H
    exact RetP.mk id ⟨rfl, trivial⟩ trivial rfl
 ·rw [if_neg hc1] at H
  refine AG.yes rfl (bne_iff_ne.2 hc1) ?_
  refine AG.seq ?_
  refine AG.region HM ?_
  refine a_move (v := vB _) ?_
  refine RA.nil nofun ?_
  refine AG.ret ?_
  obtain rfl := Option.some.inj H
  exact RetP.mk id ⟨rfl, trivial⟩ trivial rfl
/-! ### laws_eqFace: function 120 -/
def laws_eqFace.f (k : Nat) (a0_0 : ByteArray) (l0_1 : List Int) (a1_0 : ByteArray) (l1_1 : List Int) : Option (Bool) := if a0_0.toList = a1_0.toList then ((laws_eqInt64S.f k l0_1 l1_1).bind fun t2 => (if t2 = true then (some true) else (some false))) else (some false)
set_option maxRecDepth 100000 in
theorem laws_eqFace.ok {k : Nat} {a0_0 : ByteArray} {l0_1 : List Int} {a1_0 : ByteArray} {l1_1 : List Int} {r : Bool} (H : laws_eqFace.f k a0_0 l0_1 a1_0 l1_1 = some r) : OkF Tryz.prog 120 [.agg [.d (.v (.string a0_0)), .d (.row 2 (l0_1.map c2))], .agg [.d (.v (.string a1_0)), .d (.row 2 (l1_1.map c2))]] [] (.c (.d (.v (.bool r)))) [] := by
 unfold laws_eqFace.f at H
 refine OkF.of (N := 16) (rs := [4]) (avs := [.c (.d (.v (.bool r)))]) Tryz.func120 rfl rfl (fun _ _ => results_tmp rfl _ _ _) (by decide) rfl rfl rfl rfl (fun w0 S => ?_)
 refine AG.seq ?_
 refine AG.region HM ?_
 refine a_box 200 ?_
 refine a_box 201 ?_
 refine a_move (v := vB _) ?_
 refine RA.nil nofun ?_
 refine AG.seq ?_
 refine AG.seq ?_
 refine AG.region HM ?_
 refine a_faB (q := 0) ?_ D152_0
 refine a_ldB (v := vS _) ?_ T9
 refine a_faB (q := 0) ?_ D152_0
 refine a_ldB (v := vS _) ?_ T9
 refine a_bin (u := .bool (!(a0_0.toList == a1_0.toList))) ?_
 refine RA.nil nofun ?_
 by_cases hc1 : a0_0.toList = a1_0.toList
 ·rw [if_pos hc1] at H
  refine AG.no rfl (by rw [beq_iff_eq.2 hc1]; rfl) ?_
  refine AG.skip ?_
  refine AG.seq ?_
  refine AG.seq ?_
  refine AG.region HM ?_
  refine a_faB (q := 1) ?_ D152_1
  refine a_ldB (v := vR _ _) ?_ T29
  refine a_faB (q := 1) ?_ D152_1
  refine a_ldB (v := vR _ _) ?_ T29
  obtain ⟨t2, e3, H⟩ := bindO H
  refine a_call (v := vB t2) (nk := []) (L := []) ?_ rfl (laws_eqInt64S.ok e3) id (qd (qd qn)) trivial trivial trivial rfl
  refine a_un (u := .bool (!t2)) ?_
  refine RA.nil nofun ?_
  by_cases hc4 : t2 = true
  ·rw [if_pos hc4] at H
   refine AG.no rfl (congrArg Bool.not hc4) ?_
   refine AG.skip ?_
   refine AG.seq ?_
   refine AG.region HM ?_
   refine a_move (v := vB _) ?_
   refine RA.nil nofun ?_
   refine AG.ret ?_
   obtain rfl := Option.some.inj H
   exact RetP.mk id ⟨rfl, trivial⟩ trivial rfl
  ·rw [if_neg hc4] at H
   refine AG.yes rfl (congrArg Bool.not (Bool.eq_false_iff.2 hc4)) ?_
   refine AG.seq ?_
   refine AG.region HM ?_
   refine a_move (v := vB _) ?_
   refine RA.nil nofun ?_
   refine AG.ret ?_
   obtain rfl := Option.some.inj H
   exact RetP.mk id ⟨rfl, trivial⟩ trivial rfl
 ·rw [if_neg hc1] at H
  refine AG.yes rfl (by rw [beq_eq_false_iff_ne.2 hc1]; rfl) ?_
  refine AG.seq ?_
  refine AG.region HM ?_
  refine a_move (v := vB _) ?_
  refine RA.nil nofun ?_
  refine AG.ret ?_
  obtain rfl := Option.some.inj H
  exact RetP.mk id ⟨rfl, trivial⟩ trivial rfl
/-! ### laws_eqFaceS: function 57 -/
def laws_eqFaceS.l0 : Nat → List S146 → List S146 → Int → Option (Bool)
 | 0, _, _, _ => none
 | k + 1, x0, x1, x5 => if x5 < (x0.length : Int) then (if 0 ≤ x5 then (if x5 < (x1.length : Int) then ((laws_eqFace.f k ((rd146 x0 x5).f0) ((rd146 x0 x5).f1) ((rd146 x1 x5).f0) ((rd146 x1 x5).f1)).bind fun t5 => (if t5 = true then (laws_eqFaceS.l0 k x0 x1 (wrap64 (x5 + 1))) else (some false))) else (none)) else (none)) else (some true)
def laws_eqFaceS.f (k : Nat) (l0 : List S146) (l1 : List S146) : Option (Bool) := if (l0.length : Int) = (l1.length : Int) then (laws_eqFaceS.l0 k l0 l1 0) else (some false)
set_option maxRecDepth 100000 in
theorem laws_eqFaceS.ok {k : Nat} {l0 : List S146} {l1 : List S146} {r : Bool} (H : laws_eqFaceS.f k l0 l1 = some r) : OkF Tryz.prog 57 [vR 152 (l0.map c146), vR 152 (l1.map c146)] [] (.c (.d (.v (.bool r)))) [] := by
 unfold laws_eqFaceS.f at H
 refine OkF.of (N := 27) (rs := [4]) (avs := [.c (.d (.v (.bool r)))]) Tryz.func57 rfl rfl (fun _ _ => results_tmp rfl _ _ _) (by decide) rfl rfl rfl rfl (fun w0 S => ?_)
 refine AG.seq ?_
 refine AG.region HM ?_
 refine a_move (v := vB _) ?_
 refine RA.nil nofun ?_
 refine AG.seq ?_
 refine AG.seq ?_
 refine AG.region HM ?_
 refine a_move (v := vR _ _) ?_
 refine a_lenR ?_ Tryz.underlying33
 refine a_move (v := vR _ _) ?_
 refine a_lenR ?_ Tryz.underlying33
 refine a_int (u := .bool (((l0.length : Int) != (l1.length : Int)))) ?_
 refine RA.nil nofun ?_
 by_cases hc1 : (l0.length : Int) = (l1.length : Int)
 ·rw [if_pos hc1] at H
  refine AG.no rfl (bne_eq_false_iff_eq.2 hc1) ?_
  refine AG.skip ?_
  refine AG.seq ?_
  refine AG.seq ?_
  refine AG.region HM ?_
  refine a_move (v := vI _) ?_
  refine RA.nil nofun ?_
  refine AG.block ?_
  refine AG.loop ?_
  obtain ⟨K0, hK0, gK0⟩ : ∃ K, k ≤ K ∧ K ≤ k := ⟨k, Nat.le_refl k, Nat.le_refl k⟩
  refine AGr.canon id (AGr.loopI (n := k) (fun k s => k ≤ K0 ∧ ∃ (x0 : List S146) (x1 : List S146) (x5 : Int), laws_eqFaceS.l0 k x0 x1 x5 = some r ∧ s = St.of [(0, vR 152 (x0.map c146)), (1, vR 152 (x1.map c146)), (5, vI x5)] []) ⟨hK0, _, _, _, H, rfl⟩ ?_ ?_) ⟨rfl, rfl, rfl, trivial⟩ trivial rfl
  ·rintro _ ⟨_, _, _, _, H, _⟩
   cases H
  ·clear H hK0
   rintro k ih0 _ ⟨hK0, x0, x1, x5, H, rfl⟩
   unfold laws_eqFaceS.l0 at H
   refine AG.seq ?_
   refine AG.seq ?_
   refine AG.region HM ?_
   refine a_move (v := vI _) ?_
   refine a_move (v := vR _ _) ?_
   refine a_lenR ?_ Tryz.underlying33
   refine a_int (u := .bool (decide (x5 < (x0.length : Int)))) ?_
   refine RA.nil nofun ?_
   by_cases hc2 : x5 < (x0.length : Int)
   ·rw [if_pos hc2] at H
    refine AG.yes rfl (decide_eq_true hc2) ?_
    refine AG.skip ?_
    refine AG.seq ?_
    refine AG.block ?_
    refine AG.seq ?_
    refine AG.region HM ?_
    refine a_move (v := vR _ _) ?_
    refine a_move (v := vI _) ?_
    by_cases hc3 : 0 ≤ x5
    ·rw [if_pos hc3] at H
     refine a_ixR (el := c146 (rd146 x0 x5)) ?_ ⟨hc3, hc2⟩ T152 Tryz.underlying33 (hel := R146 hc3 hc2)
     refine a_ldR (v := .agg [_, _]) ?_ T152
     refine a_move (v := vR _ _) ?_
     refine a_move (v := vI _) ?_
     by_cases hc4 : x5 < (x1.length : Int)
     ·rw [if_pos hc4] at H
      refine a_ixR (el := c146 (rd146 x1 x5)) ?_ ⟨hc3, hc4⟩ T152 Tryz.underlying33 (hel := R146 hc3 hc4)
      refine a_ldR (v := .agg [_, _]) ?_ T152
      obtain ⟨t5, e6, H⟩ := bindO H
      refine a_call (v := vB t5) (nk := []) (L := []) ?_ rfl (laws_eqFace.ok e6) id (qg (qg qn)) trivial trivial trivial rfl
      refine a_un (u := .bool (!t5)) ?_
      refine RA.nil (fun _ => by kernel_rfl) ?_
      by_cases hc7 : t5 = true
      ·rw [if_pos hc7] at H
       refine AG.no rfl (congrArg Bool.not hc7) ?_
       refine AG.skip ?_
       refine AG.region HM ?_
       refine a_move (v := vI _) ?_
       refine a_int (u := .int .i64 (wrap64 (x5 + 1))) ?_
       refine a_move (v := vI _) ?_
       refine RA.nil nofun ?_
       exact AGr.canon id (ih0 _ (by omega) _ ⟨by omega, _, _, _, H, rfl⟩) ⟨rfl, rfl, rfl, trivial⟩ trivial rfl
      ·rw [if_neg hc7] at H
       refine AG.yes rfl (congrArg Bool.not (Bool.eq_false_iff.2 hc7)) ?_
       refine AG.seq ?_
       refine AG.region HM ?_
       refine a_move (v := vB _) ?_
       refine RA.nil nofun ?_
       refine AG.ret ?_
       obtain rfl := Option.some.inj H
       exact RetP.mk id ⟨rfl, trivial⟩ trivial rfl
     ·rw [if_neg hc4] at H
      cases H
    ·rw [if_neg hc3] at H
     cases H
   ·rw [if_neg hc2] at H
    refine AG.no rfl (decide_eq_false hc2) ?_
    refine AG.exit ?_
    refine AG.seq ?_
    refine AG.region HM ?_
    refine a_move (v := vB _) ?_
    refine RA.nil nofun ?_
    refine AG.ret ?_
    obtain rfl := Option.some.inj H
    exact RetP.mk id ⟨rfl, trivial⟩ trivial rfl
 ·rw [if_neg hc1] at H
  refine AG.yes rfl (bne_iff_ne.2 hc1) ?_
  refine AG.seq ?_
  refine AG.region HM ?_
  refine a_move (v := vB _) ?_
  refine RA.nil nofun ?_
  refine AG.ret ?_
  obtain rfl := Option.some.inj H
  exact RetP.mk id ⟨rfl, trivial⟩ trivial rfl
/-! ### laws_eqDrawing: function 16 -/
def laws_eqDrawing.f (k : Nat) (a0_0 : Int) (a0_1 : Int) (l0_2 : List S159) (l0_3 : List S146) (a1_0 : Int) (a1_1 : Int) (l1_2 : List S159) (l1_3 : List S146) : Option (Bool) := if a0_0 = a1_0 then (if a0_1 = a1_1 then ((laws_eqPointS.f k l0_2 l1_2).bind fun t3 => (if t3 = true then ((laws_eqFaceS.f k l0_3 l1_3).bind fun t6 => (if t6 = true then (some true) else (some false))) else (some false))) else (some false)) else (some false)
set_option maxRecDepth 100000 in
theorem laws_eqDrawing.ok {k : Nat} {a0_0 : Int} {a0_1 : Int} {l0_2 : List S159} {l0_3 : List S146} {a1_0 : Int} {a1_1 : Int} {l1_2 : List S159} {l1_3 : List S146} {r : Bool} (H : laws_eqDrawing.f k a0_0 a0_1 l0_2 l0_3 a1_0 a1_1 l1_2 l1_3 = some r) : OkF Tryz.prog 16 [.agg [.d (.v (.int .i64 a0_0)), .d (.v (.int .i64 a0_1)), .d (.row 160 (l0_2.map c159)), .d (.row 152 (l0_3.map c146))], .agg [.d (.v (.int .i64 a1_0)), .d (.v (.int .i64 a1_1)), .d (.row 160 (l1_2.map c159)), .d (.row 152 (l1_3.map c146))]] [] (.c (.d (.v (.bool r)))) [] := by
 unfold laws_eqDrawing.f at H
 refine OkF.of (N := 27) (rs := [4]) (avs := [.c (.d (.v (.bool r)))]) Tryz.func16 rfl rfl (fun _ _ => results_tmp rfl _ _ _) (by decide) rfl rfl rfl rfl (fun w0 S => ?_)
 refine AG.seq ?_
 refine AG.region HM ?_
 refine a_box 200 ?_
 refine a_box 201 ?_
 refine a_move (v := vB _) ?_
 refine RA.nil nofun ?_
 refine AG.seq ?_
 refine AG.seq ?_
 refine AG.region HM ?_
 refine a_faB (q := 0) ?_ D35_0
 refine a_ldB (v := vI _) ?_ T2
 refine a_faB (q := 0) ?_ D35_0
 refine a_ldB (v := vI _) ?_ T2
 refine a_int (u := .bool ((a0_0 != a1_0))) ?_
 refine RA.nil nofun ?_
 by_cases hc1 : a0_0 = a1_0
 ·rw [if_pos hc1] at H
  refine AG.no rfl (bne_eq_false_iff_eq.2 hc1) ?_
  refine AG.skip ?_
  refine AG.seq ?_
  refine AG.seq ?_
  refine AG.region HM ?_
  refine a_faB (q := 1) ?_ D35_1
  refine a_ldB (v := vI _) ?_ T2
  refine a_faB (q := 1) ?_ D35_1
  refine a_ldB (v := vI _) ?_ T2
  refine a_int (u := .bool ((a0_1 != a1_1))) ?_
  refine RA.nil nofun ?_
  by_cases hc2 : a0_1 = a1_1
  ·rw [if_pos hc2] at H
   refine AG.no rfl (bne_eq_false_iff_eq.2 hc2) ?_
   refine AG.skip ?_
   refine AG.seq ?_
   refine AG.seq ?_
   refine AG.region HM ?_
   refine a_faB (q := 2) ?_ D35_2
   refine a_ldB (v := vR _ _) ?_ T32
   refine a_faB (q := 2) ?_ D35_2
   refine a_ldB (v := vR _ _) ?_ T32
   obtain ⟨t3, e4, H⟩ := bindO H
   refine a_call (v := vB t3) (nk := []) (L := []) ?_ rfl (laws_eqPointS.ok e4) id (qd (qd qn)) trivial trivial trivial rfl
   refine a_un (u := .bool (!t3)) ?_
   refine RA.nil nofun ?_
   by_cases hc5 : t3 = true
   ·rw [if_pos hc5] at H
    refine AG.no rfl (congrArg Bool.not hc5) ?_
    refine AG.skip ?_
    refine AG.seq ?_
    refine AG.seq ?_
    refine AG.region HM ?_
    refine a_faB (q := 3) ?_ D35_3
    refine a_ldB (v := vR _ _) ?_ T33
    refine a_faB (q := 3) ?_ D35_3
    refine a_ldB (v := vR _ _) ?_ T33
    obtain ⟨t6, e7, H⟩ := bindO H
    refine a_call (v := vB t6) (nk := []) (L := []) ?_ rfl (laws_eqFaceS.ok e7) id (qd (qd qn)) trivial trivial trivial rfl
    refine a_un (u := .bool (!t6)) ?_
    refine RA.nil nofun ?_
    by_cases hc8 : t6 = true
    ·rw [if_pos hc8] at H
     refine AG.no rfl (congrArg Bool.not hc8) ?_
     refine AG.skip ?_
     refine AG.seq ?_
     refine AG.region HM ?_
     refine a_move (v := vB _) ?_
     refine RA.nil nofun ?_
     refine AG.ret ?_
     obtain rfl := Option.some.inj H
     exact RetP.mk id ⟨rfl, trivial⟩ trivial rfl
    ·rw [if_neg hc8] at H
     refine AG.yes rfl (congrArg Bool.not (Bool.eq_false_iff.2 hc8)) ?_
     refine AG.seq ?_
     refine AG.region HM ?_
     refine a_move (v := vB _) ?_
     refine RA.nil nofun ?_
     refine AG.ret ?_
     obtain rfl := Option.some.inj H
     exact RetP.mk id ⟨rfl, trivial⟩ trivial rfl
   ·rw [if_neg hc5] at H
    refine AG.yes rfl (congrArg Bool.not (Bool.eq_false_iff.2 hc5)) ?_
    refine AG.seq ?_
    refine AG.region HM ?_
    refine a_move (v := vB _) ?_
    refine RA.nil nofun ?_
    refine AG.ret ?_
    obtain rfl := Option.some.inj H
    exact RetP.mk id ⟨rfl, trivial⟩ trivial rfl
  ·rw [if_neg hc2] at H
   refine AG.yes rfl (bne_iff_ne.2 hc2) ?_
   refine AG.seq ?_
   refine AG.region HM ?_
   refine a_move (v := vB _) ?_
   refine RA.nil nofun ?_
   refine AG.ret ?_
   obtain rfl := Option.some.inj H
   exact RetP.mk id ⟨rfl, trivial⟩ trivial rfl
 ·rw [if_neg hc1] at H
  refine AG.yes rfl (bne_iff_ne.2 hc1) ?_
  refine AG.seq ?_
  refine AG.region HM ?_
  refine a_move (v := vB _) ?_
  refine RA.nil nofun ?_
  refine AG.ret ?_
  obtain rfl := Option.some.inj H
  exact RetP.mk id ⟨rfl, trivial⟩ trivial rfl
/-! ### laws_eqVeneerS: function 81 -/
def laws_eqVeneerS.l0 : Nat → List S81 → List S81 → Int → Option (Bool)
 | 0, _, _, _ => none
 | k + 1, x0, x1, x5 => if x5 < (x0.length : Int) then (if 0 ≤ x5 then (if x5 < (x1.length : Int) then ((laws_eqVeneer.f ((rd81 x0 x5).f0) ((rd81 x0 x5).f1) ((rd81 x0 x5).f2) ((rd81 x1 x5).f0) ((rd81 x1 x5).f1) ((rd81 x1 x5).f2)).bind fun t5 => (if t5 = true then (laws_eqVeneerS.l0 k x0 x1 (wrap64 (x5 + 1))) else (some false))) else (none)) else (none)) else (some true)
def laws_eqVeneerS.f (k : Nat) (l0 : List S81) (l1 : List S81) : Option (Bool) := if (l0.length : Int) = (l1.length : Int) then (laws_eqVeneerS.l0 k l0 l1 0) else (some false)
set_option maxRecDepth 100000 in
theorem laws_eqVeneerS.ok {k : Nat} {l0 : List S81} {l1 : List S81} {r : Bool} (H : laws_eqVeneerS.f k l0 l1 = some r) : OkF Tryz.prog 81 [vR 92 (l0.map c81), vR 92 (l1.map c81)] [] (.c (.d (.v (.bool r)))) [] := by
 unfold laws_eqVeneerS.f at H
 refine OkF.of (N := 27) (rs := [4]) (avs := [.c (.d (.v (.bool r)))]) Tryz.func81 rfl rfl (fun _ _ => results_tmp rfl _ _ _) (by decide) rfl rfl rfl rfl (fun w0 S => ?_)
 refine AG.seq ?_
 refine AG.region HM ?_
 refine a_move (v := vB _) ?_
 refine RA.nil nofun ?_
 refine AG.seq ?_
 refine AG.seq ?_
 refine AG.region HM ?_
 refine a_move (v := vR _ _) ?_
 refine a_lenR ?_ Tryz.underlying56
 refine a_move (v := vR _ _) ?_
 refine a_lenR ?_ Tryz.underlying56
 refine a_int (u := .bool (((l0.length : Int) != (l1.length : Int)))) ?_
 refine RA.nil nofun ?_
 by_cases hc1 : (l0.length : Int) = (l1.length : Int)
 ·rw [if_pos hc1] at H
  refine AG.no rfl (bne_eq_false_iff_eq.2 hc1) ?_
  refine AG.skip ?_
  refine AG.seq ?_
  refine AG.seq ?_
  refine AG.region HM ?_
  refine a_move (v := vI _) ?_
  refine RA.nil nofun ?_
  refine AG.block ?_
  refine AG.loop ?_
  obtain ⟨K0, hK0, gK0⟩ : ∃ K, k ≤ K ∧ K ≤ k := ⟨k, Nat.le_refl k, Nat.le_refl k⟩
  refine AGr.canon id (AGr.loopI (n := k) (fun k s => k ≤ K0 ∧ ∃ (x0 : List S81) (x1 : List S81) (x5 : Int), laws_eqVeneerS.l0 k x0 x1 x5 = some r ∧ s = St.of [(0, vR 92 (x0.map c81)), (1, vR 92 (x1.map c81)), (5, vI x5)] []) ⟨hK0, _, _, _, H, rfl⟩ ?_ ?_) ⟨rfl, rfl, rfl, trivial⟩ trivial rfl
  ·rintro _ ⟨_, _, _, _, H, _⟩
   cases H
  ·clear H hK0
   rintro k ih0 _ ⟨hK0, x0, x1, x5, H, rfl⟩
   unfold laws_eqVeneerS.l0 at H
   refine AG.seq ?_
   refine AG.seq ?_
   refine AG.region HM ?_
   refine a_move (v := vI _) ?_
   refine a_move (v := vR _ _) ?_
   refine a_lenR ?_ Tryz.underlying56
   refine a_int (u := .bool (decide (x5 < (x0.length : Int)))) ?_
   refine RA.nil nofun ?_
   by_cases hc2 : x5 < (x0.length : Int)
   ·rw [if_pos hc2] at H
    refine AG.yes rfl (decide_eq_true hc2) ?_
    refine AG.skip ?_
    refine AG.seq ?_
    refine AG.block ?_
    refine AG.seq ?_
    refine AG.region HM ?_
    refine a_move (v := vR _ _) ?_
    refine a_move (v := vI _) ?_
    by_cases hc3 : 0 ≤ x5
    ·rw [if_pos hc3] at H
     refine a_ixR (el := c81 (rd81 x0 x5)) ?_ ⟨hc3, hc2⟩ T92 Tryz.underlying56 (hel := R81 hc3 hc2)
     refine a_ldR (v := .agg [_, _, _]) ?_ T92
     refine a_move (v := vR _ _) ?_
     refine a_move (v := vI _) ?_
     by_cases hc4 : x5 < (x1.length : Int)
     ·rw [if_pos hc4] at H
      refine a_ixR (el := c81 (rd81 x1 x5)) ?_ ⟨hc3, hc4⟩ T92 Tryz.underlying56 (hel := R81 hc3 hc4)
      refine a_ldR (v := .agg [_, _, _]) ?_ T92
      obtain ⟨t5, e6, H⟩ := bindO H
      refine a_call (v := vB t5) (nk := []) (L := []) ?_ rfl (laws_eqVeneer.ok e6) id (qg (qg qn)) trivial trivial trivial rfl
      refine a_un (u := .bool (!t5)) ?_
      refine RA.nil (fun _ => by kernel_rfl) ?_
      by_cases hc7 : t5 = true
      ·rw [if_pos hc7] at H
       refine AG.no rfl (congrArg Bool.not hc7) ?_
       refine AG.skip ?_
       refine AG.region HM ?_
       refine a_move (v := vI _) ?_
       refine a_int (u := .int .i64 (wrap64 (x5 + 1))) ?_
       refine a_move (v := vI _) ?_
       refine RA.nil nofun ?_
       exact AGr.canon id (ih0 _ (by omega) _ ⟨by omega, _, _, _, H, rfl⟩) ⟨rfl, rfl, rfl, trivial⟩ trivial rfl
      ·rw [if_neg hc7] at H
       refine AG.yes rfl (congrArg Bool.not (Bool.eq_false_iff.2 hc7)) ?_
       refine AG.seq ?_
       refine AG.region HM ?_
       refine a_move (v := vB _) ?_
       refine RA.nil nofun ?_
       refine AG.ret ?_
       obtain rfl := Option.some.inj H
       exact RetP.mk id ⟨rfl, trivial⟩ trivial rfl
     ·rw [if_neg hc4] at H
      cases H
    ·rw [if_neg hc3] at H
     cases H
   ·rw [if_neg hc2] at H
    refine AG.no rfl (decide_eq_false hc2) ?_
    refine AG.exit ?_
    refine AG.seq ?_
    refine AG.region HM ?_
    refine a_move (v := vB _) ?_
    refine RA.nil nofun ?_
    refine AG.ret ?_
    obtain rfl := Option.some.inj H
    exact RetP.mk id ⟨rfl, trivial⟩ trivial rfl
 ·rw [if_neg hc1] at H
  refine AG.yes rfl (bne_iff_ne.2 hc1) ?_
  refine AG.seq ?_
  refine AG.region HM ?_
  refine a_move (v := vB _) ?_
  refine RA.nil nofun ?_
  refine AG.ret ?_
  obtain rfl := Option.some.inj H
  exact RetP.mk id ⟨rfl, trivial⟩ trivial rfl
/-! ### laws_eqPicture: function 32 -/
def laws_eqPicture.f (k : Nat) (a0_0 : Int) (a0_1 : Int) (l0_2 : List S159) (l0_3 : List S146) (l0_4 : List S81) (a1_0 : Int) (a1_1 : Int) (l1_2 : List S159) (l1_3 : List S146) (l1_4 : List S81) : Option (Bool) := (laws_eqDrawing.f k a0_0 a0_1 l0_2 l0_3 a1_0 a1_1 l1_2 l1_3).bind fun t1 => (if t1 = true then ((laws_eqVeneerS.f k l0_4 l1_4).bind fun t4 => (if t4 = true then (some true) else (some false))) else (some false))
set_option maxRecDepth 100000 in
theorem laws_eqPicture.ok {k : Nat} {a0_0 : Int} {a0_1 : Int} {l0_2 : List S159} {l0_3 : List S146} {l0_4 : List S81} {a1_0 : Int} {a1_1 : Int} {l1_2 : List S159} {l1_3 : List S146} {l1_4 : List S81} {r : Bool} (H : laws_eqPicture.f k a0_0 a0_1 l0_2 l0_3 l0_4 a1_0 a1_1 l1_2 l1_3 l1_4 = some r) : OkF Tryz.prog 32 [.agg [.d (.v (.int .i64 a0_0)), .d (.v (.int .i64 a0_1)), .d (.row 160 (l0_2.map c159)), .d (.row 152 (l0_3.map c146)), .d (.row 92 (l0_4.map c81))], .agg [.d (.v (.int .i64 a1_0)), .d (.v (.int .i64 a1_1)), .d (.row 160 (l1_2.map c159)), .d (.row 152 (l1_3.map c146)), .d (.row 92 (l1_4.map c81))]] [] (.c (.d (.v (.bool r)))) [] := by
 unfold laws_eqPicture.f at H
 refine OkF.of (N := 17) (rs := [4]) (avs := [.c (.d (.v (.bool r)))]) Tryz.func32 rfl rfl (fun _ _ => results_tmp rfl _ _ _) (by decide) rfl rfl rfl rfl (fun w0 S => ?_)
 refine AG.seq ?_
 refine AG.region HM ?_
 refine a_box 200 ?_
 refine a_box 201 ?_
 refine a_move (v := vB _) ?_
 refine RA.nil nofun ?_
 refine AG.seq ?_
 refine AG.seq ?_
 refine AG.region HM ?_
 refine a_faB (q := 0) ?_ D58_0
 refine a_ldB (v := .agg [_, _, _, _]) ?_ T35
 refine a_faB (q := 0) ?_ D58_0
 refine a_ldB (v := .agg [_, _, _, _]) ?_ T35
 obtain ⟨t1, e2, H⟩ := bindO H
 refine a_call (v := vB t1) (nk := []) (L := []) ?_ rfl (laws_eqDrawing.ok e2) id (qg (qg qn)) trivial trivial trivial rfl
 refine a_un (u := .bool (!t1)) ?_
 refine RA.nil nofun ?_
 by_cases hc3 : t1 = true
 ·rw [if_pos hc3] at H
  refine AG.no rfl (congrArg Bool.not hc3) ?_
  refine AG.skip ?_
  refine AG.seq ?_
  refine AG.seq ?_
  refine AG.region HM ?_
  refine a_faB (q := 4) ?_ D58_1
  refine a_ldB (v := vR _ _) ?_ T56
  refine a_faB (q := 4) ?_ D58_1
  refine a_ldB (v := vR _ _) ?_ T56
  obtain ⟨t4, e5, H⟩ := bindO H
  refine a_call (v := vB t4) (nk := []) (L := []) ?_ rfl (laws_eqVeneerS.ok e5) id (qd (qd qn)) trivial trivial trivial rfl
  refine a_un (u := .bool (!t4)) ?_
  refine RA.nil nofun ?_
  by_cases hc6 : t4 = true
  ·rw [if_pos hc6] at H
   refine AG.no rfl (congrArg Bool.not hc6) ?_
   refine AG.skip ?_
   refine AG.seq ?_
   refine AG.region HM ?_
   refine a_move (v := vB _) ?_
   refine RA.nil nofun ?_
   refine AG.ret ?_
   obtain rfl := Option.some.inj H
   exact RetP.mk id ⟨rfl, trivial⟩ trivial rfl
  ·rw [if_neg hc6] at H
   refine AG.yes rfl (congrArg Bool.not (Bool.eq_false_iff.2 hc6)) ?_
   refine AG.seq ?_
   refine AG.region HM ?_
   refine a_move (v := vB _) ?_
   refine RA.nil nofun ?_
   refine AG.ret ?_
   obtain rfl := Option.some.inj H
   exact RetP.mk id ⟨rfl, trivial⟩ trivial rfl
 ·rw [if_neg hc3] at H
  refine AG.yes rfl (congrArg Bool.not (Bool.eq_false_iff.2 hc3)) ?_
  refine AG.seq ?_
  refine AG.region HM ?_
  refine a_move (v := vB _) ?_
  refine RA.nil nofun ?_
  refine AG.ret ?_
  obtain rfl := Option.some.inj H
  exact RetP.mk id ⟨rfl, trivial⟩ trivial rfl
/-! ### laws_eqPlacement: function 82 -/
def laws_eqPlacement.f (a0_0 : Int) (a0_1 : Int) (a0_2 : Int) (a0_3 : Int) (a0_4 : Int) (a1_0 : Int) (a1_1 : Int) (a1_2 : Int) (a1_3 : Int) (a1_4 : Int) : Option (Bool) := if a0_0 = a1_0 then (if a0_1 = a1_1 then (if a0_2 = a1_2 then (if a0_3 = a1_3 then (if a0_4 = a1_4 then (some true) else (some false)) else (some false)) else (some false)) else (some false)) else (some false)
set_option maxRecDepth 100000 in
theorem laws_eqPlacement.ok {a0_0 : Int} {a0_1 : Int} {a0_2 : Int} {a0_3 : Int} {a0_4 : Int} {a1_0 : Int} {a1_1 : Int} {a1_2 : Int} {a1_3 : Int} {a1_4 : Int} {r : Bool} (H : laws_eqPlacement.f a0_0 a0_1 a0_2 a0_3 a0_4 a1_0 a1_1 a1_2 a1_3 a1_4 = some r) : OkF Tryz.prog 82 [.agg [.d (.v (.int .i64 a0_0)), .d (.v (.int .i64 a0_1)), .d (.v (.int .i64 a0_2)), .d (.v (.int .i64 a0_3)), .d (.v (.int .i64 a0_4))], .agg [.d (.v (.int .i64 a1_0)), .d (.v (.int .i64 a1_1)), .d (.v (.int .i64 a1_2)), .d (.v (.int .i64 a1_3)), .d (.v (.int .i64 a1_4))]] [] (.c (.d (.v (.bool r)))) [] := by
 unfold laws_eqPlacement.f at H
 refine OkF.of (N := 30) (rs := [4]) (avs := [.c (.d (.v (.bool r)))]) Tryz.func82 rfl rfl (fun _ _ => results_tmp rfl _ _ _) (by decide) rfl rfl rfl rfl (fun w0 S => ?_)
 refine AG.seq ?_
 refine AG.region HM ?_
 refine a_box 200 ?_
 refine a_box 201 ?_
 refine a_move (v := vB _) ?_
 refine RA.nil nofun ?_
 refine AG.seq ?_
 refine AG.seq ?_
 refine AG.region HM ?_
 refine a_faB (q := 0) ?_ D116_0
 refine a_ldB (v := vI _) ?_ T2
 refine a_faB (q := 0) ?_ D116_0
 refine a_ldB (v := vI _) ?_ T2
 refine a_int (u := .bool ((a0_0 != a1_0))) ?_
 refine RA.nil nofun ?_
 by_cases hc1 : a0_0 = a1_0
 ·rw [if_pos hc1] at H
  refine AG.no rfl (bne_eq_false_iff_eq.2 hc1) ?_
  refine AG.skip ?_
  refine AG.seq ?_
  refine AG.seq ?_
  refine AG.region HM ?_
  refine a_faB (q := 1) ?_ D116_1
  refine a_ldB (v := vI _) ?_ T2
  refine a_faB (q := 1) ?_ D116_1
  refine a_ldB (v := vI _) ?_ T2
  refine a_int (u := .bool ((a0_1 != a1_1))) ?_
  refine RA.nil nofun ?_
  by_cases hc2 : a0_1 = a1_1
  ·rw [if_pos hc2] at H
   refine AG.no rfl (bne_eq_false_iff_eq.2 hc2) ?_
   refine AG.skip ?_
   refine AG.seq ?_
   refine AG.seq ?_
   refine AG.region HM ?_
   refine a_faB (q := 2) ?_ D116_2
   refine a_ldB (v := vI _) ?_ T2
   refine a_faB (q := 2) ?_ D116_2
   refine a_ldB (v := vI _) ?_ T2
   refine a_int (u := .bool ((a0_2 != a1_2))) ?_
   refine RA.nil nofun ?_
   by_cases hc3 : a0_2 = a1_2
   ·rw [if_pos hc3] at H
    refine AG.no rfl (bne_eq_false_iff_eq.2 hc3) ?_
    refine AG.skip ?_
    refine AG.seq ?_
    refine AG.seq ?_
    refine AG.region HM ?_
    refine a_faB (q := 3) ?_ D116_3
    refine a_ldB (v := vI _) ?_ T2
    refine a_faB (q := 3) ?_ D116_3
    refine a_ldB (v := vI _) ?_ T2
    refine a_int (u := .bool ((a0_3 != a1_3))) ?_
    refine RA.nil nofun ?_
    by_cases hc4 : a0_3 = a1_3
    ·rw [if_pos hc4] at H
     refine AG.no rfl (bne_eq_false_iff_eq.2 hc4) ?_
     refine AG.skip ?_
     refine AG.seq ?_
     refine AG.seq ?_
     refine AG.region HM ?_
     refine a_faB (q := 4) ?_ D116_4
     refine a_ldB (v := vI _) ?_ T2
     refine a_faB (q := 4) ?_ D116_4
     refine a_ldB (v := vI _) ?_ T2
     refine a_int (u := .bool ((a0_4 != a1_4))) ?_
     refine RA.nil nofun ?_
     by_cases hc5 : a0_4 = a1_4
     ·rw [if_pos hc5] at H
      refine AG.no rfl (bne_eq_false_iff_eq.2 hc5) ?_
      refine AG.skip ?_
      refine AG.seq ?_
      refine AG.region HM ?_
      refine a_move (v := vB _) ?_
      refine RA.nil nofun ?_
      refine AG.ret ?_
      obtain rfl := Option.some.inj H
      exact RetP.mk id ⟨rfl, trivial⟩ trivial rfl
     ·rw [if_neg hc5] at H
      refine AG.yes rfl (bne_iff_ne.2 hc5) ?_
      refine AG.seq ?_
      refine AG.region HM ?_
      refine a_move (v := vB _) ?_
      refine RA.nil nofun ?_
      refine AG.ret ?_
      obtain rfl := Option.some.inj H
      exact RetP.mk id ⟨rfl, trivial⟩ trivial rfl
    ·rw [if_neg hc4] at H
     refine AG.yes rfl (bne_iff_ne.2 hc4) ?_
     refine AG.seq ?_
     refine AG.region HM ?_
     refine a_move (v := vB _) ?_
     refine RA.nil nofun ?_
     refine AG.ret ?_
     obtain rfl := Option.some.inj H
     exact RetP.mk id ⟨rfl, trivial⟩ trivial rfl
   ·rw [if_neg hc3] at H
    refine AG.yes rfl (bne_iff_ne.2 hc3) ?_
    refine AG.seq ?_
    refine AG.region HM ?_
    refine a_move (v := vB _) ?_
    refine RA.nil nofun ?_
    refine AG.ret ?_
    obtain rfl := Option.some.inj H
    exact RetP.mk id ⟨rfl, trivial⟩ trivial rfl
  ·rw [if_neg hc2] at H
   refine AG.yes rfl (bne_iff_ne.2 hc2) ?_
   refine AG.seq ?_
   refine AG.region HM ?_
   refine a_move (v := vB _) ?_
   refine RA.nil nofun ?_
   refine AG.ret ?_
   obtain rfl := Option.some.inj H
   exact RetP.mk id ⟨rfl, trivial⟩ trivial rfl
 ·rw [if_neg hc1] at H
  refine AG.yes rfl (bne_iff_ne.2 hc1) ?_
  refine AG.seq ?_
  refine AG.region HM ?_
  refine a_move (v := vB _) ?_
  refine RA.nil nofun ?_
  refine AG.ret ?_
  obtain rfl := Option.some.inj H
  exact RetP.mk id ⟨rfl, trivial⟩ trivial rfl
/-! ### laws_eqPlacementS: function 33 -/
def laws_eqPlacementS.l0 : Nat → List S115 → List S115 → Int → Option (Bool)
 | 0, _, _, _ => none
 | k + 1, x0, x1, x5 => if x5 < (x0.length : Int) then (if 0 ≤ x5 then (if x5 < (x1.length : Int) then ((laws_eqPlacement.f ((rd115 x0 x5).f0) ((rd115 x0 x5).f1) ((rd115 x0 x5).f2) ((rd115 x0 x5).f3) ((rd115 x0 x5).f4) ((rd115 x1 x5).f0) ((rd115 x1 x5).f1) ((rd115 x1 x5).f2) ((rd115 x1 x5).f3) ((rd115 x1 x5).f4)).bind fun t5 => (if t5 = true then (laws_eqPlacementS.l0 k x0 x1 (wrap64 (x5 + 1))) else (some false))) else (none)) else (none)) else (some true)
def laws_eqPlacementS.f (k : Nat) (l0 : List S115) (l1 : List S115) : Option (Bool) := if (l0.length : Int) = (l1.length : Int) then (laws_eqPlacementS.l0 k l0 l1 0) else (some false)
set_option maxRecDepth 100000 in
theorem laws_eqPlacementS.ok {k : Nat} {l0 : List S115} {l1 : List S115} {r : Bool} (H : laws_eqPlacementS.f k l0 l1 = some r) : OkF Tryz.prog 33 [vR 116 (l0.map c115), vR 116 (l1.map c115)] [] (.c (.d (.v (.bool r)))) [] := by
 unfold laws_eqPlacementS.f at H
 refine OkF.of (N := 27) (rs := [4]) (avs := [.c (.d (.v (.bool r)))]) Tryz.func33 rfl rfl (fun _ _ => results_tmp rfl _ _ _) (by decide) rfl rfl rfl rfl (fun w0 S => ?_)
 refine AG.seq ?_
 refine AG.region HM ?_
 refine a_move (v := vB _) ?_
 refine RA.nil nofun ?_
 refine AG.seq ?_
 refine AG.seq ?_
 refine AG.region HM ?_
 refine a_move (v := vR _ _) ?_
 refine a_lenR ?_ Tryz.underlying60
 refine a_move (v := vR _ _) ?_
 refine a_lenR ?_ Tryz.underlying60
 refine a_int (u := .bool (((l0.length : Int) != (l1.length : Int)))) ?_
 refine RA.nil nofun ?_
 by_cases hc1 : (l0.length : Int) = (l1.length : Int)
 ·rw [if_pos hc1] at H
  refine AG.no rfl (bne_eq_false_iff_eq.2 hc1) ?_
  refine AG.skip ?_
  refine AG.seq ?_
  refine AG.seq ?_
  refine AG.region HM ?_
  refine a_move (v := vI _) ?_
  refine RA.nil nofun ?_
  refine AG.block ?_
  refine AG.loop ?_
  obtain ⟨K0, hK0, gK0⟩ : ∃ K, k ≤ K ∧ K ≤ k := ⟨k, Nat.le_refl k, Nat.le_refl k⟩
  refine AGr.canon id (AGr.loopI (n := k) (fun k s => k ≤ K0 ∧ ∃ (x0 : List S115) (x1 : List S115) (x5 : Int), laws_eqPlacementS.l0 k x0 x1 x5 = some r ∧ s = St.of [(0, vR 116 (x0.map c115)), (1, vR 116 (x1.map c115)), (5, vI x5)] []) ⟨hK0, _, _, _, H, rfl⟩ ?_ ?_) ⟨rfl, rfl, rfl, trivial⟩ trivial rfl
  ·rintro _ ⟨_, _, _, _, H, _⟩
   cases H
  ·clear H hK0
   rintro k ih0 _ ⟨hK0, x0, x1, x5, H, rfl⟩
   unfold laws_eqPlacementS.l0 at H
   refine AG.seq ?_
   refine AG.seq ?_
   refine AG.region HM ?_
   refine a_move (v := vI _) ?_
   refine a_move (v := vR _ _) ?_
   refine a_lenR ?_ Tryz.underlying60
   refine a_int (u := .bool (decide (x5 < (x0.length : Int)))) ?_
   refine RA.nil nofun ?_
   by_cases hc2 : x5 < (x0.length : Int)
   ·rw [if_pos hc2] at H
    refine AG.yes rfl (decide_eq_true hc2) ?_
    refine AG.skip ?_
    refine AG.seq ?_
    refine AG.block ?_
    refine AG.seq ?_
    refine AG.region HM ?_
    refine a_move (v := vR _ _) ?_
    refine a_move (v := vI _) ?_
    by_cases hc3 : 0 ≤ x5
    ·rw [if_pos hc3] at H
     refine a_ixR (el := c115 (rd115 x0 x5)) ?_ ⟨hc3, hc2⟩ T116 Tryz.underlying60 (hel := R115 hc3 hc2)
     refine a_ldR (v := .agg [_, _, _, _, _]) ?_ T116
     refine a_move (v := vR _ _) ?_
     refine a_move (v := vI _) ?_
     by_cases hc4 : x5 < (x1.length : Int)
     ·rw [if_pos hc4] at H
      refine a_ixR (el := c115 (rd115 x1 x5)) ?_ ⟨hc3, hc4⟩ T116 Tryz.underlying60 (hel := R115 hc3 hc4)
      refine a_ldR (v := .agg [_, _, _, _, _]) ?_ T116
      obtain ⟨t5, e6, H⟩ := bindO H
      refine a_call (v := vB t5) (nk := []) (L := []) ?_ rfl (laws_eqPlacement.ok e6) id (qg (qg qn)) trivial trivial trivial rfl
      refine a_un (u := .bool (!t5)) ?_
      refine RA.nil (fun _ => by kernel_rfl) ?_
      by_cases hc7 : t5 = true
      ·rw [if_pos hc7] at H
       refine AG.no rfl (congrArg Bool.not hc7) ?_
       refine AG.skip ?_
       refine AG.region HM ?_
       refine a_move (v := vI _) ?_
       refine a_int (u := .int .i64 (wrap64 (x5 + 1))) ?_
       refine a_move (v := vI _) ?_
       refine RA.nil nofun ?_
       exact AGr.canon id (ih0 _ (by omega) _ ⟨by omega, _, _, _, H, rfl⟩) ⟨rfl, rfl, rfl, trivial⟩ trivial rfl
      ·rw [if_neg hc7] at H
       refine AG.yes rfl (congrArg Bool.not (Bool.eq_false_iff.2 hc7)) ?_
       refine AG.seq ?_
       refine AG.region HM ?_
       refine a_move (v := vB _) ?_
       refine RA.nil nofun ?_
       refine AG.ret ?_
       obtain rfl := Option.some.inj H
       exact RetP.mk id ⟨rfl, trivial⟩ trivial rfl
     ·rw [if_neg hc4] at H
      cases H
    ·rw [if_neg hc3] at H
     cases H
   ·rw [if_neg hc2] at H
    refine AG.no rfl (decide_eq_false hc2) ?_
    refine AG.exit ?_
    refine AG.seq ?_
    refine AG.region HM ?_
    refine a_move (v := vB _) ?_
    refine RA.nil nofun ?_
    refine AG.ret ?_
    obtain rfl := Option.some.inj H
    exact RetP.mk id ⟨rfl, trivial⟩ trivial rfl
 ·rw [if_neg hc1] at H
  refine AG.yes rfl (bne_iff_ne.2 hc1) ?_
  refine AG.seq ?_
  refine AG.region HM ?_
  refine a_move (v := vB _) ?_
  refine RA.nil nofun ?_
  refine AG.ret ?_
  obtain rfl := Option.some.inj H
  exact RetP.mk id ⟨rfl, trivial⟩ trivial rfl
/-! ### laws_FnExactWasteOf: function 6 -/
def laws_FnExactWasteOf.j0 : Nat → List S84 → List S115 → Int → Int → List S159 → List S146 → List S81 → Int → Int → List S159 → List S146 → List S81 → List S94 → List S115 → Bool → Option (Bool)
 | 0, _, _, _, _, _, _, _, _, _, _, _, _, _, _, _ => none
 | k + 1, x1, x2, y215_0, y215_1, y215_2, y215_3, y215_4, y216_0, y216_1, y216_2, y216_3, y216_4, x11, x12, x60 => if x60 = true then (some false) else ((laws_toPicture.f k y215_0 y215_1 y215_2 y215_3 y215_4).bind fun bt36 => ((laws_eqPicture.f k y216_0 y216_1 y216_2 y216_3 y216_4 bt36.1 bt36.2.1 bt36.2.2.1 bt36.2.2.2.1 bt36.2.2.2.2).bind fun t42 => (if t42 = true then ((laws_toLeafS.f k x1).bind fun t45 => ((laws_eqLeafS.f k x11 t45).bind fun t46 => (if t46 = true then ((laws_toPlacementS.f k x2).bind fun t49 => ((laws_eqPlacementS.f k x12 t49).bind fun t51 => (if t51 = true then (some true) else (some false)))) else (some false)))) else (some false))))
def laws_FnExactWasteOf.f (k : Nat) (a0_0 : Int) (a0_1 : Int) (l0_2 : List S159) (l0_3 : List S146) (l0_4 : List S81) (l1 : List S84) (l2 : List S115) : Option (Bool) := (laws_szPicture.f k a0_0 a0_1 l0_2 l0_3 l0_4 1048576).bind fun t1 => (if t1 < 0 then (some true) else ((laws_szLeafS.f k l1 t1).bind fun t4 => (if t4 < 0 then (some true) else ((laws_szPlacementS.f l2 t4).bind fun t7 => (if t7 < 0 then (some true) else ((laws_toPicture.f k a0_0 a0_1 l0_2 l0_3 l0_4).bind fun bt10 => ((laws_toLeafS.f k l1).bind fun t16 => ((laws_toPlacementS.f k l2).bind fun t17 => ((spec_WasteOf.f k bt10.1 bt10.2.1 bt10.2.2.1 bt10.2.2.2.1 bt10.2.2.2.2 t16 t17).bind fun bt19 => ((laws_toPicture.f k a0_0 a0_1 l0_2 l0_3 l0_4).bind fun bt22 => ((laws_toLeafS.f k l1).bind fun t28 => ((laws_toPlacementS.f k l2).bind fun t29 => ((impl_WasteOf.f k bt22.1 bt22.2.1 bt22.2.2.1 bt22.2.2.2.1 bt22.2.2.2.2 t28 t29).bind fun bt31 => (if bt31.1 = bt19.1 then (laws_FnExactWasteOf.j0 k l1 l2 a0_0 a0_1 l0_2 l0_3 l0_4 bt22.1 bt22.2.1 bt22.2.2.1 bt22.2.2.2.1 bt22.2.2.2.2 t28 t29 (bt31.2 != bt19.2)) else (laws_FnExactWasteOf.j0 k l1 l2 a0_0 a0_1 l0_2 l0_3 l0_4 bt22.1 bt22.2.1 bt22.2.2.1 bt22.2.2.2.1 bt22.2.2.2.2 t28 t29 true)))))))))))))))
set_option maxRecDepth 100000 in
theorem laws_FnExactWasteOf.ok {k : Nat} {a0_0 : Int} {a0_1 : Int} {l0_2 : List S159} {l0_3 : List S146} {l0_4 : List S81} {l1 : List S84} {l2 : List S115} {r : Bool} (H : laws_FnExactWasteOf.f k a0_0 a0_1 l0_2 l0_3 l0_4 l1 l2 = some r) : OkF Tryz.prog 6 [.agg [.d (.v (.int .i64 a0_0)), .d (.v (.int .i64 a0_1)), .d (.row 162 (l0_2.map c159)), .d (.row 147 (l0_3.map c146)), .d (.row 82 (l0_4.map c81))], vR 85 (l1.map c84), vR 122 (l2.map c115)] [] (.c (.d (.v (.bool r)))) [] := by
 unfold laws_FnExactWasteOf.f at H
 refine OkF.of (N := 76) (rs := [6]) (avs := [.c (.d (.v (.bool r)))]) Tryz.func6 rfl rfl (fun _ _ => results_tmp rfl _ _ _) (by decide) rfl rfl rfl rfl (fun w0 S => ?_)
 refine AG.seq ?_
 refine AG.region HM ?_
 refine a_box 200 ?_
 refine a_move (v := vB _) ?_
 refine RA.nil nofun ?_
 refine AG.seq ?_
 refine AG.region HM ?_
 refine a_move (v := vI _) ?_
 refine RA.nil nofun ?_
 refine AG.seq ?_
 refine AG.region HM ?_
 refine a_ldB (v := .agg [_, _, _, _, _]) ?_ T51
 refine a_move (v := vI _) ?_
 obtain ⟨t1, e2, H⟩ := bindO H
 refine a_call (v := vI t1) (nk := []) (L := []) ?_ rfl (laws_szPicture.ok e2) id (qg (qd qn)) trivial trivial trivial rfl
 refine a_move (v := vI _) ?_
 refine RA.nil nofun ?_
 refine AG.seq ?_
 refine AG.seq ?_
 refine AG.region HM ?_
 refine a_move (v := vI _) ?_
 refine a_int (u := .bool (decide (t1 < 0))) ?_
 refine RA.nil nofun ?_
 by_cases hc3 : t1 < 0
 ·rw [if_pos hc3] at H
  refine AG.yes rfl (decide_eq_true hc3) ?_
  refine AG.seq ?_
  refine AG.region HM ?_
  refine a_move (v := vB _) ?_
  refine RA.nil nofun ?_
  refine AG.ret ?_
  obtain rfl := Option.some.inj H
  exact RetP.mk id ⟨rfl, trivial⟩ trivial rfl
 ·rw [if_neg hc3] at H
  refine AG.no rfl (decide_eq_false hc3) ?_
  refine AG.skip ?_
  refine AG.seq ?_
  refine AG.region HM ?_
  refine a_move (v := vR _ _) ?_
  refine a_move (v := vI _) ?_
  obtain ⟨t4, e5, H⟩ := bindO H
  refine a_call (v := vI t4) (nk := []) (L := []) ?_ rfl (laws_szLeafS.ok e5) id (qd (qd qn)) trivial trivial trivial rfl
  refine a_move (v := vI _) ?_
  refine RA.nil nofun ?_
  refine AG.seq ?_
  refine AG.seq ?_
  refine AG.region HM ?_
  refine a_move (v := vI _) ?_
  refine a_int (u := .bool (decide (t4 < 0))) ?_
  refine RA.nil nofun ?_
  by_cases hc6 : t4 < 0
  ·rw [if_pos hc6] at H
   refine AG.yes rfl (decide_eq_true hc6) ?_
   refine AG.seq ?_
   refine AG.region HM ?_
   refine a_move (v := vB _) ?_
   refine RA.nil nofun ?_
   refine AG.ret ?_
   obtain rfl := Option.some.inj H
   exact RetP.mk id ⟨rfl, trivial⟩ trivial rfl
  ·rw [if_neg hc6] at H
   refine AG.no rfl (decide_eq_false hc6) ?_
   refine AG.skip ?_
   refine AG.seq ?_
   refine AG.region HM ?_
   refine a_move (v := vR _ _) ?_
   refine a_move (v := vI _) ?_
   obtain ⟨t7, e8, H⟩ := bindO H
   refine a_call (v := vI t7) (nk := []) (L := []) ?_ rfl (laws_szPlacementS.ok e8) id (qd (qd qn)) trivial trivial trivial rfl
   refine a_move (v := vI _) ?_
   refine RA.nil nofun ?_
   refine AG.seq ?_
   refine AG.seq ?_
   refine AG.region HM ?_
   refine a_move (v := vI _) ?_
   refine a_int (u := .bool (decide (t7 < 0))) ?_
   refine RA.nil nofun ?_
   by_cases hc9 : t7 < 0
   ·rw [if_pos hc9] at H
    refine AG.yes rfl (decide_eq_true hc9) ?_
    refine AG.seq ?_
    refine AG.region HM ?_
    refine a_move (v := vB _) ?_
    refine RA.nil nofun ?_
    refine AG.ret ?_
    obtain rfl := Option.some.inj H
    exact RetP.mk id ⟨rfl, trivial⟩ trivial rfl
   ·rw [if_neg hc9] at H
    refine AG.no rfl (decide_eq_false hc9) ?_
    refine AG.skip ?_
    refine AG.seq ?_
    refine AG.region HM ?_
    refine a_ldB (v := .agg [_, _, _, _, _]) ?_ T51
    obtain ⟨⟨t10, t11, t12, t13, t14⟩, e15, H⟩ := bindO H
    refine a_call (v := .agg [.d (.v (.int .i64 t10)), .d (.v (.int .i64 t11)), .own 204 t12.length, .own 205 t13.length, .own 206 t14.length]) (nk := [(204, .row 160 (t12.map c159)), (205, .row 152 (t13.map c146)), (206, .row 92 (t14.map c81))]) (L := []) ?_ rfl (laws_toPicture.ok e15) (fun κ => cond (Nat.beq κ 204) 100 (cond (Nat.beq κ 205) 101 (cond (Nat.beq κ 206) 102 (κ)))) (qg qn) trivial ⟨rfl, rfl, rfl, trivial⟩ ⟨rfl, rfl, rfl, trivial⟩ rfl
    refine a_move (v := vR _ _) ?_
    obtain ⟨t16, et16, H⟩ := bindO H
    refine a_callF (L := []) ?_ rfl (laws_toLeafS.ok et16) (qd qn) trivial
    refine a_move (v := vR _ _) ?_
    obtain ⟨t17, e18, H⟩ := bindO H
    refine a_call (v := .c (.own 207 t17.length)) (nk := [(207, .row 116 (t17.map c115))]) (L := []) ?_ rfl (laws_toPlacementS.ok e18) (fun κ => cond (Nat.beq κ 207) 100 (κ)) (qd qn) trivial ⟨rfl, trivial⟩ ⟨rfl, trivial⟩ rfl
    obtain ⟨⟨t19, t20⟩, e21, H⟩ := bindO H
    refine a_call (v := .tup [.c (.d (.v (.int .i64 t19))), .c (.d (.v (.int .i64 t20)))]) (nk := []) (L := [(204, _), (205, _), (206, _), (207, _)]) ?_ rfl (spec_WasteOf.ok e21) id (qm (eD (eD (eC rO (eC rO (eC rO eN))))) (qd (qc rO qn))) ⟨rfl, rfl, rfl, rfl, trivial⟩ trivial trivial rfl
    refine a_move (v := .tup [_, _]) ?_
    refine a_ext (v := vI _) ?_
    refine a_ext (v := vI _) ?_
    refine a_move (v := vI _) ?_
    refine a_move (v := vI _) ?_
    refine RA.nil nofun ?_
    refine AG.seq ?_
    refine AG.freeze 205 ?_
    refine AG.region HM ?_
    refine a_ldB (v := .agg [_, _, _, _, _]) ?_ T51
    obtain ⟨⟨t22, t23, t24, t25, t26⟩, e27, H⟩ := bindO H
    refine a_call (v := .agg [.d (.v (.int .i64 t22)), .d (.v (.int .i64 t23)), .own 209 t24.length, .own 210 t25.length, .own 211 t26.length]) (nk := [(209, .row 160 (t24.map c159)), (210, .row 152 (t25.map c146)), (211, .row 92 (t26.map c81))]) (L := []) ?_ rfl (laws_toPicture.ok e27) (fun κ => cond (Nat.beq κ 209) 100 (cond (Nat.beq κ 210) 101 (cond (Nat.beq κ 211) 102 (κ)))) (qg qn) trivial ⟨rfl, rfl, rfl, trivial⟩ ⟨rfl, rfl, rfl, trivial⟩ rfl
    refine a_alloc (cs := [_, _, _, _, _]) 212 ?_ T58
    refine a_stB (cs' := [_, _, _, _, _]) ?_ T58
    refine RA.nil nofun ?_
    refine AG.seq ?_
    refine AG.freeze 210 ?_
    refine AG.region HM ?_
    refine a_move (v := vR _ _) ?_
    obtain ⟨t28, et28, H⟩ := bindO H
    refine a_callF (L := []) ?_ rfl (laws_toLeafS.ok et28) (qd qn) trivial
    refine a_move (v := vR _ _) ?_
    refine RA.nil nofun ?_
    refine AG.seq ?_
    refine AG.region HM ?_
    refine a_move (v := vR _ _) ?_
    obtain ⟨t29, e30, H⟩ := bindO H
    refine a_call (v := .c (.own 213 t29.length)) (nk := [(213, .row 116 (t29.map c115))]) (L := []) ?_ rfl (laws_toPlacementS.ok e30) (fun κ => cond (Nat.beq κ 213) 100 (κ)) (qd qn) trivial ⟨rfl, trivial⟩ ⟨rfl, trivial⟩ rfl
    refine a_move (v := .c (.own _ _)) ?_
    refine RA.nil nofun ?_
    refine AG.seq ?_
    refine AG.region HM ?_
    refine a_ldB (v := .agg [_, _, _, _, _]) ?_ T58
    refine a_move (v := vR _ _) ?_
    refine a_move (v := .c (.own _ _)) ?_
    obtain ⟨⟨t31, t32⟩, e33, H⟩ := bindO H
    refine a_call (v := .tup [.c (.d (.v (.int .i64 t31))), .c (.d (.v (.int .i64 t32)))]) (nk := []) (L := [(209, _), (211, _), (213, _)]) ?_ rfl (impl_WasteOf.ok e33) id (qm (eD (eD (eC rO (eD (eC rO eN))))) (qd (qc rO qn))) ⟨rfl, rfl, rfl, trivial⟩ trivial trivial rfl
    refine a_move (v := .tup [_, _]) ?_
    refine a_ext (v := vI _) ?_
    refine a_ext (v := vI _) ?_
    refine a_move (v := vI _) ?_
    refine a_move (v := vI _) ?_
    refine RA.nil nofun ?_
    refine AG.seq ?_
    refine AG.seq ?_
    refine AG.joinR (fun s => ∃ q, q ≤ k ∧ ∃ (x1 : List S84) (x2 : List S115) (y215_0 : Int) (y215_1 : Int) (y215_2 : List S159) (y215_3 : List S146) (y215_4 : List S81) (y216_0 : Int) (y216_1 : Int) (y216_2 : List S159) (y216_3 : List S146) (y216_4 : List S81) (x11 : List S94) (x12 : List S115) (x60 : Bool), laws_FnExactWasteOf.j0 q x1 x2 y215_0 y215_1 y215_2 y215_3 y215_4 y216_0 y216_1 y216_2 y216_3 y216_4 x11 x12 x60 = some r ∧ s = St.of [(1, vR 85 (x1.map c84)), (2, vR 122 (x2.map c115)), (3, .c (.ptr 215 0)), (10, .c (.ptr 216 0)), (11, vR 95 (x11.map c94)), (12, .c (.own 219 x12.length)), (60, vB x60)] [(215, .box 51 [.d (.v (.int .i64 y215_0)), .d (.v (.int .i64 y215_1)), .d (.row 162 (y215_2.map c159)), .d (.row 147 (y215_3.map c146)), .d (.row 82 (y215_4.map c81))]), (216, .box 58 [.d (.v (.int .i64 y216_0)), .d (.v (.int .i64 y216_1)), .own 217 y216_2.length, .d (.row 152 (y216_3.map c146)), .own 218 y216_4.length]), (217, .row 160 (y216_2.map c159)), (218, .row 92 (y216_4.map c81)), (219, .row 116 (x12.map c115))]) ?_ ?_
    ·skip
     refine AG.region HM ?_
     refine a_move (v := vI _) ?_
     refine a_move (v := vI _) ?_
     refine a_int (u := .bool ((t31 != t19))) ?_
     refine a_move (v := vB _) ?_
     by_cases hc34 : t31 = t19
     ·rw [if_pos hc34] at H
      refine a_move (v := vI _) ?_ (hg := Gs.yes rfl rfl rfl (bne_eq_false_iff_eq.2 hc34))
      refine a_move (v := vI _) ?_ (hg := Gs.yes rfl rfl rfl (bne_eq_false_iff_eq.2 hc34))
      refine a_int (u := .bool ((t32 != t20))) ?_ (hg := Gs.yes rfl rfl rfl (bne_eq_false_iff_eq.2 hc34))
      refine a_pick (b := false) (v := vB _) ?_ (bne_eq_false_iff_eq.2 hc34)
      refine RA.nil nofun ?_
      exact CanR.mk (fun κ => cond (Nat.beq κ 215) 200 (cond (Nat.beq κ 216) 212 (cond (Nat.beq κ 217) 209 (cond (Nat.beq κ 218) 211 (cond (Nat.beq κ 219) 213 (κ)))))) ⟨_, (by omega), _, _, _, _, _, _, _, _, _, _, _, _, _, _, _, H, rfl⟩ ⟨rfl, rfl, rfl, rfl, rfl, rfl, rfl, trivial⟩ ⟨rfl, rfl, rfl, rfl, rfl, trivial⟩ rfl
     ·rw [if_neg hc34] at H
      refine RA.skip rfl rfl rfl rfl rfl (bne_iff_ne.2 hc34) (by decide) ?_
      refine RA.skip rfl rfl rfl rfl rfl (bne_iff_ne.2 hc34) (by decide) ?_
      refine RA.skip rfl rfl rfl rfl rfl (bne_iff_ne.2 hc34) (by decide) ?_
      refine a_pick (b := true) (v := vB _) ?_ (bne_iff_ne.2 hc34)
      refine RA.nil nofun ?_
      exact CanR.mk (fun κ => cond (Nat.beq κ 215) 200 (cond (Nat.beq κ 216) 212 (cond (Nat.beq κ 217) 209 (cond (Nat.beq κ 218) 211 (cond (Nat.beq κ 219) 213 (κ)))))) ⟨_, (by omega), _, _, _, _, _, _, _, _, _, _, _, _, _, _, _, H, rfl⟩ ⟨rfl, rfl, rfl, rfl, rfl, rfl, rfl, trivial⟩ ⟨rfl, rfl, rfl, rfl, rfl, trivial⟩ rfl
    ·clear H
     rintro _ ⟨k, hj0, x1, x2, y215_0, y215_1, y215_2, y215_3, y215_4, y216_0, y216_1, y216_2, y216_3, y216_4, x11, x12, x60, H, rfl⟩
     cases k with
     | zero => cases H
     | succ k =>
      rw [laws_FnExactWasteOf.j0] at H
      by_cases hc35 : x60 = true
      ·rw [if_pos hc35] at H
       refine AG.yes rfl hc35 ?_
       refine AG.seq ?_
       refine AG.region HM ?_
       refine a_move (v := vB _) ?_
       refine RA.nil nofun ?_
       refine AG.ret ?_
       obtain rfl := Option.some.inj H
       exact RetP.mk id ⟨rfl, trivial⟩ trivial rfl
      ·rw [if_neg hc35] at H
       refine AG.no rfl (Bool.eq_false_iff.2 hc35) ?_
       refine AG.skip ?_
       refine AG.seq ?_
       refine AG.seq ?_
       refine AG.region HM ?_
       refine a_ldB (v := .agg [_, _, _, _, _]) ?_ T58
       refine a_ldB (v := .agg [_, _, _, _, _]) ?_ T51
       obtain ⟨⟨t36, t37, t38, t39, t40⟩, e41, H⟩ := bindO H
       refine a_call (v := .agg [.d (.v (.int .i64 t36)), .d (.v (.int .i64 t37)), .own 220 t38.length, .own 221 t39.length, .own 222 t40.length]) (nk := [(220, .row 160 (t38.map c159)), (221, .row 152 (t39.map c146)), (222, .row 92 (t40.map c81))]) (L := []) ?_ rfl (laws_toPicture.ok e41) (fun κ => cond (Nat.beq κ 220) 100 (cond (Nat.beq κ 221) 101 (cond (Nat.beq κ 222) 102 (κ)))) (qg qn) trivial ⟨rfl, rfl, rfl, trivial⟩ ⟨rfl, rfl, rfl, trivial⟩ rfl
       obtain ⟨t42, e43, H⟩ := bindO H
       refine a_call (v := vB t42) (nk := []) (L := [(217, _), (218, _), (220, _), (221, _), (222, _)]) ?_ rfl (laws_eqPicture.ok e43) id (qm (eD (eD (eC rO (eD (eC rO eN))))) (qm (eD (eD (eC rO (eC rO (eC rO eN))))) qn)) ⟨rfl, rfl, rfl, rfl, rfl, trivial⟩ trivial trivial rfl
       refine a_un (u := .bool (!t42)) ?_
       refine RA.nil (fun _ => by kernel_rfl) ?_
       by_cases hc44 : t42 = true
       ·rw [if_pos hc44] at H
        refine AG.no rfl (congrArg Bool.not hc44) ?_
        refine AG.skip ?_
        refine AG.seq ?_
        refine AG.seq ?_
        refine AG.freeze 221 ?_
        refine AG.region HM ?_
        refine a_move (v := vR _ _) ?_
        refine a_move (v := vR _ _) ?_
        obtain ⟨t45, et45, H⟩ := bindO H
        refine a_callF (L := []) ?_ rfl (laws_toLeafS.ok et45) (qd qn) trivial
        obtain ⟨t46, e47, H⟩ := bindO H
        refine a_call (v := vB t46) (nk := []) (L := []) ?_ rfl (laws_eqLeafS.ok e47) id (qd (qd qn)) trivial trivial trivial rfl
        refine a_un (u := .bool (!t46)) ?_
        refine RA.nil nofun ?_
        by_cases hc48 : t46 = true
        ·rw [if_pos hc48] at H
         refine AG.no rfl (congrArg Bool.not hc48) ?_
         refine AG.skip ?_
         refine AG.seq ?_
         refine AG.seq ?_
         refine AG.region HM ?_
         refine a_move (v := .c (.own _ _)) ?_
         refine a_move (v := vR _ _) ?_
         obtain ⟨t49, e50, H⟩ := bindO H
         refine a_call (v := .c (.own 225 t49.length)) (nk := [(225, .row 116 (t49.map c115))]) (L := []) ?_ rfl (laws_toPlacementS.ok e50) (fun κ => cond (Nat.beq κ 225) 100 (κ)) (qd qn) trivial ⟨rfl, trivial⟩ ⟨rfl, trivial⟩ rfl
         obtain ⟨t51, e52, H⟩ := bindO H
         refine a_call (v := vB t51) (nk := []) (L := [(219, _), (225, _)]) ?_ rfl (laws_eqPlacementS.ok e52) id (qc rO (qc rO qn)) ⟨rfl, rfl, trivial⟩ trivial trivial rfl
         refine a_un (u := .bool (!t51)) ?_
         refine RA.nil nofun ?_
         by_cases hc53 : t51 = true
         ·rw [if_pos hc53] at H
          refine AG.no rfl (congrArg Bool.not hc53) ?_
          refine AG.skip ?_
          refine AG.seq ?_
          refine AG.region HM ?_
          refine a_move (v := vB _) ?_
          refine RA.nil nofun ?_
          refine AG.ret ?_
          obtain rfl := Option.some.inj H
          exact RetP.mk id ⟨rfl, trivial⟩ trivial rfl
         ·rw [if_neg hc53] at H
          refine AG.yes rfl (congrArg Bool.not (Bool.eq_false_iff.2 hc53)) ?_
          refine AG.seq ?_
          refine AG.region HM ?_
          refine a_move (v := vB _) ?_
          refine RA.nil nofun ?_
          refine AG.ret ?_
          obtain rfl := Option.some.inj H
          exact RetP.mk id ⟨rfl, trivial⟩ trivial rfl
        ·rw [if_neg hc48] at H
         refine AG.yes rfl (congrArg Bool.not (Bool.eq_false_iff.2 hc48)) ?_
         refine AG.seq ?_
         refine AG.region HM ?_
         refine a_move (v := vB _) ?_
         refine RA.nil nofun ?_
         refine AG.ret ?_
         obtain rfl := Option.some.inj H
         exact RetP.mk id ⟨rfl, trivial⟩ trivial rfl
       ·rw [if_neg hc44] at H
        refine AG.yes rfl (congrArg Bool.not (Bool.eq_false_iff.2 hc44)) ?_
        refine AG.seq ?_
        refine AG.freeze 221 ?_
        refine AG.region HM ?_
        refine a_move (v := vB _) ?_
        refine RA.nil nofun ?_
        refine AG.ret ?_
        obtain rfl := Option.some.inj H
        exact RetP.mk id ⟨rfl, trivial⟩ trivial rfl
def B159 (x : S159) : Prop := (Lit.int .i64 x.f0).wf = true ∧ (Lit.int .i64 x.f1).wf = true
def B146 (x : S146) : Prop := x.f0.size ≤ maxLen ∧ (x.f1.length ≤ maxLen ∧ ∀ x_ ∈ x.f1, (Lit.int .i64 x_).wf = true)
def B24 (x : S24) : Prop := (Lit.int .i64 x.f0).wf = true ∧ (Lit.int .i64 x.f1).wf = true ∧ (x.f2.length ≤ maxLen ∧ ∀ x_ ∈ x.f2, B159 x_) ∧ (x.f3.length ≤ maxLen ∧ ∀ x_ ∈ x.f3, B146 x_)
def B81 (x : S81) : Prop := x.f0.size ≤ maxLen ∧ (Lit.int .i64 x.f1).wf = true ∧ (Lit.int .i64 x.f2).wf = true
def B50 (x : S50) : Prop := B24 x.f0 ∧ (x.f1.length ≤ maxLen ∧ ∀ x_ ∈ x.f1, B81 x_)
def B176 (x : S176) : Prop := (Lit.int .i64 x.f0).wf = true ∧ (Lit.int .i64 x.f1).wf = true ∧ (Lit.int .i64 x.f2).wf = true ∧ (Lit.int .i64 x.f3).wf = true
def B84 (x : S84) : Prop := x.f0.size ≤ maxLen ∧ x.f1.size ≤ maxLen ∧ (Lit.int .i64 x.f2).wf = true ∧ B81 x.f3 ∧ (Lit.int .i64 x.f4).wf = true ∧ (Lit.int .i64 x.f5).wf = true ∧ (x.f6.length ≤ maxLen ∧ ∀ x_ ∈ x.f6, B176 x_)
def B115 (x : S115) : Prop := (Lit.int .i64 x.f0).wf = true ∧ (Lit.int .i64 x.f1).wf = true ∧ (Lit.int .i64 x.f2).wf = true ∧ (Lit.int .i64 x.f3).wf = true ∧ (Lit.int .i64 x.f4).wf = true
/-- The one plain statement of laws_FnExactWasteOf. -/
def laws_FnExactWasteOf.Pure : Prop := ∀ (a0_0 : Int) (a0_1 : Int) (l0_2 : List S159) (l0_3 : List S146) (l0_4 : List S81) (l1 : List S84) (l2 : List S115), B50 (⟨(⟨a0_0, a0_1, l0_2, l0_3⟩ : S24), l0_4⟩ : S50) → (l1.length ≤ maxLen ∧ ∀ x_ ∈ l1, B84 x_) → (l2.length ≤ maxLen ∧ ∀ x_ ∈ l2, B115 x_) → ∃ k, laws_FnExactWasteOf.f k a0_0 a0_1 l0_2 l0_3 l0_4 l1 l2 = some true
end Go.Proofs.YtadjbffiomkljaaGreat.PFnExactWasteOf

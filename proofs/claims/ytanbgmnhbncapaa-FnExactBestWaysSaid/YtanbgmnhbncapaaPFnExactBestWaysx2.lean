/- What each function that the law FnExactBestWays reaches comes to, and the proof that its walk comes to it; laid by a program of this session. No condition. -/
import Derived.Test.YtanbgmnhbncapaaPFnExactBestWaysx1
import Derived.KernelRfl
import Derived.OwnWalk
import Derived.Test.YtanbgmnhbncapaaProg
set_option linter.unnecessarySimpa false
set_option linter.unusedVariables false
set_option linter.unusedSimpArgs false
namespace Go.Proofs.Ytanbgmnhbncapaa.PFnExactBestWays
open Go Go.RowKit Go.Proofs.YtanbgmnhbncapaaM Go.Proofs Go.Proofs.Ytanbgmnhbncapaa.SortP
/-! ### impl_RootOf: function 82 -/
def impl_RootOf.l0 : Nat → Int → Int → Int → Option (Int)
 | 0, _, _, _ => none
 | k + 1, x0, x3, x4 => if x3 < x4 then (if (wrap64 (Int.tdiv (wrap64 ((wrap64 (x3 + x4)) + 1)) 2)) = 0 then (none) else (if (wrap64 (Int.tdiv (wrap64 ((wrap64 (x3 + x4)) + 1)) 2)) ≤ (wrap64 (Int.tdiv x0 (wrap64 (Int.tdiv (wrap64 ((wrap64 (x3 + x4)) + 1)) 2)))) then (impl_RootOf.l0 k x0 (wrap64 (Int.tdiv (wrap64 ((wrap64 (x3 + x4)) + 1)) 2)) x4) else (impl_RootOf.l0 k x0 x3 (wrap64 ((wrap64 (Int.tdiv (wrap64 ((wrap64 (x3 + x4)) + 1)) 2)) - 1))))) else (some x3)
def impl_RootOf.f (k : Nat) (a0 : Int) : Option (Int) := if a0 < 1 then (some 0) else (impl_RootOf.l0 k a0 1 3037000499)
set_option maxRecDepth 100000 in
theorem impl_RootOf.ok {k : Nat} {a0 : Int} {r : Int} (H : impl_RootOf.f k a0 = some r) : OkF Try.prog 82 [vI a0] [] (.c (.d (.v (.int .i64 r)))) [] := by
 unfold impl_RootOf.f at H
 refine OkF.of (N := 25) (rs := [2]) (avs := [.c (.d (.v (.int .i64 r)))]) Try.func82 rfl rfl (fun _ _ => results_tmp rfl _ _ _) (by decide) rfl rfl rfl rfl (fun w0 S => ?_)
 refine AG.seq ?_
 refine AG.region HM ?_
 refine a_move (v := vI _) ?_
 refine RA.nil nofun ?_
 refine AG.seq ?_
 refine AG.seq ?_
 refine AG.region HM ?_
 refine a_move (v := vI _) ?_
 refine a_int (u := .bool (decide (a0 < 1))) ?_
 refine RA.nil nofun ?_
 by_cases hc1 : a0 < 1
 ·rw [if_pos hc1] at H
  refine AG.yes rfl (decide_eq_true hc1) ?_
  refine AG.seq ?_
  refine AG.region HM ?_
  refine a_move (v := vI _) ?_
  refine RA.nil nofun ?_
  refine AG.ret ?_
  obtain rfl := Option.some.inj H
  exact RetP.mk id ⟨rfl, trivial⟩ trivial rfl
 ·rw [if_neg hc1] at H
  refine AG.no rfl (decide_eq_false hc1) ?_
  refine AG.skip ?_
  refine AG.seq ?_
  refine AG.region HM ?_
  refine a_move (v := vI _) ?_
  refine a_move (v := vI _) ?_
  refine RA.nil nofun ?_
  refine AG.seq ?_
  refine AG.block ?_
  refine AG.loop ?_
  obtain ⟨K0, hK0, gK0⟩ : ∃ K, k ≤ K ∧ K ≤ k := ⟨k, Nat.le_refl k, Nat.le_refl k⟩
  refine AGr.canon id (AGr.loopI (n := k) (fun k s => k ≤ K0 ∧ ∃ (x0 : Int) (x3 : Int) (x4 : Int), impl_RootOf.l0 k x0 x3 x4 = some r ∧ s = St.of [(0, vI x0), (3, vI x3), (4, vI x4)] []) ⟨hK0, _, _, _, H, rfl⟩ ?_ ?_) ⟨rfl, rfl, rfl, trivial⟩ trivial rfl
  ·rintro _ ⟨_, _, _, _, H, _⟩
   cases H
  ·clear H hK0
   rintro k ih0 _ ⟨hK0, x0, x3, x4, H, rfl⟩
   unfold impl_RootOf.l0 at H
   refine AG.seq ?_
   refine AG.seq ?_
   refine AG.region HM ?_
   refine a_move (v := vI _) ?_
   refine a_move (v := vI _) ?_
   refine a_int (u := .bool (decide (x3 < x4))) ?_
   refine RA.nil nofun ?_
   by_cases hc2 : x3 < x4
   ·rw [if_pos hc2] at H
    refine AG.yes rfl (decide_eq_true hc2) ?_
    refine AG.skip ?_
    refine AG.block ?_
    refine AG.seq ?_
    refine AG.region HM ?_
    refine a_move (v := vI _) ?_
    refine a_move (v := vI _) ?_
    refine a_int (u := .int .i64 (wrap64 (x3 + x4))) ?_
    refine a_int (u := .int .i64 (wrap64 ((wrap64 (x3 + x4)) + 1))) ?_
    refine a_quo (r := wrap64 (Int.tdiv (wrap64 ((wrap64 (x3 + x4)) + 1)) 2)) ?_ (show ¬ (2 : Int) = 0 from by decide)
    refine a_move (v := vI _) ?_
    refine RA.nil nofun ?_
    refine AG.seq ?_
    refine AG.region HM ?_
    refine a_move (v := vI _) ?_
    refine a_move (v := vI _) ?_
    refine a_move (v := vI _) ?_
    by_cases hc3 : (wrap64 (Int.tdiv (wrap64 ((wrap64 (x3 + x4)) + 1)) 2)) = 0
    ·rw [if_pos hc3] at H
     cases H
    ·rw [if_neg hc3] at H
     refine a_quo (r := wrap64 (Int.tdiv x0 (wrap64 (Int.tdiv (wrap64 ((wrap64 (x3 + x4)) + 1)) 2)))) ?_ hc3
     refine a_int (u := .bool (decide ((wrap64 (Int.tdiv (wrap64 ((wrap64 (x3 + x4)) + 1)) 2)) ≤ (wrap64 (Int.tdiv x0 (wrap64 (Int.tdiv (wrap64 ((wrap64 (x3 + x4)) + 1)) 2))))))) ?_
     refine RA.nil nofun ?_
     by_cases hc4 : (wrap64 (Int.tdiv (wrap64 ((wrap64 (x3 + x4)) + 1)) 2)) ≤ (wrap64 (Int.tdiv x0 (wrap64 (Int.tdiv (wrap64 ((wrap64 (x3 + x4)) + 1)) 2))))
     ·rw [if_pos hc4] at H
      refine AG.yes rfl (decide_eq_true hc4) ?_
      refine AG.region HM ?_
      refine a_move (v := vI _) ?_
      refine a_move (v := vI _) ?_
      refine RA.nil nofun ?_
      exact AGr.canon id (ih0 _ (by omega) _ ⟨by omega, _, _, _, H, rfl⟩) ⟨rfl, rfl, rfl, trivial⟩ trivial rfl
     ·rw [if_neg hc4] at H
      refine AG.no rfl (decide_eq_false hc4) ?_
      refine AG.region HM ?_
      refine a_move (v := vI _) ?_
      refine a_int (u := .int .i64 (wrap64 ((wrap64 (Int.tdiv (wrap64 ((wrap64 (x3 + x4)) + 1)) 2)) - 1))) ?_
      refine a_move (v := vI _) ?_
      refine RA.nil nofun ?_
      exact AGr.canon id (ih0 _ (by omega) _ ⟨by omega, _, _, _, H, rfl⟩) ⟨rfl, rfl, rfl, trivial⟩ trivial rfl
   ·rw [if_neg hc2] at H
    refine AG.no rfl (decide_eq_false hc2) ?_
    refine AG.exit ?_
    refine AG.seq ?_
    refine AG.region HM ?_
    refine a_move (v := vI _) ?_
    refine a_move (v := vI _) ?_
    refine RA.nil nofun ?_
    refine AG.ret ?_
    obtain rfl := Option.some.inj H
    exact RetP.mk id ⟨rfl, trivial⟩ trivial rfl
/-! ### impl_squared: function 83 -/
def impl_squared.f (a0_0 : Int) (a0_1 : Int) (a1_0 : Int) (a1_1 : Int) : Option (Int) := some (wrap64 ((wrap64 ((wrap64 (a0_0 - a1_0)) * (wrap64 (a0_0 - a1_0)))) + (wrap64 ((wrap64 (a0_1 - a1_1)) * (wrap64 (a0_1 - a1_1))))))
set_option maxRecDepth 100000 in
theorem impl_squared.ok {a0_0 : Int} {a0_1 : Int} {a1_0 : Int} {a1_1 : Int} {r : Int} (H : impl_squared.f a0_0 a0_1 a1_0 a1_1 = some r) : OkF Try.prog 83 [.agg [.d (.v (.int .i64 a0_0)), .d (.v (.int .i64 a0_1))], .agg [.d (.v (.int .i64 a1_0)), .d (.v (.int .i64 a1_1))]] [] (.c (.d (.v (.int .i64 r)))) [] := by
 unfold impl_squared.f at H
 refine OkF.of (N := 28) (rs := [4]) (avs := [.c (.d (.v (.int .i64 r)))]) Try.func83 rfl rfl (fun _ _ => results_tmp rfl _ _ _) (by decide) rfl rfl rfl rfl (fun w0 S => ?_)
 refine AG.seq ?_
 refine AG.region HM ?_
 refine a_box 200 ?_
 refine a_box 201 ?_
 refine a_move (v := vI _) ?_
 refine RA.nil nofun ?_
 refine AG.seq ?_
 refine AG.region HM ?_
 refine a_faB (q := 0) ?_ D61_0
 refine a_ldB (v := vI _) ?_ T2
 refine a_faB (q := 0) ?_ D61_0
 refine a_ldB (v := vI _) ?_ T2
 refine a_int (u := .int .i64 (wrap64 (a0_0 - a1_0))) ?_
 refine a_faB (q := 0) ?_ D61_0
 refine a_ldB (v := vI _) ?_ T2
 refine a_faB (q := 0) ?_ D61_0
 refine a_ldB (v := vI _) ?_ T2
 refine a_int (u := .int .i64 (wrap64 (a0_0 - a1_0))) ?_
 refine a_int (u := .int .i64 (wrap64 ((wrap64 (a0_0 - a1_0)) * (wrap64 (a0_0 - a1_0))))) ?_
 refine a_faB (q := 1) ?_ D61_1
 refine a_ldB (v := vI _) ?_ T2
 refine a_faB (q := 1) ?_ D61_1
 refine a_ldB (v := vI _) ?_ T2
 refine a_int (u := .int .i64 (wrap64 (a0_1 - a1_1))) ?_
 refine a_faB (q := 1) ?_ D61_1
 refine a_ldB (v := vI _) ?_ T2
 refine a_faB (q := 1) ?_ D61_1
 refine a_ldB (v := vI _) ?_ T2
 refine a_int (u := .int .i64 (wrap64 (a0_1 - a1_1))) ?_
 refine a_int (u := .int .i64 (wrap64 ((wrap64 (a0_1 - a1_1)) * (wrap64 (a0_1 - a1_1))))) ?_
 refine a_int (u := .int .i64 (wrap64 ((wrap64 ((wrap64 (a0_0 - a1_0)) * (wrap64 (a0_0 - a1_0)))) + (wrap64 ((wrap64 (a0_1 - a1_1)) * (wrap64 (a0_1 - a1_1))))))) ?_
 refine a_move (v := vI _) ?_
 refine RA.nil nofun ?_
 refine AG.ret ?_
 obtain rfl := Option.some.inj H
 exact RetP.mk id ⟨rfl, trivial⟩ trivial rfl
/-! ### impl_Distance: function 45 -/
def impl_Distance.f (k : Nat) (a0_0 : Int) (a0_1 : Int) (a1_0 : Int) (a1_1 : Int) : Option (Int) := (impl_validPoints.f k ([(⟨a0_0, a0_1⟩ : S60), (⟨a1_0, a1_1⟩ : S60)])).bind fun t2 => (if t2 = true then ((impl_squared.f a0_0 a0_1 a1_0 a1_1).bind fun t5 => ((impl_RootOf.f k t5).bind fun t7 => (some t7))) else (some (-1)))
set_option maxRecDepth 100000 in
theorem impl_Distance.ok {k : Nat} {a0_0 : Int} {a0_1 : Int} {a1_0 : Int} {a1_1 : Int} {r : Int} (H : impl_Distance.f k a0_0 a0_1 a1_0 a1_1 = some r) : OkF Try.prog 45 [.agg [.d (.v (.int .i64 a0_0)), .d (.v (.int .i64 a0_1))], .agg [.d (.v (.int .i64 a1_0)), .d (.v (.int .i64 a1_1))]] [] (.c (.d (.v (.int .i64 r)))) [] := by
 unfold impl_Distance.f at H
 refine OkF.of (N := 14) (rs := [4]) (avs := [.c (.d (.v (.int .i64 r)))]) Try.func45 rfl rfl (fun _ _ => results_tmp rfl _ _ _) (by decide) rfl rfl rfl rfl (fun w0 S => ?_)
 refine AG.seq ?_
 refine AG.region HM ?_
 refine a_box 200 ?_
 refine a_box 201 ?_
 refine a_move (v := vI _) ?_
 refine RA.nil nofun ?_
 refine AG.seq ?_
 refine AG.seq ?_
 refine AG.region HM ?_
 refine a_ldB (v := .agg [_, _]) ?_ T61
 refine a_ldB (v := .agg [_, _]) ?_ T61
 refine a_lit (cs := [_, _, _, _]) (D := []) (css := ([(⟨a0_0, a0_1⟩ : S60), (⟨a1_0, a1_1⟩ : S60)]).map c60) 202 ?_ N29 T61 (hcss := by rfl)
 obtain ⟨t2, e3, H⟩ := bindO H
 refine a_call (v := vB t2) (nk := []) (L := [(202, _)]) ?_ rfl (impl_validPoints.ok e3) id (qc rO qn) ⟨rfl, trivial⟩ trivial trivial rfl
 refine a_un (u := .bool (!t2)) ?_
 refine RA.nil nofun ?_
 by_cases hc4 : t2 = true
 ·rw [if_pos hc4] at H
  refine AG.no rfl (congrArg Bool.not hc4) ?_
  refine AG.skip ?_
  refine AG.seq ?_
  refine AG.region HM ?_
  refine a_ldB (v := .agg [_, _]) ?_ T61
  refine a_ldB (v := .agg [_, _]) ?_ T61
  obtain ⟨t5, e6, H⟩ := bindO H
  refine a_call (v := vI t5) (nk := []) (L := []) ?_ rfl (impl_squared.ok e6) id (qg (qg qn)) trivial trivial trivial rfl
  obtain ⟨t7, e8, H⟩ := bindO H
  refine a_call (v := vI t7) (nk := []) (L := []) ?_ rfl (impl_RootOf.ok e8) id (qd qn) trivial trivial trivial rfl
  refine a_move (v := vI _) ?_
  refine RA.nil nofun ?_
  refine AG.ret ?_
  obtain rfl := Option.some.inj H
  exact RetP.mk id ⟨rfl, trivial⟩ trivial rfl
 ·rw [if_neg hc4] at H
  refine AG.yes rfl (congrArg Bool.not (Bool.eq_false_iff.2 hc4)) ?_
  refine AG.seq ?_
  refine AG.region HM ?_
  refine a_move (v := vI _) ?_
  refine RA.nil nofun ?_
  refine AG.ret ?_
  obtain rfl := Option.some.inj H
  exact RetP.mk id ⟨rfl, trivial⟩ trivial rfl
/-! ### impl_cutEnds: function 64 -/
def impl_cutEnds.f (a0_0 : Int) (a0_1 : Int) (l0_2 : List S60) (l0_3 : List S91) (l1 : List Int) (a2 : Int) : Option (Int × Int × Int × Int) := if 0 < (l1.length : Int) then (if 0 ≤ (rd2 l1 0) then (if (rd2 l1 0) < (l0_2.length : Int) then (if 1 < (l1.length : Int) then (if 0 ≤ (rd2 l1 1) then (if (rd2 l1 1) < (l0_2.length : Int) then (if a2 = 1 then (some ((rd60 l0_2 (rd2 l1 1)).f0, (rd60 l0_2 (rd2 l1 1)).f1, (rd60 l0_2 (rd2 l1 0)).f0, (rd60 l0_2 (rd2 l1 0)).f1)) else (some ((rd60 l0_2 (rd2 l1 0)).f0, (rd60 l0_2 (rd2 l1 0)).f1, (rd60 l0_2 (rd2 l1 1)).f0, (rd60 l0_2 (rd2 l1 1)).f1))) else (none)) else (none)) else (none)) else (none)) else (none)) else (none)
set_option maxRecDepth 100000 in
theorem impl_cutEnds.ok {a0_0 : Int} {a0_1 : Int} {l0_2 : List S60} {l0_3 : List S91} {l1 : List Int} {a2 : Int} {r0 : Int} {r1 : Int} {r2 : Int} {r3 : Int} (H : impl_cutEnds.f a0_0 a0_1 l0_2 l0_3 l1 a2 = some (r0, r1, r2, r3)) : OkF Try.prog 64 [.agg [.d (.v (.int .i64 a0_0)), .d (.v (.int .i64 a0_1)), .d (.row 61 (l0_2.map c60)), .d (.row 96 (l0_3.map c91))], vR 2 (l1.map c2), vI a2] [] (.tup [.agg [.d (.v (.int .i64 r0)), .d (.v (.int .i64 r1))], .agg [.d (.v (.int .i64 r2)), .d (.v (.int .i64 r3))]]) [] := by
 unfold impl_cutEnds.f at H
 refine OkF.ofC (N := 30) (rs := [6, 7]) (avs := [.agg [.d (.v (.int .i64 r0)), .d (.v (.int .i64 r1))], .agg [.d (.v (.int .i64 r2)), .d (.v (.int .i64 r3))]]) [(6, 61), (7, 61)] Try.func64 rfl rfl (rc_cc rfl) (by decide) rfl (by decide) rfl rfl rfl rfl (fun w0 S => ?_)
 refine AG.seq ?_
 refine AG.region HM ?_
 refine a_box 200 ?_
 refine a_alloc (cs := [_, _]) 201 ?_ T61
 refine a_alloc (cs := [_, _]) 202 ?_ T61
 refine RA.nil nofun ?_
 refine AG.seq ?_
 refine AG.region HM ?_
 refine a_faB (q := 2) ?_ D32_2
 refine a_ldB (v := vR _ _) ?_ T29
 refine a_move (v := vR _ _) ?_
 by_cases hc1 : 0 < (l1.length : Int)
 ·rw [if_pos hc1] at H
  refine a_ixR (el := c2 (rd2 l1 0)) ?_ ⟨(by decide), hc1⟩ T2 Try.underlying38 (hel := R2 (by decide) hc1)
  refine a_ldR (v := vI _) ?_ T2
  by_cases hc2 : 0 ≤ (rd2 l1 0)
  ·rw [if_pos hc2] at H
   by_cases hc3 : (rd2 l1 0) < (l0_2.length : Int)
   ·rw [if_pos hc3] at H
    refine a_ixR (el := c60 (rd60 l0_2 (rd2 l1 0))) ?_ ⟨hc2, hc3⟩ T61 Try.underlying29 (hel := R60 hc2 hc3)
    refine a_ldR (v := .agg [_, _]) ?_ T61
    refine a_faB (q := 2) ?_ D32_2
    refine a_ldB (v := vR _ _) ?_ T29
    refine a_move (v := vR _ _) ?_
    by_cases hc4 : 1 < (l1.length : Int)
    ·rw [if_pos hc4] at H
     refine a_ixR (el := c2 (rd2 l1 1)) ?_ ⟨(by decide), hc4⟩ T2 Try.underlying38 (hel := R2 (by decide) hc4)
     refine a_ldR (v := vI _) ?_ T2
     by_cases hc5 : 0 ≤ (rd2 l1 1)
     ·rw [if_pos hc5] at H
      by_cases hc6 : (rd2 l1 1) < (l0_2.length : Int)
      ·rw [if_pos hc6] at H
       refine a_ixR (el := c60 (rd60 l0_2 (rd2 l1 1))) ?_ ⟨hc5, hc6⟩ T61 Try.underlying29 (hel := R60 hc5 hc6)
       refine a_ldR (v := .agg [_, _]) ?_ T61
       refine a_alloc (cs := [_, _]) 203 ?_ T61
       refine a_alloc (cs := [_, _]) 204 ?_ T61
       refine a_stB (cs' := [_, _]) ?_ T61
       refine a_stB (cs' := [_, _]) ?_ T61
       refine RA.nil (fun _ => by kernel_rfl) ?_
       refine AG.seq ?_
       refine AG.seq ?_
       refine AG.region HM ?_
       refine a_move (v := vI _) ?_
       refine a_int (u := .bool ((a2 == 1))) ?_
       refine RA.nil nofun ?_
       by_cases hc7 : a2 = 1
       ·rw [if_pos hc7] at H
        refine AG.yes rfl (beq_iff_eq.2 hc7) ?_
        refine AG.seq ?_
        refine AG.region HM ?_
        refine a_ldB (v := .agg [_, _]) ?_ T61
        refine a_ldB (v := .agg [_, _]) ?_ T61
        refine a_stB (cs' := [_, _]) ?_ T61
        refine a_stB (cs' := [_, _]) ?_ T61
        refine RA.nil (fun _ => by kernel_rfl) ?_
        refine AG.ret ?_
        simp only [Option.some.injEq, Prod.mk.injEq] at H
        obtain ⟨rfl, rfl, rfl, rfl⟩ := H
        exact RetL.cell T61 rfl rfl rfl (RetL.cell T61 rfl rfl rfl (RetL.nil (RetP.mk id ⟨rfl, rfl, trivial⟩ trivial rfl)))
       ·rw [if_neg hc7] at H
        refine AG.no rfl (beq_eq_false_iff_ne.2 hc7) ?_
        refine AG.skip ?_
        refine AG.seq ?_
        refine AG.region HM ?_
        refine a_ldB (v := .agg [_, _]) ?_ T61
        refine a_ldB (v := .agg [_, _]) ?_ T61
        refine a_stB (cs' := [_, _]) ?_ T61
        refine a_stB (cs' := [_, _]) ?_ T61
        refine RA.nil (fun _ => by kernel_rfl) ?_
        refine AG.ret ?_
        simp only [Option.some.injEq, Prod.mk.injEq] at H
        obtain ⟨rfl, rfl, rfl, rfl⟩ := H
        exact RetL.cell T61 rfl rfl rfl (RetL.cell T61 rfl rfl rfl (RetL.nil (RetP.mk id ⟨rfl, rfl, trivial⟩ trivial rfl)))
      ·rw [if_neg hc6] at H
       cases H
     ·rw [if_neg hc5] at H
      cases H
    ·rw [if_neg hc4] at H
     cases H
   ·rw [if_neg hc3] at H
    cases H
  ·rw [if_neg hc2] at H
   cases H
 ·rw [if_neg hc1] at H
  cases H
/-! ### impl_BestWays_1: function 72 -/
def impl_BestWays_1.f (k : Nat) (a0 : Int) (a1 : Int) (a2 : Int) (v_0_0 : Int) (v_0_1 : Int) (v_0_2 : List S60) (v_0_3 : List S91) (v_1_0 : List (List Int)) (v_2_0 : List Int) (v_3_0 : List S88) : Option (Int) := if 0 ≤ a0 then (if a0 < (v_2_0.length : Int) then (if 0 ≤ (rd2 v_2_0 a0) then (if (rd2 v_2_0 a0) < (v_1_0.length : Int) then ((impl_cutEnds.f v_0_0 v_0_1 v_0_2 v_0_3 (rd38 v_1_0 (rd2 v_2_0 a0)) a1).bind fun bt5 => (if 0 ≤ (wrap64 (a0 + 1)) then (if (wrap64 (a0 + 1)) < (v_2_0.length : Int) then (if 0 ≤ (rd2 v_2_0 (wrap64 (a0 + 1))) then (if (rd2 v_2_0 (wrap64 (a0 + 1))) < (v_1_0.length : Int) then ((impl_cutEnds.f v_0_0 v_0_1 v_0_2 v_0_3 (rd38 v_1_0 (rd2 v_2_0 (wrap64 (a0 + 1)))) a2).bind fun bt14 => ((impl_Distance.f k bt5.2.2.1 bt5.2.2.2 bt14.1 bt14.2.1).bind fun t19 => (if (wrap64 (a0 + 1)) < (v_3_0.length : Int) then (if a2 = 0 then (some (wrap64 (t19 + ((rd88 v_3_0 (wrap64 (a0 + 1))).f0)))) else (if a2 = 1 then (some (wrap64 (t19 + ((rd88 v_3_0 (wrap64 (a0 + 1))).f1)))) else (none))) else (none)))) else (none)) else (none)) else (none)) else (none))) else (none)) else (none)) else (none)) else (none)
set_option maxRecDepth 100000 in
theorem impl_BestWays_1.ok {k : Nat} {a0 : Int} {a1 : Int} {a2 : Int} {v_0_0 : Int} {v_0_1 : Int} {v_0_2 : List S60} {v_0_3 : List S91} {v_1_0 : List (List Int)} {v_2_0 : List Int} {v_3_0 : List S88} {r : Int} (H : impl_BestWays_1.f k a0 a1 a2 v_0_0 v_0_1 v_0_2 v_0_3 v_1_0 v_2_0 v_3_0 = some r) : OkF Try.prog 72 [vI a0, vI a1, vI a2, .c (.d (.ro [.v (.int .i64 v_0_0), .v (.int .i64 v_0_1), .row 61 (v_0_2.map c60), .row 96 (v_0_3.map c91)])), .c (.d (.ro [.row 38 (v_1_0.map c38)])), .c (.d (.ro [.row 2 (v_2_0.map c2)])), .c (.d (.ro [.row 88 (v_3_0.map c88)]))] [] (.c (.d (.v (.int .i64 r)))) [] := by
 unfold impl_BestWays_1.f at H
 refine OkF.of (N := 53) (rs := [10]) (avs := [.c (.d (.v (.int .i64 r)))]) Try.func72 rfl rfl (fun _ _ => results_tmp rfl _ _ _) (by decide) rfl rfl rfl rfl (fun w0 S => ?_)
 refine AG.seq ?_
 refine AG.region HM ?_
 refine a_move (v := vI _) ?_
 refine RA.nil nofun ?_
 refine AG.seq ?_
 refine AG.region HM ?_
 refine a_ldR (v := .agg [_, _, _, _]) ?_ T32
 refine a_ldR (v := vR _ _) ?_ T56
 refine a_ldR (v := vR _ _) ?_ T38
 refine a_move (v := vI _) ?_
 by_cases hc1 : 0 ≤ a0
 ·rw [if_pos hc1] at H
  by_cases hc2 : a0 < (v_2_0.length : Int)
  ·rw [if_pos hc2] at H
   refine a_ixR (el := c2 (rd2 v_2_0 a0)) ?_ ⟨hc1, hc2⟩ T2 Try.underlying38 (hel := R2 hc1 hc2)
   refine a_ldR (v := vI _) ?_ T2
   by_cases hc3 : 0 ≤ (rd2 v_2_0 a0)
   ·rw [if_pos hc3] at H
    by_cases hc4 : (rd2 v_2_0 a0) < (v_1_0.length : Int)
    ·rw [if_pos hc4] at H
     refine a_ixR (el := c38 (rd38 v_1_0 (rd2 v_2_0 a0))) ?_ ⟨hc3, hc4⟩ T38 Try.underlying56 (hel := R38 hc3 hc4)
     refine a_ldR (v := vR _ _) ?_ T38
     refine a_move (v := vI _) ?_
     obtain ⟨⟨t5, t6, t7, t8⟩, e9, H⟩ := bindO H
     refine a_call (v := .tup [.agg [.d (.v (.int .i64 t5)), .d (.v (.int .i64 t6))], .agg [.d (.v (.int .i64 t7)), .d (.v (.int .i64 t8))]]) (nk := []) (L := []) ?_ rfl (impl_cutEnds.ok e9) id (qg (qd (qd qn))) trivial trivial trivial rfl
     refine a_move (v := .tup [_, _]) ?_
     refine a_ext (v := .agg [_, _]) ?_
     refine a_ext (v := .agg [_, _]) ?_
     refine a_alloc (cs := [_, _]) 201 ?_ T61
     refine a_alloc (cs := [_, _]) 202 ?_ T61
     refine a_stB (cs' := [_, _]) ?_ T61
     refine a_stB (cs' := [_, _]) ?_ T61
     refine RA.nil (fun _ => by kernel_rfl) ?_
     refine AG.seq ?_
     refine AG.region HM ?_
     refine a_ldR (v := .agg [_, _, _, _]) ?_ T32
     refine a_ldR (v := vR _ _) ?_ T56
     refine a_ldR (v := vR _ _) ?_ T38
     refine a_move (v := vI _) ?_
     refine a_int (u := .int .i64 (wrap64 (a0 + 1))) ?_
     by_cases hc10 : 0 ≤ (wrap64 (a0 + 1))
     ·rw [if_pos hc10] at H
      by_cases hc11 : (wrap64 (a0 + 1)) < (v_2_0.length : Int)
      ·rw [if_pos hc11] at H
       refine a_ixR (el := c2 (rd2 v_2_0 (wrap64 (a0 + 1)))) ?_ ⟨hc10, hc11⟩ T2 Try.underlying38 (hel := R2 hc10 hc11)
       refine a_ldR (v := vI _) ?_ T2
       by_cases hc12 : 0 ≤ (rd2 v_2_0 (wrap64 (a0 + 1)))
       ·rw [if_pos hc12] at H
        by_cases hc13 : (rd2 v_2_0 (wrap64 (a0 + 1))) < (v_1_0.length : Int)
        ·rw [if_pos hc13] at H
         refine a_ixR (el := c38 (rd38 v_1_0 (rd2 v_2_0 (wrap64 (a0 + 1))))) ?_ ⟨hc12, hc13⟩ T38 Try.underlying56 (hel := R38 hc12 hc13)
         refine a_ldR (v := vR _ _) ?_ T38
         refine a_move (v := vI _) ?_
         obtain ⟨⟨t14, t15, t16, t17⟩, e18, H⟩ := bindO H
         refine a_call (v := .tup [.agg [.d (.v (.int .i64 t14)), .d (.v (.int .i64 t15))], .agg [.d (.v (.int .i64 t16)), .d (.v (.int .i64 t17))]]) (nk := []) (L := []) ?_ rfl (impl_cutEnds.ok e18) id (qg (qd (qd qn))) trivial trivial trivial rfl
         refine a_move (v := .tup [_, _]) ?_
         refine a_ext (v := .agg [_, _]) ?_
         refine a_ext (v := .agg [_, _]) ?_
         refine a_alloc (cs := [_, _]) 204 ?_ T61
         refine a_alloc (cs := [_, _]) 205 ?_ T61
         refine a_stB (cs' := [_, _]) ?_ T61
         refine a_stB (cs' := [_, _]) ?_ T61
         refine RA.nil (fun _ => by kernel_rfl) ?_
         refine AG.seq ?_
         refine AG.region HM ?_
         refine a_ldB (v := .agg [_, _]) ?_ T61
         refine a_ldB (v := .agg [_, _]) ?_ T61
         obtain ⟨t19, e20, H⟩ := bindO H
         refine a_call (v := vI t19) (nk := []) (L := []) ?_ rfl (impl_Distance.ok e20) id (qg (qg qn)) trivial trivial trivial rfl
         refine a_ldR (v := vR _ _) ?_ T87
         refine a_move (v := vI _) ?_
         refine a_int (u := .int .i64 (wrap64 (a0 + 1))) ?_
         refine a_move (v := vI _) ?_
         by_cases hc21 : (wrap64 (a0 + 1)) < (v_3_0.length : Int)
         ·rw [if_pos hc21] at H
          refine a_ixR (el := c88 (rd88 v_3_0 (wrap64 (a0 + 1)))) ?_ ⟨hc10, hc21⟩ T88 Try.underlying87 (hel := R88 hc10 hc21)
          by_cases hc22 : a2 = 0
          ·rw [if_pos hc22] at H
           refine a_ixaR (cells' := [.v (.int .i64 ((rd88 v_3_0 (wrap64 (a0 + 1))).f0)), .v (.int .i64 ((rd88 v_3_0 (wrap64 (a0 + 1))).f1))]) (iv := a2) ?_ (by rw [hc22]; decide) T2 Try.underlying88 (hp := by rw [hc22]; rfl) (hl := by rw [hc22]; rfl)
           refine a_ldR (v := vI _) ?_ T2
           refine a_int (u := .int .i64 (wrap64 (t19 + ((rd88 v_3_0 (wrap64 (a0 + 1))).f0)))) ?_
           refine a_move (v := vI _) ?_
           refine RA.nil (fun _ => by kernel_rfl) ?_
           refine AG.ret ?_
           obtain rfl := Option.some.inj H
           exact RetP.mk id ⟨rfl, trivial⟩ trivial rfl
          ·rw [if_neg hc22] at H
           by_cases hc23 : a2 = 1
           ·rw [if_pos hc23] at H
            refine a_ixaR (cells' := [.v (.int .i64 ((rd88 v_3_0 (wrap64 (a0 + 1))).f1))]) (iv := a2) ?_ (by rw [hc23]; decide) T2 Try.underlying88 (hp := by rw [hc23]; rfl) (hl := by rw [hc23]; rfl)
            refine a_ldR (v := vI _) ?_ T2
            refine a_int (u := .int .i64 (wrap64 (t19 + ((rd88 v_3_0 (wrap64 (a0 + 1))).f1)))) ?_
            refine a_move (v := vI _) ?_
            refine RA.nil (fun _ => by kernel_rfl) ?_
            refine AG.ret ?_
            obtain rfl := Option.some.inj H
            exact RetP.mk id ⟨rfl, trivial⟩ trivial rfl
           ·rw [if_neg hc23] at H
            cases H
         ·rw [if_neg hc21] at H
          cases H
        ·rw [if_neg hc13] at H
         cases H
       ·rw [if_neg hc12] at H
        cases H
      ·rw [if_neg hc11] at H
       cases H
     ·rw [if_neg hc10] at H
      cases H
    ·rw [if_neg hc4] at H
     cases H
   ·rw [if_neg hc3] at H
    cases H
  ·rw [if_neg hc2] at H
   cases H
 ·rw [if_neg hc1] at H
  cases H
/-! ### impl_BestWays: function 37 -/
mutual
def impl_BestWays.j0 : Nat → Int → List S88 → Int → Int → List S60 → List S91 → List (List Int) → List Int → Option ((List Int) × Int × Int)
 | 0, _, _, _, _, _, _, _, _ => none
 | k + 1, x9, y222_0, y224_0, y224_1, y224_2, y224_3, y225_0, y226_0 => (some ([0] : List Int)).bind fun y23 => (if 0 < (y222_0.length : Int) then (if ((rd88 y222_0 0).f1) < ((rd88 y222_0 0).f0) then (if 0 < (1 : Int) then (impl_BestWays.j1 k x9 y222_0 y224_0 y224_1 y224_2 y224_3 y225_0 y226_0 (y23.set (0 : Int).toNat 1)) else (none)) else (impl_BestWays.j1 k x9 y222_0 y224_0 y224_1 y224_2 y224_3 y225_0 y226_0 y23)) else (none))
def impl_BestWays.l0 : Nat → Int → List S88 → Int → Int → List S60 → List S91 → List (List Int) → List Int → Int → Option ((List Int) × Int × Int)
 | 0, _, _, _, _, _, _, _, _, _ => none
 | k + 1, x9, y210_0, y212_0, y212_1, y212_2, y212_3, y213_0, y214_0, x12 => if x12 ≥ 0 then (impl_BestWays.l1 k x9 y210_0 y212_0 y212_1 y212_2 y212_3 y213_0 y214_0 x12 0) else (impl_BestWays.j0 k x9 y210_0 y212_0 y212_1 y212_2 y212_3 y213_0 y214_0)
def impl_BestWays.l1 : Nat → Int → List S88 → Int → Int → List S60 → List S91 → List (List Int) → List Int → Int → Int → Option ((List Int) × Int × Int)
 | 0, _, _, _, _, _, _, _, _, _, _ => none
 | k + 1, x9, y215_0, y217_0, y217_1, y217_2, y217_3, y218_0, y219_0, x12, x43 => if x43 < 2 then ((impl_BestWays_1.f k x12 x43 0 y217_0 y217_1 y217_2 y217_3 y218_0 y219_0 y215_0).bind fun t13 => ((impl_BestWays_1.f k x12 x43 1 y217_0 y217_1 y217_2 y217_3 y218_0 y219_0 y215_0).bind fun t15 => (if 0 ≤ x12 then (if x12 < (y215_0.length : Int) then (if x43 = 0 then (impl_BestWays.l1 k x9 (y215_0.set (x12 : Int).toNat (⟨mn t13 t15, (rd88 y215_0 x12).f1⟩ : S88)) y217_0 y217_1 y217_2 y217_3 y218_0 y219_0 x12 (wrap64 (x43 + 1))) else (if x43 = 1 then (impl_BestWays.l1 k x9 (y215_0.set (x12 : Int).toNat (⟨(rd88 y215_0 x12).f0, mn t13 t15⟩ : S88)) y217_0 y217_1 y217_2 y217_3 y218_0 y219_0 x12 (wrap64 (x43 + 1))) else (none))) else (none)) else (none)))) else (impl_BestWays.l0 k x9 y215_0 y217_0 y217_1 y217_2 y217_3 y218_0 y219_0 (wrap64 (x12 - 1)))
def impl_BestWays.j1 : Nat → Int → List S88 → Int → Int → List S60 → List S91 → List (List Int) → List Int → List Int → Option ((List Int) × Int × Int)
 | 0, _, _, _, _, _, _, _, _, _ => none
 | k + 1, x9, y228_0, y230_0, y230_1, y230_2, y230_3, y231_0, y232_0, x14 => impl_BestWays.l2 k x9 y228_0 y230_0 y230_1 y230_2 y230_3 y231_0 y232_0 x14 0
def impl_BestWays.l2 : Nat → Int → List S88 → Int → Int → List S60 → List S91 → List (List Int) → List Int → List Int → Int → Option ((List Int) × Int × Int)
 | 0, _, _, _, _, _, _, _, _, _, _ => none
 | k + 1, x9, y234_0, y236_0, y236_1, y236_2, y236_3, y237_0, y238_0, x14, x15 => if (wrap64 (x15 + 1)) < x9 then (if 0 ≤ x15 then (if x15 < (x14.length : Int) then ((impl_BestWays_1.f k x15 (rd2 x14 x15) 1 y236_0 y236_1 y236_2 y236_3 y237_0 y238_0 y234_0).bind fun t31 => ((impl_BestWays_1.f k x15 (rd2 x14 x15) 0 y236_0 y236_1 y236_2 y236_3 y237_0 y238_0 y234_0).bind fun t33 => (if t31 < t33 then (if x14.length < 17592186044416 then (impl_BestWays.l2 k x9 y234_0 y236_0 y236_1 y236_2 y236_3 y237_0 y238_0 (x14 ++ [1]) (wrap64 (x15 + 1))) else (none)) else (if x14.length < 17592186044416 then (impl_BestWays.l2 k x9 y234_0 y236_0 y236_1 y236_2 y236_3 y237_0 y238_0 (x14 ++ [0]) (wrap64 (x15 + 1))) else (none))))) else (none)) else (none)) else (if 0 < (x14.length : Int) then (if 0 < (y234_0.length : Int) then (if (rd2 x14 0) = 0 then (some (x14, (rd88 y234_0 0).f0, 0)) else (if (rd2 x14 0) = 1 then (some (x14, (rd88 y234_0 0).f1, 0)) else (none))) else (none)) else (none))
end
def impl_BestWays.f (k : Nat) (a0_0 : Int) (a0_1 : Int) (l0_2 : List S60) (l0_3 : List S91) (l1 : List Int) : Option ((List Int) × Int × Int) := if 0 ≤ (l1.length : Int) then (if ((l1.length : Int) : Int).toNat ≤ 35184372088832 then ((impl_waysCode.f k a0_0 a0_1 l0_2 l0_3 l1 (List.replicate (((l1.length : Int) : Int).toNat) 0)).bind fun bt4 => (if bt4.2 = 0 then (if (l1.length : Int) = 0 then (some (([] : List Int), 0, 0)) else (if ((l1.length : Int) : Int).toNat ≤ 17592186044416 then (impl_BestWays.l0 k (l1.length : Int) (List.replicate (((l1.length : Int) : Int).toNat) z88) a0_0 a0_1 l0_2 l0_3 bt4.1 l1 (wrap64 ((l1.length : Int) - 2))) else (none))) else (some (([] : List Int), 0, bt4.2)))) else (none)) else (none)
set_option maxRecDepth 100000 in
theorem impl_BestWays.ok {k : Nat} {a0_0 : Int} {a0_1 : Int} {l0_2 : List S60} {l0_3 : List S91} {l1 : List Int} {r0 : List Int} {r1 : Int} {r2 : Int} (H : impl_BestWays.f k a0_0 a0_1 l0_2 l0_3 l1 = some (r0, r1, r2)) : OkF Try.prog 37 [.agg [.d (.v (.int .i64 a0_0)), .d (.v (.int .i64 a0_1)), .d (.row 61 (l0_2.map c60)), .d (.row 96 (l0_3.map c91))], vR 2 (l1.map c2)] [] (.tup [.c (.own 100 r0.length), .c (.d (.v (.int .i64 r1))), .c (.d (.v (.int .i64 r2)))]) [(100, .row 2 (r0.map c2))] := by
 unfold impl_BestWays.f at H
 refine OkF.of (N := 106) (rs := [4, 5, 6]) (avs := [.c (.own 100 r0.length), .c (.d (.v (.int .i64 r1))), .c (.d (.v (.int .i64 r2)))]) Try.func37 rfl rfl (fun _ _ => results_tmp3 rfl _ _ _) (by decide) rfl rfl rfl rfl (fun w0 S => ?_)
 refine AG.seq ?_
 refine AG.region HM ?_
 refine a_box 200 ?_
 refine a_box 201 ?_
 refine a_nilO (e := 2) 202 ?_ T2
 refine a_move (v := vI _) ?_
 refine a_move (v := vI _) ?_
 refine RA.nil nofun ?_
 refine AG.seq ?_
 refine AG.region HM ?_
 refine a_ldB (v := .agg [_, _, _, _]) ?_ T32
 refine a_ldB (v := vR _ _) ?_ T38
 refine a_ldB (v := vR _ _) ?_ T38
 refine a_lenR ?_ Try.underlying38
 by_cases hc1 : 0 ≤ (l1.length : Int)
 ·rw [if_pos hc1] at H
  by_cases hc2 : ((l1.length : Int) : Int).toNat ≤ 35184372088832
  ·rw [if_pos hc2] at H
   refine a_make (n := (l1.length : Int)) (css := (List.replicate (((l1.length : Int) : Int).toNat) 0).map c2) 203 ?_ N38 T2 (zV zN) hc1 (by omega) (by omega) (hcss := by exact rep_map rfl)
   obtain ⟨⟨t4, t5⟩, e6, H⟩ := bindO H
   refine a_call (v := .tup [.c (.own 204 t4.length), .c (.d (.v (.int .i64 t5)))]) (nk := [(204, .row 38 (t4.map c38))]) (L := [(203, _)]) ?_ rfl (impl_waysCode.ok e6) (fun κ => cond (Nat.beq κ 204) 100 (κ)) (qg (qd (qc rO qn))) ⟨rfl, trivial⟩ ⟨rfl, trivial⟩ ⟨rfl, trivial⟩ rfl
   refine a_move (v := .tup [_, _]) ?_
   refine a_ext (v := .c (.own _ _)) ?_
   refine a_ext (v := vI _) ?_
   refine a_alloc (cs := [_]) 205 ?_ T56
   refine a_stB (cs' := [_]) ?_ T56
   refine a_move (v := vI _) ?_
   refine RA.nil (fun _ => by kernel_rfl) ?_
   refine AG.seq ?_
   refine AG.seq ?_
   refine AG.freeze 204 ?_
   refine AG.region HM ?_
   refine a_move (v := vI _) ?_
   refine a_int (u := .bool ((t5 != 0))) ?_
   refine RA.nil nofun ?_
   by_cases hc7 : t5 = 0
   ·rw [if_pos hc7] at H
    refine AG.no rfl (bne_eq_false_iff_eq.2 hc7) ?_
    refine AG.skip ?_
    refine AG.seq ?_
    refine AG.seq ?_
    refine AG.region HM ?_
    refine a_ldB (v := vR _ _) ?_ T38
    refine a_lenR ?_ Try.underlying38
    refine a_int (u := .bool (((l1.length : Int) == 0))) ?_
    refine RA.nil nofun ?_
    by_cases hc8 : (l1.length : Int) = 0
    ·rw [if_pos hc8] at H
     refine AG.yes rfl (beq_iff_eq.2 hc8) ?_
     refine AG.seq ?_
     refine AG.region HM ?_
     refine a_nilO (e := 2) 207 ?_ T2
     refine a_move (v := vI _) ?_
     refine a_move (v := vI _) ?_
     refine RA.nil nofun ?_
     refine AG.ret ?_
     simp only [Option.some.injEq, Prod.mk.injEq] at H
     obtain ⟨rfl, rfl, rfl⟩ := H
     exact RetP.mk (fun κ => cond (Nat.beq κ 100) 207 (κ)) ⟨(ownE rfl (by simp)), rfl, rfl, trivial⟩ ⟨rfl, trivial⟩ rfl
    ·rw [if_neg hc8] at H
     refine AG.no rfl (beq_eq_false_iff_ne.2 hc8) ?_
     refine AG.skip ?_
     refine AG.seq ?_
     refine AG.region HM ?_
     refine a_ldB (v := vR _ _) ?_ T38
     refine a_lenR ?_ Try.underlying38
     refine a_move (v := vI _) ?_
     refine RA.nil nofun ?_
     refine AG.seq ?_
     refine AG.region HM ?_
     refine a_move (v := vI _) ?_
     by_cases hc9 : ((l1.length : Int) : Int).toNat ≤ 17592186044416
     ·rw [if_pos hc9] at H
      refine a_make (n := (l1.length : Int)) (css := (List.replicate (((l1.length : Int) : Int).toNat) z88).map c88) 208 ?_ N87 T88 (zV (zV zN)) hc1 (by omega) (by omega) (hcss := by exact rep_map rfl)
      refine a_alloc (cs := [_]) 209 ?_ T87
      refine a_stB (cs' := [_]) ?_ T87
      refine RA.nil nofun ?_
      refine AG.relen 208 (List.replicate (((l1.length : Int) : Int).toNat) z88).length ?_
      refine AG.seq ?_
      refine AG.region HM ?_
      refine a_fnc (ks := [200, 205, 201, 209]) ?_
      refine a_move (v := .c (.fnc _ _)) ?_
      refine RA.nil nofun ?_
      refine AG.seq ?_
      refine AG.seq ?_
      refine AG.region HM ?_
      refine a_move (v := vI _) ?_
      refine a_int (u := .int .i64 (wrap64 ((l1.length : Int) - 2))) ?_
      refine a_move (v := vI _) ?_
      refine RA.nil nofun ?_
      refine AG.joinR (fun s => ∃ q, q ≤ k ∧ ∃ (x9 : Int) (y222_0 : List S88) (y224_0 : Int) (y224_1 : Int) (y224_2 : List S60) (y224_3 : List S91) (y225_0 : List (List Int)) (y226_0 : List Int), impl_BestWays.j0 q x9 y222_0 y224_0 y224_1 y224_2 y224_3 y225_0 y226_0 = some (r0, r1, r2) ∧ s = St.of [(9, vI x9), (10, .c (.ptr 222 0)), (11, .c (.fnc 72 [224, 225, 226, 222]))] [(222, .box 87 [.own 223 y222_0.length]), (223, .row 88 (y222_0.map c88)), (224, .box 32 [.d (.v (.int .i64 y224_0)), .d (.v (.int .i64 y224_1)), .d (.row 61 (y224_2.map c60)), .d (.row 96 (y224_3.map c91))]), (225, .box 56 [.d (.row 38 (y225_0.map c38))]), (226, .box 38 [.d (.row 2 (y226_0.map c2))])]) ?_ ?_
      ·skip
       refine AG.block ?_
       refine AG.loop ?_
       obtain ⟨K0, hK0, gK0⟩ : ∃ K, k ≤ K ∧ K ≤ k := ⟨k, Nat.le_refl k, Nat.le_refl k⟩
       refine AGr.canon (fun κ => cond (Nat.beq κ 210) 209 (cond (Nat.beq κ 211) 208 (cond (Nat.beq κ 212) 200 (cond (Nat.beq κ 213) 205 (cond (Nat.beq κ 214) 201 (κ)))))) (AGr.loopI (n := k) (fun k s => k ≤ K0 ∧ ∃ (x9 : Int) (y210_0 : List S88) (y212_0 : Int) (y212_1 : Int) (y212_2 : List S60) (y212_3 : List S91) (y213_0 : List (List Int)) (y214_0 : List Int) (x12 : Int), impl_BestWays.l0 k x9 y210_0 y212_0 y212_1 y212_2 y212_3 y213_0 y214_0 x12 = some (r0, r1, r2) ∧ s = St.of [(9, vI x9), (10, .c (.ptr 210 0)), (11, .c (.fnc 72 [212, 213, 214, 210])), (12, vI x12)] [(210, .box 87 [.own 211 y210_0.length]), (211, .row 88 (y210_0.map c88)), (212, .box 32 [.d (.v (.int .i64 y212_0)), .d (.v (.int .i64 y212_1)), .d (.row 61 (y212_2.map c60)), .d (.row 96 (y212_3.map c91))]), (213, .box 56 [.d (.row 38 (y213_0.map c38))]), (214, .box 38 [.d (.row 2 (y214_0.map c2))])]) ⟨hK0, _, _, _, _, _, _, _, _, _, H, rfl⟩ ?_ ?_) ⟨rfl, rfl, rfl, rfl, trivial⟩ ⟨rfl, rfl, rfl, rfl, rfl, trivial⟩ rfl
       ·rintro _ ⟨_, _, _, _, _, _, _, _, _, _, H, _⟩
        cases H
       ·clear H hK0
        rintro k ih0 _ ⟨hK0, x9, y210_0, y212_0, y212_1, y212_2, y212_3, y213_0, y214_0, x12, H, rfl⟩
        unfold impl_BestWays.l0 at H
        refine AG.seq ?_
        refine AG.seq ?_
        refine AG.region HM ?_
        refine a_move (v := vI _) ?_
        refine a_int (u := .bool (decide (x12 ≥ 0))) ?_
        refine RA.nil nofun ?_
        by_cases hc11 : x12 ≥ 0
        ·rw [if_pos hc11] at H
         refine AG.yes rfl (decide_eq_true hc11) ?_
         refine AG.skip ?_
         refine AG.seq ?_
         refine AG.block ?_
         refine AG.seq ?_
         refine AG.region HM ?_
         refine a_move (v := vI _) ?_
         refine RA.nil nofun ?_
         refine AG.block ?_
         refine AG.loop ?_
         obtain ⟨K1, hK1, gK1⟩ : ∃ K, k ≤ K ∧ K ≤ k := ⟨k, Nat.le_refl k, Nat.le_refl k⟩
         refine AGr.canon (fun κ => cond (Nat.beq κ 215) 210 (cond (Nat.beq κ 216) 211 (cond (Nat.beq κ 217) 212 (cond (Nat.beq κ 218) 213 (cond (Nat.beq κ 219) 214 (κ)))))) (AGr.loopI (n := k) (fun k s => k ≤ K1 ∧ ∃ (x9 : Int) (y215_0 : List S88) (y217_0 : Int) (y217_1 : Int) (y217_2 : List S60) (y217_3 : List S91) (y218_0 : List (List Int)) (y219_0 : List Int) (x12 : Int) (x43 : Int), impl_BestWays.l1 k x9 y215_0 y217_0 y217_1 y217_2 y217_3 y218_0 y219_0 x12 x43 = some (r0, r1, r2) ∧ s = St.of [(9, vI x9), (10, .c (.ptr 215 0)), (11, .c (.fnc 72 [217, 218, 219, 215])), (12, vI x12), (43, vI x43)] [(215, .box 87 [.own 216 y215_0.length]), (216, .row 88 (y215_0.map c88)), (217, .box 32 [.d (.v (.int .i64 y217_0)), .d (.v (.int .i64 y217_1)), .d (.row 61 (y217_2.map c60)), .d (.row 96 (y217_3.map c91))]), (218, .box 56 [.d (.row 38 (y218_0.map c38))]), (219, .box 38 [.d (.row 2 (y219_0.map c2))])]) ⟨hK1, _, _, _, _, _, _, _, _, _, _, H, rfl⟩ ?_ ?_) ⟨rfl, rfl, rfl, rfl, rfl, trivial⟩ ⟨rfl, rfl, rfl, rfl, rfl, trivial⟩ rfl
         ·rintro _ ⟨_, _, _, _, _, _, _, _, _, _, _, H, _⟩
          cases H
         ·clear H hK1
          rintro k ih1 _ ⟨hK1, x9, y215_0, y217_0, y217_1, y217_2, y217_3, y218_0, y219_0, x12, x43, H, rfl⟩
          unfold impl_BestWays.l1 at H
          refine AG.seq ?_
          refine AG.region HM ?_
          refine a_int (u := .bool (decide (x43 < 2))) ?_
          refine RA.nil nofun ?_
          refine AG.seq ?_
          by_cases hc12 : x43 < 2
          ·rw [if_pos hc12] at H
           refine AG.yes rfl (decide_eq_true hc12) ?_
           refine AG.skip ?_
           refine AG.seq ?_
           refine AG.block ?_
           refine AG.seq ?_
           refine AG.region HM ?_
           refine a_move (v := vI _) ?_
           refine a_move (v := vI _) ?_
           refine RA.nil nofun ?_
           refine AG.region HM ?_
           refine a_ldB (v := .c (.own _ _)) ?_ T87
           refine a_move (v := vI _) ?_
           refine a_move (v := vI _) ?_
           refine a_move (v := .c (.fnc _ _)) ?_
           refine a_move (v := vI _) ?_
           refine a_move (v := vI _) ?_
           obtain ⟨t13, e14, H⟩ := bindO H
           refine a_callN (v := vI t13) (nk := []) (L := [(217, _), (218, _), (219, _), (215, _), (216, _)]) ?_ rfl (qc (rF4 (rP (pD (pD (pD (pD p0))))) (rP (pD p0)) (rP (pD p0)) (rP (κ := 215) (off := 0) (cs := [.own 216 y215_0.length]) (pC rO p0))) qn) (impl_BestWays_1.ok e14) id (qd (qd (qd qn))) rfl ⟨rfl, rfl, rfl, rfl, rfl, trivial⟩ trivial trivial rfl
           refine a_move (v := .c (.fnc _ _)) ?_
           refine a_move (v := vI _) ?_
           refine a_move (v := vI _) ?_
           obtain ⟨t15, e16, H⟩ := bindO H
           refine a_callN (v := vI t15) (nk := []) (L := [(217, _), (218, _), (219, _), (215, _), (216, _)]) ?_ rfl (qc (rF4 (rP (pD (pD (pD (pD p0))))) (rP (pD p0)) (rP (pD p0)) (rP (κ := 215) (off := 0) (cs := [.own 216 y215_0.length]) (pC rO p0))) qn) (impl_BestWays_1.ok e16) id (qd (qd (qd qn))) rfl ⟨rfl, rfl, rfl, rfl, rfl, trivial⟩ trivial trivial rfl
           refine a_minmax (mx := false) (r := mn t13 t15) ?_
           by_cases hc17 : 0 ≤ x12
           ·rw [if_pos hc17] at H
            by_cases hc18 : x12 < (y215_0.length : Int)
            ·rw [if_pos hc18] at H
             refine a_ixO ?_ ⟨hc17, hc18⟩ T88 Try.underlying87
             by_cases hc19 : x43 = 0
             ·rw [if_pos hc19] at H
              refine a_ixaE (q := 0) (iv := x43) ?_ (by rw [hc19]; decide) T2 Try.underlying88 (hp := by rw [hc19]; rfl)
              refine a_stF (css' := (y215_0.set (x12 : Int).toNat (⟨mn t13 t15, (rd88 y215_0 x12).f1⟩ : S88)).map c88) ?_ (flat_map (fun _ => rfl)) (G88 hc17 hc18) T2 (hcss := by exact set_map rfl)
              refine RA.nil (fun _ => by kernel_rfl) ?_
              refine AG.relen 216 (y215_0.set (x12 : Int).toNat (⟨mn t13 t15, (rd88 y215_0 x12).f1⟩ : S88)).length ?_
              refine AG.region HM ?_
              refine a_int (u := .int .i64 (wrap64 (x43 + 1))) ?_
              refine a_move (v := vI _) ?_
              refine RA.nil nofun ?_
              exact AGr.canon id (ih1 _ (by omega) _ ⟨by omega, _, _, _, _, _, _, _, _, _, _, H, rfl⟩) ⟨rfl, rfl, rfl, rfl, rfl, trivial⟩ ⟨rfl, rfl, rfl, rfl, rfl, trivial⟩ rfl
             ·rw [if_neg hc19] at H
              by_cases hc21 : x43 = 1
              ·rw [if_pos hc21] at H
               refine a_ixaE (q := 1) (iv := x43) ?_ (by rw [hc21]; decide) T2 Try.underlying88 (hp := by rw [hc21]; rfl)
               refine a_stF (css' := (y215_0.set (x12 : Int).toNat (⟨(rd88 y215_0 x12).f0, mn t13 t15⟩ : S88)).map c88) ?_ (flat_map (fun _ => rfl)) (G88 hc17 hc18) T2 (hcss := by exact set_map rfl)
               refine RA.nil (fun _ => by kernel_rfl) ?_
               refine AG.relen 216 (y215_0.set (x12 : Int).toNat (⟨(rd88 y215_0 x12).f0, mn t13 t15⟩ : S88)).length ?_
               refine AG.region HM ?_
               refine a_int (u := .int .i64 (wrap64 (x43 + 1))) ?_
               refine a_move (v := vI _) ?_
               refine RA.nil nofun ?_
               exact AGr.canon id (ih1 _ (by omega) _ ⟨by omega, _, _, _, _, _, _, _, _, _, _, H, rfl⟩) ⟨rfl, rfl, rfl, rfl, rfl, trivial⟩ ⟨rfl, rfl, rfl, rfl, rfl, trivial⟩ rfl
              ·rw [if_neg hc21] at H
               cases H
            ·rw [if_neg hc18] at H
             cases H
           ·rw [if_neg hc17] at H
            cases H
          ·rw [if_neg hc12] at H
           refine AG.no rfl (decide_eq_false hc12) ?_
           refine AG.exit ?_
           refine AG.region HM ?_
           refine a_move (v := vI _) ?_
           refine a_int (u := .int .i64 (wrap64 (x12 - 1))) ?_
           refine a_move (v := vI _) ?_
           refine RA.nil nofun ?_
           exact AGr.canon (fun κ => cond (Nat.beq κ 210) 215 (cond (Nat.beq κ 211) 216 (cond (Nat.beq κ 212) 217 (cond (Nat.beq κ 213) 218 (cond (Nat.beq κ 214) 219 (κ)))))) (ih0 _ (by omega) _ ⟨by omega, _, _, _, _, _, _, _, _, _, H, rfl⟩) ⟨rfl, rfl, rfl, rfl, trivial⟩ ⟨rfl, rfl, rfl, rfl, rfl, trivial⟩ rfl
        ·rw [if_neg hc11] at H
         refine AG.no rfl (decide_eq_false hc11) ?_
         refine AG.exit ?_
         exact CanR.mk (fun κ => cond (Nat.beq κ 222) 210 (cond (Nat.beq κ 223) 211 (cond (Nat.beq κ 224) 212 (cond (Nat.beq κ 225) 213 (cond (Nat.beq κ 226) 214 (κ)))))) ⟨_, (by omega), _, _, _, _, _, _, _, _, H, rfl⟩ ⟨rfl, rfl, rfl, trivial⟩ ⟨rfl, rfl, rfl, rfl, rfl, trivial⟩ rfl
      ·clear H
       rintro _ ⟨k, hj0, x9, y222_0, y224_0, y224_1, y224_2, y224_3, y225_0, y226_0, H, rfl⟩
       cases k with
       | zero => cases H
       | succ k =>
        rw [impl_BestWays.j0] at H
        refine AG.seq ?_
        refine AG.region HM ?_
        obtain ⟨y23, ey23, H⟩ := bindO H
        have ey23 := Option.some.inj ey23
        refine a_lit (cs := [_]) (D := []) (css := y23.map c2) 227 ?_ N38 T2 (hcss := by rw [← ey23]; rfl)
        refine a_move (v := .c (.own _ _)) ?_
        refine RA.nil nofun ?_
        refine AG.seq ?_
        refine AG.seq ?_
        refine AG.region HM ?_
        refine a_ldB (v := .c (.own _ _)) ?_ T87
        by_cases hc24 : 0 < (y222_0.length : Int)
        ·rw [if_pos hc24] at H
         refine a_ixO ?_ ⟨(by decide), hc24⟩ T88 Try.underlying87
         refine a_ixaE (q := 1) (iv := 1) ?_ (by decide) T2 Try.underlying88
         refine a_ldE (v := vI _) ?_ (G88 (by decide) hc24) T2
         refine a_ldB (v := .c (.own _ _)) ?_ T87
         refine a_ixO ?_ ⟨(by decide), hc24⟩ T88 Try.underlying87
         refine a_ixaE (q := 0) (iv := 0) ?_ (by decide) T2 Try.underlying88
         refine a_ldE (v := vI _) ?_ (G88 (by decide) hc24) T2
         refine a_int (u := .bool (decide (((rd88 y222_0 0).f1) < ((rd88 y222_0 0).f0)))) ?_
         refine RA.nil (fun _ => by kernel_rfl) ?_
         refine AG.joinR (fun s => ∃ q, q ≤ k ∧ ∃ (x9 : Int) (y228_0 : List S88) (y230_0 : Int) (y230_1 : Int) (y230_2 : List S60) (y230_3 : List S91) (y231_0 : List (List Int)) (y232_0 : List Int) (x14 : List Int), impl_BestWays.j1 q x9 y228_0 y230_0 y230_1 y230_2 y230_3 y231_0 y232_0 x14 = some (r0, r1, r2) ∧ s = St.of [(9, vI x9), (10, .c (.ptr 228 0)), (11, .c (.fnc 72 [230, 231, 232, 228])), (14, .c (.own 233 x14.length))] [(228, .box 87 [.own 229 y228_0.length]), (229, .row 88 (y228_0.map c88)), (230, .box 32 [.d (.v (.int .i64 y230_0)), .d (.v (.int .i64 y230_1)), .d (.row 61 (y230_2.map c60)), .d (.row 96 (y230_3.map c91))]), (231, .box 56 [.d (.row 38 (y231_0.map c38))]), (232, .box 38 [.d (.row 2 (y232_0.map c2))]), (233, .row 2 (x14.map c2))]) ?_ ?_
         ·skip
          by_cases hc25 : ((rd88 y222_0 0).f1) < ((rd88 y222_0 0).f0)
          ·rw [if_pos hc25] at H
           refine AG.yes rfl (decide_eq_true hc25) ?_
           refine AG.region HM ?_
           refine a_move (v := .c (.own _ _)) ?_
           by_cases hc26 : 0 < (1 : Int)
           ·rw [if_pos hc26] at H
            refine a_ixO ?_ ⟨(by decide), hc26⟩ T2 Try.underlying38
            refine a_stF (css' := (y23.set (0 : Int).toNat 1).map c2) ?_ (flat_map (fun _ => rfl)) (G2 (l := y23) (i := 0) (by decide) (by rw [← ey23]; simpa using hc26)) T2 (hcss := by exact set_map rfl)
            refine RA.nil nofun ?_
            exact CanR.mk (fun κ => cond (Nat.beq κ 228) 222 (cond (Nat.beq κ 229) 223 (cond (Nat.beq κ 230) 224 (cond (Nat.beq κ 231) 225 (cond (Nat.beq κ 232) 226 (cond (Nat.beq κ 233) 227 (κ))))))) ⟨_, (by omega), _, _, _, _, _, _, _, _, _, H, rfl⟩ ⟨rfl, rfl, rfl, (ownE rfl (by rw [← ey23]; simp)), trivial⟩ ⟨rfl, rfl, rfl, rfl, rfl, rfl, trivial⟩ rfl
           ·rw [if_neg hc26] at H
            cases H
          ·rw [if_neg hc25] at H
           refine AG.no rfl (decide_eq_false hc25) ?_
           refine AG.skip ?_
           exact CanR.mk (fun κ => cond (Nat.beq κ 228) 222 (cond (Nat.beq κ 229) 223 (cond (Nat.beq κ 230) 224 (cond (Nat.beq κ 231) 225 (cond (Nat.beq κ 232) 226 (cond (Nat.beq κ 233) 227 (κ))))))) ⟨_, (by omega), _, _, _, _, _, _, _, _, _, H, rfl⟩ ⟨rfl, rfl, rfl, (ownE rfl (by rw [← ey23]; simp)), trivial⟩ ⟨rfl, rfl, rfl, rfl, rfl, rfl, trivial⟩ rfl
         ·clear H
          rintro _ ⟨k, hj1, x9, y228_0, y230_0, y230_1, y230_2, y230_3, y231_0, y232_0, x14, H, rfl⟩
          cases k with
          | zero => cases H
          | succ k =>
           rw [impl_BestWays.j1] at H
           refine AG.seq ?_
           refine AG.seq ?_
           refine AG.region HM ?_
           refine a_move (v := vI _) ?_
           refine RA.nil nofun ?_
           refine AG.block ?_
           refine AG.loop ?_
           obtain ⟨K2, hK2, gK2⟩ : ∃ K, k ≤ K ∧ K ≤ k := ⟨k, Nat.le_refl k, Nat.le_refl k⟩
           refine AGr.canon (fun κ => cond (Nat.beq κ 234) 228 (cond (Nat.beq κ 235) 229 (cond (Nat.beq κ 236) 230 (cond (Nat.beq κ 237) 231 (cond (Nat.beq κ 238) 232 (cond (Nat.beq κ 239) 233 (κ))))))) (AGr.loopI (n := k) (fun k s => k ≤ K2 ∧ ∃ (x9 : Int) (y234_0 : List S88) (y236_0 : Int) (y236_1 : Int) (y236_2 : List S60) (y236_3 : List S91) (y237_0 : List (List Int)) (y238_0 : List Int) (x14 : List Int) (x15 : Int), impl_BestWays.l2 k x9 y234_0 y236_0 y236_1 y236_2 y236_3 y237_0 y238_0 x14 x15 = some (r0, r1, r2) ∧ s = St.of [(9, vI x9), (10, .c (.ptr 234 0)), (11, .c (.fnc 72 [236, 237, 238, 234])), (14, .c (.own 239 x14.length)), (15, vI x15)] [(234, .box 87 [.own 235 y234_0.length]), (235, .row 88 (y234_0.map c88)), (236, .box 32 [.d (.v (.int .i64 y236_0)), .d (.v (.int .i64 y236_1)), .d (.row 61 (y236_2.map c60)), .d (.row 96 (y236_3.map c91))]), (237, .box 56 [.d (.row 38 (y237_0.map c38))]), (238, .box 38 [.d (.row 2 (y238_0.map c2))]), (239, .row 2 (x14.map c2))]) ⟨hK2, _, _, _, _, _, _, _, _, _, _, H, rfl⟩ ?_ ?_) ⟨rfl, rfl, rfl, rfl, rfl, trivial⟩ ⟨rfl, rfl, rfl, rfl, rfl, rfl, trivial⟩ rfl
           ·rintro _ ⟨_, _, _, _, _, _, _, _, _, _, _, H, _⟩
            cases H
           ·clear H hK2
            rintro k ih2 _ ⟨hK2, x9, y234_0, y236_0, y236_1, y236_2, y236_3, y237_0, y238_0, x14, x15, H, rfl⟩
            unfold impl_BestWays.l2 at H
            refine AG.seq ?_
            refine AG.seq ?_
            refine AG.region HM ?_
            refine a_move (v := vI _) ?_
            refine a_int (u := .int .i64 (wrap64 (x15 + 1))) ?_
            refine a_move (v := vI _) ?_
            refine a_int (u := .bool (decide ((wrap64 (x15 + 1)) < x9))) ?_
            refine RA.nil nofun ?_
            by_cases hc28 : (wrap64 (x15 + 1)) < x9
            ·rw [if_pos hc28] at H
             refine AG.yes rfl (decide_eq_true hc28) ?_
             refine AG.skip ?_
             refine AG.seq ?_
             refine AG.block ?_
             refine AG.seq ?_
             refine AG.region HM ?_
             refine a_move (v := vI _) ?_
             refine RA.nil nofun ?_
             refine AG.seq ?_
             refine AG.seq ?_
             refine AG.region HM ?_
             refine a_move (v := .c (.fnc _ _)) ?_
             refine a_move (v := vI _) ?_
             refine a_move (v := .c (.own _ _)) ?_
             refine a_move (v := vI _) ?_
             by_cases hc29 : 0 ≤ x15
             ·rw [if_pos hc29] at H
              by_cases hc30 : x15 < (x14.length : Int)
              ·rw [if_pos hc30] at H
               refine a_ixO ?_ ⟨hc29, hc30⟩ T2 Try.underlying38
               refine a_ldE (v := vI _) ?_ (G2 hc29 hc30) T2
               obtain ⟨t31, e32, H⟩ := bindO H
               refine a_callN (v := vI t31) (nk := []) (L := [(236, _), (237, _), (238, _), (234, _), (235, _)]) ?_ rfl (qc (rF4 (rP (pD (pD (pD (pD p0))))) (rP (pD p0)) (rP (pD p0)) (rP (κ := 234) (off := 0) (cs := [.own 235 y234_0.length]) (pC rO p0))) qn) (impl_BestWays_1.ok e32) id (qd (qd (qd qn))) rfl ⟨rfl, rfl, rfl, rfl, rfl, trivial⟩ trivial trivial rfl
               refine a_move (v := .c (.fnc _ _)) ?_
               refine a_move (v := vI _) ?_
               refine a_move (v := .c (.own _ _)) ?_
               refine a_move (v := vI _) ?_
               refine a_ixO ?_ ⟨hc29, hc30⟩ T2 Try.underlying38
               refine a_ldE (v := vI _) ?_ (G2 hc29 hc30) T2
               obtain ⟨t33, e34, H⟩ := bindO H
               refine a_callN (v := vI t33) (nk := []) (L := [(236, _), (237, _), (238, _), (234, _), (235, _)]) ?_ rfl (qc (rF4 (rP (pD (pD (pD (pD p0))))) (rP (pD p0)) (rP (pD p0)) (rP (κ := 234) (off := 0) (cs := [.own 235 y234_0.length]) (pC rO p0))) qn) (impl_BestWays_1.ok e34) id (qd (qd (qd qn))) rfl ⟨rfl, rfl, rfl, rfl, rfl, trivial⟩ trivial trivial rfl
               refine a_int (u := .bool (decide (t31 < t33))) ?_
               refine RA.nil (fun _ => by kernel_rfl) ?_
               by_cases hc35 : t31 < t33
               ·rw [if_pos hc35] at H
                refine AG.yes rfl (decide_eq_true hc35) ?_
                refine AG.region HM ?_
                refine a_move (v := vI _) ?_
                refine RA.nil nofun ?_
                refine AG.region HM ?_
                refine a_move (v := .c (.own _ _)) ?_
                refine a_move (v := vI _) ?_
                refine a_lit (cs := [_]) (D := []) (css := ([1]).map c2) 242 ?_ N38 T2
                by_cases hc36 : x14.length < 17592186044416
                ·rw [if_pos hc36] at H
                 refine a_appO (css' := (x14 ++ [1]).map c2) (n' := (x14 ++ [1]).length) ?_ T2 (by simp [maxLen]; omega) (by simp; omega) Try.underlying38 (hc := by exact List.map_append.symm) (hn := by exact List.length_map _)
                 refine a_move (v := .c (.own _ _)) ?_
                 refine RA.nil nofun ?_
                 refine AG.region HM ?_
                 refine a_move (v := vI _) ?_
                 refine a_int (u := .int .i64 (wrap64 (x15 + 1))) ?_
                 refine a_move (v := vI _) ?_
                 refine RA.nil nofun ?_
                 exact AGr.canon id (ih2 _ (by omega) _ ⟨by omega, _, _, _, _, _, _, _, _, _, _, H, rfl⟩) ⟨rfl, rfl, rfl, rfl, rfl, trivial⟩ ⟨rfl, rfl, rfl, rfl, rfl, rfl, trivial⟩ rfl
                ·rw [if_neg hc36] at H
                 cases H
               ·rw [if_neg hc35] at H
                refine AG.no rfl (decide_eq_false hc35) ?_
                refine AG.skip ?_
                refine AG.region HM ?_
                refine a_move (v := .c (.own _ _)) ?_
                refine a_move (v := vI _) ?_
                refine a_lit (cs := [_]) (D := []) (css := ([0]).map c2) 242 ?_ N38 T2
                by_cases hc38 : x14.length < 17592186044416
                ·rw [if_pos hc38] at H
                 refine a_appO (css' := (x14 ++ [0]).map c2) (n' := (x14 ++ [0]).length) ?_ T2 (by simp [maxLen]; omega) (by simp; omega) Try.underlying38 (hc := by exact List.map_append.symm) (hn := by exact List.length_map _)
                 refine a_move (v := .c (.own _ _)) ?_
                 refine RA.nil nofun ?_
                 refine AG.region HM ?_
                 refine a_move (v := vI _) ?_
                 refine a_int (u := .int .i64 (wrap64 (x15 + 1))) ?_
                 refine a_move (v := vI _) ?_
                 refine RA.nil nofun ?_
                 exact AGr.canon id (ih2 _ (by omega) _ ⟨by omega, _, _, _, _, _, _, _, _, _, _, H, rfl⟩) ⟨rfl, rfl, rfl, rfl, rfl, trivial⟩ ⟨rfl, rfl, rfl, rfl, rfl, rfl, trivial⟩ rfl
                ·rw [if_neg hc38] at H
                 cases H
              ·rw [if_neg hc30] at H
               cases H
             ·rw [if_neg hc29] at H
              cases H
            ·rw [if_neg hc28] at H
             refine AG.no rfl (decide_eq_false hc28) ?_
             refine AG.exit ?_
             refine AG.seq ?_
             refine AG.region HM ?_
             refine a_move (v := .c (.own _ _)) ?_
             refine a_ldB (v := .c (.own _ _)) ?_ T87
             refine a_move (v := .c (.own _ _)) ?_
             by_cases hc40 : 0 < (x14.length : Int)
             ·rw [if_pos hc40] at H
              refine a_ixO ?_ ⟨(by decide), hc40⟩ T2 Try.underlying38
              refine a_ldE (v := vI _) ?_ (G2 (by decide) hc40) T2
              by_cases hc41 : 0 < (y234_0.length : Int)
              ·rw [if_pos hc41] at H
               refine a_ixO ?_ ⟨(by decide), hc41⟩ T88 Try.underlying87
               by_cases hc42 : (rd2 x14 0) = 0
               ·rw [if_pos hc42] at H
                refine a_ixaE (q := 0) (iv := (rd2 x14 0)) ?_ (by rw [hc42]; decide) T2 Try.underlying88 (hp := by rw [hc42]; rfl)
                refine a_ldE (v := vI _) ?_ (G88 (by decide) hc41) T2
                refine a_move (v := .c (.own _ _)) ?_
                refine a_move (v := vI _) ?_
                refine a_move (v := vI _) ?_
                refine RA.nil (fun _ => by kernel_rfl) ?_
                refine AG.ret ?_
                simp only [Option.some.injEq, Prod.mk.injEq] at H
                obtain ⟨rfl, rfl, rfl⟩ := H
                exact RetP.mk (fun κ => cond (Nat.beq κ 100) 239 (κ)) ⟨rfl, rfl, rfl, trivial⟩ ⟨rfl, trivial⟩ rfl
               ·rw [if_neg hc42] at H
                by_cases hc43 : (rd2 x14 0) = 1
                ·rw [if_pos hc43] at H
                 refine a_ixaE (q := 1) (iv := (rd2 x14 0)) ?_ (by rw [hc43]; decide) T2 Try.underlying88 (hp := by rw [hc43]; rfl)
                 refine a_ldE (v := vI _) ?_ (G88 (by decide) hc41) T2
                 refine a_move (v := .c (.own _ _)) ?_
                 refine a_move (v := vI _) ?_
                 refine a_move (v := vI _) ?_
                 refine RA.nil (fun _ => by kernel_rfl) ?_
                 refine AG.ret ?_
                 simp only [Option.some.injEq, Prod.mk.injEq] at H
                 obtain ⟨rfl, rfl, rfl⟩ := H
                 exact RetP.mk (fun κ => cond (Nat.beq κ 100) 239 (κ)) ⟨rfl, rfl, rfl, trivial⟩ ⟨rfl, trivial⟩ rfl
                ·rw [if_neg hc43] at H
                 cases H
              ·rw [if_neg hc41] at H
               cases H
             ·rw [if_neg hc40] at H
              cases H
        ·rw [if_neg hc24] at H
         cases H
     ·rw [if_neg hc9] at H
      cases H
   ·rw [if_neg hc7] at H
    refine AG.yes rfl (bne_iff_ne.2 hc7) ?_
    refine AG.seq ?_
    refine AG.region HM ?_
    refine a_move (v := vI _) ?_
    refine a_nilO (e := 2) 206 ?_ T2
    refine a_move (v := vI _) ?_
    refine a_move (v := vI _) ?_
    refine RA.nil nofun ?_
    refine AG.ret ?_
    simp only [Option.some.injEq, Prod.mk.injEq] at H
    obtain ⟨rfl, rfl, rfl⟩ := H
    exact RetP.mk (fun κ => cond (Nat.beq κ 100) 206 (κ)) ⟨(ownE rfl (by simp)), rfl, rfl, trivial⟩ ⟨rfl, trivial⟩ rfl
  ·rw [if_neg hc2] at H
   cases H
 ·rw [if_neg hc1] at H
  cases H
/-! ### laws_FnExactBestWays: function 11 -/
mutual
def laws_FnExactBestWays.j0 : Nat → List Int → Int → Int → List S60 → List S91 → List Int → Int → Int → Int → Int → List S60 → List S91 → List Int → List Int → Int → Int → Bool → Option (Bool)
 | 0, _, _, _, _, _, _, _, _, _, _, _, _, _, _, _, _, _ => none
 | k + 1, x1, y212_0, y212_1, y212_2, y212_3, x6, x7, x8, y214_0, y214_1, y214_2, y214_3, x10, x11, x12, x13, x61 => if x61 = true then (some false) else ((laws_toDrawing.f k y212_0 y212_1 y212_2 y212_3).bind fun bt32 => ((laws_eqDrawing.f k y214_0 y214_1 y214_2 y214_3 bt32.1 bt32.2.1 bt32.2.2.1 bt32.2.2.2).bind fun t37 => (if t37 = true then ((laws_toInt64S.f k x1).bind fun t40 => ((laws_eqInt64S.f k x10 t40).bind fun t42 => (if t42 = true then ((laws_markDrawing.f k y214_0 y214_1 y214_2 y214_3 1).bind fun bt45 => ((laws_markInt64S.f k x10 bt45.1).bind fun bt49 => (if bt49.1 < 0 then (laws_FnExactBestWays.j1 k x1 y212_0 y212_1 y212_2 y212_3 x6 x7 x8 x11 true) else ((laws_eqInt64S.f k x11 x6).bind fun t53 => (if t53 = true then (if x12 = x7 then (laws_FnExactBestWays.j1 k x1 y212_0 y212_1 y212_2 y212_3 x6 x7 x8 x11 (x13 != x8)) else (laws_FnExactBestWays.j1 k x1 y212_0 y212_1 y212_2 y212_3 x6 x7 x8 x11 true)) else (laws_FnExactBestWays.j1 k x1 y212_0 y212_1 y212_2 y212_3 x6 x7 x8 x11 true)))))) else (some false)))) else (some false))))
def laws_FnExactBestWays.j1 : Nat → List Int → Int → Int → List S60 → List S91 → List Int → Int → Int → List Int → Bool → Option (Bool)
 | 0, _, _, _, _, _, _, _, _, _, _ => none
 | k + 1, x1, y227_0, y227_1, y227_2, y227_3, x6, x7, x8, x11, x95 => if x95 = true then (some false) else ((laws_markInt64S.f k x11 1).bind fun bt58 => ((laws_heldInt64S.f k bt58.2 1).bind fun t61 => (if t61 < 0 then (some false) else (if t61 = bt58.1 then ((laws_toDrawing.f k y227_0 y227_1 y227_2 y227_3).bind fun bt65 => ((laws_toInt64S.f k x1).bind fun t70 => ((impl_BestWays.f k bt65.1 bt65.2.1 bt65.2.2.1 bt65.2.2.2 t70).bind fun bt72 => ((laws_eqInt64S.f k bt72.1 x6).bind fun t76 => (if t76 = true then (if bt72.2.1 = x7 then (laws_FnExactBestWays.j2 k bt58.2 bt58.1 (bt72.2.2 != x8)) else (laws_FnExactBestWays.j2 k bt58.2 bt58.1 true)) else (laws_FnExactBestWays.j2 k bt58.2 bt58.1 true)))))) else (some false)))))
def laws_FnExactBestWays.j2 : Nat → List Int → Int → Bool → Option (Bool)
 | 0, _, _, _ => none
 | k + 1, x11, x15, x129 => if x129 = true then (some false) else ((laws_heldInt64S.f k x11 1).bind fun t81 => (if t81 < 0 then (some false) else (if t81 = x15 then (some true) else (some false))))
end
def laws_FnExactBestWays.f (k : Nat) (a0_0 : Int) (a0_1 : Int) (l0_2 : List S60) (l0_3 : List S91) (l1 : List Int) : Option (Bool) := if (l1.length : Int) > 1048576 then (some true) else ((laws_szDrawing.f k a0_0 a0_1 l0_2 l0_3 1048576).bind fun t2 => (if t2 < 0 then (some true) else ((laws_toDrawing.f k a0_0 a0_1 l0_2 l0_3).bind fun bt5 => ((laws_toInt64S.f k l1).bind fun t10 => ((spec_BestWays.f k bt5.1 bt5.2.1 bt5.2.2.1 bt5.2.2.2 t10).bind fun bt12 => ((laws_toDrawing.f k a0_0 a0_1 l0_2 l0_3).bind fun bt16 => ((laws_toInt64S.f k l1).bind fun t21 => ((impl_BestWays.f k bt16.1 bt16.2.1 bt16.2.2.1 bt16.2.2.2 t21).bind fun bt23 => ((laws_eqInt64S.f k bt23.1 bt12.1).bind fun t27 => (if t27 = true then (if bt23.2.1 = bt12.2.1 then (laws_FnExactBestWays.j0 k l1 a0_0 a0_1 l0_2 l0_3 bt12.1 bt12.2.1 bt12.2.2 bt16.1 bt16.2.1 bt16.2.2.1 bt16.2.2.2 t21 bt23.1 bt23.2.1 bt23.2.2 (bt23.2.2 != bt12.2.2)) else (laws_FnExactBestWays.j0 k l1 a0_0 a0_1 l0_2 l0_3 bt12.1 bt12.2.1 bt12.2.2 bt16.1 bt16.2.1 bt16.2.2.1 bt16.2.2.2 t21 bt23.1 bt23.2.1 bt23.2.2 true)) else (laws_FnExactBestWays.j0 k l1 a0_0 a0_1 l0_2 l0_3 bt12.1 bt12.2.1 bt12.2.2 bt16.1 bt16.2.1 bt16.2.2.1 bt16.2.2.2 t21 bt23.1 bt23.2.1 bt23.2.2 true)))))))))))
set_option maxRecDepth 100000 in
theorem laws_FnExactBestWays.ok {k : Nat} {a0_0 : Int} {a0_1 : Int} {l0_2 : List S60} {l0_3 : List S91} {l1 : List Int} {r : Bool} (H : laws_FnExactBestWays.f k a0_0 a0_1 l0_2 l0_3 l1 = some r) : OkF Try.prog 11 [.agg [.d (.v (.int .i64 a0_0)), .d (.v (.int .i64 a0_1)), .d (.row 95 (l0_2.map c60)), .d (.row 92 (l0_3.map c91))], vR 2 (l1.map c2)] [] (.c (.d (.v (.bool r)))) [] := by
 unfold laws_FnExactBestWays.f at H
 refine OkF.of (N := 138) (rs := [4]) (avs := [.c (.d (.v (.bool r)))]) Try.func11 rfl rfl (fun _ _ => results_tmp rfl _ _ _) (by decide) rfl rfl rfl rfl (fun w0 S => ?_)
 refine AG.seq ?_
 refine AG.region HM ?_
 refine a_box 200 ?_
 refine a_move (v := vB _) ?_
 refine RA.nil nofun ?_
 refine AG.seq ?_
 refine AG.seq ?_
 refine AG.region HM ?_
 refine a_move (v := vR _ _) ?_
 refine a_lenR ?_ Try.underlying38
 refine a_int (u := .bool (decide ((l1.length : Int) > 1048576))) ?_
 refine RA.nil nofun ?_
 by_cases hc1 : (l1.length : Int) > 1048576
 ·rw [if_pos hc1] at H
  refine AG.yes rfl (decide_eq_true hc1) ?_
  refine AG.seq ?_
  refine AG.region HM ?_
  refine a_move (v := vB _) ?_
  refine RA.nil nofun ?_
  refine AG.ret ?_
  obtain rfl := Option.some.inj H
  exact RetP.mk id ⟨rfl, trivial⟩ trivial rfl
 ·rw [if_neg hc1] at H
  refine AG.no rfl (decide_eq_false hc1) ?_
  refine AG.skip ?_
  refine AG.seq ?_
  refine AG.region HM ?_
  refine a_move (v := vI _) ?_
  refine RA.nil nofun ?_
  refine AG.seq ?_
  refine AG.region HM ?_
  refine a_ldB (v := .agg [_, _, _, _]) ?_ T25
  refine a_move (v := vI _) ?_
  obtain ⟨t2, e3, H⟩ := bindO H
  refine a_call (v := vI t2) (nk := []) (L := []) ?_ rfl (laws_szDrawing.ok e3) id (qg (qd qn)) trivial trivial trivial rfl
  refine a_move (v := vI _) ?_
  refine RA.nil nofun ?_
  refine AG.seq ?_
  refine AG.seq ?_
  refine AG.region HM ?_
  refine a_move (v := vI _) ?_
  refine a_int (u := .bool (decide (t2 < 0))) ?_
  refine RA.nil nofun ?_
  by_cases hc4 : t2 < 0
  ·rw [if_pos hc4] at H
   refine AG.yes rfl (decide_eq_true hc4) ?_
   refine AG.seq ?_
   refine AG.region HM ?_
   refine a_move (v := vB _) ?_
   refine RA.nil nofun ?_
   refine AG.ret ?_
   obtain rfl := Option.some.inj H
   exact RetP.mk id ⟨rfl, trivial⟩ trivial rfl
  ·rw [if_neg hc4] at H
   refine AG.no rfl (decide_eq_false hc4) ?_
   refine AG.skip ?_
   refine AG.seq ?_
   refine AG.region HM ?_
   refine a_ldB (v := .agg [_, _, _, _]) ?_ T25
   obtain ⟨⟨t5, t6, t7, t8⟩, e9, H⟩ := bindO H
   refine a_call (v := .agg [.d (.v (.int .i64 t5)), .d (.v (.int .i64 t6)), .own 202 t7.length, .own 203 t8.length]) (nk := [(202, .row 61 (t7.map c60)), (203, .row 96 (t8.map c91))]) (L := []) ?_ rfl (laws_toDrawing.ok e9) (fun κ => cond (Nat.beq κ 202) 100 (cond (Nat.beq κ 203) 101 (κ))) (qg qn) trivial ⟨rfl, rfl, trivial⟩ ⟨rfl, rfl, trivial⟩ rfl
   refine a_move (v := vR _ _) ?_
   obtain ⟨t10, e11, H⟩ := bindO H
   refine a_call (v := .c (.own 204 t10.length)) (nk := [(204, .row 2 (t10.map c2))]) (L := []) ?_ rfl (laws_toInt64S.ok e11) (fun κ => cond (Nat.beq κ 204) 100 (κ)) (qd qn) trivial ⟨rfl, trivial⟩ ⟨rfl, trivial⟩ rfl
   obtain ⟨⟨t12, t13, t14⟩, e15, H⟩ := bindO H
   refine a_call (v := .tup [.c (.own 205 t12.length), .c (.d (.v (.int .i64 t13))), .c (.d (.v (.int .i64 t14)))]) (nk := [(205, .row 2 (t12.map c2))]) (L := [(202, _), (203, _), (204, _)]) ?_ rfl (spec_BestWays.ok e15) (fun κ => cond (Nat.beq κ 205) 100 (κ)) (qm (eD (eD (eC rO (eC rO eN)))) (qc rO qn)) ⟨rfl, rfl, rfl, trivial⟩ ⟨rfl, trivial⟩ ⟨rfl, trivial⟩ rfl
   refine a_move (v := .tup [_, _, _]) ?_
   refine a_ext (v := .c (.own _ _)) ?_
   refine a_ext (v := vI _) ?_
   refine a_ext (v := vI _) ?_
   refine a_move (v := .c (.own _ _)) ?_
   refine a_move (v := vI _) ?_
   refine a_move (v := vI _) ?_
   refine RA.nil nofun ?_
   refine AG.seq ?_
   refine AG.freeze 203 ?_
   refine AG.region HM ?_
   refine a_ldB (v := .agg [_, _, _, _]) ?_ T25
   obtain ⟨⟨t16, t17, t18, t19⟩, e20, H⟩ := bindO H
   refine a_call (v := .agg [.d (.v (.int .i64 t16)), .d (.v (.int .i64 t17)), .own 206 t18.length, .own 207 t19.length]) (nk := [(206, .row 61 (t18.map c60)), (207, .row 96 (t19.map c91))]) (L := []) ?_ rfl (laws_toDrawing.ok e20) (fun κ => cond (Nat.beq κ 206) 100 (cond (Nat.beq κ 207) 101 (κ))) (qg qn) trivial ⟨rfl, rfl, trivial⟩ ⟨rfl, rfl, trivial⟩ rfl
   refine a_alloc (cs := [_, _, _, _]) 208 ?_ T32
   refine a_stB (cs' := [_, _, _, _]) ?_ T32
   refine RA.nil nofun ?_
   refine AG.seq ?_
   refine AG.region HM ?_
   refine a_move (v := vR _ _) ?_
   obtain ⟨t21, e22, H⟩ := bindO H
   refine a_call (v := .c (.own 209 t21.length)) (nk := [(209, .row 2 (t21.map c2))]) (L := []) ?_ rfl (laws_toInt64S.ok e22) (fun κ => cond (Nat.beq κ 209) 100 (κ)) (qd qn) trivial ⟨rfl, trivial⟩ ⟨rfl, trivial⟩ rfl
   refine a_move (v := .c (.own _ _)) ?_
   refine RA.nil nofun ?_
   refine AG.seq ?_
   refine AG.region HM ?_
   refine a_ldB (v := .agg [_, _, _, _]) ?_ T32
   refine a_move (v := .c (.own _ _)) ?_
   obtain ⟨⟨t23, t24, t25⟩, e26, H⟩ := bindO H
   refine a_call (v := .tup [.c (.own 210 t23.length), .c (.d (.v (.int .i64 t24))), .c (.d (.v (.int .i64 t25)))]) (nk := [(210, .row 2 (t23.map c2))]) (L := [(206, _), (207, _), (209, _)]) ?_ rfl (impl_BestWays.ok e26) (fun κ => cond (Nat.beq κ 210) 100 (κ)) (qm (eD (eD (eC rO (eC rO eN)))) (qc rO qn)) ⟨rfl, rfl, rfl, trivial⟩ ⟨rfl, trivial⟩ ⟨rfl, trivial⟩ rfl
   refine a_move (v := .tup [_, _, _]) ?_
   refine a_ext (v := .c (.own _ _)) ?_
   refine a_ext (v := vI _) ?_
   refine a_ext (v := vI _) ?_
   refine a_move (v := .c (.own _ _)) ?_
   refine a_move (v := vI _) ?_
   refine a_move (v := vI _) ?_
   refine RA.nil nofun ?_
   refine AG.seq ?_
   refine AG.seq ?_
   refine AG.joinR (fun s => ∃ q, q ≤ k ∧ ∃ (x1 : List Int) (y212_0 : Int) (y212_1 : Int) (y212_2 : List S60) (y212_3 : List S91) (x6 : List Int) (x7 : Int) (x8 : Int) (y214_0 : Int) (y214_1 : Int) (y214_2 : List S60) (y214_3 : List S91) (x10 : List Int) (x11 : List Int) (x12 : Int) (x13 : Int) (x61 : Bool), laws_FnExactBestWays.j0 q x1 y212_0 y212_1 y212_2 y212_3 x6 x7 x8 y214_0 y214_1 y214_2 y214_3 x10 x11 x12 x13 x61 = some r ∧ s = St.of [(1, vR 2 (x1.map c2)), (2, .c (.ptr 212 0)), (6, .c (.own 213 x6.length)), (7, vI x7), (8, vI x8), (9, .c (.ptr 214 0)), (10, .c (.own 217 x10.length)), (11, .c (.own 218 x11.length)), (12, vI x12), (13, vI x13), (61, vB x61)] [(212, .box 25 [.d (.v (.int .i64 y212_0)), .d (.v (.int .i64 y212_1)), .d (.row 95 (y212_2.map c60)), .d (.row 92 (y212_3.map c91))]), (213, .row 2 (x6.map c2)), (214, .box 32 [.d (.v (.int .i64 y214_0)), .d (.v (.int .i64 y214_1)), .own 215 y214_2.length, .own 216 y214_3.length]), (215, .row 61 (y214_2.map c60)), (216, .row 96 (y214_3.map c91)), (217, .row 2 (x10.map c2)), (218, .row 2 (x11.map c2))]) ?_ ?_
   ·skip
    refine AG.region HM ?_
    refine a_move (v := .c (.own _ _)) ?_
    refine a_move (v := .c (.own _ _)) ?_
    obtain ⟨t27, e28, H⟩ := bindO H
    refine a_call (v := vB t27) (nk := []) (L := [(210, _), (205, _)]) ?_ rfl (laws_eqInt64S.ok e28) id (qc rO (qc rO qn)) ⟨rfl, rfl, trivial⟩ trivial trivial rfl
    refine a_un (u := .bool (!t27)) ?_
    refine a_move (v := vB _) ?_
    by_cases hc29 : t27 = true
    ·rw [if_pos hc29] at H
     refine a_move (v := vI _) ?_ (hg := Gs.yes rfl rfl rfl (congrArg Bool.not hc29))
     refine a_move (v := vI _) ?_ (hg := Gs.yes rfl rfl rfl (congrArg Bool.not hc29))
     refine a_int (u := .bool ((t24 != t13))) ?_ (hg := Gs.yes rfl rfl rfl (congrArg Bool.not hc29))
     refine a_pick (b := false) (v := vB _) ?_ (congrArg Bool.not hc29)
     refine a_move (v := vB _) ?_
     by_cases hc30 : t24 = t13
     ·rw [if_pos hc30] at H
      refine a_move (v := vI _) ?_ (hg := Gs.yes rfl rfl rfl (bne_eq_false_iff_eq.2 hc30))
      refine a_move (v := vI _) ?_ (hg := Gs.yes rfl rfl rfl (bne_eq_false_iff_eq.2 hc30))
      refine a_int (u := .bool ((t25 != t14))) ?_ (hg := Gs.yes rfl rfl rfl (bne_eq_false_iff_eq.2 hc30))
      refine a_pick (b := false) (v := vB _) ?_ (bne_eq_false_iff_eq.2 hc30)
      refine RA.nil nofun ?_
      exact CanR.mk (fun κ => cond (Nat.beq κ 212) 200 (cond (Nat.beq κ 213) 205 (cond (Nat.beq κ 214) 208 (cond (Nat.beq κ 215) 206 (cond (Nat.beq κ 216) 207 (cond (Nat.beq κ 217) 209 (cond (Nat.beq κ 218) 210 (κ)))))))) ⟨_, (by omega), _, _, _, _, _, _, _, _, _, _, _, _, _, _, _, _, _, H, rfl⟩ ⟨rfl, rfl, rfl, rfl, rfl, rfl, rfl, rfl, rfl, rfl, rfl, trivial⟩ ⟨rfl, rfl, rfl, rfl, rfl, rfl, rfl, trivial⟩ rfl
     ·rw [if_neg hc30] at H
      refine RA.skip rfl rfl rfl rfl rfl (bne_iff_ne.2 hc30) (by decide) ?_
      refine RA.skip rfl rfl rfl rfl rfl (bne_iff_ne.2 hc30) (by decide) ?_
      refine RA.skip rfl rfl rfl rfl rfl (bne_iff_ne.2 hc30) (by decide) ?_
      refine a_pick (b := true) (v := vB _) ?_ (bne_iff_ne.2 hc30)
      refine RA.nil nofun ?_
      exact CanR.mk (fun κ => cond (Nat.beq κ 212) 200 (cond (Nat.beq κ 213) 205 (cond (Nat.beq κ 214) 208 (cond (Nat.beq κ 215) 206 (cond (Nat.beq κ 216) 207 (cond (Nat.beq κ 217) 209 (cond (Nat.beq κ 218) 210 (κ)))))))) ⟨_, (by omega), _, _, _, _, _, _, _, _, _, _, _, _, _, _, _, _, _, H, rfl⟩ ⟨rfl, rfl, rfl, rfl, rfl, rfl, rfl, rfl, rfl, rfl, rfl, trivial⟩ ⟨rfl, rfl, rfl, rfl, rfl, rfl, rfl, trivial⟩ rfl
    ·rw [if_neg hc29] at H
     refine RA.skip rfl rfl rfl rfl rfl (congrArg Bool.not (Bool.eq_false_iff.2 hc29)) (by decide) ?_
     refine RA.skip rfl rfl rfl rfl rfl (congrArg Bool.not (Bool.eq_false_iff.2 hc29)) (by decide) ?_
     refine RA.skip rfl rfl rfl rfl rfl (congrArg Bool.not (Bool.eq_false_iff.2 hc29)) (by decide) ?_
     refine a_pick (b := true) (v := vB _) ?_ (congrArg Bool.not (Bool.eq_false_iff.2 hc29))
     refine a_move (v := vB _) ?_
     refine RA.skip rfl rfl rfl rfl rfl rfl (by decide) ?_
     refine RA.skip rfl rfl rfl rfl rfl rfl (by decide) ?_
     refine RA.skip rfl rfl rfl rfl rfl rfl (by decide) ?_
     refine a_pick (b := true) (v := vB _) ?_ rfl
     refine RA.nil nofun ?_
     exact CanR.mk (fun κ => cond (Nat.beq κ 212) 200 (cond (Nat.beq κ 213) 205 (cond (Nat.beq κ 214) 208 (cond (Nat.beq κ 215) 206 (cond (Nat.beq κ 216) 207 (cond (Nat.beq κ 217) 209 (cond (Nat.beq κ 218) 210 (κ)))))))) ⟨_, (by omega), _, _, _, _, _, _, _, _, _, _, _, _, _, _, _, _, _, H, rfl⟩ ⟨rfl, rfl, rfl, rfl, rfl, rfl, rfl, rfl, rfl, rfl, rfl, trivial⟩ ⟨rfl, rfl, rfl, rfl, rfl, rfl, rfl, trivial⟩ rfl
   ·clear H
    rintro _ ⟨k, hj0, x1, y212_0, y212_1, y212_2, y212_3, x6, x7, x8, y214_0, y214_1, y214_2, y214_3, x10, x11, x12, x13, x61, H, rfl⟩
    cases k with
    | zero => cases H
    | succ k =>
     rw [laws_FnExactBestWays.j0] at H
     by_cases hc31 : x61 = true
     ·rw [if_pos hc31] at H
      refine AG.yes rfl hc31 ?_
      refine AG.seq ?_
      refine AG.region HM ?_
      refine a_move (v := vB _) ?_
      refine RA.nil nofun ?_
      refine AG.ret ?_
      obtain rfl := Option.some.inj H
      exact RetP.mk id ⟨rfl, trivial⟩ trivial rfl
     ·rw [if_neg hc31] at H
      refine AG.no rfl (Bool.eq_false_iff.2 hc31) ?_
      refine AG.skip ?_
      refine AG.seq ?_
      refine AG.seq ?_
      refine AG.region HM ?_
      refine a_ldB (v := .agg [_, _, _, _]) ?_ T32
      refine a_ldB (v := .agg [_, _, _, _]) ?_ T25
      obtain ⟨⟨t32, t33, t34, t35⟩, e36, H⟩ := bindO H
      refine a_call (v := .agg [.d (.v (.int .i64 t32)), .d (.v (.int .i64 t33)), .own 219 t34.length, .own 220 t35.length]) (nk := [(219, .row 61 (t34.map c60)), (220, .row 96 (t35.map c91))]) (L := []) ?_ rfl (laws_toDrawing.ok e36) (fun κ => cond (Nat.beq κ 219) 100 (cond (Nat.beq κ 220) 101 (κ))) (qg qn) trivial ⟨rfl, rfl, trivial⟩ ⟨rfl, rfl, trivial⟩ rfl
      obtain ⟨t37, e38, H⟩ := bindO H
      refine a_call (v := vB t37) (nk := []) (L := [(215, _), (216, _), (219, _), (220, _)]) ?_ rfl (laws_eqDrawing.ok e38) id (qm (eD (eD (eC rO (eC rO eN)))) (qm (eD (eD (eC rO (eC rO eN)))) qn)) ⟨rfl, rfl, rfl, rfl, trivial⟩ trivial trivial rfl
      refine a_un (u := .bool (!t37)) ?_
      refine RA.nil (fun _ => by kernel_rfl) ?_
      by_cases hc39 : t37 = true
      ·rw [if_pos hc39] at H
       refine AG.no rfl (congrArg Bool.not hc39) ?_
       refine AG.skip ?_
       refine AG.seq ?_
       refine AG.seq ?_
       refine AG.freeze 220 ?_
       refine AG.region HM ?_
       refine a_move (v := .c (.own _ _)) ?_
       refine a_move (v := vR _ _) ?_
       obtain ⟨t40, e41, H⟩ := bindO H
       refine a_call (v := .c (.own 222 t40.length)) (nk := [(222, .row 2 (t40.map c2))]) (L := []) ?_ rfl (laws_toInt64S.ok e41) (fun κ => cond (Nat.beq κ 222) 100 (κ)) (qd qn) trivial ⟨rfl, trivial⟩ ⟨rfl, trivial⟩ rfl
       obtain ⟨t42, e43, H⟩ := bindO H
       refine a_call (v := vB t42) (nk := []) (L := [(217, _), (222, _)]) ?_ rfl (laws_eqInt64S.ok e43) id (qc rO (qc rO qn)) ⟨rfl, rfl, trivial⟩ trivial trivial rfl
       refine a_un (u := .bool (!t42)) ?_
       refine RA.nil nofun ?_
       by_cases hc44 : t42 = true
       ·rw [if_pos hc44] at H
        refine AG.no rfl (congrArg Bool.not hc44) ?_
        refine AG.skip ?_
        refine AG.seq ?_
        refine AG.region HM ?_
        refine a_move (v := vI _) ?_
        refine RA.nil nofun ?_
        refine AG.seq ?_
        refine AG.region HM ?_
        refine a_ldB (v := .agg [_, _, _, _]) ?_ T32
        refine a_move (v := vI _) ?_
        obtain ⟨⟨t45, t46, t47⟩, e48, H⟩ := bindO H
        refine a_callM (v := vI t45) (nk := []) (L := []) (Mk := [(215, _), (216, _)]) (ck := [(215, .row 61 (t46.map c60)), (216, .row 96 (t47.map c91))]) ?_ rfl (laws_markDrawing.ok e48) (fun κ => cond (Nat.beq κ 0) 215 (cond (Nat.beq κ 1) 216 (κ))) (fun κ => cond (Nat.beq κ 215) 0 (cond (Nat.beq κ 216) 1 (κ))) (mcA (kD (kD (kO (kO k0)))) (mcD m0)) trivial ⟨rfl, rfl, trivial⟩ trivial ⟨rfl, rfl, trivial⟩ trivial ⟨rfl, rfl, trivial⟩ rfl rfl rfl
        refine a_move (v := vI _) ?_
        refine RA.nil nofun ?_
        refine AG.relen 215 t46.length ?_
        refine AG.relen 216 t47.length ?_
        refine AG.seq ?_
        refine AG.region HM ?_
        refine a_move (v := .c (.own _ _)) ?_
        refine a_move (v := vI _) ?_
        obtain ⟨⟨t49, t50⟩, e51, H⟩ := bindO H
        refine a_callM (v := vI t49) (nk := []) (L := []) (Mk := [(217, _)]) (ck := [(217, .row 2 (t50.map c2))]) ?_ rfl (laws_markInt64S.ok e51) (fun κ => cond (Nat.beq κ 0) 217 (κ)) (fun κ => cond (Nat.beq κ 217) 0 (κ)) (mcO (mcD m0)) trivial ⟨rfl, trivial⟩ trivial ⟨rfl, trivial⟩ trivial ⟨rfl, trivial⟩ rfl rfl rfl
        refine a_move (v := vI _) ?_
        refine RA.nil nofun ?_
        refine AG.relen 217 t50.length ?_
        refine AG.seq ?_
        refine AG.seq ?_
        refine AG.joinR (fun s => ∃ q, q ≤ k ∧ ∃ (x1 : List Int) (y227_0 : Int) (y227_1 : Int) (y227_2 : List S60) (y227_3 : List S91) (x6 : List Int) (x7 : Int) (x8 : Int) (x11 : List Int) (x95 : Bool), laws_FnExactBestWays.j1 q x1 y227_0 y227_1 y227_2 y227_3 x6 x7 x8 x11 x95 = some r ∧ s = St.of [(1, vR 2 (x1.map c2)), (2, .c (.ptr 227 0)), (6, .c (.own 228 x6.length)), (7, vI x7), (8, vI x8), (11, .c (.own 229 x11.length)), (95, vB x95)] [(227, .box 25 [.d (.v (.int .i64 y227_0)), .d (.v (.int .i64 y227_1)), .d (.row 95 (y227_2.map c60)), .d (.row 92 (y227_3.map c91))]), (228, .row 2 (x6.map c2)), (229, .row 2 (x11.map c2))]) ?_ ?_
        ·skip
         refine AG.region HM ?_
         refine a_move (v := vI _) ?_
         refine a_int (u := .bool (decide (t49 < 0))) ?_
         refine a_move (v := vB _) ?_
         by_cases hc52 : t49 < 0
         ·rw [if_pos hc52] at H
          refine RA.skip rfl rfl rfl rfl rfl (decide_eq_true hc52) (by decide) ?_
          refine RA.skip rfl rfl rfl rfl rfl (decide_eq_true hc52) (by decide) ?_
          refine RA.skip rfl rfl rfl rfl rfl (decide_eq_true hc52) (by decide) ?_
          refine RA.skip rfl rfl rfl rfl rfl (decide_eq_true hc52) (by decide) ?_
          refine a_pick (b := true) (v := vB _) ?_ (decide_eq_true hc52)
          refine a_move (v := vB _) ?_
          refine RA.skip rfl rfl rfl rfl rfl rfl (by decide) ?_
          refine RA.skip rfl rfl rfl rfl rfl rfl (by decide) ?_
          refine RA.skip rfl rfl rfl rfl rfl rfl (by decide) ?_
          refine a_pick (b := true) (v := vB _) ?_ rfl
          refine a_move (v := vB _) ?_
          refine RA.skip rfl rfl rfl rfl rfl rfl (by decide) ?_
          refine RA.skip rfl rfl rfl rfl rfl rfl (by decide) ?_
          refine RA.skip rfl rfl rfl rfl rfl rfl (by decide) ?_
          refine a_pick (b := true) (v := vB _) ?_ rfl
          refine RA.nil nofun ?_
          exact CanR.mk (fun κ => cond (Nat.beq κ 227) 212 (cond (Nat.beq κ 228) 213 (cond (Nat.beq κ 229) 218 (κ)))) ⟨_, (by omega), _, _, _, _, _, _, _, _, _, _, H, rfl⟩ ⟨rfl, rfl, rfl, rfl, rfl, rfl, rfl, trivial⟩ ⟨rfl, rfl, rfl, trivial⟩ rfl
         ·rw [if_neg hc52] at H
          refine a_move (v := .c (.own _ _)) ?_ (hg := Gs.yes rfl rfl rfl (decide_eq_false hc52))
          refine a_move (v := .c (.own _ _)) ?_ (hg := Gs.yes rfl rfl rfl (decide_eq_false hc52))
          obtain ⟨t53, e54, H⟩ := bindO H
          refine a_call (v := vB t53) (nk := []) (L := [(218, _), (213, _)]) ?_ rfl (laws_eqInt64S.ok e54) id (qc rO (qc rO qn)) ⟨rfl, rfl, trivial⟩ trivial trivial rfl (hg := Gs.yes rfl rfl rfl (decide_eq_false hc52))
          refine a_un (u := .bool (!t53)) ?_ (hg := Gs.yes rfl rfl rfl (decide_eq_false hc52))
          refine a_pick (b := false) (v := vB _) ?_ (decide_eq_false hc52)
          refine a_move (v := vB _) ?_
          by_cases hc55 : t53 = true
          ·rw [if_pos hc55] at H
           refine a_move (v := vI _) ?_ (hg := Gs.yes rfl rfl rfl (congrArg Bool.not hc55))
           refine a_move (v := vI _) ?_ (hg := Gs.yes rfl rfl rfl (congrArg Bool.not hc55))
           refine a_int (u := .bool ((x12 != x7))) ?_ (hg := Gs.yes rfl rfl rfl (congrArg Bool.not hc55))
           refine a_pick (b := false) (v := vB _) ?_ (congrArg Bool.not hc55)
           refine a_move (v := vB _) ?_
           by_cases hc56 : x12 = x7
           ·rw [if_pos hc56] at H
            refine a_move (v := vI _) ?_ (hg := Gs.yes rfl rfl rfl (bne_eq_false_iff_eq.2 hc56))
            refine a_move (v := vI _) ?_ (hg := Gs.yes rfl rfl rfl (bne_eq_false_iff_eq.2 hc56))
            refine a_int (u := .bool ((x13 != x8))) ?_ (hg := Gs.yes rfl rfl rfl (bne_eq_false_iff_eq.2 hc56))
            refine a_pick (b := false) (v := vB _) ?_ (bne_eq_false_iff_eq.2 hc56)
            refine RA.nil nofun ?_
            exact CanR.mk (fun κ => cond (Nat.beq κ 227) 212 (cond (Nat.beq κ 228) 213 (cond (Nat.beq κ 229) 218 (κ)))) ⟨_, (by omega), _, _, _, _, _, _, _, _, _, _, H, rfl⟩ ⟨rfl, rfl, rfl, rfl, rfl, rfl, rfl, trivial⟩ ⟨rfl, rfl, rfl, trivial⟩ rfl
           ·rw [if_neg hc56] at H
            refine RA.skip rfl rfl rfl rfl rfl (bne_iff_ne.2 hc56) (by decide) ?_
            refine RA.skip rfl rfl rfl rfl rfl (bne_iff_ne.2 hc56) (by decide) ?_
            refine RA.skip rfl rfl rfl rfl rfl (bne_iff_ne.2 hc56) (by decide) ?_
            refine a_pick (b := true) (v := vB _) ?_ (bne_iff_ne.2 hc56)
            refine RA.nil nofun ?_
            exact CanR.mk (fun κ => cond (Nat.beq κ 227) 212 (cond (Nat.beq κ 228) 213 (cond (Nat.beq κ 229) 218 (κ)))) ⟨_, (by omega), _, _, _, _, _, _, _, _, _, _, H, rfl⟩ ⟨rfl, rfl, rfl, rfl, rfl, rfl, rfl, trivial⟩ ⟨rfl, rfl, rfl, trivial⟩ rfl
          ·rw [if_neg hc55] at H
           refine RA.skip rfl rfl rfl rfl rfl (congrArg Bool.not (Bool.eq_false_iff.2 hc55)) (by decide) ?_
           refine RA.skip rfl rfl rfl rfl rfl (congrArg Bool.not (Bool.eq_false_iff.2 hc55)) (by decide) ?_
           refine RA.skip rfl rfl rfl rfl rfl (congrArg Bool.not (Bool.eq_false_iff.2 hc55)) (by decide) ?_
           refine a_pick (b := true) (v := vB _) ?_ (congrArg Bool.not (Bool.eq_false_iff.2 hc55))
           refine a_move (v := vB _) ?_
           refine RA.skip rfl rfl rfl rfl rfl rfl (by decide) ?_
           refine RA.skip rfl rfl rfl rfl rfl rfl (by decide) ?_
           refine RA.skip rfl rfl rfl rfl rfl rfl (by decide) ?_
           refine a_pick (b := true) (v := vB _) ?_ rfl
           refine RA.nil nofun ?_
           exact CanR.mk (fun κ => cond (Nat.beq κ 227) 212 (cond (Nat.beq κ 228) 213 (cond (Nat.beq κ 229) 218 (κ)))) ⟨_, (by omega), _, _, _, _, _, _, _, _, _, _, H, rfl⟩ ⟨rfl, rfl, rfl, rfl, rfl, rfl, rfl, trivial⟩ ⟨rfl, rfl, rfl, trivial⟩ rfl
        ·clear H
         rintro _ ⟨k, hj1, x1, y227_0, y227_1, y227_2, y227_3, x6, x7, x8, x11, x95, H, rfl⟩
         cases k with
         | zero => cases H
         | succ k =>
          rw [laws_FnExactBestWays.j1] at H
          by_cases hc57 : x95 = true
          ·rw [if_pos hc57] at H
           refine AG.yes rfl hc57 ?_
           refine AG.seq ?_
           refine AG.region HM ?_
           refine a_move (v := vB _) ?_
           refine RA.nil nofun ?_
           refine AG.ret ?_
           obtain rfl := Option.some.inj H
           exact RetP.mk id ⟨rfl, trivial⟩ trivial rfl
          ·rw [if_neg hc57] at H
           refine AG.no rfl (Bool.eq_false_iff.2 hc57) ?_
           refine AG.skip ?_
           refine AG.seq ?_
           refine AG.region HM ?_
           refine a_move (v := vI _) ?_
           refine RA.nil nofun ?_
           refine AG.seq ?_
           refine AG.region HM ?_
           refine a_move (v := .c (.own _ _)) ?_
           refine a_move (v := vI _) ?_
           obtain ⟨⟨t58, t59⟩, e60, H⟩ := bindO H
           refine a_callM (v := vI t58) (nk := []) (L := []) (Mk := [(229, _)]) (ck := [(229, .row 2 (t59.map c2))]) ?_ rfl (laws_markInt64S.ok e60) (fun κ => cond (Nat.beq κ 0) 229 (κ)) (fun κ => cond (Nat.beq κ 229) 0 (κ)) (mcO (mcD m0)) trivial ⟨rfl, trivial⟩ trivial ⟨rfl, trivial⟩ trivial ⟨rfl, trivial⟩ rfl rfl rfl
           refine a_move (v := vI _) ?_
           refine RA.nil nofun ?_
           refine AG.relen 229 t59.length ?_
           refine AG.seq ?_
           refine AG.region HM ?_
           refine a_move (v := vI _) ?_
           refine RA.nil nofun ?_
           refine AG.seq ?_
           refine AG.region HM ?_
           refine a_move (v := .c (.own _ _)) ?_
           refine a_move (v := vI _) ?_
           obtain ⟨t61, e62, H⟩ := bindO H
           refine a_call (v := vI t61) (nk := []) (L := [(229, _)]) ?_ rfl (laws_heldInt64S.ok e62) id (qc rO (qd qn)) ⟨rfl, trivial⟩ trivial trivial rfl
           refine a_move (v := vI _) ?_
           refine RA.nil nofun ?_
           refine AG.seq ?_
           refine AG.seq ?_
           refine AG.region HM ?_
           refine a_move (v := vI _) ?_
           refine a_int (u := .bool (decide (t61 < 0))) ?_
           refine RA.nil nofun ?_
           by_cases hc63 : t61 < 0
           ·rw [if_pos hc63] at H
            refine AG.yes rfl (decide_eq_true hc63) ?_
            refine AG.seq ?_
            refine AG.region HM ?_
            refine a_move (v := vB _) ?_
            refine RA.nil nofun ?_
            refine AG.ret ?_
            obtain rfl := Option.some.inj H
            exact RetP.mk id ⟨rfl, trivial⟩ trivial rfl
           ·rw [if_neg hc63] at H
            refine AG.no rfl (decide_eq_false hc63) ?_
            refine AG.skip ?_
            refine AG.seq ?_
            refine AG.seq ?_
            refine AG.region HM ?_
            refine a_move (v := vI _) ?_
            refine a_move (v := vI _) ?_
            refine a_int (u := .bool ((t61 != t58))) ?_
            refine RA.nil nofun ?_
            by_cases hc64 : t61 = t58
            ·rw [if_pos hc64] at H
             refine AG.no rfl (bne_eq_false_iff_eq.2 hc64) ?_
             refine AG.skip ?_
             refine AG.seq ?_
             refine AG.region HM ?_
             refine a_ldB (v := .agg [_, _, _, _]) ?_ T25
             obtain ⟨⟨t65, t66, t67, t68⟩, e69, H⟩ := bindO H
             refine a_call (v := .agg [.d (.v (.int .i64 t65)), .d (.v (.int .i64 t66)), .own 232 t67.length, .own 233 t68.length]) (nk := [(232, .row 61 (t67.map c60)), (233, .row 96 (t68.map c91))]) (L := []) ?_ rfl (laws_toDrawing.ok e69) (fun κ => cond (Nat.beq κ 232) 100 (cond (Nat.beq κ 233) 101 (κ))) (qg qn) trivial ⟨rfl, rfl, trivial⟩ ⟨rfl, rfl, trivial⟩ rfl
             refine a_move (v := vR _ _) ?_
             obtain ⟨t70, e71, H⟩ := bindO H
             refine a_call (v := .c (.own 234 t70.length)) (nk := [(234, .row 2 (t70.map c2))]) (L := []) ?_ rfl (laws_toInt64S.ok e71) (fun κ => cond (Nat.beq κ 234) 100 (κ)) (qd qn) trivial ⟨rfl, trivial⟩ ⟨rfl, trivial⟩ rfl
             obtain ⟨⟨t72, t73, t74⟩, e75, H⟩ := bindO H
             refine a_call (v := .tup [.c (.own 235 t72.length), .c (.d (.v (.int .i64 t73))), .c (.d (.v (.int .i64 t74)))]) (nk := [(235, .row 2 (t72.map c2))]) (L := [(232, _), (233, _), (234, _)]) ?_ rfl (impl_BestWays.ok e75) (fun κ => cond (Nat.beq κ 235) 100 (κ)) (qm (eD (eD (eC rO (eC rO eN)))) (qc rO qn)) ⟨rfl, rfl, rfl, trivial⟩ ⟨rfl, trivial⟩ ⟨rfl, trivial⟩ rfl
             refine a_move (v := .tup [_, _, _]) ?_
             refine a_ext (v := .c (.own _ _)) ?_
             refine a_ext (v := vI _) ?_
             refine a_ext (v := vI _) ?_
             refine a_move (v := .c (.own _ _)) ?_
             refine a_move (v := vI _) ?_
             refine a_move (v := vI _) ?_
             refine RA.nil nofun ?_
             refine AG.seq ?_
             refine AG.seq ?_
             refine AG.freeze 233 ?_
             refine AG.joinR (fun s => ∃ q, q ≤ k ∧ ∃ (x11 : List Int) (x15 : Int) (x129 : Bool), laws_FnExactBestWays.j2 q x11 x15 x129 = some r ∧ s = St.of [(11, .c (.own 237 x11.length)), (15, vI x15), (129, vB x129)] [(237, .row 2 (x11.map c2))]) ?_ ?_
             ·skip
              refine AG.region HM ?_
              refine a_move (v := .c (.own _ _)) ?_
              refine a_move (v := .c (.own _ _)) ?_
              obtain ⟨t76, e77, H⟩ := bindO H
              refine a_call (v := vB t76) (nk := []) (L := [(235, _), (228, _)]) ?_ rfl (laws_eqInt64S.ok e77) id (qc rO (qc rO qn)) ⟨rfl, rfl, trivial⟩ trivial trivial rfl
              refine a_un (u := .bool (!t76)) ?_
              refine a_move (v := vB _) ?_
              by_cases hc78 : t76 = true
              ·rw [if_pos hc78] at H
               refine a_move (v := vI _) ?_ (hg := Gs.yes rfl rfl rfl (congrArg Bool.not hc78))
               refine a_move (v := vI _) ?_ (hg := Gs.yes rfl rfl rfl (congrArg Bool.not hc78))
               refine a_int (u := .bool ((t73 != x7))) ?_ (hg := Gs.yes rfl rfl rfl (congrArg Bool.not hc78))
               refine a_pick (b := false) (v := vB _) ?_ (congrArg Bool.not hc78)
               refine a_move (v := vB _) ?_
               by_cases hc79 : t73 = x7
               ·rw [if_pos hc79] at H
                refine a_move (v := vI _) ?_ (hg := Gs.yes rfl rfl rfl (bne_eq_false_iff_eq.2 hc79))
                refine a_move (v := vI _) ?_ (hg := Gs.yes rfl rfl rfl (bne_eq_false_iff_eq.2 hc79))
                refine a_int (u := .bool ((t74 != x8))) ?_ (hg := Gs.yes rfl rfl rfl (bne_eq_false_iff_eq.2 hc79))
                refine a_pick (b := false) (v := vB _) ?_ (bne_eq_false_iff_eq.2 hc79)
                refine RA.nil nofun ?_
                exact CanR.mk (fun κ => cond (Nat.beq κ 237) 229 (κ)) ⟨_, (by omega), _, _, _, H, rfl⟩ ⟨rfl, rfl, rfl, trivial⟩ ⟨rfl, trivial⟩ rfl
               ·rw [if_neg hc79] at H
                refine RA.skip rfl rfl rfl rfl rfl (bne_iff_ne.2 hc79) (by decide) ?_
                refine RA.skip rfl rfl rfl rfl rfl (bne_iff_ne.2 hc79) (by decide) ?_
                refine RA.skip rfl rfl rfl rfl rfl (bne_iff_ne.2 hc79) (by decide) ?_
                refine a_pick (b := true) (v := vB _) ?_ (bne_iff_ne.2 hc79)
                refine RA.nil nofun ?_
                exact CanR.mk (fun κ => cond (Nat.beq κ 237) 229 (κ)) ⟨_, (by omega), _, _, _, H, rfl⟩ ⟨rfl, rfl, rfl, trivial⟩ ⟨rfl, trivial⟩ rfl
              ·rw [if_neg hc78] at H
               refine RA.skip rfl rfl rfl rfl rfl (congrArg Bool.not (Bool.eq_false_iff.2 hc78)) (by decide) ?_
               refine RA.skip rfl rfl rfl rfl rfl (congrArg Bool.not (Bool.eq_false_iff.2 hc78)) (by decide) ?_
               refine RA.skip rfl rfl rfl rfl rfl (congrArg Bool.not (Bool.eq_false_iff.2 hc78)) (by decide) ?_
               refine a_pick (b := true) (v := vB _) ?_ (congrArg Bool.not (Bool.eq_false_iff.2 hc78))
               refine a_move (v := vB _) ?_
               refine RA.skip rfl rfl rfl rfl rfl rfl (by decide) ?_
               refine RA.skip rfl rfl rfl rfl rfl rfl (by decide) ?_
               refine RA.skip rfl rfl rfl rfl rfl rfl (by decide) ?_
               refine a_pick (b := true) (v := vB _) ?_ rfl
               refine RA.nil nofun ?_
               exact CanR.mk (fun κ => cond (Nat.beq κ 237) 229 (κ)) ⟨_, (by omega), _, _, _, H, rfl⟩ ⟨rfl, rfl, rfl, trivial⟩ ⟨rfl, trivial⟩ rfl
             ·clear H
              rintro _ ⟨k, hj2, x11, x15, x129, H, rfl⟩
              cases k with
              | zero => cases H
              | succ k =>
               rw [laws_FnExactBestWays.j2] at H
               by_cases hc80 : x129 = true
               ·rw [if_pos hc80] at H
                refine AG.yes rfl hc80 ?_
                refine AG.seq ?_
                refine AG.region HM ?_
                refine a_move (v := vB _) ?_
                refine RA.nil nofun ?_
                refine AG.ret ?_
                obtain rfl := Option.some.inj H
                exact RetP.mk id ⟨rfl, trivial⟩ trivial rfl
               ·rw [if_neg hc80] at H
                refine AG.no rfl (Bool.eq_false_iff.2 hc80) ?_
                refine AG.skip ?_
                refine AG.seq ?_
                refine AG.region HM ?_
                refine a_move (v := vI _) ?_
                refine RA.nil nofun ?_
                refine AG.seq ?_
                refine AG.region HM ?_
                refine a_move (v := .c (.own _ _)) ?_
                refine a_move (v := vI _) ?_
                obtain ⟨t81, e82, H⟩ := bindO H
                refine a_call (v := vI t81) (nk := []) (L := [(237, _)]) ?_ rfl (laws_heldInt64S.ok e82) id (qc rO (qd qn)) ⟨rfl, trivial⟩ trivial trivial rfl
                refine a_move (v := vI _) ?_
                refine RA.nil nofun ?_
                refine AG.seq ?_
                refine AG.seq ?_
                refine AG.region HM ?_
                refine a_move (v := vI _) ?_
                refine a_int (u := .bool (decide (t81 < 0))) ?_
                refine RA.nil nofun ?_
                by_cases hc83 : t81 < 0
                ·rw [if_pos hc83] at H
                 refine AG.yes rfl (decide_eq_true hc83) ?_
                 refine AG.seq ?_
                 refine AG.region HM ?_
                 refine a_move (v := vB _) ?_
                 refine RA.nil nofun ?_
                 refine AG.ret ?_
                 obtain rfl := Option.some.inj H
                 exact RetP.mk id ⟨rfl, trivial⟩ trivial rfl
                ·rw [if_neg hc83] at H
                 refine AG.no rfl (decide_eq_false hc83) ?_
                 refine AG.skip ?_
                 refine AG.seq ?_
                 refine AG.seq ?_
                 refine AG.region HM ?_
                 refine a_move (v := vI _) ?_
                 refine a_move (v := vI _) ?_
                 refine a_int (u := .bool ((t81 != x15))) ?_
                 refine RA.nil nofun ?_
                 by_cases hc84 : t81 = x15
                 ·rw [if_pos hc84] at H
                  refine AG.no rfl (bne_eq_false_iff_eq.2 hc84) ?_
                  refine AG.skip ?_
                  refine AG.seq ?_
                  refine AG.region HM ?_
                  refine a_move (v := vB _) ?_
                  refine RA.nil nofun ?_
                  refine AG.ret ?_
                  obtain rfl := Option.some.inj H
                  exact RetP.mk id ⟨rfl, trivial⟩ trivial rfl
                 ·rw [if_neg hc84] at H
                  refine AG.yes rfl (bne_iff_ne.2 hc84) ?_
                  refine AG.seq ?_
                  refine AG.region HM ?_
                  refine a_move (v := vB _) ?_
                  refine RA.nil nofun ?_
                  refine AG.ret ?_
                  obtain rfl := Option.some.inj H
                  exact RetP.mk id ⟨rfl, trivial⟩ trivial rfl
            ·rw [if_neg hc64] at H
             refine AG.yes rfl (bne_iff_ne.2 hc64) ?_
             refine AG.seq ?_
             refine AG.region HM ?_
             refine a_move (v := vB _) ?_
             refine RA.nil nofun ?_
             refine AG.ret ?_
             obtain rfl := Option.some.inj H
             exact RetP.mk id ⟨rfl, trivial⟩ trivial rfl
       ·rw [if_neg hc44] at H
        refine AG.yes rfl (congrArg Bool.not (Bool.eq_false_iff.2 hc44)) ?_
        refine AG.seq ?_
        refine AG.region HM ?_
        refine a_move (v := vB _) ?_
        refine RA.nil nofun ?_
        refine AG.ret ?_
        obtain rfl := Option.some.inj H
        exact RetP.mk id ⟨rfl, trivial⟩ trivial rfl
      ·rw [if_neg hc39] at H
       refine AG.yes rfl (congrArg Bool.not (Bool.eq_false_iff.2 hc39)) ?_
       refine AG.seq ?_
       refine AG.freeze 220 ?_
       refine AG.region HM ?_
       refine a_move (v := vB _) ?_
       refine RA.nil nofun ?_
       refine AG.ret ?_
       obtain rfl := Option.some.inj H
       exact RetP.mk id ⟨rfl, trivial⟩ trivial rfl
def B60 (x : S60) : Prop := (Lit.int .i64 x.f0).wf = true ∧ (Lit.int .i64 x.f1).wf = true
def B91 (x : S91) : Prop := x.f0.size ≤ maxLen ∧ (x.f1.length ≤ maxLen ∧ ∀ x_ ∈ x.f1, (Lit.int .i64 x_).wf = true)
def B24 (x : S24) : Prop := (Lit.int .i64 x.f0).wf = true ∧ (Lit.int .i64 x.f1).wf = true ∧ (x.f2.length ≤ maxLen ∧ ∀ x_ ∈ x.f2, B60 x_) ∧ (x.f3.length ≤ maxLen ∧ ∀ x_ ∈ x.f3, B91 x_)
/-- The one plain statement of laws_FnExactBestWays. -/
def laws_FnExactBestWays.Pure : Prop := ∀ (a0_0 : Int) (a0_1 : Int) (l0_2 : List S60) (l0_3 : List S91) (l1 : List Int), B24 (⟨a0_0, a0_1, l0_2, l0_3⟩ : S24) → (l1.length ≤ maxLen ∧ ∀ x_ ∈ l1, (Lit.int .i64 x_).wf = true) → ∃ k, laws_FnExactBestWays.f k a0_0 a0_1 l0_2 l0_3 l1 = some true
end Go.Proofs.Ytanbgmnhbncapaa.PFnExactBestWays

/- What each function that the law FnExactBestWays reaches comes to, and the proof that its walk comes to it; laid by a program of this session. No condition. -/
import Derived.Test.YtanbgmnhbncapaaPFnExactBestWaysx0
import Derived.KernelRfl
import Derived.OwnWalk
import Derived.Test.YtanbgmnhbncapaaProg
set_option linter.unusedVariables false
set_option linter.unusedSimpArgs false
namespace Go.Proofs.Ytanbgmnhbncapaa.PFnExactBestWays
open Go Go.RowKit Go.Proofs.YtanbgmnhbncapaaM Go.Proofs Go.Proofs.Ytanbgmnhbncapaa.SortP
/-! ### spec_l14Is: function 54 -/
def spec_l14Is.l0 : Nat → List Int → Int → List Bool → Int → Option (Bool)
 | 0, _, _, _, _ => none
 | k + 1, x0, x1, x5, x6 => if x6 < x1 then (if 0 ≤ x6 then (if x6 < (x0.length : Int) then ((spec_l00In.f (rd2 x0 x6) 0 (wrap64 (x1 - 1))).bind fun t8 => (if t8 = true then (if 0 ≤ (rd2 x0 x6) then (if (rd2 x0 x6) < (x5.length : Int) then (if (rd4 x5 (rd2 x0 x6)) = true then (some false) else (spec_l14Is.l0 k x0 x1 (x5.set ((rd2 x0 x6) : Int).toNat true) (wrap64 (x6 + 1)))) else (none)) else (none)) else (some false))) else (none)) else (none)) else (some true)
def spec_l14Is.f (k : Nat) (l0 : List Int) (a1 : Int) : Option (Bool) := if (l0.length : Int) = a1 then (if 0 ≤ a1 then (if (a1 : Int).toNat ≤ 281474976710656 then (spec_l14Is.l0 k l0 a1 (List.replicate ((a1 : Int).toNat) false) 0) else (none)) else (none)) else (some false)
set_option maxRecDepth 100000 in
theorem spec_l14Is.ok {k : Nat} {l0 : List Int} {a1 : Int} {r : Bool} (H : spec_l14Is.f k l0 a1 = some r) : OkF Try.prog 54 [vR 2 (l0.map c2), vI a1] [] (.c (.d (.v (.bool r)))) [] := by
 unfold spec_l14Is.f at H
 refine OkF.of (N := 41) (rs := [4]) (avs := [.c (.d (.v (.bool r)))]) Try.func54 rfl rfl (fun _ _ => results_tmp rfl _ _ _) (by decide) rfl rfl rfl rfl (fun w0 S => ?_)
 refine AG.seq ?_
 refine AG.region HM ?_
 refine a_move (v := vB _) ?_
 refine RA.nil nofun ?_
 refine AG.seq ?_
 refine AG.seq ?_
 refine AG.region HM ?_
 refine a_move (v := vR _ _) ?_
 refine a_lenR ?_ Try.underlying38
 refine a_move (v := vI _) ?_
 refine a_int (u := .bool (((l0.length : Int) != a1))) ?_
 refine RA.nil nofun ?_
 by_cases hc1 : (l0.length : Int) = a1
 ·rw [if_pos hc1] at H
  refine AG.no rfl (bne_eq_false_iff_eq.2 hc1) ?_
  refine AG.skip ?_
  refine AG.seq ?_
  refine AG.region HM ?_
  refine a_move (v := vI _) ?_
  by_cases hc2 : 0 ≤ a1
  ·rw [if_pos hc2] at H
   by_cases hc3 : (a1 : Int).toNat ≤ 281474976710656
   ·rw [if_pos hc3] at H
    refine a_make (n := a1) (css := (List.replicate ((a1 : Int).toNat) false).map c4) 200 ?_ N108 T4 (zV zN) hc2 (by omega) (by omega) (hcss := by exact rep_map rfl)
    refine a_move (v := .c (.own _ _)) ?_
    refine RA.nil nofun ?_
    refine AG.seq ?_
    refine AG.seq ?_
    refine AG.region HM ?_
    refine a_move (v := vI _) ?_
    refine RA.nil nofun ?_
    refine AG.block ?_
    refine AG.loop ?_
    obtain ⟨K0, hK0, gK0⟩ : ∃ K, k ≤ K ∧ K ≤ k := ⟨k, Nat.le_refl k, Nat.le_refl k⟩
    refine AGr.canon (fun κ => cond (Nat.beq κ 201) 200 (κ)) (AGr.loopI (n := k) (fun k s => k ≤ K0 ∧ ∃ (x0 : List Int) (x1 : Int) (x5 : List Bool) (x6 : Int), spec_l14Is.l0 k x0 x1 x5 x6 = some r ∧ s = St.of [(0, vR 2 (x0.map c2)), (1, vI x1), (5, .c (.own 201 x5.length)), (6, vI x6)] [(201, .row 4 (x5.map c4))]) ⟨hK0, _, _, _, _, H, rfl⟩ ?_ ?_) ⟨rfl, rfl, (ownE rfl (by simp)), rfl, trivial⟩ ⟨rfl, trivial⟩ rfl
    ·rintro _ ⟨_, _, _, _, _, H, _⟩
     cases H
    ·clear H hK0
     rintro k ih0 _ ⟨hK0, x0, x1, x5, x6, H, rfl⟩
     unfold spec_l14Is.l0 at H
     refine AG.seq ?_
     refine AG.seq ?_
     refine AG.region HM ?_
     refine a_move (v := vI _) ?_
     refine a_move (v := vI _) ?_
     refine a_int (u := .bool (decide (x6 < x1))) ?_
     refine RA.nil nofun ?_
     by_cases hc5 : x6 < x1
     ·rw [if_pos hc5] at H
      refine AG.yes rfl (decide_eq_true hc5) ?_
      refine AG.skip ?_
      refine AG.seq ?_
      refine AG.block ?_
      refine AG.seq ?_
      refine AG.seq ?_
      refine AG.region HM ?_
      refine a_move (v := vR _ _) ?_
      refine a_move (v := vI _) ?_
      by_cases hc6 : 0 ≤ x6
      ·rw [if_pos hc6] at H
       by_cases hc7 : x6 < (x0.length : Int)
       ·rw [if_pos hc7] at H
        refine a_ixR (el := c2 (rd2 x0 x6)) ?_ ⟨hc6, hc7⟩ T2 Try.underlying38 (hel := R2 hc6 hc7)
        refine a_ldR (v := vI _) ?_ T2
        refine a_move (v := vI _) ?_
        refine a_int (u := .int .i64 (wrap64 (x1 - 1))) ?_
        obtain ⟨t8, e9, H⟩ := bindO H
        refine a_call (v := vB t8) (nk := []) (L := []) ?_ rfl (spec_l00In.ok e9) id (qd (qd (qd qn))) trivial trivial trivial rfl
        refine a_un (u := .bool (!t8)) ?_
        refine a_move (v := vB _) ?_
        by_cases hc10 : t8 = true
        ·rw [if_pos hc10] at H
         refine a_move (v := .c (.own _ _)) ?_ (hg := Gs.yes rfl rfl rfl (congrArg Bool.not hc10))
         refine a_move (v := vR _ _) ?_ (hg := Gs.yes rfl rfl rfl (congrArg Bool.not hc10))
         refine a_move (v := vI _) ?_ (hg := Gs.yes rfl rfl rfl (congrArg Bool.not hc10))
         refine a_ixR (el := c2 (rd2 x0 x6)) ?_ ⟨hc6, hc7⟩ T2 Try.underlying38 (hel := R2 hc6 hc7) (hg := Gs.yes rfl rfl rfl (congrArg Bool.not hc10))
         refine a_ldR (v := vI _) ?_ T2 (hg := Gs.yes rfl rfl rfl (congrArg Bool.not hc10))
         by_cases hc11 : 0 ≤ (rd2 x0 x6)
         ·rw [if_pos hc11] at H
          by_cases hc12 : (rd2 x0 x6) < (x5.length : Int)
          ·rw [if_pos hc12] at H
           refine a_ixO ?_ ⟨hc11, hc12⟩ T4 Try.underlying108 (hg := Gs.yes rfl rfl rfl (congrArg Bool.not hc10))
           refine a_ldE (v := vB _) ?_ (G4 hc11 hc12) T4 (hg := Gs.yes rfl rfl rfl (congrArg Bool.not hc10))
           refine a_pick (b := false) (v := vB _) ?_ (congrArg Bool.not hc10)
           refine RA.nil nofun ?_
           by_cases hc13 : (rd4 x5 (rd2 x0 x6)) = true
           ·rw [if_pos hc13] at H
            refine AG.yes rfl hc13 ?_
            refine AG.seq ?_
            refine AG.region HM ?_
            refine a_move (v := vB _) ?_
            refine RA.nil nofun ?_
            refine AG.ret ?_
            obtain rfl := Option.some.inj H
            exact RetP.mk id ⟨rfl, trivial⟩ trivial rfl
           ·rw [if_neg hc13] at H
            refine AG.no rfl (Bool.eq_false_iff.2 hc13) ?_
            refine AG.skip ?_
            refine AG.region HM ?_
            refine a_move (v := .c (.own _ _)) ?_
            refine a_move (v := vR _ _) ?_
            refine a_move (v := vI _) ?_
            refine a_ixR (el := c2 (rd2 x0 x6)) ?_ ⟨hc6, hc7⟩ T2 Try.underlying38 (hel := R2 hc6 hc7)
            refine a_ldR (v := vI _) ?_ T2
            refine a_ixO ?_ ⟨hc11, hc12⟩ T4 Try.underlying108
            refine a_stF (css' := (x5.set ((rd2 x0 x6) : Int).toNat true).map c4) ?_ (flat_map (fun _ => rfl)) (G4 hc11 hc12) T4 (hcss := by exact set_map rfl)
            refine RA.nil nofun ?_
            refine AG.region HM ?_
            refine a_move (v := vI _) ?_
            refine a_int (u := .int .i64 (wrap64 (x6 + 1))) ?_
            refine a_move (v := vI _) ?_
            refine RA.nil nofun ?_
            exact AGr.canon id (ih0 _ (by omega) _ ⟨by omega, _, _, _, _, H, rfl⟩) ⟨rfl, rfl, (ownE rfl (by simp)), rfl, trivial⟩ ⟨rfl, trivial⟩ rfl
          ·rw [if_neg hc12] at H
           cases H
         ·rw [if_neg hc11] at H
          cases H
        ·rw [if_neg hc10] at H
         refine RA.skip rfl rfl rfl rfl rfl (congrArg Bool.not (Bool.eq_false_iff.2 hc10)) (by decide) ?_
         refine RA.skip rfl rfl rfl rfl rfl (congrArg Bool.not (Bool.eq_false_iff.2 hc10)) (by decide) ?_
         refine RA.skip rfl rfl rfl rfl rfl (congrArg Bool.not (Bool.eq_false_iff.2 hc10)) (by decide) ?_
         refine RA.skip rfl rfl rfl rfl rfl (congrArg Bool.not (Bool.eq_false_iff.2 hc10)) (by decide) ?_
         refine RA.skip rfl rfl rfl rfl rfl (congrArg Bool.not (Bool.eq_false_iff.2 hc10)) (by decide) ?_
         refine RA.skip rfl rfl rfl rfl rfl (congrArg Bool.not (Bool.eq_false_iff.2 hc10)) (by decide) ?_
         refine RA.skip rfl rfl rfl rfl rfl (congrArg Bool.not (Bool.eq_false_iff.2 hc10)) (by decide) ?_
         refine a_pick (b := true) (v := vB _) ?_ (congrArg Bool.not (Bool.eq_false_iff.2 hc10))
         refine RA.nil nofun ?_
         refine AG.yes rfl rfl ?_
         refine AG.seq ?_
         refine AG.region HM ?_
         refine a_move (v := vB _) ?_
         refine RA.nil nofun ?_
         refine AG.ret ?_
         obtain rfl := Option.some.inj H
         exact RetP.mk id ⟨rfl, trivial⟩ trivial rfl
       ·rw [if_neg hc7] at H
        cases H
      ·rw [if_neg hc6] at H
       cases H
     ·rw [if_neg hc5] at H
      refine AG.no rfl (decide_eq_false hc5) ?_
      refine AG.exit ?_
      refine AG.seq ?_
      refine AG.region HM ?_
      refine a_move (v := vB _) ?_
      refine RA.nil nofun ?_
      refine AG.ret ?_
      obtain rfl := Option.some.inj H
      exact RetP.mk id ⟨rfl, trivial⟩ trivial rfl
   ·rw [if_neg hc3] at H
    cases H
  ·rw [if_neg hc2] at H
   cases H
 ·rw [if_neg hc1] at H
  refine AG.yes rfl (bne_iff_ne.2 hc1) ?_
  refine AG.seq ?_
  refine AG.region HM ?_
  refine a_move (v := vB _) ?_
  refine RA.nil nofun ?_
  refine AG.ret ?_
  obtain rfl := Option.some.inj H
  exact RetP.mk id ⟨rfl, trivial⟩ trivial rfl
/-! ### spec_l14Ends: function 70 -/
def spec_l14Ends.f (a0_0 : Int) (a0_1 : Int) (l0_2 : List S60) (l0_3 : List S91) (l1 : List Int) (a2 : Int) : Option (Int × Int × Int × Int) := if a2 = 1 then (if 1 < (l1.length : Int) then (if 0 ≤ (rd2 l1 1) then (if (rd2 l1 1) < (l0_2.length : Int) then (if 0 < (l1.length : Int) then (if 0 ≤ (rd2 l1 0) then (if (rd2 l1 0) < (l0_2.length : Int) then (some ((rd60 l0_2 (rd2 l1 1)).f0, (rd60 l0_2 (rd2 l1 1)).f1, (rd60 l0_2 (rd2 l1 0)).f0, (rd60 l0_2 (rd2 l1 0)).f1)) else (none)) else (none)) else (none)) else (none)) else (none)) else (none)) else (if 0 < (l1.length : Int) then (if 0 ≤ (rd2 l1 0) then (if (rd2 l1 0) < (l0_2.length : Int) then (if 1 < (l1.length : Int) then (if 0 ≤ (rd2 l1 1) then (if (rd2 l1 1) < (l0_2.length : Int) then (some ((rd60 l0_2 (rd2 l1 0)).f0, (rd60 l0_2 (rd2 l1 0)).f1, (rd60 l0_2 (rd2 l1 1)).f0, (rd60 l0_2 (rd2 l1 1)).f1)) else (none)) else (none)) else (none)) else (none)) else (none)) else (none))
set_option maxRecDepth 100000 in
theorem spec_l14Ends.ok {a0_0 : Int} {a0_1 : Int} {l0_2 : List S60} {l0_3 : List S91} {l1 : List Int} {a2 : Int} {r0 : Int} {r1 : Int} {r2 : Int} {r3 : Int} (H : spec_l14Ends.f a0_0 a0_1 l0_2 l0_3 l1 a2 = some (r0, r1, r2, r3)) : OkF Try.prog 70 [.c (.d (.ro [.v (.int .i64 a0_0), .v (.int .i64 a0_1), .row 61 (l0_2.map c60), .row 96 (l0_3.map c91)])), vR 2 (l1.map c2), vI a2] [] (.tup [.agg [.d (.v (.int .i64 r0)), .d (.v (.int .i64 r1))], .agg [.d (.v (.int .i64 r2)), .d (.v (.int .i64 r3))]]) [] := by
 unfold spec_l14Ends.f at H
 refine OkF.ofC (N := 46) (rs := [6, 7]) (avs := [.agg [.d (.v (.int .i64 r0)), .d (.v (.int .i64 r1))], .agg [.d (.v (.int .i64 r2)), .d (.v (.int .i64 r3))]]) [(6, 61), (7, 61)] Try.func70 rfl rfl (rc_cc rfl) (by decide) rfl (by decide) rfl rfl rfl rfl (fun w0 S => ?_)
 refine AG.seq ?_
 refine AG.region HM ?_
 refine a_alloc (cs := [_, _]) 200 ?_ T61
 refine a_alloc (cs := [_, _]) 201 ?_ T61
 refine RA.nil nofun ?_
 refine AG.seq ?_
 refine AG.seq ?_
 refine AG.region HM ?_
 refine a_move (v := vI _) ?_
 refine a_int (u := .bool ((a2 == 1))) ?_
 refine RA.nil nofun ?_
 by_cases hc1 : a2 = 1
 ·rw [if_pos hc1] at H
  refine AG.yes rfl (beq_iff_eq.2 hc1) ?_
  refine AG.seq ?_
  refine AG.region HM ?_
  refine a_move (v := vO [_, _, _, _]) ?_
  refine a_nil (v := vO [_, _, _, _]) ?_
  refine a_faR (cells' := [_, _]) ?_ D32_2
  refine a_ldR (v := vR _ _) ?_ T29
  refine a_move (v := vR _ _) ?_
  by_cases hc2 : 1 < (l1.length : Int)
  ·rw [if_pos hc2] at H
   refine a_ixR (el := c2 (rd2 l1 1)) ?_ ⟨(by decide), hc2⟩ T2 Try.underlying38 (hel := R2 (by decide) hc2)
   refine a_ldR (v := vI _) ?_ T2
   by_cases hc3 : 0 ≤ (rd2 l1 1)
   ·rw [if_pos hc3] at H
    by_cases hc4 : (rd2 l1 1) < (l0_2.length : Int)
    ·rw [if_pos hc4] at H
     refine a_ixR (el := c60 (rd60 l0_2 (rd2 l1 1))) ?_ ⟨hc3, hc4⟩ T61 Try.underlying29 (hel := R60 hc3 hc4)
     refine a_ldR (v := .agg [_, _]) ?_ T61
     refine a_move (v := vO [_, _, _, _]) ?_
     refine a_nil (v := vO [_, _, _, _]) ?_
     refine a_faR (cells' := [_, _]) ?_ D32_2
     refine a_ldR (v := vR _ _) ?_ T29
     refine a_move (v := vR _ _) ?_
     by_cases hc5 : 0 < (l1.length : Int)
     ·rw [if_pos hc5] at H
      refine a_ixR (el := c2 (rd2 l1 0)) ?_ ⟨(by decide), hc5⟩ T2 Try.underlying38 (hel := R2 (by decide) hc5)
      refine a_ldR (v := vI _) ?_ T2
      by_cases hc6 : 0 ≤ (rd2 l1 0)
      ·rw [if_pos hc6] at H
       by_cases hc7 : (rd2 l1 0) < (l0_2.length : Int)
       ·rw [if_pos hc7] at H
        refine a_ixR (el := c60 (rd60 l0_2 (rd2 l1 0))) ?_ ⟨hc6, hc7⟩ T61 Try.underlying29 (hel := R60 hc6 hc7)
        refine a_ldR (v := .agg [_, _]) ?_ T61
        refine a_stB (cs' := [_, _]) ?_ T61
        refine a_stB (cs' := [_, _]) ?_ T61
        refine RA.nil (fun _ => by kernel_rfl) ?_
        refine AG.ret ?_
        simp only [Option.some.injEq, Prod.mk.injEq] at H
        obtain ⟨rfl, rfl, rfl, rfl⟩ := H
        exact RetL.cell T61 rfl rfl rfl (RetL.cell T61 rfl rfl rfl (RetL.nil (RetP.mk id ⟨rfl, rfl, trivial⟩ trivial rfl)))
       ·rw [if_neg hc7] at H
        cases H
      ·rw [if_neg hc6] at H
       cases H
     ·rw [if_neg hc5] at H
      cases H
    ·rw [if_neg hc4] at H
     cases H
   ·rw [if_neg hc3] at H
    cases H
  ·rw [if_neg hc2] at H
   cases H
 ·rw [if_neg hc1] at H
  refine AG.no rfl (beq_eq_false_iff_ne.2 hc1) ?_
  refine AG.skip ?_
  refine AG.seq ?_
  refine AG.region HM ?_
  refine a_move (v := vO [_, _, _, _]) ?_
  refine a_nil (v := vO [_, _, _, _]) ?_
  refine a_faR (cells' := [_, _]) ?_ D32_2
  refine a_ldR (v := vR _ _) ?_ T29
  refine a_move (v := vR _ _) ?_
  by_cases hc8 : 0 < (l1.length : Int)
  ·rw [if_pos hc8] at H
   refine a_ixR (el := c2 (rd2 l1 0)) ?_ ⟨(by decide), hc8⟩ T2 Try.underlying38 (hel := R2 (by decide) hc8)
   refine a_ldR (v := vI _) ?_ T2
   by_cases hc9 : 0 ≤ (rd2 l1 0)
   ·rw [if_pos hc9] at H
    by_cases hc10 : (rd2 l1 0) < (l0_2.length : Int)
    ·rw [if_pos hc10] at H
     refine a_ixR (el := c60 (rd60 l0_2 (rd2 l1 0))) ?_ ⟨hc9, hc10⟩ T61 Try.underlying29 (hel := R60 hc9 hc10)
     refine a_ldR (v := .agg [_, _]) ?_ T61
     refine a_move (v := vO [_, _, _, _]) ?_
     refine a_nil (v := vO [_, _, _, _]) ?_
     refine a_faR (cells' := [_, _]) ?_ D32_2
     refine a_ldR (v := vR _ _) ?_ T29
     refine a_move (v := vR _ _) ?_
     by_cases hc11 : 1 < (l1.length : Int)
     ·rw [if_pos hc11] at H
      refine a_ixR (el := c2 (rd2 l1 1)) ?_ ⟨(by decide), hc11⟩ T2 Try.underlying38 (hel := R2 (by decide) hc11)
      refine a_ldR (v := vI _) ?_ T2
      by_cases hc12 : 0 ≤ (rd2 l1 1)
      ·rw [if_pos hc12] at H
       by_cases hc13 : (rd2 l1 1) < (l0_2.length : Int)
       ·rw [if_pos hc13] at H
        refine a_ixR (el := c60 (rd60 l0_2 (rd2 l1 1))) ?_ ⟨hc12, hc13⟩ T61 Try.underlying29 (hel := R60 hc12 hc13)
        refine a_ldR (v := .agg [_, _]) ?_ T61
        refine a_stB (cs' := [_, _]) ?_ T61
        refine a_stB (cs' := [_, _]) ?_ T61
        refine RA.nil (fun _ => by kernel_rfl) ?_
        refine AG.ret ?_
        simp only [Option.some.injEq, Prod.mk.injEq] at H
        obtain ⟨rfl, rfl, rfl, rfl⟩ := H
        exact RetL.cell T61 rfl rfl rfl (RetL.cell T61 rfl rfl rfl (RetL.nil (RetP.mk id ⟨rfl, rfl, trivial⟩ trivial rfl)))
       ·rw [if_neg hc13] at H
        cases H
      ·rw [if_neg hc12] at H
       cases H
     ·rw [if_neg hc11] at H
      cases H
    ·rw [if_neg hc10] at H
     cases H
   ·rw [if_neg hc9] at H
    cases H
  ·rw [if_neg hc8] at H
   cases H
/-! ### spec_l14Air: function 62 -/
def spec_l14Air.l0 : Nat → Int → Int → List S60 → List S91 → List (List Int) → List Int → List Int → Int → Int → Option (Int)
 | 0, _, _, _, _, _, _, _, _, _ => none
 | k + 1, x0_0, x0_1, x0_2, x0_3, x1, x2, x3, x9, x10 => if x10 < (x2.length : Int) then (if 0 ≤ (wrap64 (x10 - 1)) then (if (wrap64 (x10 - 1)) < (x2.length : Int) then (if 0 ≤ (rd2 x2 (wrap64 (x10 - 1))) then (if (rd2 x2 (wrap64 (x10 - 1))) < (x1.length : Int) then (if (wrap64 (x10 - 1)) < (x3.length : Int) then ((spec_l14Ends.f x0_0 x0_1 x0_2 x0_3 (rd38 x1 (rd2 x2 (wrap64 (x10 - 1)))) (rd2 x3 (wrap64 (x10 - 1)))).bind fun bt7 => (if 0 ≤ x10 then (if 0 ≤ (rd2 x2 x10) then (if (rd2 x2 x10) < (x1.length : Int) then (if x10 < (x3.length : Int) then ((spec_l14Ends.f x0_0 x0_1 x0_2 x0_3 (rd38 x1 (rd2 x2 x10)) (rd2 x3 x10)).bind fun bt16 => ((spec_l02Apart.f k bt7.2.2.1 bt7.2.2.2 bt16.1 bt16.2.1).bind fun t21 => (spec_l14Air.l0 k x0_0 x0_1 x0_2 x0_3 x1 x2 x3 (wrap64 (x9 + t21)) (wrap64 (x10 + 1))))) else (none)) else (none)) else (none)) else (none))) else (none)) else (none)) else (none)) else (none)) else (none)) else (some x9)
def spec_l14Air.f (k : Nat) (a0_0 : Int) (a0_1 : Int) (l0_2 : List S60) (l0_3 : List S91) (l1 : List (List Int)) (l2 : List Int) (l3 : List Int) : Option (Int) := spec_l14Air.l0 k a0_0 a0_1 l0_2 l0_3 l1 l2 l3 0 1
set_option maxRecDepth 100000 in
theorem spec_l14Air.ok {k : Nat} {a0_0 : Int} {a0_1 : Int} {l0_2 : List S60} {l0_3 : List S91} {l1 : List (List Int)} {l2 : List Int} {l3 : List Int} {r : Int} (H : spec_l14Air.f k a0_0 a0_1 l0_2 l0_3 l1 l2 l3 = some r) : OkF Try.prog 62 [.c (.d (.ro [.v (.int .i64 a0_0), .v (.int .i64 a0_1), .row 61 (l0_2.map c60), .row 96 (l0_3.map c91)])), vR 38 (l1.map c38), vR 2 (l2.map c2), vR 2 (l3.map c2)] [] (.c (.d (.v (.int .i64 r)))) [] := by
 unfold spec_l14Air.f at H
 refine OkF.of (N := 61) (rs := [8]) (avs := [.c (.d (.v (.int .i64 r)))]) Try.func62 rfl rfl (fun _ _ => results_tmp rfl _ _ _) (by decide) rfl rfl rfl rfl (fun w0 S => ?_)
 refine AG.seq ?_
 refine AG.region HM ?_
 refine a_move (v := vI _) ?_
 refine RA.nil nofun ?_
 refine AG.seq ?_
 refine AG.region HM ?_
 refine a_move (v := vI _) ?_
 refine RA.nil nofun ?_
 refine AG.seq ?_
 refine AG.seq ?_
 refine AG.region HM ?_
 refine a_move (v := vI _) ?_
 refine RA.nil nofun ?_
 refine AG.block ?_
 refine AG.loop ?_
 obtain ⟨K0, hK0, gK0⟩ : ∃ K, k ≤ K ∧ K ≤ k := ⟨k, Nat.le_refl k, Nat.le_refl k⟩
 refine AGr.canon id (AGr.loopI (n := k) (fun k s => k ≤ K0 ∧ ∃ (x0_0 : Int) (x0_1 : Int) (x0_2 : List S60) (x0_3 : List S91) (x1 : List (List Int)) (x2 : List Int) (x3 : List Int) (x9 : Int) (x10 : Int), spec_l14Air.l0 k x0_0 x0_1 x0_2 x0_3 x1 x2 x3 x9 x10 = some r ∧ s = St.of [(0, .c (.d (.ro [.v (.int .i64 x0_0), .v (.int .i64 x0_1), .row 61 (x0_2.map c60), .row 96 (x0_3.map c91)]))), (1, vR 38 (x1.map c38)), (2, vR 2 (x2.map c2)), (3, vR 2 (x3.map c2)), (9, vI x9), (10, vI x10)] []) ⟨hK0, _, _, _, _, _, _, _, _, _, H, rfl⟩ ?_ ?_) ⟨rfl, rfl, rfl, rfl, rfl, rfl, trivial⟩ trivial rfl
 ·rintro _ ⟨_, _, _, _, _, _, _, _, _, _, H, _⟩
  cases H
 ·clear H hK0
  rintro k ih0 _ ⟨hK0, x0_0, x0_1, x0_2, x0_3, x1, x2, x3, x9, x10, H, rfl⟩
  unfold spec_l14Air.l0 at H
  refine AG.seq ?_
  refine AG.seq ?_
  refine AG.region HM ?_
  refine a_move (v := vI _) ?_
  refine a_move (v := vR _ _) ?_
  refine a_lenR ?_ Try.underlying38
  refine a_int (u := .bool (decide (x10 < (x2.length : Int)))) ?_
  refine RA.nil nofun ?_
  by_cases hc1 : x10 < (x2.length : Int)
  ·rw [if_pos hc1] at H
   refine AG.yes rfl (decide_eq_true hc1) ?_
   refine AG.skip ?_
   refine AG.seq ?_
   refine AG.block ?_
   refine AG.seq ?_
   refine AG.region HM ?_
   refine a_move (v := vO [_, _, _, _]) ?_
   refine a_move (v := vR _ _) ?_
   refine a_move (v := vR _ _) ?_
   refine a_move (v := vI _) ?_
   refine a_int (u := .int .i64 (wrap64 (x10 - 1))) ?_
   by_cases hc2 : 0 ≤ (wrap64 (x10 - 1))
   ·rw [if_pos hc2] at H
    by_cases hc3 : (wrap64 (x10 - 1)) < (x2.length : Int)
    ·rw [if_pos hc3] at H
     refine a_ixR (el := c2 (rd2 x2 (wrap64 (x10 - 1)))) ?_ ⟨hc2, hc3⟩ T2 Try.underlying38 (hel := R2 hc2 hc3)
     refine a_ldR (v := vI _) ?_ T2
     by_cases hc4 : 0 ≤ (rd2 x2 (wrap64 (x10 - 1)))
     ·rw [if_pos hc4] at H
      by_cases hc5 : (rd2 x2 (wrap64 (x10 - 1))) < (x1.length : Int)
      ·rw [if_pos hc5] at H
       refine a_ixR (el := c38 (rd38 x1 (rd2 x2 (wrap64 (x10 - 1))))) ?_ ⟨hc4, hc5⟩ T38 Try.underlying56 (hel := R38 hc4 hc5)
       refine a_ldR (v := vR _ _) ?_ T38
       refine a_move (v := vR _ _) ?_
       refine a_move (v := vI _) ?_
       refine a_int (u := .int .i64 (wrap64 (x10 - 1))) ?_
       by_cases hc6 : (wrap64 (x10 - 1)) < (x3.length : Int)
       ·rw [if_pos hc6] at H
        refine a_ixR (el := c2 (rd2 x3 (wrap64 (x10 - 1)))) ?_ ⟨hc2, hc6⟩ T2 Try.underlying38 (hel := R2 hc2 hc6)
        refine a_ldR (v := vI _) ?_ T2
        obtain ⟨⟨t7, t8, t9, t10⟩, e11, H⟩ := bindO H
        refine a_call (v := .tup [.agg [.d (.v (.int .i64 t7)), .d (.v (.int .i64 t8))], .agg [.d (.v (.int .i64 t9)), .d (.v (.int .i64 t10))]]) (nk := []) (L := []) ?_ rfl (spec_l14Ends.ok e11) id (qd (qd (qd qn))) trivial trivial trivial rfl
        refine a_move (v := .tup [_, _]) ?_
        refine a_ext (v := .agg [_, _]) ?_
        refine a_ext (v := .agg [_, _]) ?_
        refine a_alloc (cs := [_, _]) 201 ?_ T61
        refine a_alloc (cs := [_, _]) 202 ?_ T61
        refine a_stB (cs' := [_, _]) ?_ T61
        refine a_stB (cs' := [_, _]) ?_ T61
        refine RA.nil (fun _ => by kernel_rfl) ?_
        refine AG.seq ?_
        refine AG.region HM ?_
        refine a_move (v := vO [_, _, _, _]) ?_
        refine a_move (v := vR _ _) ?_
        refine a_move (v := vR _ _) ?_
        refine a_move (v := vI _) ?_
        by_cases hc12 : 0 ≤ x10
        ·rw [if_pos hc12] at H
         refine a_ixR (el := c2 (rd2 x2 x10)) ?_ ⟨hc12, hc1⟩ T2 Try.underlying38 (hel := R2 hc12 hc1)
         refine a_ldR (v := vI _) ?_ T2
         by_cases hc13 : 0 ≤ (rd2 x2 x10)
         ·rw [if_pos hc13] at H
          by_cases hc14 : (rd2 x2 x10) < (x1.length : Int)
          ·rw [if_pos hc14] at H
           refine a_ixR (el := c38 (rd38 x1 (rd2 x2 x10))) ?_ ⟨hc13, hc14⟩ T38 Try.underlying56 (hel := R38 hc13 hc14)
           refine a_ldR (v := vR _ _) ?_ T38
           refine a_move (v := vR _ _) ?_
           refine a_move (v := vI _) ?_
           by_cases hc15 : x10 < (x3.length : Int)
           ·rw [if_pos hc15] at H
            refine a_ixR (el := c2 (rd2 x3 x10)) ?_ ⟨hc12, hc15⟩ T2 Try.underlying38 (hel := R2 hc12 hc15)
            refine a_ldR (v := vI _) ?_ T2
            obtain ⟨⟨t16, t17, t18, t19⟩, e20, H⟩ := bindO H
            refine a_call (v := .tup [.agg [.d (.v (.int .i64 t16)), .d (.v (.int .i64 t17))], .agg [.d (.v (.int .i64 t18)), .d (.v (.int .i64 t19))]]) (nk := []) (L := []) ?_ rfl (spec_l14Ends.ok e20) id (qd (qd (qd qn))) trivial trivial trivial rfl
            refine a_move (v := .tup [_, _]) ?_
            refine a_ext (v := .agg [_, _]) ?_
            refine a_ext (v := .agg [_, _]) ?_
            refine a_alloc (cs := [_, _]) 204 ?_ T61
            refine a_alloc (cs := [_, _]) 205 ?_ T61
            refine a_stB (cs' := [_, _]) ?_ T61
            refine a_stB (cs' := [_, _]) ?_ T61
            refine RA.nil (fun _ => by kernel_rfl) ?_
            refine AG.region HM ?_
            refine a_move (v := vI _) ?_
            refine a_ldB (v := .agg [_, _]) ?_ T61
            refine a_ldB (v := .agg [_, _]) ?_ T61
            obtain ⟨t21, e22, H⟩ := bindO H
            refine a_call (v := vI t21) (nk := []) (L := []) ?_ rfl (spec_l02Apart.ok e22) id (qg (qg qn)) trivial trivial trivial rfl
            refine a_int (u := .int .i64 (wrap64 (x9 + t21))) ?_
            refine a_move (v := vI _) ?_
            refine RA.nil nofun ?_
            refine AG.region HM ?_
            refine a_move (v := vI _) ?_
            refine a_int (u := .int .i64 (wrap64 (x10 + 1))) ?_
            refine a_move (v := vI _) ?_
            refine RA.nil nofun ?_
            exact AGr.canon id (ih0 _ (by omega) _ ⟨by omega, _, _, _, _, _, _, _, _, _, H, rfl⟩) ⟨rfl, rfl, rfl, rfl, rfl, rfl, trivial⟩ trivial rfl
           ·rw [if_neg hc15] at H
            cases H
          ·rw [if_neg hc14] at H
           cases H
         ·rw [if_neg hc13] at H
          cases H
        ·rw [if_neg hc12] at H
         cases H
       ·rw [if_neg hc6] at H
        cases H
      ·rw [if_neg hc5] at H
       cases H
     ·rw [if_neg hc4] at H
      cases H
    ·rw [if_neg hc3] at H
     cases H
   ·rw [if_neg hc2] at H
    cases H
  ·rw [if_neg hc1] at H
   refine AG.no rfl (decide_eq_false hc1) ?_
   refine AG.exit ?_
   refine AG.seq ?_
   refine AG.region HM ?_
   refine a_move (v := vI _) ?_
   refine a_move (v := vI _) ?_
   refine RA.nil nofun ?_
   refine AG.ret ?_
   obtain rfl := Option.some.inj H
   exact RetP.mk id ⟨rfl, trivial⟩ trivial rfl
/-! ### spec_BestWays: function 36 -/
mutual
def spec_BestWays.j0 : Nat → List Int → Int → Int → List S60 → List S91 → List (List Int) → Int → List (List Int) → Option ((List Int) × Int × Int)
 | 0, _, _, _, _, _, _, _, _ => none
 | k + 1, x1, y225_0, y225_1, y225_2, y225_3, x7, x8, x9 => spec_BestWays.l2 k x1 y225_0 y225_1 y225_2 y225_3 x7 x8 x9 (([] : List Int) : List Int) 0
def spec_BestWays.l0 : Nat → List Int → Int → Int → List S60 → List S91 → List (List Int) → Int → List (List Int) → Int → Option ((List Int) × Int × Int)
 | 0, _, _, _, _, _, _, _, _, _ => none
 | k + 1, x1, y209_0, y209_1, y209_2, y209_3, x7, x8, x9, x10 => if x10 ≥ 0 then (if 0 ≤ x10 then (if x10 < (x9.length : Int) then (spec_BestWays.l1 k x1 y209_0 y209_1 y209_2 y209_3 x7 x8 (x9.set (x10 : Int).toNat ([0, 0])) x10 0) else (none)) else (none)) else (spec_BestWays.j0 k x1 y209_0 y209_1 y209_2 y209_3 x7 x8 x9)
def spec_BestWays.l1 : Nat → List Int → Int → Int → List S60 → List S91 → List (List Int) → Int → List (List Int) → Int → Int → Option ((List Int) × Int × Int)
 | 0, _, _, _, _, _, _, _, _, _, _ => none
 | k + 1, x1, y212_0, y212_1, y212_2, y212_3, x7, x8, x9, x10, x11 => if x11 < 2 then (spec_BestWays.j1 k x1 y212_0 y212_1 y212_2 y212_3 x7 x8 x9 x10 x11 (decide (x10 < (wrap64 (x8 - 1))))) else (spec_BestWays.j1 k x1 y212_0 y212_1 y212_2 y212_3 x7 x8 x9 x10 x11 false)
def spec_BestWays.j1 : Nat → List Int → Int → Int → List S60 → List S91 → List (List Int) → Int → List (List Int) → Int → Int → Bool → Option ((List Int) × Int × Int)
 | 0, _, _, _, _, _, _, _, _, _, _, _ => none
 | k + 1, x1, y226_0, y226_1, y226_2, y226_3, x7, x8, x9, x10, x11, x60 => if x60 = true then (if 0 ≤ x10 then (if x10 < (x1.length : Int) then (if 0 ≤ (rd2 x1 x10) then (if (rd2 x1 x10) < (x7.length : Int) then ((spec_l14Ends.f y226_0 y226_1 y226_2 y226_3 (rd38 x7 (rd2 x1 x10)) x11).bind fun bt27 => (if 0 ≤ (wrap64 (x10 + 1)) then (if (wrap64 (x10 + 1)) < (x1.length : Int) then (if 0 ≤ (rd2 x1 (wrap64 (x10 + 1))) then (if (rd2 x1 (wrap64 (x10 + 1))) < (x7.length : Int) then ((spec_l14Ends.f y226_0 y226_1 y226_2 y226_3 (rd38 x7 (rd2 x1 (wrap64 (x10 + 1)))) 0).bind fun bt36 => (if x10 < (x9.length : Int) then ((spec_l02Apart.f k bt27.2.2.1 bt27.2.2.2 bt36.1 bt36.2.1).bind fun t42 => (if (wrap64 (x10 + 1)) < (x9.length : Int) then (if 0 < ((rd38 x9 (wrap64 (x10 + 1))).length : Int) then ((spec_l02Apart.f k bt27.2.2.1 bt27.2.2.2 bt36.2.2.1 bt36.2.2.2).bind fun t46 => (if 1 < ((rd38 x9 (wrap64 (x10 + 1))).length : Int) then ((spec_l00Min.f (wrap64 (t42 + (rd2 (rd38 x9 (wrap64 (x10 + 1))) 0))) (wrap64 (t46 + (rd2 (rd38 x9 (wrap64 (x10 + 1))) 1)))).bind fun t49 => (if 0 ≤ x11 then (if x11 < ((rd38 x9 x10).length : Int) then (spec_BestWays.l1 k x1 y226_0 y226_1 y226_2 y226_3 x7 x8 (x9.set (x10 : Int).toNat ((rd38 x9 x10).set (x11 : Int).toNat t49)) x10 (wrap64 (x11 + 1))) else (none)) else (none))) else (none))) else (none)) else (none))) else (none))) else (none)) else (none)) else (none)) else (none))) else (none)) else (none)) else (none)) else (none)) else (spec_BestWays.l0 k x1 y226_0 y226_1 y226_2 y226_3 x7 x8 x9 (wrap64 (x10 - 1)))
def spec_BestWays.l2 : Nat → List Int → Int → Int → List S60 → List S91 → List (List Int) → Int → List (List Int) → List Int → Int → Option ((List Int) × Int × Int)
 | 0, _, _, _, _, _, _, _, _, _, _ => none
 | k + 1, x1, y229_0, y229_1, y229_2, y229_3, x7, x8, x9, x16, x17 => if x17 < x8 then (spec_BestWays.l3 k x1 y229_0 y229_1 y229_2 y229_3 x7 x8 x9 x16 x17 0 (-1) 0) else ((spec_l14Air.f k y229_0 y229_1 y229_2 y229_3 x7 x1 x16).bind fun t88 => (some (x16, t88, 0)))
def spec_BestWays.l3 : Nat → List Int → Int → Int → List S60 → List S91 → List (List Int) → Int → List (List Int) → List Int → Int → Int → Int → Int → Option ((List Int) × Int × Int)
 | 0, _, _, _, _, _, _, _, _, _, _, _, _, _ => none
 | k + 1, x1, y233_0, y233_1, y233_2, y233_3, x7, x8, x9, x16, x17, x18, x19, x20 => if x20 < 2 then (if 0 ≤ x17 then (if x17 < (x9.length : Int) then (if 0 ≤ x20 then (if x20 < ((rd38 x9 x17).length : Int) then (if x17 > 0 then (if 0 ≤ (wrap64 (x17 - 1)) then (if (wrap64 (x17 - 1)) < (x1.length : Int) then (if 0 ≤ (rd2 x1 (wrap64 (x17 - 1))) then (if (rd2 x1 (wrap64 (x17 - 1))) < (x7.length : Int) then (if (wrap64 (x17 - 1)) < (x16.length : Int) then ((spec_l14Ends.f y233_0 y233_1 y233_2 y233_3 (rd38 x7 (rd2 x1 (wrap64 (x17 - 1)))) (rd2 x16 (wrap64 (x17 - 1)))).bind fun bt67 => (if x17 < (x1.length : Int) then (if 0 ≤ (rd2 x1 x17) then (if (rd2 x1 x17) < (x7.length : Int) then ((spec_l14Ends.f y233_0 y233_1 y233_2 y233_3 (rd38 x7 (rd2 x1 x17)) x20).bind fun bt75 => ((spec_l02Apart.f k bt67.2.2.1 bt67.2.2.2 bt75.1 bt75.2.1).bind fun t80 => (if x19 < 0 then (spec_BestWays.l3 k x1 y233_0 y233_1 y233_2 y233_3 x7 x8 x9 x16 x17 x20 (wrap64 ((rd2 (rd38 x9 x17) x20) + t80)) (wrap64 (x20 + 1))) else (if (wrap64 ((rd2 (rd38 x9 x17) x20) + t80)) < x19 then (spec_BestWays.l3 k x1 y233_0 y233_1 y233_2 y233_3 x7 x8 x9 x16 x17 x20 (wrap64 ((rd2 (rd38 x9 x17) x20) + t80)) (wrap64 (x20 + 1))) else (spec_BestWays.l3 k x1 y233_0 y233_1 y233_2 y233_3 x7 x8 x9 x16 x17 x18 x19 (wrap64 (x20 + 1))))))) else (none)) else (none)) else (none))) else (none)) else (none)) else (none)) else (none)) else (none)) else (if x19 < 0 then (spec_BestWays.l3 k x1 y233_0 y233_1 y233_2 y233_3 x7 x8 x9 x16 x17 x20 (rd2 (rd38 x9 x17) x20) (wrap64 (x20 + 1))) else (if (rd2 (rd38 x9 x17) x20) < x19 then (spec_BestWays.l3 k x1 y233_0 y233_1 y233_2 y233_3 x7 x8 x9 x16 x17 x20 (rd2 (rd38 x9 x17) x20) (wrap64 (x20 + 1))) else (spec_BestWays.l3 k x1 y233_0 y233_1 y233_2 y233_3 x7 x8 x9 x16 x17 x18 x19 (wrap64 (x20 + 1)))))) else (none)) else (none)) else (none)) else (none)) else (if x16.length < 17592186044416 then (spec_BestWays.l2 k x1 y233_0 y233_1 y233_2 y233_3 x7 x8 x9 (x16 ++ [x18]) (wrap64 (x17 + 1))) else (none))
end
def spec_BestWays.f (k : Nat) (a0_0 : Int) (a0_1 : Int) (l0_2 : List S60) (l0_3 : List S91) (l1 : List Int) : Option ((List Int) × Int × Int) := (spec_l05Ok.f k a0_0 a0_1 l0_2 l0_3).bind fun t1 => (if t1 = true then ((spec_l14Edges.f k a0_0 a0_1 l0_2 l0_3).bind fun t4 => ((spec_l14Is.f k l1 (t4.length : Int)).bind fun t6 => (if t6 = true then (if 0 ≤ (wrap64 ((l1.length : Int) + 1)) then (if (wrap64 ((l1.length : Int) + 1) : Int).toNat ≤ 11728124029610 then (if 0 ≤ (l1.length : Int) then (if (l1.length : Int) < ((wrap64 ((l1.length : Int) + 1) : Int).toNat : Int) then (spec_BestWays.l0 k l1 a0_0 a0_1 l0_2 l0_3 t4 (l1.length : Int) ((List.replicate ((wrap64 ((l1.length : Int) + 1) : Int).toNat) []).set ((l1.length : Int) : Int).toNat ([0, 0])) (wrap64 ((l1.length : Int) - 1))) else (none)) else (none)) else (none)) else (none)) else (some (([] : List Int), 0, 2))))) else (some (([] : List Int), 0, 1)))
set_option maxRecDepth 100000 in
theorem spec_BestWays.ok {k : Nat} {a0_0 : Int} {a0_1 : Int} {l0_2 : List S60} {l0_3 : List S91} {l1 : List Int} {r0 : List Int} {r1 : Int} {r2 : Int} (H : spec_BestWays.f k a0_0 a0_1 l0_2 l0_3 l1 = some (r0, r1, r2)) : OkF Try.prog 36 [.agg [.d (.v (.int .i64 a0_0)), .d (.v (.int .i64 a0_1)), .d (.row 61 (l0_2.map c60)), .d (.row 96 (l0_3.map c91))], vR 2 (l1.map c2)] [] (.tup [.c (.own 100 r0.length), .c (.d (.v (.int .i64 r1))), .c (.d (.v (.int .i64 r2)))]) [(100, .row 2 (r0.map c2))] := by
 unfold spec_BestWays.f at H
 refine OkF.of (N := 187) (rs := [4, 5, 6]) (avs := [.c (.own 100 r0.length), .c (.d (.v (.int .i64 r1))), .c (.d (.v (.int .i64 r2)))]) Try.func36 rfl rfl (fun _ _ => results_tmp3 rfl _ _ _) (by decide) rfl rfl rfl rfl (fun w0 S => ?_)
 refine AG.seq ?_
 refine AG.region HM ?_
 refine a_box 200 ?_
 refine a_nilO (e := 2) 201 ?_ T2
 refine a_move (v := vI _) ?_
 refine a_move (v := vI _) ?_
 refine RA.nil nofun ?_
 refine AG.seq ?_
 refine AG.seq ?_
 refine AG.region HM ?_
 obtain ⟨t1, e2, H⟩ := bindO H
 refine a_call (v := vB t1) (nk := []) (L := [(200, _)]) ?_ rfl (spec_l05Ok.ok e2) id (qc (rP (pD (pD (pD (pD p0))))) qn) ⟨rfl, trivial⟩ trivial trivial rfl
 refine a_un (u := .bool (!t1)) ?_
 refine RA.nil nofun ?_
 by_cases hc3 : t1 = true
 ·rw [if_pos hc3] at H
  refine AG.no rfl (congrArg Bool.not hc3) ?_
  refine AG.skip ?_
  refine AG.seq ?_
  refine AG.region HM ?_
  obtain ⟨t4, e5, H⟩ := bindO H
  refine a_call (v := .c (.own 204 t4.length)) (nk := [(204, .row 38 (t4.map c38))]) (L := [(200, _)]) ?_ rfl (spec_l14Edges.ok e5) (fun κ => cond (Nat.beq κ 204) 100 (κ)) (qc (rP (pD (pD (pD (pD p0))))) qn) ⟨rfl, trivial⟩ ⟨rfl, trivial⟩ ⟨rfl, trivial⟩ rfl
  refine a_move (v := .c (.own _ _)) ?_
  refine RA.nil nofun ?_
  refine AG.seq ?_
  refine AG.freeze 204 ?_
  refine AG.region HM ?_
  refine a_move (v := vR _ _) ?_
  refine a_lenR ?_ Try.underlying38
  refine a_move (v := vI _) ?_
  refine RA.nil nofun ?_
  refine AG.seq ?_
  refine AG.seq ?_
  refine AG.region HM ?_
  refine a_move (v := vR _ _) ?_
  refine a_move (v := vR _ _) ?_
  refine a_lenR ?_ Try.underlying56
  obtain ⟨t6, e7, H⟩ := bindO H
  refine a_call (v := vB t6) (nk := []) (L := []) ?_ rfl (spec_l14Is.ok e7) id (qd (qd qn)) trivial trivial trivial rfl
  refine a_un (u := .bool (!t6)) ?_
  refine RA.nil nofun ?_
  by_cases hc8 : t6 = true
  ·rw [if_pos hc8] at H
   refine AG.no rfl (congrArg Bool.not hc8) ?_
   refine AG.skip ?_
   refine AG.seq ?_
   refine AG.region HM ?_
   refine a_move (v := vI _) ?_
   refine a_int (u := .int .i64 (wrap64 ((l1.length : Int) + 1))) ?_
   by_cases hc9 : 0 ≤ (wrap64 ((l1.length : Int) + 1))
   ·rw [if_pos hc9] at H
    by_cases hc10 : (wrap64 ((l1.length : Int) + 1) : Int).toNat ≤ 11728124029610
    ·rw [if_pos hc10] at H
     refine a_make (n := wrap64 ((l1.length : Int) + 1)) (css := (List.replicate ((wrap64 ((l1.length : Int) + 1) : Int).toNat) []).map c38) 207 ?_ N56 T38 (zR T2 zN) hc9 (by omega) (by omega) (hcss := by exact rep_map rfl)
     refine a_move (v := .c (.own _ _)) ?_
     refine RA.nil nofun ?_
     refine AG.seq ?_
     refine AG.region HM ?_
     refine a_move (v := .c (.own _ _)) ?_
     refine a_move (v := vI _) ?_
     refine a_lit (cs := [_, _]) (D := []) (css := ([0, 0]).map c2) 208 ?_ N38 T2 (hcss := by rfl)
     by_cases hc13 : 0 ≤ (l1.length : Int)
     ·rw [if_pos hc13] at H
      by_cases hc14 : (l1.length : Int) < ((wrap64 ((l1.length : Int) + 1) : Int).toNat : Int)
      ·rw [if_pos hc14] at H
       refine a_ixO ?_ ⟨hc13, hc14⟩ T38 Try.underlying56
       refine a_stE (D := [208]) (css' := ((List.replicate ((wrap64 ((l1.length : Int) + 1) : Int).toNat) []).set ((l1.length : Int) : Int).toNat ([0, 0])).map c38) ?_ (G38 (l := (List.replicate ((wrap64 ((l1.length : Int) + 1) : Int).toNat) [])) (i := (l1.length : Int)) hc13 (by simpa using hc14)) T38 (hcss := by exact set_map rfl)
       refine RA.nil nofun ?_
       refine AG.seq ?_
       refine AG.seq ?_
       refine AG.region HM ?_
       refine a_move (v := vI _) ?_
       refine a_int (u := .int .i64 (wrap64 ((l1.length : Int) - 1))) ?_
       refine a_move (v := vI _) ?_
       refine RA.nil nofun ?_
       refine AG.joinR (fun s => ∃ q, q ≤ k ∧ ∃ (x1 : List Int) (y225_0 : Int) (y225_1 : Int) (y225_2 : List S60) (y225_3 : List S91) (x7 : List (List Int)) (x8 : Int) (x9 : List (List Int)), spec_BestWays.j0 q x1 y225_0 y225_1 y225_2 y225_3 x7 x8 x9 = some (r0, r1, r2) ∧ s = St.of [(1, vR 2 (x1.map c2)), (2, .c (.ptr 225 0)), (7, vR 38 (x7.map c38)), (8, vI x8), (9, .c (.own 215 x9.length))] [(215, .row 38 (x9.map c38)), (225, .box 32 [.d (.v (.int .i64 y225_0)), .d (.v (.int .i64 y225_1)), .d (.row 61 (y225_2.map c60)), .d (.row 96 (y225_3.map c91))])]) ?_ ?_
       ·skip
        refine AG.block ?_
        refine AG.loop ?_
        obtain ⟨K0, hK0, gK0⟩ : ∃ K, k ≤ K ∧ K ≤ k := ⟨k, Nat.le_refl k, Nat.le_refl k⟩
        refine AGr.canon (fun κ => cond (Nat.beq κ 209) 200 (cond (Nat.beq κ 210) 207 (κ))) (AGr.loopI (n := k) (fun k s => k ≤ K0 ∧ ∃ (x1 : List Int) (y209_0 : Int) (y209_1 : Int) (y209_2 : List S60) (y209_3 : List S91) (x7 : List (List Int)) (x8 : Int) (x9 : List (List Int)) (x10 : Int), spec_BestWays.l0 k x1 y209_0 y209_1 y209_2 y209_3 x7 x8 x9 x10 = some (r0, r1, r2) ∧ s = St.of [(1, vR 2 (x1.map c2)), (2, .c (.ptr 209 0)), (7, vR 38 (x7.map c38)), (8, vI x8), (9, .c (.own 210 x9.length)), (10, vI x10)] [(209, .box 32 [.d (.v (.int .i64 y209_0)), .d (.v (.int .i64 y209_1)), .d (.row 61 (y209_2.map c60)), .d (.row 96 (y209_3.map c91))]), (210, .row 38 (x9.map c38))]) ⟨hK0, _, _, _, _, _, _, _, _, _, H, rfl⟩ ?_ ?_) ⟨rfl, rfl, rfl, rfl, (ownE rfl (by simp)), rfl, trivial⟩ ⟨rfl, rfl, trivial⟩ rfl
        ·rintro _ ⟨_, _, _, _, _, _, _, _, _, _, H, _⟩
         cases H
        ·clear H hK0
         rintro k ih0 _ ⟨hK0, x1, y209_0, y209_1, y209_2, y209_3, x7, x8, x9, x10, H, rfl⟩
         unfold spec_BestWays.l0 at H
         refine AG.seq ?_
         refine AG.seq ?_
         refine AG.region HM ?_
         refine a_move (v := vI _) ?_
         refine a_int (u := .bool (decide (x10 ≥ 0))) ?_
         refine RA.nil nofun ?_
         by_cases hc16 : x10 ≥ 0
         ·rw [if_pos hc16] at H
          refine AG.yes rfl (decide_eq_true hc16) ?_
          refine AG.skip ?_
          refine AG.seq ?_
          refine AG.block ?_
          refine AG.seq ?_
          refine AG.region HM ?_
          refine a_move (v := .c (.own _ _)) ?_
          refine a_move (v := vI _) ?_
          refine a_lit (cs := [_, _]) (D := []) (css := ([0, 0]).map c2) 211 ?_ N38 T2 (hcss := by rfl)
          by_cases hc18 : 0 ≤ x10
          ·rw [if_pos hc18] at H
           by_cases hc19 : x10 < (x9.length : Int)
           ·rw [if_pos hc19] at H
            refine a_ixO ?_ ⟨hc18, hc19⟩ T38 Try.underlying56
            refine a_stE (D := [211]) (css' := (x9.set (x10 : Int).toNat ([0, 0])).map c38) ?_ (G38 hc18 hc19) T38 (hcss := by exact set_map rfl)
            refine RA.nil nofun ?_
            refine AG.seq ?_
            refine AG.region HM ?_
            refine a_move (v := vI _) ?_
            refine RA.nil nofun ?_
            refine AG.block ?_
            refine AG.loop ?_
            obtain ⟨K1, hK1, gK1⟩ : ∃ K, k ≤ K ∧ K ≤ k := ⟨k, Nat.le_refl k, Nat.le_refl k⟩
            refine AGr.canon (fun κ => cond (Nat.beq κ 212) 209 (cond (Nat.beq κ 213) 210 (κ))) (AGr.loopI (n := k) (fun k s => k ≤ K1 ∧ ∃ (x1 : List Int) (y212_0 : Int) (y212_1 : Int) (y212_2 : List S60) (y212_3 : List S91) (x7 : List (List Int)) (x8 : Int) (x9 : List (List Int)) (x10 : Int) (x11 : Int), spec_BestWays.l1 k x1 y212_0 y212_1 y212_2 y212_3 x7 x8 x9 x10 x11 = some (r0, r1, r2) ∧ s = St.of [(1, vR 2 (x1.map c2)), (2, .c (.ptr 212 0)), (7, vR 38 (x7.map c38)), (8, vI x8), (9, .c (.own 213 x9.length)), (10, vI x10), (11, vI x11)] [(212, .box 32 [.d (.v (.int .i64 y212_0)), .d (.v (.int .i64 y212_1)), .d (.row 61 (y212_2.map c60)), .d (.row 96 (y212_3.map c91))]), (213, .row 38 (x9.map c38))]) ⟨hK1, _, _, _, _, _, _, _, _, _, _, H, rfl⟩ ?_ ?_) ⟨rfl, rfl, rfl, rfl, (ownE rfl (by simp)), rfl, rfl, trivial⟩ ⟨rfl, rfl, trivial⟩ rfl
            ·rintro _ ⟨_, _, _, _, _, _, _, _, _, _, _, H, _⟩
             cases H
            ·clear H hK1
             rintro k ih1 _ ⟨hK1, x1, y212_0, y212_1, y212_2, y212_3, x7, x8, x9, x10, x11, H, rfl⟩
             unfold spec_BestWays.l1 at H
             refine AG.seq ?_
             refine AG.seq ?_
             refine AG.joinR (fun s => ∃ q, q ≤ k ∧ ∃ (x1 : List Int) (y226_0 : Int) (y226_1 : Int) (y226_2 : List S60) (y226_3 : List S91) (x7 : List (List Int)) (x8 : Int) (x9 : List (List Int)) (x10 : Int) (x11 : Int) (x60 : Bool), spec_BestWays.j1 q x1 y226_0 y226_1 y226_2 y226_3 x7 x8 x9 x10 x11 x60 = some (r0, r1, r2) ∧ s = St.of [(1, vR 2 (x1.map c2)), (2, .c (.ptr 226 0)), (7, vR 38 (x7.map c38)), (8, vI x8), (9, .c (.own 227 x9.length)), (10, vI x10), (11, vI x11), (60, vB x60)] [(226, .box 32 [.d (.v (.int .i64 y226_0)), .d (.v (.int .i64 y226_1)), .d (.row 61 (y226_2.map c60)), .d (.row 96 (y226_3.map c91))]), (227, .row 38 (x9.map c38))]) ?_ ?_
             ·skip
              refine AG.region HM ?_
              refine a_move (v := vI _) ?_
              refine a_int (u := .bool (decide (x11 < 2))) ?_
              refine a_move (v := vB _) ?_
              by_cases hc21 : x11 < 2
              ·rw [if_pos hc21] at H
               refine a_move (v := vI _) ?_ (hg := Gs.yes rfl rfl rfl (decide_eq_true hc21))
               refine a_move (v := vI _) ?_ (hg := Gs.yes rfl rfl rfl (decide_eq_true hc21))
               refine a_int (u := .int .i64 (wrap64 (x8 - 1))) ?_ (hg := Gs.yes rfl rfl rfl (decide_eq_true hc21))
               refine a_int (u := .bool (decide (x10 < (wrap64 (x8 - 1))))) ?_ (hg := Gs.yes rfl rfl rfl (decide_eq_true hc21))
               refine a_pick (b := true) (v := vB _) ?_ (decide_eq_true hc21)
               refine RA.nil nofun ?_
               exact CanR.mk (fun κ => cond (Nat.beq κ 226) 212 (cond (Nat.beq κ 227) 213 (κ))) ⟨_, (by omega), _, _, _, _, _, _, _, _, _, _, _, H, rfl⟩ ⟨rfl, rfl, rfl, rfl, rfl, rfl, rfl, rfl, trivial⟩ ⟨rfl, rfl, trivial⟩ rfl
              ·rw [if_neg hc21] at H
               refine RA.skip rfl rfl rfl rfl rfl (decide_eq_false hc21) (by decide) ?_
               refine RA.skip rfl rfl rfl rfl rfl (decide_eq_false hc21) (by decide) ?_
               refine RA.skip rfl rfl rfl rfl rfl (decide_eq_false hc21) (by decide) ?_
               refine RA.skip rfl rfl rfl rfl rfl (decide_eq_false hc21) (by decide) ?_
               refine a_pick (b := false) (v := vB _) ?_ (decide_eq_false hc21)
               refine RA.nil nofun ?_
               exact CanR.mk (fun κ => cond (Nat.beq κ 226) 212 (cond (Nat.beq κ 227) 213 (κ))) ⟨_, (by omega), _, _, _, _, _, _, _, _, _, _, _, H, rfl⟩ ⟨rfl, rfl, rfl, rfl, rfl, rfl, rfl, rfl, trivial⟩ ⟨rfl, rfl, trivial⟩ rfl
             ·clear H
              rintro _ ⟨k, hj1, x1, y226_0, y226_1, y226_2, y226_3, x7, x8, x9, x10, x11, x60, H, rfl⟩
              cases k with
              | zero => cases H
              | succ k =>
               rw [spec_BestWays.j1] at H
               by_cases hc22 : x60 = true
               ·rw [if_pos hc22] at H
                refine AG.yes rfl hc22 ?_
                refine AG.skip ?_
                refine AG.seq ?_
                refine AG.block ?_
                refine AG.seq ?_
                refine AG.region HM ?_
                refine a_move (v := vR _ _) ?_
                refine a_move (v := vR _ _) ?_
                refine a_move (v := vI _) ?_
                by_cases hc23 : 0 ≤ x10
                ·rw [if_pos hc23] at H
                 by_cases hc24 : x10 < (x1.length : Int)
                 ·rw [if_pos hc24] at H
                  refine a_ixR (el := c2 (rd2 x1 x10)) ?_ ⟨hc23, hc24⟩ T2 Try.underlying38 (hel := R2 hc23 hc24)
                  refine a_ldR (v := vI _) ?_ T2
                  by_cases hc25 : 0 ≤ (rd2 x1 x10)
                  ·rw [if_pos hc25] at H
                   by_cases hc26 : (rd2 x1 x10) < (x7.length : Int)
                   ·rw [if_pos hc26] at H
                    refine a_ixR (el := c38 (rd38 x7 (rd2 x1 x10))) ?_ ⟨hc25, hc26⟩ T38 Try.underlying56 (hel := R38 hc25 hc26)
                    refine a_ldR (v := vR _ _) ?_ T38
                    refine a_move (v := vI _) ?_
                    obtain ⟨⟨t27, t28, t29, t30⟩, e31, H⟩ := bindO H
                    refine a_call (v := .tup [.agg [.d (.v (.int .i64 t27)), .d (.v (.int .i64 t28))], .agg [.d (.v (.int .i64 t29)), .d (.v (.int .i64 t30))]]) (nk := []) (L := [(226, _)]) ?_ rfl (spec_l14Ends.ok e31) id (qc (rP (pD (pD (pD (pD p0))))) (qd (qd qn))) ⟨rfl, trivial⟩ trivial trivial rfl
                    refine a_move (v := .tup [_, _]) ?_
                    refine a_ext (v := .agg [_, _]) ?_
                    refine a_ext (v := .agg [_, _]) ?_
                    refine a_alloc (cs := [_, _]) 217 ?_ T61
                    refine a_alloc (cs := [_, _]) 218 ?_ T61
                    refine a_stB (cs' := [_, _]) ?_ T61
                    refine a_stB (cs' := [_, _]) ?_ T61
                    refine RA.nil nofun ?_
                    refine AG.seq ?_
                    refine AG.region HM ?_
                    refine a_move (v := vR _ _) ?_
                    refine a_move (v := vR _ _) ?_
                    refine a_move (v := vI _) ?_
                    refine a_int (u := .int .i64 (wrap64 (x10 + 1))) ?_
                    by_cases hc32 : 0 ≤ (wrap64 (x10 + 1))
                    ·rw [if_pos hc32] at H
                     by_cases hc33 : (wrap64 (x10 + 1)) < (x1.length : Int)
                     ·rw [if_pos hc33] at H
                      refine a_ixR (el := c2 (rd2 x1 (wrap64 (x10 + 1)))) ?_ ⟨hc32, hc33⟩ T2 Try.underlying38 (hel := R2 hc32 hc33)
                      refine a_ldR (v := vI _) ?_ T2
                      by_cases hc34 : 0 ≤ (rd2 x1 (wrap64 (x10 + 1)))
                      ·rw [if_pos hc34] at H
                       by_cases hc35 : (rd2 x1 (wrap64 (x10 + 1))) < (x7.length : Int)
                       ·rw [if_pos hc35] at H
                        refine a_ixR (el := c38 (rd38 x7 (rd2 x1 (wrap64 (x10 + 1))))) ?_ ⟨hc34, hc35⟩ T38 Try.underlying56 (hel := R38 hc34 hc35)
                        refine a_ldR (v := vR _ _) ?_ T38
                        obtain ⟨⟨t36, t37, t38, t39⟩, e40, H⟩ := bindO H
                        refine a_call (v := .tup [.agg [.d (.v (.int .i64 t36)), .d (.v (.int .i64 t37))], .agg [.d (.v (.int .i64 t38)), .d (.v (.int .i64 t39))]]) (nk := []) (L := [(226, _)]) ?_ rfl (spec_l14Ends.ok e40) id (qc (rP (pD (pD (pD (pD p0))))) (qd (qd qn))) ⟨rfl, trivial⟩ trivial trivial rfl
                        refine a_move (v := .tup [_, _]) ?_
                        refine a_ext (v := .agg [_, _]) ?_
                        refine a_ext (v := .agg [_, _]) ?_
                        refine a_alloc (cs := [_, _]) 220 ?_ T61
                        refine a_alloc (cs := [_, _]) 221 ?_ T61
                        refine a_stB (cs' := [_, _]) ?_ T61
                        refine a_stB (cs' := [_, _]) ?_ T61
                        refine RA.nil nofun ?_
                        refine AG.region HM ?_
                        refine a_move (v := .c (.own _ _)) ?_
                        refine a_move (v := vI _) ?_
                        by_cases hc41 : x10 < (x9.length : Int)
                        ·rw [if_pos hc41] at H
                         refine a_ixO ?_ ⟨hc23, hc41⟩ T38 Try.underlying56
                         refine a_ldE (v := .c (.sub _ _ _ _)) ?_ (G38 hc23 hc41) T38
                         refine a_move (v := vI _) ?_
                         refine a_ldB (v := .agg [_, _]) ?_ T61
                         refine a_ldB (v := .agg [_, _]) ?_ T61
                         obtain ⟨t42, e43, H⟩ := bindO H
                         refine a_call (v := vI t42) (nk := []) (L := []) ?_ rfl (spec_l02Apart.ok e43) id (qg (qg qn)) trivial trivial trivial rfl
                         refine a_move (v := .c (.own _ _)) ?_
                         refine a_move (v := vI _) ?_
                         refine a_int (u := .int .i64 (wrap64 (x10 + 1))) ?_
                         by_cases hc44 : (wrap64 (x10 + 1)) < (x9.length : Int)
                         ·rw [if_pos hc44] at H
                          refine a_ixO ?_ ⟨hc32, hc44⟩ T38 Try.underlying56
                          refine a_ldE (v := .c (.sub _ _ _ _)) ?_ (G38 hc32 hc44) T38
                          by_cases hc45 : 0 < ((rd38 x9 (wrap64 (x10 + 1))).length : Int)
                          ·rw [if_pos hc45] at H
                           refine a_ixS (iv := 0) (css1 := (rd38 x9 (wrap64 (x10 + 1))).map c2) ?_ ⟨(by decide), by rw [List.length_map]; exact hc45⟩ (G38 hc32 hc44) T2 Try.underlying38
                           refine a_ldS (l := (0 : Int).toNat) (off := 0) (v := vI _) ?_ (G38 hc32 hc44) (G2 (by decide) hc45) T2 T2 rfl
                           refine a_int (u := .int .i64 (wrap64 (t42 + (rd2 (rd38 x9 (wrap64 (x10 + 1))) 0)))) ?_
                           refine a_ldB (v := .agg [_, _]) ?_ T61
                           refine a_ldB (v := .agg [_, _]) ?_ T61
                           obtain ⟨t46, e47, H⟩ := bindO H
                           refine a_call (v := vI t46) (nk := []) (L := []) ?_ rfl (spec_l02Apart.ok e47) id (qg (qg qn)) trivial trivial trivial rfl
                           refine a_move (v := .c (.own _ _)) ?_
                           refine a_move (v := vI _) ?_
                           refine a_int (u := .int .i64 (wrap64 (x10 + 1))) ?_
                           refine a_ixO ?_ ⟨hc32, hc44⟩ T38 Try.underlying56
                           refine a_ldE (v := .c (.sub _ _ _ _)) ?_ (G38 hc32 hc44) T38
                           by_cases hc48 : 1 < ((rd38 x9 (wrap64 (x10 + 1))).length : Int)
                           ·rw [if_pos hc48] at H
                            refine a_ixS (iv := 1) (css1 := (rd38 x9 (wrap64 (x10 + 1))).map c2) ?_ ⟨(by decide), by rw [List.length_map]; exact hc48⟩ (G38 hc32 hc44) T2 Try.underlying38
                            refine a_ldS (l := (1 : Int).toNat) (off := 0) (v := vI _) ?_ (G38 hc32 hc44) (G2 (by decide) hc48) T2 T2 rfl
                            refine a_int (u := .int .i64 (wrap64 (t46 + (rd2 (rd38 x9 (wrap64 (x10 + 1))) 1)))) ?_
                            obtain ⟨t49, e50, H⟩ := bindO H
                            refine a_call (v := vI t49) (nk := []) (L := []) ?_ rfl (spec_l00Min.ok e50) id (qd (qd qn)) trivial trivial trivial rfl
                            by_cases hc51 : 0 ≤ x11
                            ·rw [if_pos hc51] at H
                             by_cases hc52 : x11 < ((rd38 x9 x10).length : Int)
                             ·rw [if_pos hc52] at H
                              refine a_ixS (iv := x11) (css1 := (rd38 x9 x10).map c2) ?_ ⟨hc51, by rw [List.length_map]; exact hc52⟩ (G38 hc23 hc41) T2 Try.underlying38
                              refine a_stS (css1 := (rd38 x9 x10).map c2) (css2 := (x9.set (x10 : Int).toNat ((rd38 x9 x10).set (x11 : Int).toNat t49)).map c38) (i := (x10 : Int).toNat) (j := 0) (l := (x11 : Int).toNat) (off := 0) (cs := c38 (rd38 x9 x10)) (cs2 := c2 (rd2 (rd38 x9 x10) x11)) (u := .int .i64 t49) ?_ (G38 hc23 hc41) (G2 hc51 hc52) (by simp [c2, isV, Value.oneCell']) T2 T2 (by exact set_in rfl rfl) rfl
                              refine RA.nil (fun _ => by kernel_rfl) ?_
                              refine AG.region HM ?_
                              refine a_move (v := vI _) ?_
                              refine a_int (u := .int .i64 (wrap64 (x11 + 1))) ?_
                              refine a_move (v := vI _) ?_
                              refine RA.nil nofun ?_
                              exact AGr.canon (fun κ => cond (Nat.beq κ 212) 226 (cond (Nat.beq κ 213) 227 (κ))) (ih1 _ (by omega) _ ⟨by omega, _, _, _, _, _, _, _, _, _, _, H, rfl⟩) ⟨rfl, rfl, rfl, rfl, (ownE rfl (by simp)), rfl, rfl, trivial⟩ ⟨rfl, rfl, trivial⟩ rfl
                             ·rw [if_neg hc52] at H
                              cases H
                            ·rw [if_neg hc51] at H
                             cases H
                           ·rw [if_neg hc48] at H
                            cases H
                          ·rw [if_neg hc45] at H
                           cases H
                         ·rw [if_neg hc44] at H
                          cases H
                        ·rw [if_neg hc41] at H
                         cases H
                       ·rw [if_neg hc35] at H
                        cases H
                      ·rw [if_neg hc34] at H
                       cases H
                     ·rw [if_neg hc33] at H
                      cases H
                    ·rw [if_neg hc32] at H
                     cases H
                   ·rw [if_neg hc26] at H
                    cases H
                  ·rw [if_neg hc25] at H
                   cases H
                 ·rw [if_neg hc24] at H
                  cases H
                ·rw [if_neg hc23] at H
                 cases H
               ·rw [if_neg hc22] at H
                refine AG.no rfl (Bool.eq_false_iff.2 hc22) ?_
                refine AG.exit ?_
                refine AG.region HM ?_
                refine a_move (v := vI _) ?_
                refine a_int (u := .int .i64 (wrap64 (x10 - 1))) ?_
                refine a_move (v := vI _) ?_
                refine RA.nil nofun ?_
                exact AGr.canon (fun κ => cond (Nat.beq κ 209) 226 (cond (Nat.beq κ 210) 227 (κ))) (ih0 _ (by omega) _ ⟨by omega, _, _, _, _, _, _, _, _, _, H, rfl⟩) ⟨rfl, rfl, rfl, rfl, rfl, rfl, trivial⟩ ⟨rfl, rfl, trivial⟩ rfl
           ·rw [if_neg hc19] at H
            cases H
          ·rw [if_neg hc18] at H
           cases H
         ·rw [if_neg hc16] at H
          refine AG.no rfl (decide_eq_false hc16) ?_
          refine AG.exit ?_
          exact CanR.mk (fun κ => cond (Nat.beq κ 225) 209 (cond (Nat.beq κ 215) 210 (κ))) ⟨_, (by omega), _, _, _, _, _, _, _, _, H, rfl⟩ ⟨rfl, rfl, rfl, rfl, rfl, trivial⟩ ⟨rfl, rfl, trivial⟩ rfl
       ·clear H
        rintro _ ⟨k, hj0, x1, y225_0, y225_1, y225_2, y225_3, x7, x8, x9, H, rfl⟩
        cases k with
        | zero => cases H
        | succ k =>
         rw [spec_BestWays.j0] at H
         refine AG.seq ?_
         refine AG.region HM ?_
         refine a_lit (cs := []) (D := []) (css := (([] : List Int) : List Int).map c2) 228 ?_ N38 T2 (hcss := by rfl)
         refine a_move (v := .c (.own _ _)) ?_
         refine RA.nil nofun ?_
         refine AG.seq ?_
         refine AG.seq ?_
         refine AG.region HM ?_
         refine a_move (v := vI _) ?_
         refine RA.nil nofun ?_
         refine AG.block ?_
         refine AG.loop ?_
         obtain ⟨K2, hK2, gK2⟩ : ∃ K, k ≤ K ∧ K ≤ k := ⟨k, Nat.le_refl k, Nat.le_refl k⟩
         refine AGr.canon (fun κ => cond (Nat.beq κ 229) 225 (cond (Nat.beq κ 230) 215 (cond (Nat.beq κ 231) 228 (κ)))) (AGr.loopI (n := k) (fun k s => k ≤ K2 ∧ ∃ (x1 : List Int) (y229_0 : Int) (y229_1 : Int) (y229_2 : List S60) (y229_3 : List S91) (x7 : List (List Int)) (x8 : Int) (x9 : List (List Int)) (x16 : List Int) (x17 : Int), spec_BestWays.l2 k x1 y229_0 y229_1 y229_2 y229_3 x7 x8 x9 x16 x17 = some (r0, r1, r2) ∧ s = St.of [(1, vR 2 (x1.map c2)), (2, .c (.ptr 229 0)), (7, vR 38 (x7.map c38)), (8, vI x8), (9, .c (.own 230 x9.length)), (16, .c (.own 231 x16.length)), (17, vI x17)] [(229, .box 32 [.d (.v (.int .i64 y229_0)), .d (.v (.int .i64 y229_1)), .d (.row 61 (y229_2.map c60)), .d (.row 96 (y229_3.map c91))]), (230, .row 38 (x9.map c38)), (231, .row 2 (x16.map c2))]) ⟨hK2, _, _, _, _, _, _, _, _, _, _, H, rfl⟩ ?_ ?_) ⟨rfl, rfl, rfl, rfl, rfl, (ownE rfl (by simp)), rfl, trivial⟩ ⟨rfl, rfl, rfl, trivial⟩ rfl
         ·rintro _ ⟨_, _, _, _, _, _, _, _, _, _, _, H, _⟩
          cases H
         ·clear H hK2
          rintro k ih2 _ ⟨hK2, x1, y229_0, y229_1, y229_2, y229_3, x7, x8, x9, x16, x17, H, rfl⟩
          unfold spec_BestWays.l2 at H
          refine AG.seq ?_
          refine AG.seq ?_
          refine AG.region HM ?_
          refine a_move (v := vI _) ?_
          refine a_move (v := vI _) ?_
          refine a_int (u := .bool (decide (x17 < x8))) ?_
          refine RA.nil nofun ?_
          by_cases hc55 : x17 < x8
          ·rw [if_pos hc55] at H
           refine AG.yes rfl (decide_eq_true hc55) ?_
           refine AG.skip ?_
           refine AG.seq ?_
           refine AG.block ?_
           refine AG.seq ?_
           refine AG.region HM ?_
           refine a_move (v := vI _) ?_
           refine RA.nil nofun ?_
           refine AG.seq ?_
           refine AG.region HM ?_
           refine a_move (v := vI _) ?_
           refine RA.nil nofun ?_
           refine AG.seq ?_
           refine AG.seq ?_
           refine AG.region HM ?_
           refine a_move (v := vI _) ?_
           refine RA.nil nofun ?_
           refine AG.block ?_
           refine AG.loop ?_
           obtain ⟨K3, hK3, gK3⟩ : ∃ K, k ≤ K ∧ K ≤ k := ⟨k, Nat.le_refl k, Nat.le_refl k⟩
           refine AGr.canon (fun κ => cond (Nat.beq κ 233) 229 (cond (Nat.beq κ 234) 230 (cond (Nat.beq κ 235) 231 (κ)))) (AGr.loopI (n := k) (fun k s => k ≤ K3 ∧ ∃ (x1 : List Int) (y233_0 : Int) (y233_1 : Int) (y233_2 : List S60) (y233_3 : List S91) (x7 : List (List Int)) (x8 : Int) (x9 : List (List Int)) (x16 : List Int) (x17 : Int) (x18 : Int) (x19 : Int) (x20 : Int), spec_BestWays.l3 k x1 y233_0 y233_1 y233_2 y233_3 x7 x8 x9 x16 x17 x18 x19 x20 = some (r0, r1, r2) ∧ s = St.of [(1, vR 2 (x1.map c2)), (2, .c (.ptr 233 0)), (7, vR 38 (x7.map c38)), (8, vI x8), (9, .c (.own 234 x9.length)), (16, .c (.own 235 x16.length)), (17, vI x17), (18, vI x18), (19, vI x19), (20, vI x20)] [(233, .box 32 [.d (.v (.int .i64 y233_0)), .d (.v (.int .i64 y233_1)), .d (.row 61 (y233_2.map c60)), .d (.row 96 (y233_3.map c91))]), (234, .row 38 (x9.map c38)), (235, .row 2 (x16.map c2))]) ⟨hK3, _, _, _, _, _, _, _, _, _, _, _, _, _, H, rfl⟩ ?_ ?_) ⟨rfl, rfl, rfl, rfl, rfl, rfl, rfl, rfl, rfl, rfl, trivial⟩ ⟨rfl, rfl, rfl, trivial⟩ rfl
           ·rintro _ ⟨_, _, _, _, _, _, _, _, _, _, _, _, _, _, H, _⟩
            cases H
           ·clear H hK3
            rintro k ih3 _ ⟨hK3, x1, y233_0, y233_1, y233_2, y233_3, x7, x8, x9, x16, x17, x18, x19, x20, H, rfl⟩
            unfold spec_BestWays.l3 at H
            refine AG.seq ?_
            refine AG.seq ?_
            refine AG.region HM ?_
            refine a_move (v := vI _) ?_
            refine a_int (u := .bool (decide (x20 < 2))) ?_
            refine RA.nil nofun ?_
            by_cases hc56 : x20 < 2
            ·rw [if_pos hc56] at H
             refine AG.yes rfl (decide_eq_true hc56) ?_
             refine AG.skip ?_
             refine AG.seq ?_
             refine AG.block ?_
             refine AG.seq ?_
             refine AG.region HM ?_
             refine a_move (v := .c (.own _ _)) ?_
             refine a_move (v := vI _) ?_
             by_cases hc57 : 0 ≤ x17
             ·rw [if_pos hc57] at H
              by_cases hc58 : x17 < (x9.length : Int)
              ·rw [if_pos hc58] at H
               refine a_ixO ?_ ⟨hc57, hc58⟩ T38 Try.underlying56
               refine a_ldE (v := .c (.sub _ _ _ _)) ?_ (G38 hc57 hc58) T38
               refine a_move (v := vI _) ?_
               by_cases hc59 : 0 ≤ x20
               ·rw [if_pos hc59] at H
                by_cases hc60 : x20 < ((rd38 x9 x17).length : Int)
                ·rw [if_pos hc60] at H
                 refine a_ixS (iv := x20) (css1 := (rd38 x9 x17).map c2) ?_ ⟨hc59, by rw [List.length_map]; exact hc60⟩ (G38 hc57 hc58) T2 Try.underlying38
                 refine a_ldS (l := (x20 : Int).toNat) (off := 0) (v := vI _) ?_ (G38 hc57 hc58) (G2 hc59 hc60) T2 T2 rfl
                 refine a_move (v := vI _) ?_
                 refine RA.nil nofun ?_
                 refine AG.seq ?_
                 refine AG.seq ?_
                 refine AG.region HM ?_
                 refine a_move (v := vI _) ?_
                 refine a_int (u := .bool (decide (x17 > 0))) ?_
                 refine RA.nil nofun ?_
                 by_cases hc61 : x17 > 0
                 ·rw [if_pos hc61] at H
                  refine AG.yes rfl (decide_eq_true hc61) ?_
                  refine AG.seq ?_
                  refine AG.region HM ?_
                  refine a_move (v := vR _ _) ?_
                  refine a_move (v := vR _ _) ?_
                  refine a_move (v := vI _) ?_
                  refine a_int (u := .int .i64 (wrap64 (x17 - 1))) ?_
                  by_cases hc62 : 0 ≤ (wrap64 (x17 - 1))
                  ·rw [if_pos hc62] at H
                   by_cases hc63 : (wrap64 (x17 - 1)) < (x1.length : Int)
                   ·rw [if_pos hc63] at H
                    refine a_ixR (el := c2 (rd2 x1 (wrap64 (x17 - 1)))) ?_ ⟨hc62, hc63⟩ T2 Try.underlying38 (hel := R2 hc62 hc63)
                    refine a_ldR (v := vI _) ?_ T2
                    by_cases hc64 : 0 ≤ (rd2 x1 (wrap64 (x17 - 1)))
                    ·rw [if_pos hc64] at H
                     by_cases hc65 : (rd2 x1 (wrap64 (x17 - 1))) < (x7.length : Int)
                     ·rw [if_pos hc65] at H
                      refine a_ixR (el := c38 (rd38 x7 (rd2 x1 (wrap64 (x17 - 1))))) ?_ ⟨hc64, hc65⟩ T38 Try.underlying56 (hel := R38 hc64 hc65)
                      refine a_ldR (v := vR _ _) ?_ T38
                      refine a_move (v := .c (.own _ _)) ?_
                      refine a_move (v := vI _) ?_
                      refine a_int (u := .int .i64 (wrap64 (x17 - 1))) ?_
                      by_cases hc66 : (wrap64 (x17 - 1)) < (x16.length : Int)
                      ·rw [if_pos hc66] at H
                       refine a_ixO ?_ ⟨hc62, hc66⟩ T2 Try.underlying38
                       refine a_ldE (v := vI _) ?_ (G2 hc62 hc66) T2
                       obtain ⟨⟨t67, t68, t69, t70⟩, e71, H⟩ := bindO H
                       refine a_call (v := .tup [.agg [.d (.v (.int .i64 t67)), .d (.v (.int .i64 t68))], .agg [.d (.v (.int .i64 t69)), .d (.v (.int .i64 t70))]]) (nk := []) (L := [(233, _)]) ?_ rfl (spec_l14Ends.ok e71) id (qc (rP (pD (pD (pD (pD p0))))) (qd (qd qn))) ⟨rfl, trivial⟩ trivial trivial rfl
                       refine a_move (v := .tup [_, _]) ?_
                       refine a_ext (v := .agg [_, _]) ?_
                       refine a_ext (v := .agg [_, _]) ?_
                       refine a_alloc (cs := [_, _]) 238 ?_ T61
                       refine a_alloc (cs := [_, _]) 239 ?_ T61
                       refine a_stB (cs' := [_, _]) ?_ T61
                       refine a_stB (cs' := [_, _]) ?_ T61
                       refine RA.nil (fun _ => by kernel_rfl) ?_
                       refine AG.seq ?_
                       refine AG.region HM ?_
                       refine a_move (v := vR _ _) ?_
                       refine a_move (v := vR _ _) ?_
                       refine a_move (v := vI _) ?_
                       by_cases hc72 : x17 < (x1.length : Int)
                       ·rw [if_pos hc72] at H
                        refine a_ixR (el := c2 (rd2 x1 x17)) ?_ ⟨hc57, hc72⟩ T2 Try.underlying38 (hel := R2 hc57 hc72)
                        refine a_ldR (v := vI _) ?_ T2
                        by_cases hc73 : 0 ≤ (rd2 x1 x17)
                        ·rw [if_pos hc73] at H
                         by_cases hc74 : (rd2 x1 x17) < (x7.length : Int)
                         ·rw [if_pos hc74] at H
                          refine a_ixR (el := c38 (rd38 x7 (rd2 x1 x17))) ?_ ⟨hc73, hc74⟩ T38 Try.underlying56 (hel := R38 hc73 hc74)
                          refine a_ldR (v := vR _ _) ?_ T38
                          refine a_move (v := vI _) ?_
                          obtain ⟨⟨t75, t76, t77, t78⟩, e79, H⟩ := bindO H
                          refine a_call (v := .tup [.agg [.d (.v (.int .i64 t75)), .d (.v (.int .i64 t76))], .agg [.d (.v (.int .i64 t77)), .d (.v (.int .i64 t78))]]) (nk := []) (L := [(233, _)]) ?_ rfl (spec_l14Ends.ok e79) id (qc (rP (pD (pD (pD (pD p0))))) (qd (qd qn))) ⟨rfl, trivial⟩ trivial trivial rfl
                          refine a_move (v := .tup [_, _]) ?_
                          refine a_ext (v := .agg [_, _]) ?_
                          refine a_ext (v := .agg [_, _]) ?_
                          refine a_alloc (cs := [_, _]) 241 ?_ T61
                          refine a_alloc (cs := [_, _]) 242 ?_ T61
                          refine a_stB (cs' := [_, _]) ?_ T61
                          refine a_stB (cs' := [_, _]) ?_ T61
                          refine RA.nil nofun ?_
                          refine AG.region HM ?_
                          refine a_move (v := vI _) ?_
                          refine a_ldB (v := .agg [_, _]) ?_ T61
                          refine a_ldB (v := .agg [_, _]) ?_ T61
                          obtain ⟨t80, e81, H⟩ := bindO H
                          refine a_call (v := vI t80) (nk := []) (L := []) ?_ rfl (spec_l02Apart.ok e81) id (qg (qg qn)) trivial trivial trivial rfl
                          refine a_int (u := .int .i64 (wrap64 ((rd2 (rd38 x9 x17) x20) + t80))) ?_
                          refine a_move (v := vI _) ?_
                          refine RA.nil nofun ?_
                          refine AG.seq ?_
                          refine AG.region HM ?_
                          refine a_move (v := vI _) ?_
                          refine a_int (u := .bool (decide (x19 < 0))) ?_
                          refine a_move (v := vB _) ?_
                          by_cases hc82 : x19 < 0
                          ·rw [if_pos hc82] at H
                           refine RA.skip rfl rfl rfl rfl rfl (decide_eq_true hc82) (by decide) ?_
                           refine RA.skip rfl rfl rfl rfl rfl (decide_eq_true hc82) (by decide) ?_
                           refine RA.skip rfl rfl rfl rfl rfl (decide_eq_true hc82) (by decide) ?_
                           refine a_pick (b := true) (v := vB _) ?_ (decide_eq_true hc82)
                           refine RA.nil nofun ?_
                           refine AG.yes rfl rfl ?_
                           refine AG.seq ?_
                           refine AG.region HM ?_
                           refine a_move (v := vI _) ?_
                           refine a_move (v := vI _) ?_
                           refine RA.nil nofun ?_
                           refine AG.region HM ?_
                           refine a_move (v := vI _) ?_
                           refine a_move (v := vI _) ?_
                           refine RA.nil nofun ?_
                           refine AG.region HM ?_
                           refine a_move (v := vI _) ?_
                           refine a_int (u := .int .i64 (wrap64 (x20 + 1))) ?_
                           refine a_move (v := vI _) ?_
                           refine RA.nil nofun ?_
                           exact AGr.canon id (ih3 _ (by omega) _ ⟨by omega, _, _, _, _, _, _, _, _, _, _, _, _, _, H, rfl⟩) ⟨rfl, rfl, rfl, rfl, rfl, rfl, rfl, rfl, rfl, rfl, trivial⟩ ⟨rfl, rfl, rfl, trivial⟩ rfl
                          ·rw [if_neg hc82] at H
                           refine a_move (v := vI _) ?_ (hg := Gs.yes rfl rfl rfl (decide_eq_false hc82))
                           refine a_move (v := vI _) ?_ (hg := Gs.yes rfl rfl rfl (decide_eq_false hc82))
                           refine a_int (u := .bool (decide ((wrap64 ((rd2 (rd38 x9 x17) x20) + t80)) < x19))) ?_ (hg := Gs.yes rfl rfl rfl (decide_eq_false hc82))
                           refine a_pick (b := false) (v := vB _) ?_ (decide_eq_false hc82)
                           refine RA.nil nofun ?_
                           by_cases hc83 : (wrap64 ((rd2 (rd38 x9 x17) x20) + t80)) < x19
                           ·rw [if_pos hc83] at H
                            refine AG.yes rfl (decide_eq_true hc83) ?_
                            refine AG.seq ?_
                            refine AG.region HM ?_
                            refine a_move (v := vI _) ?_
                            refine a_move (v := vI _) ?_
                            refine RA.nil nofun ?_
                            refine AG.region HM ?_
                            refine a_move (v := vI _) ?_
                            refine a_move (v := vI _) ?_
                            refine RA.nil nofun ?_
                            refine AG.region HM ?_
                            refine a_move (v := vI _) ?_
                            refine a_int (u := .int .i64 (wrap64 (x20 + 1))) ?_
                            refine a_move (v := vI _) ?_
                            refine RA.nil nofun ?_
                            exact AGr.canon id (ih3 _ (by omega) _ ⟨by omega, _, _, _, _, _, _, _, _, _, _, _, _, _, H, rfl⟩) ⟨rfl, rfl, rfl, rfl, rfl, rfl, rfl, rfl, rfl, rfl, trivial⟩ ⟨rfl, rfl, rfl, trivial⟩ rfl
                           ·rw [if_neg hc83] at H
                            refine AG.no rfl (decide_eq_false hc83) ?_
                            refine AG.skip ?_
                            refine AG.region HM ?_
                            refine a_move (v := vI _) ?_
                            refine a_int (u := .int .i64 (wrap64 (x20 + 1))) ?_
                            refine a_move (v := vI _) ?_
                            refine RA.nil nofun ?_
                            exact AGr.canon id (ih3 _ (by omega) _ ⟨by omega, _, _, _, _, _, _, _, _, _, _, _, _, _, H, rfl⟩) ⟨rfl, rfl, rfl, rfl, rfl, rfl, rfl, rfl, rfl, rfl, trivial⟩ ⟨rfl, rfl, rfl, trivial⟩ rfl
                         ·rw [if_neg hc74] at H
                          cases H
                        ·rw [if_neg hc73] at H
                         cases H
                       ·rw [if_neg hc72] at H
                        cases H
                      ·rw [if_neg hc66] at H
                       cases H
                     ·rw [if_neg hc65] at H
                      cases H
                    ·rw [if_neg hc64] at H
                     cases H
                   ·rw [if_neg hc63] at H
                    cases H
                  ·rw [if_neg hc62] at H
                   cases H
                 ·rw [if_neg hc61] at H
                  refine AG.no rfl (decide_eq_false hc61) ?_
                  refine AG.skip ?_
                  refine AG.seq ?_
                  refine AG.region HM ?_
                  refine a_move (v := vI _) ?_
                  refine a_int (u := .bool (decide (x19 < 0))) ?_
                  refine a_move (v := vB _) ?_
                  by_cases hc84 : x19 < 0
                  ·rw [if_pos hc84] at H
                   refine RA.skip rfl rfl rfl rfl rfl (decide_eq_true hc84) (by decide) ?_
                   refine RA.skip rfl rfl rfl rfl rfl (decide_eq_true hc84) (by decide) ?_
                   refine RA.skip rfl rfl rfl rfl rfl (decide_eq_true hc84) (by decide) ?_
                   refine a_pick (b := true) (v := vB _) ?_ (decide_eq_true hc84)
                   refine RA.nil nofun ?_
                   refine AG.yes rfl rfl ?_
                   refine AG.seq ?_
                   refine AG.region HM ?_
                   refine a_move (v := vI _) ?_
                   refine a_move (v := vI _) ?_
                   refine RA.nil nofun ?_
                   refine AG.region HM ?_
                   refine a_move (v := vI _) ?_
                   refine a_move (v := vI _) ?_
                   refine RA.nil nofun ?_
                   refine AG.region HM ?_
                   refine a_move (v := vI _) ?_
                   refine a_int (u := .int .i64 (wrap64 (x20 + 1))) ?_
                   refine a_move (v := vI _) ?_
                   refine RA.nil nofun ?_
                   exact AGr.canon id (ih3 _ (by omega) _ ⟨by omega, _, _, _, _, _, _, _, _, _, _, _, _, _, H, rfl⟩) ⟨rfl, rfl, rfl, rfl, rfl, rfl, rfl, rfl, rfl, rfl, trivial⟩ ⟨rfl, rfl, rfl, trivial⟩ rfl
                  ·rw [if_neg hc84] at H
                   refine a_move (v := vI _) ?_ (hg := Gs.yes rfl rfl rfl (decide_eq_false hc84))
                   refine a_move (v := vI _) ?_ (hg := Gs.yes rfl rfl rfl (decide_eq_false hc84))
                   refine a_int (u := .bool (decide ((rd2 (rd38 x9 x17) x20) < x19))) ?_ (hg := Gs.yes rfl rfl rfl (decide_eq_false hc84))
                   refine a_pick (b := false) (v := vB _) ?_ (decide_eq_false hc84)
                   refine RA.nil nofun ?_
                   by_cases hc85 : (rd2 (rd38 x9 x17) x20) < x19
                   ·rw [if_pos hc85] at H
                    refine AG.yes rfl (decide_eq_true hc85) ?_
                    refine AG.seq ?_
                    refine AG.region HM ?_
                    refine a_move (v := vI _) ?_
                    refine a_move (v := vI _) ?_
                    refine RA.nil nofun ?_
                    refine AG.region HM ?_
                    refine a_move (v := vI _) ?_
                    refine a_move (v := vI _) ?_
                    refine RA.nil nofun ?_
                    refine AG.region HM ?_
                    refine a_move (v := vI _) ?_
                    refine a_int (u := .int .i64 (wrap64 (x20 + 1))) ?_
                    refine a_move (v := vI _) ?_
                    refine RA.nil nofun ?_
                    exact AGr.canon id (ih3 _ (by omega) _ ⟨by omega, _, _, _, _, _, _, _, _, _, _, _, _, _, H, rfl⟩) ⟨rfl, rfl, rfl, rfl, rfl, rfl, rfl, rfl, rfl, rfl, trivial⟩ ⟨rfl, rfl, rfl, trivial⟩ rfl
                   ·rw [if_neg hc85] at H
                    refine AG.no rfl (decide_eq_false hc85) ?_
                    refine AG.skip ?_
                    refine AG.region HM ?_
                    refine a_move (v := vI _) ?_
                    refine a_int (u := .int .i64 (wrap64 (x20 + 1))) ?_
                    refine a_move (v := vI _) ?_
                    refine RA.nil nofun ?_
                    exact AGr.canon id (ih3 _ (by omega) _ ⟨by omega, _, _, _, _, _, _, _, _, _, _, _, _, _, H, rfl⟩) ⟨rfl, rfl, rfl, rfl, rfl, rfl, rfl, rfl, rfl, rfl, trivial⟩ ⟨rfl, rfl, rfl, trivial⟩ rfl
                ·rw [if_neg hc60] at H
                 cases H
               ·rw [if_neg hc59] at H
                cases H
              ·rw [if_neg hc58] at H
               cases H
             ·rw [if_neg hc57] at H
              cases H
            ·rw [if_neg hc56] at H
             refine AG.no rfl (decide_eq_false hc56) ?_
             refine AG.exit ?_
             refine AG.region HM ?_
             refine a_move (v := .c (.own _ _)) ?_
             refine a_move (v := vI _) ?_
             refine a_lit (cs := [_]) (D := []) (css := ([x18]).map c2) 236 ?_ N38 T2
             by_cases hc86 : x16.length < 17592186044416
             ·rw [if_pos hc86] at H
              refine a_appO (css' := (x16 ++ [x18]).map c2) (n' := (x16 ++ [x18]).length) ?_ T2 (by simp [maxLen]; omega) (by simp; omega) Try.underlying38 (hc := by exact List.map_append.symm) (hn := by exact List.length_map _)
              refine a_move (v := .c (.own _ _)) ?_
              refine RA.nil nofun ?_
              refine AG.region HM ?_
              refine a_move (v := vI _) ?_
              refine a_int (u := .int .i64 (wrap64 (x17 + 1))) ?_
              refine a_move (v := vI _) ?_
              refine RA.nil nofun ?_
              exact AGr.canon (fun κ => cond (Nat.beq κ 229) 233 (cond (Nat.beq κ 230) 234 (cond (Nat.beq κ 231) 235 (κ)))) (ih2 _ (by omega) _ ⟨by omega, _, _, _, _, _, _, _, _, _, _, H, rfl⟩) ⟨rfl, rfl, rfl, rfl, rfl, rfl, rfl, trivial⟩ ⟨rfl, rfl, rfl, trivial⟩ rfl
             ·rw [if_neg hc86] at H
              cases H
          ·rw [if_neg hc55] at H
           refine AG.no rfl (decide_eq_false hc55) ?_
           refine AG.exit ?_
           refine AG.seq ?_
           refine AG.region HM ?_
           refine a_move (v := .c (.own _ _)) ?_
           refine a_move (v := vR _ _) ?_
           refine a_move (v := vR _ _) ?_
           refine a_move (v := .c (.own _ _)) ?_
           obtain ⟨t88, e89, H⟩ := bindO H
           refine a_call (v := vI t88) (nk := []) (L := [(229, _), (231, _)]) ?_ rfl (spec_l14Air.ok e89) id (qc (rP (pD (pD (pD (pD p0))))) (qd (qd (qc rO qn)))) ⟨rfl, rfl, trivial⟩ trivial trivial rfl
           refine a_move (v := .c (.own _ _)) ?_
           refine a_move (v := vI _) ?_
           refine a_move (v := vI _) ?_
           refine RA.nil nofun ?_
           refine AG.ret ?_
           simp only [Option.some.injEq, Prod.mk.injEq] at H
           obtain ⟨rfl, rfl, rfl⟩ := H
           exact RetP.mk (fun κ => cond (Nat.beq κ 100) 231 (κ)) ⟨rfl, rfl, rfl, trivial⟩ ⟨rfl, trivial⟩ rfl
      ·rw [if_neg hc14] at H
       cases H
     ·rw [if_neg hc13] at H
      cases H
    ·rw [if_neg hc10] at H
     cases H
   ·rw [if_neg hc9] at H
    cases H
  ·rw [if_neg hc8] at H
   refine AG.yes rfl (congrArg Bool.not (Bool.eq_false_iff.2 hc8)) ?_
   refine AG.seq ?_
   refine AG.region HM ?_
   refine a_nilO (e := 2) 206 ?_ T2
   refine a_move (v := vI _) ?_
   refine a_move (v := vI _) ?_
   refine RA.nil nofun ?_
   refine AG.ret ?_
   simp only [Option.some.injEq, Prod.mk.injEq] at H
   obtain ⟨rfl, rfl, rfl⟩ := H
   exact RetP.mk (fun κ => cond (Nat.beq κ 100) 206 (κ)) ⟨(ownE rfl (by simp)), rfl, rfl, trivial⟩ ⟨rfl, trivial⟩ rfl
 ·rw [if_neg hc3] at H
  refine AG.yes rfl (congrArg Bool.not (Bool.eq_false_iff.2 hc3)) ?_
  refine AG.seq ?_
  refine AG.region HM ?_
  refine a_nilO (e := 2) 203 ?_ T2
  refine a_move (v := vI _) ?_
  refine a_move (v := vI _) ?_
  refine RA.nil nofun ?_
  refine AG.ret ?_
  simp only [Option.some.injEq, Prod.mk.injEq] at H
  obtain ⟨rfl, rfl, rfl⟩ := H
  exact RetP.mk (fun κ => cond (Nat.beq κ 100) 203 (κ)) ⟨(ownE rfl (by simp)), rfl, rfl, trivial⟩ ⟨rfl, trivial⟩ rfl
/-! ### impl_within: function 52 -/
def impl_within.f (a0 : Int) (a1 : Int) (a2 : Int) : Option (Bool) := if a0 ≥ a1 then (some (decide (a0 ≤ a2))) else (some false)
set_option maxRecDepth 100000 in
theorem impl_within.ok {a0 : Int} {a1 : Int} {a2 : Int} {r : Bool} (H : impl_within.f a0 a1 a2 = some r) : OkF Try.prog 52 [vI a0, vI a1, vI a2] [] (.c (.d (.v (.bool r)))) [] := by
 unfold impl_within.f at H
 refine OkF.of (N := 15) (rs := [6]) (avs := [.c (.d (.v (.bool r)))]) Try.func52 rfl rfl (fun _ _ => results_tmp rfl _ _ _) (by decide) rfl rfl rfl rfl (fun w0 S => ?_)
 refine AG.seq ?_
 refine AG.region HM ?_
 refine a_move (v := vB _) ?_
 refine RA.nil nofun ?_
 refine AG.seq ?_
 refine AG.region HM ?_
 refine a_move (v := vI _) ?_
 refine a_move (v := vI _) ?_
 refine a_int (u := .bool (decide (a0 ≥ a1))) ?_
 refine a_move (v := vB _) ?_
 by_cases hc1 : a0 ≥ a1
 ·rw [if_pos hc1] at H
  refine a_move (v := vI _) ?_ (hg := Gs.yes rfl rfl rfl (decide_eq_true hc1))
  refine a_move (v := vI _) ?_ (hg := Gs.yes rfl rfl rfl (decide_eq_true hc1))
  refine a_int (u := .bool (decide (a0 ≤ a2))) ?_ (hg := Gs.yes rfl rfl rfl (decide_eq_true hc1))
  refine a_pick (b := true) (v := vB _) ?_ (decide_eq_true hc1)
  refine a_move (v := vB _) ?_
  refine RA.nil nofun ?_
  refine AG.ret ?_
  obtain rfl := Option.some.inj H
  exact RetP.mk id ⟨rfl, trivial⟩ trivial rfl
 ·rw [if_neg hc1] at H
  refine RA.skip rfl rfl rfl rfl rfl (decide_eq_false hc1) (by decide) ?_
  refine RA.skip rfl rfl rfl rfl rfl (decide_eq_false hc1) (by decide) ?_
  refine RA.skip rfl rfl rfl rfl rfl (decide_eq_false hc1) (by decide) ?_
  refine a_pick (b := false) (v := vB _) ?_ (decide_eq_false hc1)
  refine a_move (v := vB _) ?_
  refine RA.nil nofun ?_
  refine AG.ret ?_
  obtain rfl := Option.some.inj H
  exact RetP.mk id ⟨rfl, trivial⟩ trivial rfl
/-! ### slices_Index_impl_Point: function 113 -/
def slices_Index_impl_Point.l0 : Nat → List S60 → Int → Int → Int → Int → Option (Int)
 | 0, _, _, _, _, _ => none
 | k + 1, x0, y201_0, y201_1, x7, x8 => if x8 < x7 then (if 0 ≤ x8 then (if x8 < (x0.length : Int) then (if (y201_0 == ((rd60 x0 x8).f0) && (y201_1 == ((rd60 x0 x8).f1))) = true then (some x8) else (slices_Index_impl_Point.l0 k x0 y201_0 y201_1 x7 (wrap64 (x8 + 1)))) else (none)) else (none)) else (some (-1))
def slices_Index_impl_Point.f (k : Nat) (l0 : List S60) (a1_0 : Int) (a1_1 : Int) : Option (Int) := slices_Index_impl_Point.l0 k l0 a1_0 a1_1 (l0.length : Int) 0
set_option maxRecDepth 100000 in
theorem slices_Index_impl_Point.ok {k : Nat} {l0 : List S60} {a1_0 : Int} {a1_1 : Int} {r : Int} (H : slices_Index_impl_Point.f k l0 a1_0 a1_1 = some r) : OkF Try.prog 113 [vR 61 (l0.map c60), .agg [.d (.v (.int .i64 a1_0)), .d (.v (.int .i64 a1_1))]] [] (.c (.d (.v (.int .i64 r)))) [] := by
 unfold slices_Index_impl_Point.f at H
 refine OkF.of (N := 19) (rs := [4]) (avs := [.c (.d (.v (.int .i64 r)))]) Try.func113 rfl rfl (fun _ _ => results_tmp rfl _ _ _) (by decide) rfl rfl rfl rfl (fun w0 S => ?_)
 refine AG.seq ?_
 refine AG.region HM ?_
 refine a_box 200 ?_
 refine a_move (v := vI _) ?_
 refine RA.nil nofun ?_
 refine AG.seq ?_
 refine AG.seq ?_
 refine AG.region HM ?_
 refine a_move (v := vR _ _) ?_
 refine a_lenR ?_ Try.underlying29
 refine a_move (v := vI _) ?_
 refine RA.nil nofun ?_
 refine AG.block ?_
 refine AG.loop ?_
 obtain ⟨K0, hK0, gK0⟩ : ∃ K, k ≤ K ∧ K ≤ k := ⟨k, Nat.le_refl k, Nat.le_refl k⟩
 refine AGr.canon (fun κ => cond (Nat.beq κ 201) 200 (κ)) (AGr.loopI (n := k) (fun k s => k ≤ K0 ∧ ∃ (x0 : List S60) (y201_0 : Int) (y201_1 : Int) (x7 : Int) (x8 : Int), slices_Index_impl_Point.l0 k x0 y201_0 y201_1 x7 x8 = some r ∧ s = St.of [(0, vR 61 (x0.map c60)), (3, .c (.ptr 201 0)), (7, vI x7), (8, vI x8)] [(201, .box 61 [.d (.v (.int .i64 y201_0)), .d (.v (.int .i64 y201_1))])]) ⟨hK0, _, _, _, _, _, H, rfl⟩ ?_ ?_) ⟨rfl, rfl, rfl, rfl, trivial⟩ ⟨rfl, trivial⟩ rfl
 ·rintro _ ⟨_, _, _, _, _, _, H, _⟩
  cases H
 ·clear H hK0
  rintro k ih0 _ ⟨hK0, x0, y201_0, y201_1, x7, x8, H, rfl⟩
  unfold slices_Index_impl_Point.l0 at H
  refine AG.seq ?_
  refine AG.region HM ?_
  refine a_int (u := .bool (decide (x8 < x7))) ?_
  refine RA.nil nofun ?_
  refine AG.seq ?_
  by_cases hc1 : x8 < x7
  ·rw [if_pos hc1] at H
   refine AG.yes rfl (decide_eq_true hc1) ?_
   refine AG.skip ?_
   refine AG.seq ?_
   refine AG.block ?_
   refine AG.seq ?_
   refine AG.region HM ?_
   refine a_move (v := vI _) ?_
   refine a_move (v := vI _) ?_
   refine RA.nil nofun ?_
   refine AG.seq ?_
   refine AG.region HM ?_
   refine a_ldB (v := .agg [_, _]) ?_ T61
   refine a_move (v := vR _ _) ?_
   refine a_move (v := vI _) ?_
   by_cases hc2 : 0 ≤ x8
   ·rw [if_pos hc2] at H
    by_cases hc3 : x8 < (x0.length : Int)
    ·rw [if_pos hc3] at H
     refine a_ixR (el := c60 (rd60 x0 x8)) ?_ ⟨hc2, hc3⟩ T61 Try.underlying29 (hel := R60 hc2 hc3)
     refine a_ldR (v := .agg [_, _]) ?_ T61
     refine a_eqS (b := (y201_0 == ((rd60 x0 x8).f0) && (y201_1 == ((rd60 x0 x8).f1)))) ?_ (.inl ⟨rfl, rfl⟩) (Q61 y201_0 ((rd60 x0 x8).f0) y201_1 ((rd60 x0 x8).f1)).1
     refine RA.nil (fun _ => by kernel_rfl) ?_
     by_cases hc4 : (y201_0 == ((rd60 x0 x8).f0) && (y201_1 == ((rd60 x0 x8).f1))) = true
     ·rw [if_pos hc4] at H
      refine AG.yes rfl hc4 ?_
      refine AG.seq ?_
      refine AG.region HM ?_
      refine a_move (v := vI _) ?_
      refine a_move (v := vI _) ?_
      refine RA.nil nofun ?_
      refine AG.ret ?_
      obtain rfl := Option.some.inj H
      exact RetP.mk id ⟨rfl, trivial⟩ trivial rfl
     ·rw [if_neg hc4] at H
      refine AG.no rfl (Bool.eq_false_iff.2 hc4) ?_
      refine AG.skip ?_
      refine AG.region HM ?_
      refine a_int (u := .int .i64 (wrap64 (x8 + 1))) ?_
      refine a_move (v := vI _) ?_
      refine RA.nil nofun ?_
      exact AGr.canon id (ih0 _ (by omega) _ ⟨by omega, _, _, _, _, _, H, rfl⟩) ⟨rfl, rfl, rfl, rfl, trivial⟩ ⟨rfl, trivial⟩ rfl
    ·rw [if_neg hc3] at H
     cases H
   ·rw [if_neg hc2] at H
    cases H
  ·rw [if_neg hc1] at H
   refine AG.no rfl (decide_eq_false hc1) ?_
   refine AG.exit ?_
   refine AG.seq ?_
   refine AG.region HM ?_
   refine a_move (v := vI _) ?_
   refine RA.nil nofun ?_
   refine AG.ret ?_
   obtain rfl := Option.some.inj H
   exact RetP.mk id ⟨rfl, trivial⟩ trivial rfl
/-! ### slices_Contains_impl_Point: function 94 -/
def slices_Contains_impl_Point.f (k : Nat) (l0 : List S60) (a1_0 : Int) (a1_1 : Int) : Option (Bool) := (slices_Index_impl_Point.f k l0 a1_0 a1_1).bind fun t1 => (some (decide (t1 ≥ 0)))
set_option maxRecDepth 100000 in
theorem slices_Contains_impl_Point.ok {k : Nat} {l0 : List S60} {a1_0 : Int} {a1_1 : Int} {r : Bool} (H : slices_Contains_impl_Point.f k l0 a1_0 a1_1 = some r) : OkF Try.prog 94 [vR 61 (l0.map c60), .agg [.d (.v (.int .i64 a1_0)), .d (.v (.int .i64 a1_1))]] [] (.c (.d (.v (.bool r)))) [] := by
 unfold slices_Contains_impl_Point.f at H
 refine OkF.of (N := 9) (rs := [4]) (avs := [.c (.d (.v (.bool r)))]) Try.func94 rfl rfl (fun _ _ => results_tmp rfl _ _ _) (by decide) rfl rfl rfl rfl (fun w0 S => ?_)
 refine AG.seq ?_
 refine AG.region HM ?_
 refine a_box 200 ?_
 refine a_move (v := vB _) ?_
 refine RA.nil nofun ?_
 refine AG.seq ?_
 refine AG.region HM ?_
 refine a_move (v := vR _ _) ?_
 refine a_ldB (v := .agg [_, _]) ?_ T61
 obtain ⟨t1, e2, H⟩ := bindO H
 refine a_call (v := vI t1) (nk := []) (L := []) ?_ rfl (slices_Index_impl_Point.ok e2) id (qd (qg qn)) trivial trivial trivial rfl
 refine a_int (u := .bool (decide (t1 ≥ 0))) ?_
 refine a_move (v := vB _) ?_
 refine RA.nil nofun ?_
 refine AG.ret ?_
 obtain rfl := Option.some.inj H
 exact RetP.mk id ⟨rfl, trivial⟩ trivial rfl
/-! ### impl_IsName: function 95 -/
mutual
def impl_IsName.j0 : Nat → ByteArray → Bool → Option (Bool)
 | 0, _, _ => none
 | k + 1, x0, x21 => if x21 = true then (some false) else (impl_IsName.l0 k x0 0)
def impl_IsName.l0 : Nat → ByteArray → Int → Option (Bool)
 | 0, _, _ => none
 | k + 1, x0, x3 => if x3 < (x0.size : Int) then (if 0 ≤ x3 then (if (bt x0 x3) < 97 then (if (bt x0 x3) < 48 then (some false) else (if (bt x0 x3) > 57 then (some false) else (impl_IsName.l0 k x0 (wrap64 (x3 + 1))))) else (if (bt x0 x3) > 122 then (if (bt x0 x3) < 48 then (some false) else (if (bt x0 x3) > 57 then (some false) else (impl_IsName.l0 k x0 (wrap64 (x3 + 1))))) else (impl_IsName.l0 k x0 (wrap64 (x3 + 1))))) else (none)) else (some true)
end
def impl_IsName.f (k : Nat) (a0 : ByteArray) : Option (Bool) := if (a0.size : Int) < 1 then (impl_IsName.j0 k a0 true) else (if (a0.size : Int) > 10 then (impl_IsName.j0 k a0 true) else (if 0 < (a0.size : Int) then (if (bt a0 0) < 97 then (impl_IsName.j0 k a0 true) else (impl_IsName.j0 k a0 (decide ((bt a0 0) > 122)))) else (none)))
set_option maxRecDepth 100000 in
theorem impl_IsName.ok {k : Nat} {a0 : ByteArray} {r : Bool} (H : impl_IsName.f k a0 = some r) : OkF Try.prog 95 [vS a0] [] (.c (.d (.v (.bool r)))) [] := by
 unfold impl_IsName.f at H
 refine OkF.of (N := 50) (rs := [2]) (avs := [.c (.d (.v (.bool r)))]) Try.func95 rfl rfl (fun _ _ => results_tmp rfl _ _ _) (by decide) rfl rfl rfl rfl (fun w0 S => ?_)
 refine AG.seq ?_
 refine AG.region HM ?_
 refine a_move (v := vB _) ?_
 refine RA.nil nofun ?_
 refine AG.seq ?_
 refine AG.seq ?_
 refine AG.joinR (fun s => ∃ q, q ≤ k ∧ ∃ (x0 : ByteArray) (x21 : Bool), impl_IsName.j0 q x0 x21 = some r ∧ s = St.of [(0, vS x0), (21, vB x21)] []) ?_ ?_
 ·skip
  refine AG.region HM ?_
  refine a_move (v := vS _) ?_
  refine a_lenS ?_ Try.underlying9
  refine a_int (u := .bool (decide ((a0.size : Int) < 1))) ?_
  refine a_move (v := vB _) ?_
  by_cases hc1 : (a0.size : Int) < 1
  ·rw [if_pos hc1] at H
   refine RA.skip rfl rfl rfl rfl rfl (decide_eq_true hc1) (by decide) ?_
   refine RA.skip rfl rfl rfl rfl rfl (decide_eq_true hc1) (by decide) ?_
   refine RA.skip rfl rfl rfl rfl rfl (decide_eq_true hc1) (by decide) ?_
   refine a_pick (b := true) (v := vB _) ?_ (decide_eq_true hc1)
   refine a_move (v := vB _) ?_
   refine RA.skip rfl rfl rfl rfl rfl rfl (by decide) ?_
   refine RA.skip rfl rfl rfl rfl rfl rfl (by decide) ?_
   refine RA.skip rfl rfl rfl rfl rfl rfl (by decide) ?_
   refine a_pick (b := true) (v := vB _) ?_ rfl
   refine a_move (v := vB _) ?_
   refine RA.skip rfl rfl rfl rfl rfl rfl (by decide) ?_
   refine RA.skip rfl rfl rfl rfl rfl rfl (by decide) ?_
   refine RA.skip rfl rfl rfl rfl rfl rfl (by decide) ?_
   refine a_pick (b := true) (v := vB _) ?_ rfl
   refine RA.nil nofun ?_
   exact CanR.mk id ⟨_, (by omega), _, _, H, rfl⟩ ⟨rfl, rfl, trivial⟩ trivial rfl
  ·rw [if_neg hc1] at H
   refine a_move (v := vS _) ?_ (hg := Gs.yes rfl rfl rfl (decide_eq_false hc1))
   refine a_lenS ?_ Try.underlying9 (hg := Gs.yes rfl rfl rfl (decide_eq_false hc1))
   refine a_int (u := .bool (decide ((a0.size : Int) > 10))) ?_ (hg := Gs.yes rfl rfl rfl (decide_eq_false hc1))
   refine a_pick (b := false) (v := vB _) ?_ (decide_eq_false hc1)
   refine a_move (v := vB _) ?_
   by_cases hc2 : (a0.size : Int) > 10
   ·rw [if_pos hc2] at H
    refine RA.skip rfl rfl rfl rfl rfl (decide_eq_true hc2) (by decide) ?_
    refine RA.skip rfl rfl rfl rfl rfl (decide_eq_true hc2) (by decide) ?_
    refine RA.skip rfl rfl rfl rfl rfl (decide_eq_true hc2) (by decide) ?_
    refine a_pick (b := true) (v := vB _) ?_ (decide_eq_true hc2)
    refine a_move (v := vB _) ?_
    refine RA.skip rfl rfl rfl rfl rfl rfl (by decide) ?_
    refine RA.skip rfl rfl rfl rfl rfl rfl (by decide) ?_
    refine RA.skip rfl rfl rfl rfl rfl rfl (by decide) ?_
    refine a_pick (b := true) (v := vB _) ?_ rfl
    refine RA.nil nofun ?_
    exact CanR.mk id ⟨_, (by omega), _, _, H, rfl⟩ ⟨rfl, rfl, trivial⟩ trivial rfl
   ·rw [if_neg hc2] at H
    refine a_move (v := vS _) ?_ (hg := Gs.yes rfl rfl rfl (decide_eq_false hc2))
    by_cases hc3 : 0 < (a0.size : Int)
    ·rw [if_pos hc3] at H
     refine a_str ?_ ⟨(by decide), hc3⟩ Try.underlying9 (hg := Gs.yes rfl rfl rfl (decide_eq_false hc2))
     refine a_int (u := .bool (decide ((bt a0 0) < 97))) ?_ (hg := Gs.yes rfl rfl rfl (decide_eq_false hc2))
     refine a_pick (b := false) (v := vB _) ?_ (decide_eq_false hc2)
     refine a_move (v := vB _) ?_
     by_cases hc4 : (bt a0 0) < 97
     ·rw [if_pos hc4] at H
      refine RA.skip rfl rfl rfl rfl rfl (decide_eq_true hc4) (by decide) ?_
      refine RA.skip rfl rfl rfl rfl rfl (decide_eq_true hc4) (by decide) ?_
      refine RA.skip rfl rfl rfl rfl rfl (decide_eq_true hc4) (by decide) ?_
      refine a_pick (b := true) (v := vB _) ?_ (decide_eq_true hc4)
      refine RA.nil nofun ?_
      exact CanR.mk id ⟨_, (by omega), _, _, H, rfl⟩ ⟨rfl, rfl, trivial⟩ trivial rfl
     ·rw [if_neg hc4] at H
      refine a_move (v := vS _) ?_ (hg := Gs.yes rfl rfl rfl (decide_eq_false hc4))
      refine a_str ?_ ⟨(by decide), hc3⟩ Try.underlying9 (hg := Gs.yes rfl rfl rfl (decide_eq_false hc4))
      refine a_int (u := .bool (decide ((bt a0 0) > 122))) ?_ (hg := Gs.yes rfl rfl rfl (decide_eq_false hc4))
      refine a_pick (b := false) (v := vB _) ?_ (decide_eq_false hc4)
      refine RA.nil nofun ?_
      exact CanR.mk id ⟨_, (by omega), _, _, H, rfl⟩ ⟨rfl, rfl, trivial⟩ trivial rfl
    ·rw [if_neg hc3] at H
     cases H
 ·clear H
  rintro _ ⟨k, hj0, x0, x21, H, rfl⟩
  cases k with
  | zero => cases H
  | succ k =>
   rw [impl_IsName.j0] at H
   by_cases hc5 : x21 = true
   ·rw [if_pos hc5] at H
    refine AG.yes rfl hc5 ?_
    refine AG.seq ?_
    refine AG.region HM ?_
    refine a_move (v := vB _) ?_
    refine RA.nil nofun ?_
    refine AG.ret ?_
    obtain rfl := Option.some.inj H
    exact RetP.mk id ⟨rfl, trivial⟩ trivial rfl
   ·rw [if_neg hc5] at H
    refine AG.no rfl (Bool.eq_false_iff.2 hc5) ?_
    refine AG.skip ?_
    refine AG.seq ?_
    refine AG.seq ?_
    refine AG.region HM ?_
    refine a_move (v := vI _) ?_
    refine RA.nil nofun ?_
    refine AG.block ?_
    refine AG.loop ?_
    obtain ⟨K0, hK0, gK0⟩ : ∃ K, k ≤ K ∧ K ≤ k := ⟨k, Nat.le_refl k, Nat.le_refl k⟩
    refine AGr.canon id (AGr.loopI (n := k) (fun k s => k ≤ K0 ∧ ∃ (x0 : ByteArray) (x3 : Int), impl_IsName.l0 k x0 x3 = some r ∧ s = St.of [(0, vS x0), (3, vI x3)] []) ⟨hK0, _, _, H, rfl⟩ ?_ ?_) ⟨rfl, rfl, trivial⟩ trivial rfl
    ·rintro _ ⟨_, _, _, H, _⟩
     cases H
    ·clear H hK0
     rintro k ih0 _ ⟨hK0, x0, x3, H, rfl⟩
     unfold impl_IsName.l0 at H
     refine AG.seq ?_
     refine AG.seq ?_
     refine AG.region HM ?_
     refine a_move (v := vI _) ?_
     refine a_move (v := vS _) ?_
     refine a_lenS ?_ Try.underlying9
     refine a_int (u := .bool (decide (x3 < (x0.size : Int)))) ?_
     refine RA.nil nofun ?_
     by_cases hc6 : x3 < (x0.size : Int)
     ·rw [if_pos hc6] at H
      refine AG.yes rfl (decide_eq_true hc6) ?_
      refine AG.skip ?_
      refine AG.seq ?_
      refine AG.block ?_
      refine AG.seq ?_
      refine AG.region HM ?_
      refine a_move (v := vS _) ?_
      refine a_move (v := vI _) ?_
      by_cases hc7 : 0 ≤ x3
      ·rw [if_pos hc7] at H
       refine a_str ?_ ⟨hc7, hc6⟩ Try.underlying9
       refine a_int (u := .bool (decide ((bt x0 x3) < 97))) ?_
       refine a_move (v := vB _) ?_
       by_cases hc8 : (bt x0 x3) < 97
       ·rw [if_pos hc8] at H
        refine RA.skip rfl rfl rfl rfl rfl (decide_eq_true hc8) (by decide) ?_
        refine RA.skip rfl rfl rfl rfl rfl (decide_eq_true hc8) (by decide) ?_
        refine RA.skip rfl rfl rfl rfl rfl (decide_eq_true hc8) (by decide) ?_
        refine RA.skip rfl rfl rfl rfl rfl (decide_eq_true hc8) (by decide) ?_
        refine a_pick (b := true) (v := vB _) ?_ (decide_eq_true hc8)
        refine a_move (v := vB _) ?_
        refine a_move (v := vS _) ?_ (hg := Gs.yes rfl rfl rfl rfl)
        refine a_move (v := vI _) ?_ (hg := Gs.yes rfl rfl rfl rfl)
        refine a_str ?_ ⟨hc7, hc6⟩ Try.underlying9 (hg := Gs.yes rfl rfl rfl rfl)
        refine a_int (u := .bool (decide ((bt x0 x3) < 48))) ?_ (hg := Gs.yes rfl rfl rfl rfl)
        refine a_move (v := vB _) ?_ (hg := Gs.yes rfl rfl rfl rfl)
        by_cases hc9 : (bt x0 x3) < 48
        ·rw [if_pos hc9] at H
         refine RA.skip rfl rfl rfl rfl rfl (decide_eq_true hc9) (by decide) ?_
         refine RA.skip rfl rfl rfl rfl rfl (decide_eq_true hc9) (by decide) ?_
         refine RA.skip rfl rfl rfl rfl rfl (decide_eq_true hc9) (by decide) ?_
         refine RA.skip rfl rfl rfl rfl rfl (decide_eq_true hc9) (by decide) ?_
         refine a_pick (b := true) (v := vB _) ?_ (decide_eq_true hc9) (hg := Gs.yes rfl rfl rfl rfl)
         refine a_pick (b := true) (v := vB _) ?_ rfl
         refine RA.nil nofun ?_
         refine AG.yes rfl rfl ?_
         refine AG.seq ?_
         refine AG.region HM ?_
         refine a_move (v := vB _) ?_
         refine RA.nil nofun ?_
         refine AG.ret ?_
         obtain rfl := Option.some.inj H
         exact RetP.mk id ⟨rfl, trivial⟩ trivial rfl
        ·rw [if_neg hc9] at H
         refine a_move (v := vS _) ?_ (hg := Gs.yes rfl rfl rfl (decide_eq_false hc9))
         refine a_move (v := vI _) ?_ (hg := Gs.yes rfl rfl rfl (decide_eq_false hc9))
         refine a_str ?_ ⟨hc7, hc6⟩ Try.underlying9 (hg := Gs.yes rfl rfl rfl (decide_eq_false hc9))
         refine a_int (u := .bool (decide ((bt x0 x3) > 57))) ?_ (hg := Gs.yes rfl rfl rfl (decide_eq_false hc9))
         refine a_pick (b := false) (v := vB _) ?_ (decide_eq_false hc9) (hg := Gs.yes rfl rfl rfl rfl)
         refine a_pick (b := true) (v := vB _) ?_ rfl
         refine RA.nil nofun ?_
         by_cases hc10 : (bt x0 x3) > 57
         ·rw [if_pos hc10] at H
          refine AG.yes rfl (decide_eq_true hc10) ?_
          refine AG.seq ?_
          refine AG.region HM ?_
          refine a_move (v := vB _) ?_
          refine RA.nil nofun ?_
          refine AG.ret ?_
          obtain rfl := Option.some.inj H
          exact RetP.mk id ⟨rfl, trivial⟩ trivial rfl
         ·rw [if_neg hc10] at H
          refine AG.no rfl (decide_eq_false hc10) ?_
          refine AG.skip ?_
          refine AG.region HM ?_
          refine a_move (v := vI _) ?_
          refine a_int (u := .int .i64 (wrap64 (x3 + 1))) ?_
          refine a_move (v := vI _) ?_
          refine RA.nil nofun ?_
          exact AGr.canon id (ih0 _ (by omega) _ ⟨by omega, _, _, H, rfl⟩) ⟨rfl, rfl, trivial⟩ trivial rfl
       ·rw [if_neg hc8] at H
        refine a_move (v := vS _) ?_ (hg := Gs.yes rfl rfl rfl (decide_eq_false hc8))
        refine a_move (v := vI _) ?_ (hg := Gs.yes rfl rfl rfl (decide_eq_false hc8))
        refine a_str ?_ ⟨hc7, hc6⟩ Try.underlying9 (hg := Gs.yes rfl rfl rfl (decide_eq_false hc8))
        refine a_int (u := .bool (decide ((bt x0 x3) > 122))) ?_ (hg := Gs.yes rfl rfl rfl (decide_eq_false hc8))
        refine a_pick (b := false) (v := vB _) ?_ (decide_eq_false hc8)
        refine a_move (v := vB _) ?_
        by_cases hc11 : (bt x0 x3) > 122
        ·rw [if_pos hc11] at H
         refine a_move (v := vS _) ?_ (hg := Gs.yes rfl rfl rfl (decide_eq_true hc11))
         refine a_move (v := vI _) ?_ (hg := Gs.yes rfl rfl rfl (decide_eq_true hc11))
         refine a_str ?_ ⟨hc7, hc6⟩ Try.underlying9 (hg := Gs.yes rfl rfl rfl (decide_eq_true hc11))
         refine a_int (u := .bool (decide ((bt x0 x3) < 48))) ?_ (hg := Gs.yes rfl rfl rfl (decide_eq_true hc11))
         refine a_move (v := vB _) ?_ (hg := Gs.yes rfl rfl rfl (decide_eq_true hc11))
         by_cases hc12 : (bt x0 x3) < 48
         ·rw [if_pos hc12] at H
          refine RA.skip rfl rfl rfl rfl rfl (decide_eq_true hc12) (by decide) ?_
          refine RA.skip rfl rfl rfl rfl rfl (decide_eq_true hc12) (by decide) ?_
          refine RA.skip rfl rfl rfl rfl rfl (decide_eq_true hc12) (by decide) ?_
          refine RA.skip rfl rfl rfl rfl rfl (decide_eq_true hc12) (by decide) ?_
          refine a_pick (b := true) (v := vB _) ?_ (decide_eq_true hc12) (hg := Gs.yes rfl rfl rfl (decide_eq_true hc11))
          refine a_pick (b := true) (v := vB _) ?_ (decide_eq_true hc11)
          refine RA.nil nofun ?_
          refine AG.yes rfl rfl ?_
          refine AG.seq ?_
          refine AG.region HM ?_
          refine a_move (v := vB _) ?_
          refine RA.nil nofun ?_
          refine AG.ret ?_
          obtain rfl := Option.some.inj H
          exact RetP.mk id ⟨rfl, trivial⟩ trivial rfl
         ·rw [if_neg hc12] at H
          refine a_move (v := vS _) ?_ (hg := Gs.yes rfl rfl rfl (decide_eq_false hc12))
          refine a_move (v := vI _) ?_ (hg := Gs.yes rfl rfl rfl (decide_eq_false hc12))
          refine a_str ?_ ⟨hc7, hc6⟩ Try.underlying9 (hg := Gs.yes rfl rfl rfl (decide_eq_false hc12))
          refine a_int (u := .bool (decide ((bt x0 x3) > 57))) ?_ (hg := Gs.yes rfl rfl rfl (decide_eq_false hc12))
          refine a_pick (b := false) (v := vB _) ?_ (decide_eq_false hc12) (hg := Gs.yes rfl rfl rfl (decide_eq_true hc11))
          refine a_pick (b := true) (v := vB _) ?_ (decide_eq_true hc11)
          refine RA.nil nofun ?_
          by_cases hc13 : (bt x0 x3) > 57
          ·rw [if_pos hc13] at H
           refine AG.yes rfl (decide_eq_true hc13) ?_
           refine AG.seq ?_
           refine AG.region HM ?_
           refine a_move (v := vB _) ?_
           refine RA.nil nofun ?_
           refine AG.ret ?_
           obtain rfl := Option.some.inj H
           exact RetP.mk id ⟨rfl, trivial⟩ trivial rfl
          ·rw [if_neg hc13] at H
           refine AG.no rfl (decide_eq_false hc13) ?_
           refine AG.skip ?_
           refine AG.region HM ?_
           refine a_move (v := vI _) ?_
           refine a_int (u := .int .i64 (wrap64 (x3 + 1))) ?_
           refine a_move (v := vI _) ?_
           refine RA.nil nofun ?_
           exact AGr.canon id (ih0 _ (by omega) _ ⟨by omega, _, _, H, rfl⟩) ⟨rfl, rfl, trivial⟩ trivial rfl
        ·rw [if_neg hc11] at H
         refine RA.skip rfl rfl rfl rfl rfl (decide_eq_false hc11) (by decide) ?_
         refine RA.skip rfl rfl rfl rfl rfl (decide_eq_false hc11) (by decide) ?_
         refine RA.skip rfl rfl rfl rfl rfl (decide_eq_false hc11) (by decide) ?_
         refine RA.skip rfl rfl rfl rfl rfl (decide_eq_false hc11) (by decide) ?_
         refine RA.skip rfl rfl rfl rfl rfl (decide_eq_false hc11) (by decide) ?_
         refine RA.skip0 rfl rfl rfl rfl rfl ?_
         refine RA.skip0 rfl rfl rfl rfl rfl ?_
         refine RA.skip0 rfl rfl rfl rfl rfl ?_
         refine RA.skip0 rfl rfl rfl rfl rfl ?_
         refine RA.skip rfl rfl rfl rfl rfl (decide_eq_false hc11) (by decide) ?_
         refine a_pick (b := false) (v := vB _) ?_ (decide_eq_false hc11)
         refine RA.nil nofun ?_
         refine AG.no rfl rfl ?_
         refine AG.skip ?_
         refine AG.region HM ?_
         refine a_move (v := vI _) ?_
         refine a_int (u := .int .i64 (wrap64 (x3 + 1))) ?_
         refine a_move (v := vI _) ?_
         refine RA.nil nofun ?_
         exact AGr.canon id (ih0 _ (by omega) _ ⟨by omega, _, _, H, rfl⟩) ⟨rfl, rfl, trivial⟩ trivial rfl
      ·rw [if_neg hc7] at H
       cases H
     ·rw [if_neg hc6] at H
      refine AG.no rfl (decide_eq_false hc6) ?_
      refine AG.exit ?_
      refine AG.seq ?_
      refine AG.region HM ?_
      refine a_move (v := vB _) ?_
      refine RA.nil nofun ?_
      refine AG.ret ?_
      obtain rfl := Option.some.inj H
      exact RetP.mk id ⟨rfl, trivial⟩ trivial rfl
/-! ### impl_ringPolygon: function 96 -/
def impl_ringPolygon.l0 : Nat → List S60 → List S60 → List Int → Int → Int → Option ((List S60) × Bool)
 | 0, _, _, _, _, _ => none
 | k + 1, x0, x6, x10, x11, x12 => if x12 < x11 then (if 0 ≤ x12 then (if x12 < (x10.length : Int) then ((impl_within.f (rd2 x10 x12) 0 (wrap64 ((x0.length : Int) - 1))).bind fun t5 => (if t5 = true then (if 0 ≤ (rd2 x10 x12) then (if (rd2 x10 x12) < (x0.length : Int) then (if x6.length < 8796093022208 then (impl_ringPolygon.l0 k x0 (x6 ++ [(⟨(rd60 x0 (rd2 x10 x12)).f0, (rd60 x0 (rd2 x10 x12)).f1⟩ : S60)]) x10 x11 (wrap64 (x12 + 1))) else (none)) else (none)) else (none)) else (some (([] : List S60), false)))) else (none)) else (none)) else (some (x6, true))
def impl_ringPolygon.f (k : Nat) (l0 : List S60) (l1 : List Int) : Option ((List S60) × Bool) := impl_ringPolygon.l0 k l0 (([] : List S60) : List S60) l1 (l1.length : Int) 0
set_option maxRecDepth 100000 in
theorem impl_ringPolygon.ok {k : Nat} {l0 : List S60} {l1 : List Int} {r0 : List S60} {r1 : Bool} (H : impl_ringPolygon.f k l0 l1 = some (r0, r1)) : OkF Try.prog 96 [vR 61 (l0.map c60), vR 2 (l1.map c2)] [] (.tup [.c (.own 100 r0.length), .c (.d (.v (.bool r1)))]) [(100, .row 61 (r0.map c60))] := by
 unfold impl_ringPolygon.f at H
 refine OkF.of (N := 31) (rs := [4, 5]) (avs := [.c (.own 100 r0.length), .c (.d (.v (.bool r1)))]) Try.func96 rfl rfl (fun _ _ => results_tmp2 rfl _ _ _) (by decide) rfl rfl rfl rfl (fun w0 S => ?_)
 refine AG.seq ?_
 refine AG.region HM ?_
 refine a_nilO (e := 61) 200 ?_ T61
 refine a_move (v := vB _) ?_
 refine RA.nil nofun ?_
 refine AG.seq ?_
 refine AG.region HM ?_
 refine a_lit (cs := []) (D := []) (css := (([] : List S60) : List S60).map c60) 201 ?_ N29 T61 (hcss := by rfl)
 refine a_move (v := .c (.own _ _)) ?_
 refine RA.nil nofun ?_
 refine AG.seq ?_
 refine AG.seq ?_
 refine AG.region HM ?_
 refine a_move (v := vR _ _) ?_
 refine a_lenR ?_ Try.underlying38
 refine a_move (v := vI _) ?_
 refine RA.nil nofun ?_
 refine AG.block ?_
 refine AG.loop ?_
 obtain ⟨K0, hK0, gK0⟩ : ∃ K, k ≤ K ∧ K ≤ k := ⟨k, Nat.le_refl k, Nat.le_refl k⟩
 refine AGr.canon (fun κ => cond (Nat.beq κ 202) 201 (κ)) (AGr.loopI (n := k) (fun k s => k ≤ K0 ∧ ∃ (x0 : List S60) (x6 : List S60) (x10 : List Int) (x11 : Int) (x12 : Int), impl_ringPolygon.l0 k x0 x6 x10 x11 x12 = some (r0, r1) ∧ s = St.of [(0, vR 61 (x0.map c60)), (6, .c (.own 202 x6.length)), (10, vR 2 (x10.map c2)), (11, vI x11), (12, vI x12)] [(202, .row 61 (x6.map c60))]) ⟨hK0, _, _, _, _, _, H, rfl⟩ ?_ ?_) ⟨rfl, (ownE rfl (by simp)), rfl, rfl, rfl, trivial⟩ ⟨rfl, trivial⟩ rfl
 ·rintro _ ⟨_, _, _, _, _, _, H, _⟩
  cases H
 ·clear H hK0
  rintro k ih0 _ ⟨hK0, x0, x6, x10, x11, x12, H, rfl⟩
  unfold impl_ringPolygon.l0 at H
  refine AG.seq ?_
  refine AG.region HM ?_
  refine a_int (u := .bool (decide (x12 < x11))) ?_
  refine RA.nil nofun ?_
  refine AG.seq ?_
  by_cases hc2 : x12 < x11
  ·rw [if_pos hc2] at H
   refine AG.yes rfl (decide_eq_true hc2) ?_
   refine AG.skip ?_
   refine AG.seq ?_
   refine AG.block ?_
   refine AG.seq ?_
   refine AG.region HM ?_
   by_cases hc3 : 0 ≤ x12
   ·rw [if_pos hc3] at H
    by_cases hc4 : x12 < (x10.length : Int)
    ·rw [if_pos hc4] at H
     refine a_ixR (el := c2 (rd2 x10 x12)) ?_ ⟨hc3, hc4⟩ T2 Try.underlying38 (hel := R2 hc3 hc4)
     refine a_ldR (v := vI _) ?_ T2
     refine a_move (v := vI _) ?_
     refine RA.nil nofun ?_
     refine AG.seq ?_
     refine AG.seq ?_
     refine AG.region HM ?_
     refine a_move (v := vI _) ?_
     refine a_move (v := vR _ _) ?_
     refine a_lenR ?_ Try.underlying29
     refine a_int (u := .int .i64 (wrap64 ((x0.length : Int) - 1))) ?_
     obtain ⟨t5, e6, H⟩ := bindO H
     refine a_call (v := vB t5) (nk := []) (L := []) ?_ rfl (impl_within.ok e6) id (qd (qd (qd qn))) trivial trivial trivial rfl
     refine a_un (u := .bool (!t5)) ?_
     refine RA.nil nofun ?_
     by_cases hc7 : t5 = true
     ·rw [if_pos hc7] at H
      refine AG.no rfl (congrArg Bool.not hc7) ?_
      refine AG.skip ?_
      refine AG.region HM ?_
      refine a_move (v := .c (.own _ _)) ?_
      refine a_move (v := vR _ _) ?_
      refine a_move (v := vI _) ?_
      by_cases hc8 : 0 ≤ (rd2 x10 x12)
      ·rw [if_pos hc8] at H
       by_cases hc9 : (rd2 x10 x12) < (x0.length : Int)
       ·rw [if_pos hc9] at H
        refine a_ixR (el := c60 (rd60 x0 (rd2 x10 x12))) ?_ ⟨hc8, hc9⟩ T61 Try.underlying29 (hel := R60 hc8 hc9)
        refine a_ldR (v := .agg [_, _]) ?_ T61
        refine a_lit (cs := [_, _]) (D := []) (css := ([(⟨(rd60 x0 (rd2 x10 x12)).f0, (rd60 x0 (rd2 x10 x12)).f1⟩ : S60)]).map c60) 204 ?_ N29 T61
        by_cases hc10 : x6.length < 8796093022208
        ·rw [if_pos hc10] at H
         refine a_appO (css' := (x6 ++ [(⟨(rd60 x0 (rd2 x10 x12)).f0, (rd60 x0 (rd2 x10 x12)).f1⟩ : S60)]).map c60) (n' := (x6 ++ [(⟨(rd60 x0 (rd2 x10 x12)).f0, (rd60 x0 (rd2 x10 x12)).f1⟩ : S60)]).length) ?_ T61 (by simp [maxLen]; omega) (by simp; omega) Try.underlying29 (hc := by exact List.map_append.symm) (hn := by exact List.length_map _)
         refine a_move (v := .c (.own _ _)) ?_
         refine RA.nil nofun ?_
         refine AG.region HM ?_
         refine a_int (u := .int .i64 (wrap64 (x12 + 1))) ?_
         refine a_move (v := vI _) ?_
         refine RA.nil nofun ?_
         exact AGr.canon id (ih0 _ (by omega) _ ⟨by omega, _, _, _, _, _, H, rfl⟩) ⟨rfl, rfl, rfl, rfl, rfl, trivial⟩ ⟨rfl, trivial⟩ rfl
        ·rw [if_neg hc10] at H
         cases H
       ·rw [if_neg hc9] at H
        cases H
      ·rw [if_neg hc8] at H
       cases H
     ·rw [if_neg hc7] at H
      refine AG.yes rfl (congrArg Bool.not (Bool.eq_false_iff.2 hc7)) ?_
      refine AG.seq ?_
      refine AG.region HM ?_
      refine a_nilO (e := 61) 205 ?_ T61
      refine a_move (v := vB _) ?_
      refine RA.nil nofun ?_
      refine AG.ret ?_
      simp only [Option.some.injEq, Prod.mk.injEq] at H
      obtain ⟨rfl, rfl⟩ := H
      exact RetP.mk (fun κ => cond (Nat.beq κ 100) 205 (κ)) ⟨(ownE rfl (by simp)), rfl, trivial⟩ ⟨rfl, trivial⟩ rfl
    ·rw [if_neg hc4] at H
     cases H
   ·rw [if_neg hc3] at H
    cases H
  ·rw [if_neg hc2] at H
   refine AG.no rfl (decide_eq_false hc2) ?_
   refine AG.exit ?_
   refine AG.seq ?_
   refine AG.region HM ?_
   refine a_move (v := .c (.own _ _)) ?_
   refine a_move (v := .c (.own _ _)) ?_
   refine a_move (v := vB _) ?_
   refine RA.nil nofun ?_
   refine AG.ret ?_
   simp only [Option.some.injEq, Prod.mk.injEq] at H
   obtain ⟨rfl, rfl⟩ := H
   exact RetP.mk (fun κ => cond (Nat.beq κ 100) 202 (κ)) ⟨rfl, rfl, trivial⟩ ⟨rfl, trivial⟩ rfl
/-! ### impl_ValidPoint: function 106 -/
def impl_ValidPoint.f (a0_0 : Int) (a0_1 : Int) : Option (Bool) := (impl_within.f a0_0 0 20000).bind fun t1 => (if t1 = true then ((impl_within.f a0_1 0 20000).bind fun t4 => (some t4)) else (some false))
set_option maxRecDepth 100000 in
theorem impl_ValidPoint.ok {a0_0 : Int} {a0_1 : Int} {r : Bool} (H : impl_ValidPoint.f a0_0 a0_1 = some r) : OkF Try.prog 106 [.agg [.d (.v (.int .i64 a0_0)), .d (.v (.int .i64 a0_1))]] [] (.c (.d (.v (.bool r)))) [] := by
 unfold impl_ValidPoint.f at H
 refine OkF.of (N := 11) (rs := [2]) (avs := [.c (.d (.v (.bool r)))]) Try.func106 rfl rfl (fun _ _ => results_tmp rfl _ _ _) (by decide) rfl rfl rfl rfl (fun w0 S => ?_)
 refine AG.seq ?_
 refine AG.region HM ?_
 refine a_box 200 ?_
 refine a_move (v := vB _) ?_
 refine RA.nil nofun ?_
 refine AG.seq ?_
 refine AG.region HM ?_
 refine a_faB (q := 0) ?_ D61_0
 refine a_ldB (v := vI _) ?_ T2
 obtain ⟨t1, e2, H⟩ := bindO H
 refine a_call (v := vB t1) (nk := []) (L := []) ?_ rfl (impl_within.ok e2) id (qd (qd (qd qn))) trivial trivial trivial rfl
 refine a_move (v := vB _) ?_
 by_cases hc3 : t1 = true
 ·rw [if_pos hc3] at H
  refine a_faB (q := 1) ?_ D61_1 (hg := Gs.yes rfl rfl rfl hc3)
  refine a_ldB (v := vI _) ?_ T2 (hg := Gs.yes rfl rfl rfl hc3)
  obtain ⟨t4, e5, H⟩ := bindO H
  refine a_call (v := vB t4) (nk := []) (L := []) ?_ rfl (impl_within.ok e5) id (qd (qd (qd qn))) trivial trivial trivial rfl (hg := Gs.yes rfl rfl rfl hc3)
  refine a_pick (b := true) (v := vB _) ?_ hc3
  refine a_move (v := vB _) ?_
  refine RA.nil nofun ?_
  refine AG.ret ?_
  obtain rfl := Option.some.inj H
  exact RetP.mk id ⟨rfl, trivial⟩ trivial rfl
 ·rw [if_neg hc3] at H
  refine RA.skip rfl rfl rfl rfl rfl (Bool.eq_false_iff.2 hc3) (by decide) ?_
  refine RA.skip rfl rfl rfl rfl rfl (Bool.eq_false_iff.2 hc3) (by decide) ?_
  refine RA.skip rfl rfl rfl rfl rfl (Bool.eq_false_iff.2 hc3) (by decide) ?_
  refine a_pick (b := false) (v := vB _) ?_ (Bool.eq_false_iff.2 hc3)
  refine a_move (v := vB _) ?_
  refine RA.nil nofun ?_
  refine AG.ret ?_
  obtain rfl := Option.some.inj H
  exact RetP.mk id ⟨rfl, trivial⟩ trivial rfl
/-! ### impl_validPoints: function 81 -/
def impl_validPoints.l0 : Nat → List S60 → Int → Int → Option (Bool)
 | 0, _, _, _ => none
 | k + 1, x5, x6, x7 => if x7 < x6 then (if 0 ≤ x7 then (if x7 < (x5.length : Int) then ((impl_ValidPoint.f ((rd60 x5 x7).f0) ((rd60 x5 x7).f1)).bind fun t4 => (if t4 = true then (impl_validPoints.l0 k x5 x6 (wrap64 (x7 + 1))) else (some false))) else (none)) else (none)) else (some true)
def impl_validPoints.f (k : Nat) (l0 : List S60) : Option (Bool) := impl_validPoints.l0 k l0 (l0.length : Int) 0
set_option maxRecDepth 100000 in
theorem impl_validPoints.ok {k : Nat} {l0 : List S60} {r : Bool} (H : impl_validPoints.f k l0 = some r) : OkF Try.prog 81 [vR 61 (l0.map c60)] [] (.c (.d (.v (.bool r)))) [] := by
 unfold impl_validPoints.f at H
 refine OkF.of (N := 15) (rs := [2]) (avs := [.c (.d (.v (.bool r)))]) Try.func81 rfl rfl (fun _ _ => results_tmp rfl _ _ _) (by decide) rfl rfl rfl rfl (fun w0 S => ?_)
 refine AG.seq ?_
 refine AG.region HM ?_
 refine a_move (v := vB _) ?_
 refine RA.nil nofun ?_
 refine AG.seq ?_
 refine AG.seq ?_
 refine AG.region HM ?_
 refine a_move (v := vR _ _) ?_
 refine a_lenR ?_ Try.underlying29
 refine a_move (v := vI _) ?_
 refine RA.nil nofun ?_
 refine AG.block ?_
 refine AG.loop ?_
 obtain ⟨K0, hK0, gK0⟩ : ∃ K, k ≤ K ∧ K ≤ k := ⟨k, Nat.le_refl k, Nat.le_refl k⟩
 refine AGr.canon id (AGr.loopI (n := k) (fun k s => k ≤ K0 ∧ ∃ (x5 : List S60) (x6 : Int) (x7 : Int), impl_validPoints.l0 k x5 x6 x7 = some r ∧ s = St.of [(5, vR 61 (x5.map c60)), (6, vI x6), (7, vI x7)] []) ⟨hK0, _, _, _, H, rfl⟩ ?_ ?_) ⟨rfl, rfl, rfl, trivial⟩ trivial rfl
 ·rintro _ ⟨_, _, _, _, H, _⟩
  cases H
 ·clear H hK0
  rintro k ih0 _ ⟨hK0, x5, x6, x7, H, rfl⟩
  unfold impl_validPoints.l0 at H
  refine AG.seq ?_
  refine AG.region HM ?_
  refine a_int (u := .bool (decide (x7 < x6))) ?_
  refine RA.nil nofun ?_
  refine AG.seq ?_
  by_cases hc1 : x7 < x6
  ·rw [if_pos hc1] at H
   refine AG.yes rfl (decide_eq_true hc1) ?_
   refine AG.skip ?_
   refine AG.seq ?_
   refine AG.block ?_
   refine AG.seq ?_
   refine AG.region HM ?_
   by_cases hc2 : 0 ≤ x7
   ·rw [if_pos hc2] at H
    by_cases hc3 : x7 < (x5.length : Int)
    ·rw [if_pos hc3] at H
     refine a_ixR (el := c60 (rd60 x5 x7)) ?_ ⟨hc2, hc3⟩ T61 Try.underlying29 (hel := R60 hc2 hc3)
     refine a_ldR (v := .agg [_, _]) ?_ T61
     refine a_alloc (cs := [_, _]) 200 ?_ T61
     refine a_stB (cs' := [_, _]) ?_ T61
     refine RA.nil nofun ?_
     refine AG.seq ?_
     refine AG.region HM ?_
     refine a_ldB (v := .agg [_, _]) ?_ T61
     obtain ⟨t4, e5, H⟩ := bindO H
     refine a_call (v := vB t4) (nk := []) (L := []) ?_ rfl (impl_ValidPoint.ok e5) id (qg qn) trivial trivial trivial rfl
     refine a_un (u := .bool (!t4)) ?_
     refine RA.nil nofun ?_
     by_cases hc6 : t4 = true
     ·rw [if_pos hc6] at H
      refine AG.no rfl (congrArg Bool.not hc6) ?_
      refine AG.skip ?_
      refine AG.region HM ?_
      refine a_int (u := .int .i64 (wrap64 (x7 + 1))) ?_
      refine a_move (v := vI _) ?_
      refine RA.nil nofun ?_
      exact AGr.canon id (ih0 _ (by omega) _ ⟨by omega, _, _, _, H, rfl⟩) ⟨rfl, rfl, rfl, trivial⟩ trivial rfl
     ·rw [if_neg hc6] at H
      refine AG.yes rfl (congrArg Bool.not (Bool.eq_false_iff.2 hc6)) ?_
      refine AG.seq ?_
      refine AG.region HM ?_
      refine a_move (v := vB _) ?_
      refine RA.nil nofun ?_
      refine AG.ret ?_
      obtain rfl := Option.some.inj H
      exact RetP.mk id ⟨rfl, trivial⟩ trivial rfl
    ·rw [if_neg hc3] at H
     cases H
   ·rw [if_neg hc2] at H
    cases H
  ·rw [if_neg hc1] at H
   refine AG.no rfl (decide_eq_false hc1) ?_
   refine AG.exit ?_
   refine AG.seq ?_
   refine AG.region HM ?_
   refine a_move (v := vB _) ?_
   refine RA.nil nofun ?_
   refine AG.ret ?_
   obtain rfl := Option.some.inj H
   exact RetP.mk id ⟨rfl, trivial⟩ trivial rfl
/-! ### impl_side: function 133 -/
def impl_side.f (a0_0 : Int) (a0_1 : Int) (a1_0 : Int) (a1_1 : Int) (a2_0 : Int) (a2_1 : Int) : Option (Int) := if (wrap64 ((wrap64 ((wrap64 (a1_0 - a0_0)) * (wrap64 (a2_1 - a0_1)))) - (wrap64 ((wrap64 (a1_1 - a0_1)) * (wrap64 (a2_0 - a0_0)))))) > 0 then (some 1) else (if (wrap64 ((wrap64 ((wrap64 (a1_0 - a0_0)) * (wrap64 (a2_1 - a0_1)))) - (wrap64 ((wrap64 (a1_1 - a0_1)) * (wrap64 (a2_0 - a0_0)))))) < 0 then (some (-1)) else (some 0))
set_option maxRecDepth 100000 in
theorem impl_side.ok {a0_0 : Int} {a0_1 : Int} {a1_0 : Int} {a1_1 : Int} {a2_0 : Int} {a2_1 : Int} {r : Int} (H : impl_side.f a0_0 a0_1 a1_0 a1_1 a2_0 a2_1 = some r) : OkF Try.prog 133 [.agg [.d (.v (.int .i64 a0_0)), .d (.v (.int .i64 a0_1))], .agg [.d (.v (.int .i64 a1_0)), .d (.v (.int .i64 a1_1))], .agg [.d (.v (.int .i64 a2_0)), .d (.v (.int .i64 a2_1))]] [] (.c (.d (.v (.int .i64 r)))) [] := by
 unfold impl_side.f at H
 refine OkF.of (N := 37) (rs := [6]) (avs := [.c (.d (.v (.int .i64 r)))]) Try.func133 rfl rfl (fun _ _ => results_tmp rfl _ _ _) (by decide) rfl rfl rfl rfl (fun w0 S => ?_)
 refine AG.seq ?_
 refine AG.region HM ?_
 refine a_box 200 ?_
 refine a_box 201 ?_
 refine a_box 202 ?_
 refine a_move (v := vI _) ?_
 refine RA.nil nofun ?_
 refine AG.seq ?_
 refine AG.region HM ?_
 refine a_faB (q := 0) ?_ D61_0
 refine a_ldB (v := vI _) ?_ T2
 refine a_faB (q := 0) ?_ D61_0
 refine a_ldB (v := vI _) ?_ T2
 refine a_int (u := .int .i64 (wrap64 (a1_0 - a0_0))) ?_
 refine a_faB (q := 1) ?_ D61_1
 refine a_ldB (v := vI _) ?_ T2
 refine a_faB (q := 1) ?_ D61_1
 refine a_ldB (v := vI _) ?_ T2
 refine a_int (u := .int .i64 (wrap64 (a2_1 - a0_1))) ?_
 refine a_int (u := .int .i64 (wrap64 ((wrap64 (a1_0 - a0_0)) * (wrap64 (a2_1 - a0_1))))) ?_
 refine a_faB (q := 1) ?_ D61_1
 refine a_ldB (v := vI _) ?_ T2
 refine a_faB (q := 1) ?_ D61_1
 refine a_ldB (v := vI _) ?_ T2
 refine a_int (u := .int .i64 (wrap64 (a1_1 - a0_1))) ?_
 refine a_faB (q := 0) ?_ D61_0
 refine a_ldB (v := vI _) ?_ T2
 refine a_faB (q := 0) ?_ D61_0
 refine a_ldB (v := vI _) ?_ T2
 refine a_int (u := .int .i64 (wrap64 (a2_0 - a0_0))) ?_
 refine a_int (u := .int .i64 (wrap64 ((wrap64 (a1_1 - a0_1)) * (wrap64 (a2_0 - a0_0))))) ?_
 refine a_int (u := .int .i64 (wrap64 ((wrap64 ((wrap64 (a1_0 - a0_0)) * (wrap64 (a2_1 - a0_1)))) - (wrap64 ((wrap64 (a1_1 - a0_1)) * (wrap64 (a2_0 - a0_0))))))) ?_
 refine a_move (v := vI _) ?_
 refine RA.nil nofun ?_
 refine AG.seq ?_
 refine AG.block ?_
 refine AG.seq ?_
 refine AG.region HM ?_
 refine a_move (v := vI _) ?_
 refine a_int (u := .bool (decide ((wrap64 ((wrap64 ((wrap64 (a1_0 - a0_0)) * (wrap64 (a2_1 - a0_1)))) - (wrap64 ((wrap64 (a1_1 - a0_1)) * (wrap64 (a2_0 - a0_0)))))) > 0))) ?_
 refine a_move (v := vB _) ?_
 refine RA.nil nofun ?_
 by_cases hc1 : (wrap64 ((wrap64 ((wrap64 (a1_0 - a0_0)) * (wrap64 (a2_1 - a0_1)))) - (wrap64 ((wrap64 (a1_1 - a0_1)) * (wrap64 (a2_0 - a0_0)))))) > 0
 ·rw [if_pos hc1] at H
  refine AG.yes rfl (decide_eq_true hc1) ?_
  refine AG.seq ?_
  refine AG.region HM ?_
  refine a_move (v := vI _) ?_
  refine RA.nil nofun ?_
  refine AG.ret ?_
  obtain rfl := Option.some.inj H
  exact RetP.mk id ⟨rfl, trivial⟩ trivial rfl
 ·rw [if_neg hc1] at H
  refine AG.no rfl (decide_eq_false hc1) ?_
  refine AG.seq ?_
  refine AG.region HM ?_
  refine a_move (v := vI _) ?_
  refine a_int (u := .bool (decide ((wrap64 ((wrap64 ((wrap64 (a1_0 - a0_0)) * (wrap64 (a2_1 - a0_1)))) - (wrap64 ((wrap64 (a1_1 - a0_1)) * (wrap64 (a2_0 - a0_0)))))) < 0))) ?_
  refine a_move (v := vB _) ?_
  refine RA.nil nofun ?_
  by_cases hc2 : (wrap64 ((wrap64 ((wrap64 (a1_0 - a0_0)) * (wrap64 (a2_1 - a0_1)))) - (wrap64 ((wrap64 (a1_1 - a0_1)) * (wrap64 (a2_0 - a0_0)))))) < 0
  ·rw [if_pos hc2] at H
   refine AG.yes rfl (decide_eq_true hc2) ?_
   refine AG.seq ?_
   refine AG.region HM ?_
   refine a_move (v := vI _) ?_
   refine RA.nil nofun ?_
   refine AG.ret ?_
   obtain rfl := Option.some.inj H
   exact RetP.mk id ⟨rfl, trivial⟩ trivial rfl
  ·rw [if_neg hc2] at H
   refine AG.no rfl (decide_eq_false hc2) ?_
   refine AG.skip ?_
   refine AG.seq ?_
   refine AG.region HM ?_
   refine a_move (v := vI _) ?_
   refine RA.nil nofun ?_
   refine AG.ret ?_
   obtain rfl := Option.some.inj H
   exact RetP.mk id ⟨rfl, trivial⟩ trivial rfl
/-! ### impl_on: function 114 -/
def impl_on.f (a0_0 : Int) (a0_1 : Int) (a1_0 : Int) (a1_1 : Int) (a2_0 : Int) (a2_1 : Int) : Option (Bool) := (impl_side.f a0_0 a0_1 a1_0 a1_1 a2_0 a2_1).bind fun t1 => (if t1 = 0 then ((impl_within.f a2_0 (mn a0_0 a1_0) (mx a0_0 a1_0)).bind fun t4 => (if t4 = true then ((impl_within.f a2_1 (mn a0_1 a1_1) (mx a0_1 a1_1)).bind fun t7 => (some t7)) else (some false))) else (some false))
set_option maxRecDepth 100000 in
theorem impl_on.ok {a0_0 : Int} {a0_1 : Int} {a1_0 : Int} {a1_1 : Int} {a2_0 : Int} {a2_1 : Int} {r : Bool} (H : impl_on.f a0_0 a0_1 a1_0 a1_1 a2_0 a2_1 = some r) : OkF Try.prog 114 [.agg [.d (.v (.int .i64 a0_0)), .d (.v (.int .i64 a0_1))], .agg [.d (.v (.int .i64 a1_0)), .d (.v (.int .i64 a1_1))], .agg [.d (.v (.int .i64 a2_0)), .d (.v (.int .i64 a2_1))]] [] (.c (.d (.v (.bool r)))) [] := by
 unfold impl_on.f at H
 refine OkF.of (N := 42) (rs := [6]) (avs := [.c (.d (.v (.bool r)))]) Try.func114 rfl rfl (fun _ _ => results_tmp rfl _ _ _) (by decide) rfl rfl rfl rfl (fun w0 S => ?_)
 refine AG.seq ?_
 refine AG.region HM ?_
 refine a_box 200 ?_
 refine a_box 201 ?_
 refine a_box 202 ?_
 refine a_move (v := vB _) ?_
 refine RA.nil nofun ?_
 refine AG.seq ?_
 refine AG.region HM ?_
 refine a_ldB (v := .agg [_, _]) ?_ T61
 refine a_ldB (v := .agg [_, _]) ?_ T61
 refine a_ldB (v := .agg [_, _]) ?_ T61
 obtain ⟨t1, e2, H⟩ := bindO H
 refine a_call (v := vI t1) (nk := []) (L := []) ?_ rfl (impl_side.ok e2) id (qg (qg (qg qn))) trivial trivial trivial rfl
 refine a_int (u := .bool ((t1 == 0))) ?_
 refine a_move (v := vB _) ?_
 by_cases hc3 : t1 = 0
 ·rw [if_pos hc3] at H
  refine a_faB (q := 0) ?_ D61_0 (hg := Gs.yes rfl rfl rfl (beq_iff_eq.2 hc3))
  refine a_ldB (v := vI _) ?_ T2 (hg := Gs.yes rfl rfl rfl (beq_iff_eq.2 hc3))
  refine a_faB (q := 0) ?_ D61_0 (hg := Gs.yes rfl rfl rfl (beq_iff_eq.2 hc3))
  refine a_ldB (v := vI _) ?_ T2 (hg := Gs.yes rfl rfl rfl (beq_iff_eq.2 hc3))
  refine a_faB (q := 0) ?_ D61_0 (hg := Gs.yes rfl rfl rfl (beq_iff_eq.2 hc3))
  refine a_ldB (v := vI _) ?_ T2 (hg := Gs.yes rfl rfl rfl (beq_iff_eq.2 hc3))
  refine a_minmax (mx := false) (r := mn a0_0 a1_0) ?_ (hg := Gs.yes rfl rfl rfl (beq_iff_eq.2 hc3))
  refine a_faB (q := 0) ?_ D61_0 (hg := Gs.yes rfl rfl rfl (beq_iff_eq.2 hc3))
  refine a_ldB (v := vI _) ?_ T2 (hg := Gs.yes rfl rfl rfl (beq_iff_eq.2 hc3))
  refine a_faB (q := 0) ?_ D61_0 (hg := Gs.yes rfl rfl rfl (beq_iff_eq.2 hc3))
  refine a_ldB (v := vI _) ?_ T2 (hg := Gs.yes rfl rfl rfl (beq_iff_eq.2 hc3))
  refine a_minmax (mx := true) (r := mx a0_0 a1_0) ?_ (hg := Gs.yes rfl rfl rfl (beq_iff_eq.2 hc3))
  obtain ⟨t4, e5, H⟩ := bindO H
  refine a_call (v := vB t4) (nk := []) (L := []) ?_ rfl (impl_within.ok e5) id (qd (qd (qd qn))) trivial trivial trivial rfl (hg := Gs.yes rfl rfl rfl (beq_iff_eq.2 hc3))
  refine a_pick (b := true) (v := vB _) ?_ (beq_iff_eq.2 hc3)
  refine a_move (v := vB _) ?_
  by_cases hc6 : t4 = true
  ·rw [if_pos hc6] at H
   refine a_faB (q := 1) ?_ D61_1 (hg := Gs.yes rfl rfl rfl hc6)
   refine a_ldB (v := vI _) ?_ T2 (hg := Gs.yes rfl rfl rfl hc6)
   refine a_faB (q := 1) ?_ D61_1 (hg := Gs.yes rfl rfl rfl hc6)
   refine a_ldB (v := vI _) ?_ T2 (hg := Gs.yes rfl rfl rfl hc6)
   refine a_faB (q := 1) ?_ D61_1 (hg := Gs.yes rfl rfl rfl hc6)
   refine a_ldB (v := vI _) ?_ T2 (hg := Gs.yes rfl rfl rfl hc6)
   refine a_minmax (mx := false) (r := mn a0_1 a1_1) ?_ (hg := Gs.yes rfl rfl rfl hc6)
   refine a_faB (q := 1) ?_ D61_1 (hg := Gs.yes rfl rfl rfl hc6)
   refine a_ldB (v := vI _) ?_ T2 (hg := Gs.yes rfl rfl rfl hc6)
   refine a_faB (q := 1) ?_ D61_1 (hg := Gs.yes rfl rfl rfl hc6)
   refine a_ldB (v := vI _) ?_ T2 (hg := Gs.yes rfl rfl rfl hc6)
   refine a_minmax (mx := true) (r := mx a0_1 a1_1) ?_ (hg := Gs.yes rfl rfl rfl hc6)
   obtain ⟨t7, e8, H⟩ := bindO H
   refine a_call (v := vB t7) (nk := []) (L := []) ?_ rfl (impl_within.ok e8) id (qd (qd (qd qn))) trivial trivial trivial rfl (hg := Gs.yes rfl rfl rfl hc6)
   refine a_pick (b := true) (v := vB _) ?_ hc6
   refine a_move (v := vB _) ?_
   refine RA.nil nofun ?_
   refine AG.ret ?_
   obtain rfl := Option.some.inj H
   exact RetP.mk id ⟨rfl, trivial⟩ trivial rfl
  ·rw [if_neg hc6] at H
   refine RA.skip rfl rfl rfl rfl rfl (Bool.eq_false_iff.2 hc6) (by decide) ?_
   refine RA.skip rfl rfl rfl rfl rfl (Bool.eq_false_iff.2 hc6) (by decide) ?_
   refine RA.skip rfl rfl rfl rfl rfl (Bool.eq_false_iff.2 hc6) (by decide) ?_
   refine RA.skip rfl rfl rfl rfl rfl (Bool.eq_false_iff.2 hc6) (by decide) ?_
   refine RA.skip rfl rfl rfl rfl rfl (Bool.eq_false_iff.2 hc6) (by decide) ?_
   refine RA.skip rfl rfl rfl rfl rfl (Bool.eq_false_iff.2 hc6) (by decide) ?_
   refine RA.skip rfl rfl rfl rfl rfl (Bool.eq_false_iff.2 hc6) (by decide) ?_
   refine RA.skip rfl rfl rfl rfl rfl (Bool.eq_false_iff.2 hc6) (by decide) ?_
   refine RA.skip rfl rfl rfl rfl rfl (Bool.eq_false_iff.2 hc6) (by decide) ?_
   refine RA.skip rfl rfl rfl rfl rfl (Bool.eq_false_iff.2 hc6) (by decide) ?_
   refine RA.skip rfl rfl rfl rfl rfl (Bool.eq_false_iff.2 hc6) (by decide) ?_
   refine RA.skip rfl rfl rfl rfl rfl (Bool.eq_false_iff.2 hc6) (by decide) ?_
   refine RA.skip rfl rfl rfl rfl rfl (Bool.eq_false_iff.2 hc6) (by decide) ?_
   refine a_pick (b := false) (v := vB _) ?_ (Bool.eq_false_iff.2 hc6)
   refine a_move (v := vB _) ?_
   refine RA.nil nofun ?_
   refine AG.ret ?_
   obtain rfl := Option.some.inj H
   exact RetP.mk id ⟨rfl, trivial⟩ trivial rfl
 ·rw [if_neg hc3] at H
  refine RA.skip rfl rfl rfl rfl rfl (beq_eq_false_iff_ne.2 hc3) (by decide) ?_
  refine RA.skip rfl rfl rfl rfl rfl (beq_eq_false_iff_ne.2 hc3) (by decide) ?_
  refine RA.skip rfl rfl rfl rfl rfl (beq_eq_false_iff_ne.2 hc3) (by decide) ?_
  refine RA.skip rfl rfl rfl rfl rfl (beq_eq_false_iff_ne.2 hc3) (by decide) ?_
  refine RA.skip rfl rfl rfl rfl rfl (beq_eq_false_iff_ne.2 hc3) (by decide) ?_
  refine RA.skip rfl rfl rfl rfl rfl (beq_eq_false_iff_ne.2 hc3) (by decide) ?_
  refine RA.skip rfl rfl rfl rfl rfl (beq_eq_false_iff_ne.2 hc3) (by decide) ?_
  refine RA.skip rfl rfl rfl rfl rfl (beq_eq_false_iff_ne.2 hc3) (by decide) ?_
  refine RA.skip rfl rfl rfl rfl rfl (beq_eq_false_iff_ne.2 hc3) (by decide) ?_
  refine RA.skip rfl rfl rfl rfl rfl (beq_eq_false_iff_ne.2 hc3) (by decide) ?_
  refine RA.skip rfl rfl rfl rfl rfl (beq_eq_false_iff_ne.2 hc3) (by decide) ?_
  refine RA.skip rfl rfl rfl rfl rfl (beq_eq_false_iff_ne.2 hc3) (by decide) ?_
  refine RA.skip rfl rfl rfl rfl rfl (beq_eq_false_iff_ne.2 hc3) (by decide) ?_
  refine a_pick (b := false) (v := vB _) ?_ (beq_eq_false_iff_ne.2 hc3)
  refine a_move (v := vB _) ?_
  refine RA.skip rfl rfl rfl rfl rfl rfl (by decide) ?_
  refine RA.skip rfl rfl rfl rfl rfl rfl (by decide) ?_
  refine RA.skip rfl rfl rfl rfl rfl rfl (by decide) ?_
  refine RA.skip rfl rfl rfl rfl rfl rfl (by decide) ?_
  refine RA.skip rfl rfl rfl rfl rfl rfl (by decide) ?_
  refine RA.skip rfl rfl rfl rfl rfl rfl (by decide) ?_
  refine RA.skip rfl rfl rfl rfl rfl rfl (by decide) ?_
  refine RA.skip rfl rfl rfl rfl rfl rfl (by decide) ?_
  refine RA.skip rfl rfl rfl rfl rfl rfl (by decide) ?_
  refine RA.skip rfl rfl rfl rfl rfl rfl (by decide) ?_
  refine RA.skip rfl rfl rfl rfl rfl rfl (by decide) ?_
  refine RA.skip rfl rfl rfl rfl rfl rfl (by decide) ?_
  refine RA.skip rfl rfl rfl rfl rfl rfl (by decide) ?_
  refine a_pick (b := false) (v := vB _) ?_ rfl
  refine a_move (v := vB _) ?_
  refine RA.nil nofun ?_
  refine AG.ret ?_
  obtain rfl := Option.some.inj H
  exact RetP.mk id ⟨rfl, trivial⟩ trivial rfl
/-! ### impl_crossing: function 134 -/
def impl_crossing.f (a0_0 : Int) (a0_1 : Int) (a1_0 : Int) (a1_1 : Int) (a2_0 : Int) (a2_1 : Int) (a3_0 : Int) (a3_1 : Int) : Option (Bool) := (impl_side.f a0_0 a0_1 a1_0 a1_1 a2_0 a2_1).bind fun t1 => ((impl_side.f a0_0 a0_1 a1_0 a1_1 a3_0 a3_1).bind fun t3 => (if (wrap64 (t1 * t3)) < 0 then ((impl_side.f a2_0 a2_1 a3_0 a3_1 a0_0 a0_1).bind fun t6 => ((impl_side.f a2_0 a2_1 a3_0 a3_1 a1_0 a1_1).bind fun t8 => (some (decide ((wrap64 (t6 * t8)) < 0))))) else (some false)))
set_option maxRecDepth 100000 in
theorem impl_crossing.ok {a0_0 : Int} {a0_1 : Int} {a1_0 : Int} {a1_1 : Int} {a2_0 : Int} {a2_1 : Int} {a3_0 : Int} {a3_1 : Int} {r : Bool} (H : impl_crossing.f a0_0 a0_1 a1_0 a1_1 a2_0 a2_1 a3_0 a3_1 = some r) : OkF Try.prog 134 [.agg [.d (.v (.int .i64 a0_0)), .d (.v (.int .i64 a0_1))], .agg [.d (.v (.int .i64 a1_0)), .d (.v (.int .i64 a1_1))], .agg [.d (.v (.int .i64 a2_0)), .d (.v (.int .i64 a2_1))], .agg [.d (.v (.int .i64 a3_0)), .d (.v (.int .i64 a3_1))]] [] (.c (.d (.v (.bool r)))) [] := by
 unfold impl_crossing.f at H
 refine OkF.of (N := 31) (rs := [8]) (avs := [.c (.d (.v (.bool r)))]) Try.func134 rfl rfl (fun _ _ => results_tmp rfl _ _ _) (by decide) rfl rfl rfl rfl (fun w0 S => ?_)
 refine AG.seq ?_
 refine AG.region HM ?_
 refine a_box 200 ?_
 refine a_box 201 ?_
 refine a_box 202 ?_
 refine a_box 203 ?_
 refine a_move (v := vB _) ?_
 refine RA.nil nofun ?_
 refine AG.seq ?_
 refine AG.region HM ?_
 refine a_ldB (v := .agg [_, _]) ?_ T61
 refine a_ldB (v := .agg [_, _]) ?_ T61
 refine a_ldB (v := .agg [_, _]) ?_ T61
 obtain ⟨t1, e2, H⟩ := bindO H
 refine a_call (v := vI t1) (nk := []) (L := []) ?_ rfl (impl_side.ok e2) id (qg (qg (qg qn))) trivial trivial trivial rfl
 refine a_ldB (v := .agg [_, _]) ?_ T61
 refine a_ldB (v := .agg [_, _]) ?_ T61
 refine a_ldB (v := .agg [_, _]) ?_ T61
 obtain ⟨t3, e4, H⟩ := bindO H
 refine a_call (v := vI t3) (nk := []) (L := []) ?_ rfl (impl_side.ok e4) id (qg (qg (qg qn))) trivial trivial trivial rfl
 refine a_int (u := .int .i64 (wrap64 (t1 * t3))) ?_
 refine a_int (u := .bool (decide ((wrap64 (t1 * t3)) < 0))) ?_
 refine a_move (v := vB _) ?_
 by_cases hc5 : (wrap64 (t1 * t3)) < 0
 ·rw [if_pos hc5] at H
  refine a_ldB (v := .agg [_, _]) ?_ T61 (hg := Gs.yes rfl rfl rfl (decide_eq_true hc5))
  refine a_ldB (v := .agg [_, _]) ?_ T61 (hg := Gs.yes rfl rfl rfl (decide_eq_true hc5))
  refine a_ldB (v := .agg [_, _]) ?_ T61 (hg := Gs.yes rfl rfl rfl (decide_eq_true hc5))
  obtain ⟨t6, e7, H⟩ := bindO H
  refine a_call (v := vI t6) (nk := []) (L := []) ?_ rfl (impl_side.ok e7) id (qg (qg (qg qn))) trivial trivial trivial rfl (hg := Gs.yes rfl rfl rfl (decide_eq_true hc5))
  refine a_ldB (v := .agg [_, _]) ?_ T61 (hg := Gs.yes rfl rfl rfl (decide_eq_true hc5))
  refine a_ldB (v := .agg [_, _]) ?_ T61 (hg := Gs.yes rfl rfl rfl (decide_eq_true hc5))
  refine a_ldB (v := .agg [_, _]) ?_ T61 (hg := Gs.yes rfl rfl rfl (decide_eq_true hc5))
  obtain ⟨t8, e9, H⟩ := bindO H
  refine a_call (v := vI t8) (nk := []) (L := []) ?_ rfl (impl_side.ok e9) id (qg (qg (qg qn))) trivial trivial trivial rfl (hg := Gs.yes rfl rfl rfl (decide_eq_true hc5))
  refine a_int (u := .int .i64 (wrap64 (t6 * t8))) ?_ (hg := Gs.yes rfl rfl rfl (decide_eq_true hc5))
  refine a_int (u := .bool (decide ((wrap64 (t6 * t8)) < 0))) ?_ (hg := Gs.yes rfl rfl rfl (decide_eq_true hc5))
  refine a_pick (b := true) (v := vB _) ?_ (decide_eq_true hc5)
  refine a_move (v := vB _) ?_
  refine RA.nil (fun _ => by kernel_rfl) ?_
  refine AG.ret ?_
  obtain rfl := Option.some.inj H
  exact RetP.mk id ⟨rfl, trivial⟩ trivial rfl
 ·rw [if_neg hc5] at H
  refine RA.skip rfl rfl rfl rfl rfl (decide_eq_false hc5) (by decide) ?_
  refine RA.skip rfl rfl rfl rfl rfl (decide_eq_false hc5) (by decide) ?_
  refine RA.skip rfl rfl rfl rfl rfl (decide_eq_false hc5) (by decide) ?_
  refine RA.skip rfl rfl rfl rfl rfl (decide_eq_false hc5) (by decide) ?_
  refine RA.skip rfl rfl rfl rfl rfl (decide_eq_false hc5) (by decide) ?_
  refine RA.skip rfl rfl rfl rfl rfl (decide_eq_false hc5) (by decide) ?_
  refine RA.skip rfl rfl rfl rfl rfl (decide_eq_false hc5) (by decide) ?_
  refine RA.skip rfl rfl rfl rfl rfl (decide_eq_false hc5) (by decide) ?_
  refine RA.skip rfl rfl rfl rfl rfl (decide_eq_false hc5) (by decide) ?_
  refine RA.skip rfl rfl rfl rfl rfl (decide_eq_false hc5) (by decide) ?_
  refine a_pick (b := false) (v := vB _) ?_ (decide_eq_false hc5)
  refine a_move (v := vB _) ?_
  refine RA.nil (fun _ => by kernel_rfl) ?_
  refine AG.ret ?_
  obtain rfl := Option.some.inj H
  exact RetP.mk id ⟨rfl, trivial⟩ trivial rfl
/-! ### impl_touching: function 115 -/
def impl_touching.f (a0_0 : Int) (a0_1 : Int) (a1_0 : Int) (a1_1 : Int) (a2_0 : Int) (a2_1 : Int) (a3_0 : Int) (a3_1 : Int) : Option (Bool) := (impl_crossing.f a0_0 a0_1 a1_0 a1_1 a2_0 a2_1 a3_0 a3_1).bind fun t1 => (if t1 = true then (some true) else ((impl_on.f a0_0 a0_1 a1_0 a1_1 a2_0 a2_1).bind fun t4 => (if t4 = true then (some true) else ((impl_on.f a0_0 a0_1 a1_0 a1_1 a3_0 a3_1).bind fun t7 => (if t7 = true then (some true) else ((impl_on.f a2_0 a2_1 a3_0 a3_1 a0_0 a0_1).bind fun t10 => (if t10 = true then (some true) else ((impl_on.f a2_0 a2_1 a3_0 a3_1 a1_0 a1_1).bind fun t13 => (some t13)))))))))
set_option maxRecDepth 100000 in
theorem impl_touching.ok {a0_0 : Int} {a0_1 : Int} {a1_0 : Int} {a1_1 : Int} {a2_0 : Int} {a2_1 : Int} {a3_0 : Int} {a3_1 : Int} {r : Bool} (H : impl_touching.f a0_0 a0_1 a1_0 a1_1 a2_0 a2_1 a3_0 a3_1 = some r) : OkF Try.prog 115 [.agg [.d (.v (.int .i64 a0_0)), .d (.v (.int .i64 a0_1))], .agg [.d (.v (.int .i64 a1_0)), .d (.v (.int .i64 a1_1))], .agg [.d (.v (.int .i64 a2_0)), .d (.v (.int .i64 a2_1))], .agg [.d (.v (.int .i64 a3_0)), .d (.v (.int .i64 a3_1))]] [] (.c (.d (.v (.bool r)))) [] := by
 unfold impl_touching.f at H
 refine OkF.of (N := 38) (rs := [8]) (avs := [.c (.d (.v (.bool r)))]) Try.func115 rfl rfl (fun _ _ => results_tmp rfl _ _ _) (by decide) rfl rfl rfl rfl (fun w0 S => ?_)
 refine AG.seq ?_
 refine AG.region HM ?_
 refine a_box 200 ?_
 refine a_box 201 ?_
 refine a_box 202 ?_
 refine a_box 203 ?_
 refine a_move (v := vB _) ?_
 refine RA.nil nofun ?_
 refine AG.seq ?_
 refine AG.region HM ?_
 refine a_ldB (v := .agg [_, _]) ?_ T61
 refine a_ldB (v := .agg [_, _]) ?_ T61
 refine a_ldB (v := .agg [_, _]) ?_ T61
 refine a_ldB (v := .agg [_, _]) ?_ T61
 obtain ⟨t1, e2, H⟩ := bindO H
 refine a_call (v := vB t1) (nk := []) (L := []) ?_ rfl (impl_crossing.ok e2) id (qg (qg (qg (qg qn)))) trivial trivial trivial rfl
 refine a_move (v := vB _) ?_
 by_cases hc3 : t1 = true
 ·rw [if_pos hc3] at H
  refine RA.skip rfl rfl rfl rfl rfl hc3 (by decide) ?_
  refine RA.skip rfl rfl rfl rfl rfl hc3 (by decide) ?_
  refine RA.skip rfl rfl rfl rfl rfl hc3 (by decide) ?_
  refine RA.skip rfl rfl rfl rfl rfl hc3 (by decide) ?_
  refine a_pick (b := true) (v := vB _) ?_ hc3
  refine a_move (v := vB _) ?_
  refine RA.skip rfl rfl rfl rfl rfl rfl (by decide) ?_
  refine RA.skip rfl rfl rfl rfl rfl rfl (by decide) ?_
  refine RA.skip rfl rfl rfl rfl rfl rfl (by decide) ?_
  refine RA.skip rfl rfl rfl rfl rfl rfl (by decide) ?_
  refine a_pick (b := true) (v := vB _) ?_ rfl
  refine a_move (v := vB _) ?_
  refine RA.skip rfl rfl rfl rfl rfl rfl (by decide) ?_
  refine RA.skip rfl rfl rfl rfl rfl rfl (by decide) ?_
  refine RA.skip rfl rfl rfl rfl rfl rfl (by decide) ?_
  refine RA.skip rfl rfl rfl rfl rfl rfl (by decide) ?_
  refine a_pick (b := true) (v := vB _) ?_ rfl
  refine a_move (v := vB _) ?_
  refine RA.skip rfl rfl rfl rfl rfl rfl (by decide) ?_
  refine RA.skip rfl rfl rfl rfl rfl rfl (by decide) ?_
  refine RA.skip rfl rfl rfl rfl rfl rfl (by decide) ?_
  refine RA.skip rfl rfl rfl rfl rfl rfl (by decide) ?_
  refine a_pick (b := true) (v := vB _) ?_ rfl
  refine a_move (v := vB _) ?_
  refine RA.nil nofun ?_
  refine AG.ret ?_
  obtain rfl := Option.some.inj H
  exact RetP.mk id ⟨rfl, trivial⟩ trivial rfl
 ·rw [if_neg hc3] at H
  refine a_ldB (v := .agg [_, _]) ?_ T61 (hg := Gs.yes rfl rfl rfl (Bool.eq_false_iff.2 hc3))
  refine a_ldB (v := .agg [_, _]) ?_ T61 (hg := Gs.yes rfl rfl rfl (Bool.eq_false_iff.2 hc3))
  refine a_ldB (v := .agg [_, _]) ?_ T61 (hg := Gs.yes rfl rfl rfl (Bool.eq_false_iff.2 hc3))
  obtain ⟨t4, e5, H⟩ := bindO H
  refine a_call (v := vB t4) (nk := []) (L := []) ?_ rfl (impl_on.ok e5) id (qg (qg (qg qn))) trivial trivial trivial rfl (hg := Gs.yes rfl rfl rfl (Bool.eq_false_iff.2 hc3))
  refine a_pick (b := false) (v := vB _) ?_ (Bool.eq_false_iff.2 hc3)
  refine a_move (v := vB _) ?_
  by_cases hc6 : t4 = true
  ·rw [if_pos hc6] at H
   refine RA.skip rfl rfl rfl rfl rfl hc6 (by decide) ?_
   refine RA.skip rfl rfl rfl rfl rfl hc6 (by decide) ?_
   refine RA.skip rfl rfl rfl rfl rfl hc6 (by decide) ?_
   refine RA.skip rfl rfl rfl rfl rfl hc6 (by decide) ?_
   refine a_pick (b := true) (v := vB _) ?_ hc6
   refine a_move (v := vB _) ?_
   refine RA.skip rfl rfl rfl rfl rfl rfl (by decide) ?_
   refine RA.skip rfl rfl rfl rfl rfl rfl (by decide) ?_
   refine RA.skip rfl rfl rfl rfl rfl rfl (by decide) ?_
   refine RA.skip rfl rfl rfl rfl rfl rfl (by decide) ?_
   refine a_pick (b := true) (v := vB _) ?_ rfl
   refine a_move (v := vB _) ?_
   refine RA.skip rfl rfl rfl rfl rfl rfl (by decide) ?_
   refine RA.skip rfl rfl rfl rfl rfl rfl (by decide) ?_
   refine RA.skip rfl rfl rfl rfl rfl rfl (by decide) ?_
   refine RA.skip rfl rfl rfl rfl rfl rfl (by decide) ?_
   refine a_pick (b := true) (v := vB _) ?_ rfl
   refine a_move (v := vB _) ?_
   refine RA.nil nofun ?_
   refine AG.ret ?_
   obtain rfl := Option.some.inj H
   exact RetP.mk id ⟨rfl, trivial⟩ trivial rfl
  ·rw [if_neg hc6] at H
   refine a_ldB (v := .agg [_, _]) ?_ T61 (hg := Gs.yes rfl rfl rfl (Bool.eq_false_iff.2 hc6))
   refine a_ldB (v := .agg [_, _]) ?_ T61 (hg := Gs.yes rfl rfl rfl (Bool.eq_false_iff.2 hc6))
   refine a_ldB (v := .agg [_, _]) ?_ T61 (hg := Gs.yes rfl rfl rfl (Bool.eq_false_iff.2 hc6))
   obtain ⟨t7, e8, H⟩ := bindO H
   refine a_call (v := vB t7) (nk := []) (L := []) ?_ rfl (impl_on.ok e8) id (qg (qg (qg qn))) trivial trivial trivial rfl (hg := Gs.yes rfl rfl rfl (Bool.eq_false_iff.2 hc6))
   refine a_pick (b := false) (v := vB _) ?_ (Bool.eq_false_iff.2 hc6)
   refine a_move (v := vB _) ?_
   by_cases hc9 : t7 = true
   ·rw [if_pos hc9] at H
    refine RA.skip rfl rfl rfl rfl rfl hc9 (by decide) ?_
    refine RA.skip rfl rfl rfl rfl rfl hc9 (by decide) ?_
    refine RA.skip rfl rfl rfl rfl rfl hc9 (by decide) ?_
    refine RA.skip rfl rfl rfl rfl rfl hc9 (by decide) ?_
    refine a_pick (b := true) (v := vB _) ?_ hc9
    refine a_move (v := vB _) ?_
    refine RA.skip rfl rfl rfl rfl rfl rfl (by decide) ?_
    refine RA.skip rfl rfl rfl rfl rfl rfl (by decide) ?_
    refine RA.skip rfl rfl rfl rfl rfl rfl (by decide) ?_
    refine RA.skip rfl rfl rfl rfl rfl rfl (by decide) ?_
    refine a_pick (b := true) (v := vB _) ?_ rfl
    refine a_move (v := vB _) ?_
    refine RA.nil nofun ?_
    refine AG.ret ?_
    obtain rfl := Option.some.inj H
    exact RetP.mk id ⟨rfl, trivial⟩ trivial rfl
   ·rw [if_neg hc9] at H
    refine a_ldB (v := .agg [_, _]) ?_ T61 (hg := Gs.yes rfl rfl rfl (Bool.eq_false_iff.2 hc9))
    refine a_ldB (v := .agg [_, _]) ?_ T61 (hg := Gs.yes rfl rfl rfl (Bool.eq_false_iff.2 hc9))
    refine a_ldB (v := .agg [_, _]) ?_ T61 (hg := Gs.yes rfl rfl rfl (Bool.eq_false_iff.2 hc9))
    obtain ⟨t10, e11, H⟩ := bindO H
    refine a_call (v := vB t10) (nk := []) (L := []) ?_ rfl (impl_on.ok e11) id (qg (qg (qg qn))) trivial trivial trivial rfl (hg := Gs.yes rfl rfl rfl (Bool.eq_false_iff.2 hc9))
    refine a_pick (b := false) (v := vB _) ?_ (Bool.eq_false_iff.2 hc9)
    refine a_move (v := vB _) ?_
    by_cases hc12 : t10 = true
    ·rw [if_pos hc12] at H
     refine RA.skip rfl rfl rfl rfl rfl hc12 (by decide) ?_
     refine RA.skip rfl rfl rfl rfl rfl hc12 (by decide) ?_
     refine RA.skip rfl rfl rfl rfl rfl hc12 (by decide) ?_
     refine RA.skip rfl rfl rfl rfl rfl hc12 (by decide) ?_
     refine a_pick (b := true) (v := vB _) ?_ hc12
     refine a_move (v := vB _) ?_
     refine RA.nil nofun ?_
     refine AG.ret ?_
     obtain rfl := Option.some.inj H
     exact RetP.mk id ⟨rfl, trivial⟩ trivial rfl
    ·rw [if_neg hc12] at H
     refine a_ldB (v := .agg [_, _]) ?_ T61 (hg := Gs.yes rfl rfl rfl (Bool.eq_false_iff.2 hc12))
     refine a_ldB (v := .agg [_, _]) ?_ T61 (hg := Gs.yes rfl rfl rfl (Bool.eq_false_iff.2 hc12))
     refine a_ldB (v := .agg [_, _]) ?_ T61 (hg := Gs.yes rfl rfl rfl (Bool.eq_false_iff.2 hc12))
     obtain ⟨t13, e14, H⟩ := bindO H
     refine a_call (v := vB t13) (nk := []) (L := []) ?_ rfl (impl_on.ok e14) id (qg (qg (qg qn))) trivial trivial trivial rfl (hg := Gs.yes rfl rfl rfl (Bool.eq_false_iff.2 hc12))
     refine a_pick (b := false) (v := vB _) ?_ (Bool.eq_false_iff.2 hc12)
     refine a_move (v := vB _) ?_
     refine RA.nil nofun ?_
     refine AG.ret ?_
     obtain rfl := Option.some.inj H
     exact RetP.mk id ⟨rfl, trivial⟩ trivial rfl
/-! ### impl_doubled: function 116 -/
def impl_doubled.l0 : Nat → List S60 → Int → List S60 → Int → Int → Option (Int)
 | 0, _, _, _, _, _ => none
 | k + 1, x0, x3, x7, x8, x9 => if x9 < x8 then (if 0 ≤ x9 then (if x9 < (x7.length : Int) then (if (x0.length : Int) = 0 then (none) else (if 0 ≤ (Int.tmod (wrap64 (x9 + 1)) (x0.length : Int)) then (if (Int.tmod (wrap64 (x9 + 1)) (x0.length : Int)) < (x0.length : Int) then (impl_doubled.l0 k x0 (wrap64 (x3 + (wrap64 ((wrap64 (((rd60 x7 x9).f0) * ((rd60 x0 (Int.tmod (wrap64 (x9 + 1)) (x0.length : Int))).f1))) - (wrap64 (((rd60 x7 x9).f1) * ((rd60 x0 (Int.tmod (wrap64 (x9 + 1)) (x0.length : Int))).f0))))))) x7 x8 (wrap64 (x9 + 1))) else (none)) else (none))) else (none)) else (none)) else (some x3)
def impl_doubled.f (k : Nat) (l0 : List S60) : Option (Int) := impl_doubled.l0 k l0 0 l0 (l0.length : Int) 0
set_option maxRecDepth 100000 in
theorem impl_doubled.ok {k : Nat} {l0 : List S60} {r : Int} (H : impl_doubled.f k l0 = some r) : OkF Try.prog 116 [vR 61 (l0.map c60)] [] (.c (.d (.v (.int .i64 r)))) [] := by
 unfold impl_doubled.f at H
 refine OkF.of (N := 37) (rs := [2]) (avs := [.c (.d (.v (.int .i64 r)))]) Try.func116 rfl rfl (fun _ _ => results_tmp rfl _ _ _) (by decide) rfl rfl rfl rfl (fun w0 S => ?_)
 refine AG.seq ?_
 refine AG.region HM ?_
 refine a_move (v := vI _) ?_
 refine RA.nil nofun ?_
 refine AG.seq ?_
 refine AG.region HM ?_
 refine a_move (v := vI _) ?_
 refine RA.nil nofun ?_
 refine AG.seq ?_
 refine AG.seq ?_
 refine AG.region HM ?_
 refine a_move (v := vR _ _) ?_
 refine a_lenR ?_ Try.underlying29
 refine a_move (v := vI _) ?_
 refine RA.nil nofun ?_
 refine AG.block ?_
 refine AG.loop ?_
 obtain ⟨K0, hK0, gK0⟩ : ∃ K, k ≤ K ∧ K ≤ k := ⟨k, Nat.le_refl k, Nat.le_refl k⟩
 refine AGr.canon id (AGr.loopI (n := k) (fun k s => k ≤ K0 ∧ ∃ (x0 : List S60) (x3 : Int) (x7 : List S60) (x8 : Int) (x9 : Int), impl_doubled.l0 k x0 x3 x7 x8 x9 = some r ∧ s = St.of [(0, vR 61 (x0.map c60)), (3, vI x3), (7, vR 61 (x7.map c60)), (8, vI x8), (9, vI x9)] []) ⟨hK0, _, _, _, _, _, H, rfl⟩ ?_ ?_) ⟨rfl, rfl, rfl, rfl, rfl, trivial⟩ trivial rfl
 ·rintro _ ⟨_, _, _, _, _, _, H, _⟩
  cases H
 ·clear H hK0
  rintro k ih0 _ ⟨hK0, x0, x3, x7, x8, x9, H, rfl⟩
  unfold impl_doubled.l0 at H
  refine AG.seq ?_
  refine AG.region HM ?_
  refine a_int (u := .bool (decide (x9 < x8))) ?_
  refine RA.nil nofun ?_
  refine AG.seq ?_
  by_cases hc1 : x9 < x8
  ·rw [if_pos hc1] at H
   refine AG.yes rfl (decide_eq_true hc1) ?_
   refine AG.skip ?_
   refine AG.seq ?_
   refine AG.block ?_
   refine AG.seq ?_
   refine AG.region HM ?_
   refine a_move (v := vI _) ?_
   by_cases hc2 : 0 ≤ x9
   ·rw [if_pos hc2] at H
    by_cases hc3 : x9 < (x7.length : Int)
    ·rw [if_pos hc3] at H
     refine a_ixR (el := c60 (rd60 x7 x9)) ?_ ⟨hc2, hc3⟩ T61 Try.underlying29 (hel := R60 hc2 hc3)
     refine a_ldR (v := .agg [_, _]) ?_ T61
     refine a_alloc (cs := [_, _]) 200 ?_ T61
     refine a_move (v := vI _) ?_
     refine a_stB (cs' := [_, _]) ?_ T61
     refine RA.nil nofun ?_
     refine AG.seq ?_
     refine AG.region HM ?_
     refine a_move (v := vR _ _) ?_
     refine a_move (v := vI _) ?_
     refine a_int (u := .int .i64 (wrap64 (x9 + 1))) ?_
     refine a_move (v := vR _ _) ?_
     refine a_lenR ?_ Try.underlying29
     by_cases hc4 : (x0.length : Int) = 0
     ·rw [if_pos hc4] at H
      cases H
     ·rw [if_neg hc4] at H
      refine a_rem (r := Int.tmod (wrap64 (x9 + 1)) (x0.length : Int)) ?_ hc4
      by_cases hc5 : 0 ≤ (Int.tmod (wrap64 (x9 + 1)) (x0.length : Int))
      ·rw [if_pos hc5] at H
       by_cases hc6 : (Int.tmod (wrap64 (x9 + 1)) (x0.length : Int)) < (x0.length : Int)
       ·rw [if_pos hc6] at H
        refine a_ixR (el := c60 (rd60 x0 (Int.tmod (wrap64 (x9 + 1)) (x0.length : Int)))) ?_ ⟨hc5, hc6⟩ T61 Try.underlying29 (hel := R60 hc5 hc6)
        refine a_ldR (v := .agg [_, _]) ?_ T61
        refine a_alloc (cs := [_, _]) 201 ?_ T61
        refine a_stB (cs' := [_, _]) ?_ T61
        refine RA.nil nofun ?_
        refine AG.region HM ?_
        refine a_move (v := vI _) ?_
        refine a_faB (q := 0) ?_ D61_0
        refine a_ldB (v := vI _) ?_ T2
        refine a_faB (q := 1) ?_ D61_1
        refine a_ldB (v := vI _) ?_ T2
        refine a_int (u := .int .i64 (wrap64 (((rd60 x7 x9).f0) * ((rd60 x0 (Int.tmod (wrap64 (x9 + 1)) (x0.length : Int))).f1)))) ?_
        refine a_faB (q := 1) ?_ D61_1
        refine a_ldB (v := vI _) ?_ T2
        refine a_faB (q := 0) ?_ D61_0
        refine a_ldB (v := vI _) ?_ T2
        refine a_int (u := .int .i64 (wrap64 (((rd60 x7 x9).f1) * ((rd60 x0 (Int.tmod (wrap64 (x9 + 1)) (x0.length : Int))).f0)))) ?_
        refine a_int (u := .int .i64 (wrap64 ((wrap64 (((rd60 x7 x9).f0) * ((rd60 x0 (Int.tmod (wrap64 (x9 + 1)) (x0.length : Int))).f1))) - (wrap64 (((rd60 x7 x9).f1) * ((rd60 x0 (Int.tmod (wrap64 (x9 + 1)) (x0.length : Int))).f0)))))) ?_
        refine a_int (u := .int .i64 (wrap64 (x3 + (wrap64 ((wrap64 (((rd60 x7 x9).f0) * ((rd60 x0 (Int.tmod (wrap64 (x9 + 1)) (x0.length : Int))).f1))) - (wrap64 (((rd60 x7 x9).f1) * ((rd60 x0 (Int.tmod (wrap64 (x9 + 1)) (x0.length : Int))).f0)))))))) ?_
        refine a_move (v := vI _) ?_
        refine RA.nil nofun ?_
        refine AG.region HM ?_
        refine a_int (u := .int .i64 (wrap64 (x9 + 1))) ?_
        refine a_move (v := vI _) ?_
        refine RA.nil nofun ?_
        exact AGr.canon id (ih0 _ (by omega) _ ⟨by omega, _, _, _, _, _, H, rfl⟩) ⟨rfl, rfl, rfl, rfl, rfl, trivial⟩ trivial rfl
       ·rw [if_neg hc6] at H
        cases H
      ·rw [if_neg hc5] at H
       cases H
    ·rw [if_neg hc3] at H
     cases H
   ·rw [if_neg hc2] at H
    cases H
  ·rw [if_neg hc1] at H
   refine AG.no rfl (decide_eq_false hc1) ?_
   refine AG.exit ?_
   refine AG.seq ?_
   refine AG.region HM ?_
   refine a_move (v := vI _) ?_
   refine a_move (v := vI _) ?_
   refine RA.nil nofun ?_
   refine AG.ret ?_
   obtain rfl := Option.some.inj H
   exact RetP.mk id ⟨rfl, trivial⟩ trivial rfl
/-! ### impl_ValidPolygon: function 97 -/
mutual
def impl_ValidPolygon.j0 : Nat → List S60 → Int → Bool → Option (Bool)
 | 0, _, _, _ => none
 | k + 1, x0, x3, x21 => if x21 = true then (some false) else (impl_ValidPolygon.l0 k x0 x3 (x0.length : Int) 0)
def impl_ValidPolygon.l0 : Nat → List S60 → Int → Int → Int → Option (Bool)
 | 0, _, _, _, _ => none
 | k + 1, x0, x3, x23, x24 => if x24 < x23 then (if 0 ≤ x24 then (if x24 < (x0.length : Int) then (if x3 = 0 then (none) else (if 0 ≤ (Int.tmod (wrap64 (x24 + 1)) x3) then (if (Int.tmod (wrap64 (x24 + 1)) x3) < (x0.length : Int) then (if 0 ≤ (Int.tmod (wrap64 (x24 + 2)) x3) then (if (Int.tmod (wrap64 (x24 + 2)) x3) < (x0.length : Int) then (if (((rd60 x0 x24).f0) == ((rd60 x0 (Int.tmod (wrap64 (x24 + 1)) x3)).f0) && (((rd60 x0 x24).f1) == ((rd60 x0 (Int.tmod (wrap64 (x24 + 1)) x3)).f1))) = true then (impl_ValidPolygon.j1 k x0 x3 x24 ((rd60 x0 x24).f0) ((rd60 x0 x24).f1) ((rd60 x0 (Int.tmod (wrap64 (x24 + 1)) x3)).f0) ((rd60 x0 (Int.tmod (wrap64 (x24 + 1)) x3)).f1) x23 x24 true) else ((impl_on.f ((rd60 x0 x24).f0) ((rd60 x0 x24).f1) ((rd60 x0 (Int.tmod (wrap64 (x24 + 1)) x3)).f0) ((rd60 x0 (Int.tmod (wrap64 (x24 + 1)) x3)).f1) ((rd60 x0 (Int.tmod (wrap64 (x24 + 2)) x3)).f0) ((rd60 x0 (Int.tmod (wrap64 (x24 + 2)) x3)).f1)).bind fun t15 => (if t15 = true then (impl_ValidPolygon.j1 k x0 x3 x24 ((rd60 x0 x24).f0) ((rd60 x0 x24).f1) ((rd60 x0 (Int.tmod (wrap64 (x24 + 1)) x3)).f0) ((rd60 x0 (Int.tmod (wrap64 (x24 + 1)) x3)).f1) x23 x24 true) else ((impl_on.f ((rd60 x0 (Int.tmod (wrap64 (x24 + 1)) x3)).f0) ((rd60 x0 (Int.tmod (wrap64 (x24 + 1)) x3)).f1) ((rd60 x0 (Int.tmod (wrap64 (x24 + 2)) x3)).f0) ((rd60 x0 (Int.tmod (wrap64 (x24 + 2)) x3)).f1) ((rd60 x0 x24).f0) ((rd60 x0 x24).f1)).bind fun t18 => (impl_ValidPolygon.j1 k x0 x3 x24 ((rd60 x0 x24).f0) ((rd60 x0 x24).f1) ((rd60 x0 (Int.tmod (wrap64 (x24 + 1)) x3)).f0) ((rd60 x0 (Int.tmod (wrap64 (x24 + 1)) x3)).f1) x23 x24 t18))))) else (none)) else (none)) else (none)) else (none))) else (none)) else (none)) else ((impl_doubled.f k x0).bind fun t31 => (some (decide (t31 > 0))))
def impl_ValidPolygon.j1 : Nat → List S60 → Int → Int → Int → Int → Int → Int → Int → Int → Bool → Option (Bool)
 | 0, _, _, _, _, _, _, _, _, _, _ => none
 | k + 1, x0, x3, x4, y207_0, y207_1, y208_0, y208_1, x23, x24, x59 => if x59 = true then (some false) else (impl_ValidPolygon.l1 k x0 x3 x4 y207_0 y207_1 y208_0 y208_1 (wrap64 (x4 + 2)) x23 x24)
def impl_ValidPolygon.l1 : Nat → List S60 → Int → Int → Int → Int → Int → Int → Int → Int → Int → Option (Bool)
 | 0, _, _, _, _, _, _, _, _, _, _ => none
 | k + 1, x0, x3, x4, y209_0, y209_1, y210_0, y210_1, x8, x23, x24 => if x8 < x3 then (if x3 = 0 then (none) else (if (Int.tmod (wrap64 (x8 + 1)) x3) = x4 then (impl_ValidPolygon.l1 k x0 x3 x4 y209_0 y209_1 y210_0 y210_1 (wrap64 (x8 + 1)) x23 x24) else (if 0 ≤ x8 then (if x8 < (x0.length : Int) then (if 0 ≤ (Int.tmod (wrap64 (x8 + 1)) x3) then (if (Int.tmod (wrap64 (x8 + 1)) x3) < (x0.length : Int) then ((impl_touching.f y209_0 y209_1 y210_0 y210_1 ((rd60 x0 x8).f0) ((rd60 x0 x8).f1) ((rd60 x0 (Int.tmod (wrap64 (x8 + 1)) x3)).f0) ((rd60 x0 (Int.tmod (wrap64 (x8 + 1)) x3)).f1)).bind fun t28 => (if t28 = true then (some false) else (impl_ValidPolygon.l1 k x0 x3 x4 y209_0 y209_1 y210_0 y210_1 (wrap64 (x8 + 1)) x23 x24))) else (none)) else (none)) else (none)) else (none)))) else (impl_ValidPolygon.l0 k x0 x3 x23 (wrap64 (x24 + 1)))
end
def impl_ValidPolygon.f (k : Nat) (l0 : List S60) : Option (Bool) := if (l0.length : Int) < 3 then (impl_ValidPolygon.j0 k l0 (l0.length : Int) true) else (if (l0.length : Int) > 24 then (impl_ValidPolygon.j0 k l0 (l0.length : Int) true) else ((impl_validPoints.f k l0).bind fun t3 => (impl_ValidPolygon.j0 k l0 (l0.length : Int) (!t3))))
set_option maxRecDepth 100000 in
theorem impl_ValidPolygon.ok {k : Nat} {l0 : List S60} {r : Bool} (H : impl_ValidPolygon.f k l0 = some r) : OkF Try.prog 97 [vR 61 (l0.map c60)] [] (.c (.d (.v (.bool r)))) [] := by
 unfold impl_ValidPolygon.f at H
 refine OkF.of (N := 93) (rs := [2]) (avs := [.c (.d (.v (.bool r)))]) Try.func97 rfl rfl (fun _ _ => results_tmp rfl _ _ _) (by decide) rfl rfl rfl rfl (fun w0 S => ?_)
 refine AG.seq ?_
 refine AG.region HM ?_
 refine a_move (v := vB _) ?_
 refine RA.nil nofun ?_
 refine AG.seq ?_
 refine AG.region HM ?_
 refine a_move (v := vR _ _) ?_
 refine a_lenR ?_ Try.underlying29
 refine a_move (v := vI _) ?_
 refine RA.nil nofun ?_
 refine AG.seq ?_
 refine AG.seq ?_
 refine AG.joinR (fun s => ∃ q, q ≤ k ∧ ∃ (x0 : List S60) (x3 : Int) (x21 : Bool), impl_ValidPolygon.j0 q x0 x3 x21 = some r ∧ s = St.of [(0, vR 61 (x0.map c60)), (3, vI x3), (21, vB x21)] []) ?_ ?_
 ·skip
  refine AG.region HM ?_
  refine a_move (v := vI _) ?_
  refine a_int (u := .bool (decide ((l0.length : Int) < 3))) ?_
  refine a_move (v := vB _) ?_
  by_cases hc1 : (l0.length : Int) < 3
  ·rw [if_pos hc1] at H
   refine RA.skip rfl rfl rfl rfl rfl (decide_eq_true hc1) (by decide) ?_
   refine RA.skip rfl rfl rfl rfl rfl (decide_eq_true hc1) (by decide) ?_
   refine a_pick (b := true) (v := vB _) ?_ (decide_eq_true hc1)
   refine a_move (v := vB _) ?_
   refine RA.skip rfl rfl rfl rfl rfl rfl (by decide) ?_
   refine RA.skip rfl rfl rfl rfl rfl rfl (by decide) ?_
   refine RA.skip rfl rfl rfl rfl rfl rfl (by decide) ?_
   refine a_pick (b := true) (v := vB _) ?_ rfl
   refine RA.nil nofun ?_
   exact CanR.mk id ⟨_, (by omega), _, _, _, H, rfl⟩ ⟨rfl, rfl, rfl, trivial⟩ trivial rfl
  ·rw [if_neg hc1] at H
   refine a_move (v := vI _) ?_ (hg := Gs.yes rfl rfl rfl (decide_eq_false hc1))
   refine a_int (u := .bool (decide ((l0.length : Int) > 24))) ?_ (hg := Gs.yes rfl rfl rfl (decide_eq_false hc1))
   refine a_pick (b := false) (v := vB _) ?_ (decide_eq_false hc1)
   refine a_move (v := vB _) ?_
   by_cases hc2 : (l0.length : Int) > 24
   ·rw [if_pos hc2] at H
    refine RA.skip rfl rfl rfl rfl rfl (decide_eq_true hc2) (by decide) ?_
    refine RA.skip rfl rfl rfl rfl rfl (decide_eq_true hc2) (by decide) ?_
    refine RA.skip rfl rfl rfl rfl rfl (decide_eq_true hc2) (by decide) ?_
    refine a_pick (b := true) (v := vB _) ?_ (decide_eq_true hc2)
    refine RA.nil nofun ?_
    exact CanR.mk id ⟨_, (by omega), _, _, _, H, rfl⟩ ⟨rfl, rfl, rfl, trivial⟩ trivial rfl
   ·rw [if_neg hc2] at H
    refine a_move (v := vR _ _) ?_ (hg := Gs.yes rfl rfl rfl (decide_eq_false hc2))
    obtain ⟨t3, e4, H⟩ := bindO H
    refine a_call (v := vB t3) (nk := []) (L := []) ?_ rfl (impl_validPoints.ok e4) id (qd qn) trivial trivial trivial rfl (hg := Gs.yes rfl rfl rfl (decide_eq_false hc2))
    refine a_un (u := .bool (!t3)) ?_ (hg := Gs.yes rfl rfl rfl (decide_eq_false hc2))
    refine a_pick (b := false) (v := vB _) ?_ (decide_eq_false hc2)
    refine RA.nil nofun ?_
    exact CanR.mk id ⟨_, (by omega), _, _, _, H, rfl⟩ ⟨rfl, rfl, rfl, trivial⟩ trivial rfl
 ·clear H
  rintro _ ⟨k, hj0, x0, x3, x21, H, rfl⟩
  cases k with
  | zero => cases H
  | succ k =>
   rw [impl_ValidPolygon.j0] at H
   by_cases hc5 : x21 = true
   ·rw [if_pos hc5] at H
    refine AG.yes rfl hc5 ?_
    refine AG.seq ?_
    refine AG.region HM ?_
    refine a_move (v := vB _) ?_
    refine RA.nil nofun ?_
    refine AG.ret ?_
    obtain rfl := Option.some.inj H
    exact RetP.mk id ⟨rfl, trivial⟩ trivial rfl
   ·rw [if_neg hc5] at H
    refine AG.no rfl (Bool.eq_false_iff.2 hc5) ?_
    refine AG.skip ?_
    refine AG.seq ?_
    refine AG.seq ?_
    refine AG.region HM ?_
    refine a_move (v := vR _ _) ?_
    refine a_lenR ?_ Try.underlying29
    refine a_move (v := vI _) ?_
    refine RA.nil nofun ?_
    refine AG.block ?_
    refine AG.loop ?_
    obtain ⟨K0, hK0, gK0⟩ : ∃ K, k ≤ K ∧ K ≤ k := ⟨k, Nat.le_refl k, Nat.le_refl k⟩
    refine AGr.canon id (AGr.loopI (n := k) (fun k s => k ≤ K0 ∧ ∃ (x0 : List S60) (x3 : Int) (x23 : Int) (x24 : Int), impl_ValidPolygon.l0 k x0 x3 x23 x24 = some r ∧ s = St.of [(0, vR 61 (x0.map c60)), (3, vI x3), (23, vI x23), (24, vI x24)] []) ⟨hK0, _, _, _, _, H, rfl⟩ ?_ ?_) ⟨rfl, rfl, rfl, rfl, trivial⟩ trivial rfl
    ·rintro _ ⟨_, _, _, _, _, H, _⟩
     cases H
    ·clear H hK0
     rintro k ih0 _ ⟨hK0, x0, x3, x23, x24, H, rfl⟩
     unfold impl_ValidPolygon.l0 at H
     refine AG.seq ?_
     refine AG.region HM ?_
     refine a_int (u := .bool (decide (x24 < x23))) ?_
     refine RA.nil nofun ?_
     refine AG.seq ?_
     by_cases hc6 : x24 < x23
     ·rw [if_pos hc6] at H
      refine AG.yes rfl (decide_eq_true hc6) ?_
      refine AG.skip ?_
      refine AG.seq ?_
      refine AG.block ?_
      refine AG.seq ?_
      refine AG.region HM ?_
      refine a_move (v := vI _) ?_
      refine a_move (v := vI _) ?_
      refine RA.nil nofun ?_
      refine AG.seq ?_
      refine AG.region HM ?_
      refine a_move (v := vR _ _) ?_
      refine a_move (v := vI _) ?_
      by_cases hc7 : 0 ≤ x24
      ·rw [if_pos hc7] at H
       by_cases hc8 : x24 < (x0.length : Int)
       ·rw [if_pos hc8] at H
        refine a_ixR (el := c60 (rd60 x0 x24)) ?_ ⟨hc7, hc8⟩ T61 Try.underlying29 (hel := R60 hc7 hc8)
        refine a_ldR (v := .agg [_, _]) ?_ T61
        refine a_move (v := vR _ _) ?_
        refine a_move (v := vI _) ?_
        refine a_int (u := .int .i64 (wrap64 (x24 + 1))) ?_
        refine a_move (v := vI _) ?_
        by_cases hc9 : x3 = 0
        ·rw [if_pos hc9] at H
         cases H
        ·rw [if_neg hc9] at H
         refine a_rem (r := Int.tmod (wrap64 (x24 + 1)) x3) ?_ hc9
         by_cases hc10 : 0 ≤ (Int.tmod (wrap64 (x24 + 1)) x3)
         ·rw [if_pos hc10] at H
          by_cases hc11 : (Int.tmod (wrap64 (x24 + 1)) x3) < (x0.length : Int)
          ·rw [if_pos hc11] at H
           refine a_ixR (el := c60 (rd60 x0 (Int.tmod (wrap64 (x24 + 1)) x3))) ?_ ⟨hc10, hc11⟩ T61 Try.underlying29 (hel := R60 hc10 hc11)
           refine a_ldR (v := .agg [_, _]) ?_ T61
           refine a_move (v := vR _ _) ?_
           refine a_move (v := vI _) ?_
           refine a_int (u := .int .i64 (wrap64 (x24 + 2))) ?_
           refine a_move (v := vI _) ?_
           refine a_rem (r := Int.tmod (wrap64 (x24 + 2)) x3) ?_ hc9
           by_cases hc12 : 0 ≤ (Int.tmod (wrap64 (x24 + 2)) x3)
           ·rw [if_pos hc12] at H
            by_cases hc13 : (Int.tmod (wrap64 (x24 + 2)) x3) < (x0.length : Int)
            ·rw [if_pos hc13] at H
             refine a_ixR (el := c60 (rd60 x0 (Int.tmod (wrap64 (x24 + 2)) x3))) ?_ ⟨hc12, hc13⟩ T61 Try.underlying29 (hel := R60 hc12 hc13)
             refine a_ldR (v := .agg [_, _]) ?_ T61
             refine a_alloc (cs := [_, _]) 202 ?_ T61
             refine a_alloc (cs := [_, _]) 203 ?_ T61
             refine a_alloc (cs := [_, _]) 204 ?_ T61
             refine a_stB (cs' := [_, _]) ?_ T61
             refine a_stB (cs' := [_, _]) ?_ T61
             refine a_stB (cs' := [_, _]) ?_ T61
             refine RA.nil (fun _ => by kernel_rfl) ?_
             refine AG.seq ?_
             refine AG.seq ?_
             refine AG.joinR (fun s => ∃ q, q ≤ k ∧ ∃ (x0 : List S60) (x3 : Int) (x4 : Int) (y207_0 : Int) (y207_1 : Int) (y208_0 : Int) (y208_1 : Int) (x23 : Int) (x24 : Int) (x59 : Bool), impl_ValidPolygon.j1 q x0 x3 x4 y207_0 y207_1 y208_0 y208_1 x23 x24 x59 = some r ∧ s = St.of [(0, vR 61 (x0.map c60)), (3, vI x3), (4, vI x4), (5, .c (.ptr 207 0)), (6, .c (.ptr 208 0)), (23, vI x23), (24, vI x24), (59, vB x59)] [(207, .box 61 [.d (.v (.int .i64 y207_0)), .d (.v (.int .i64 y207_1))]), (208, .box 61 [.d (.v (.int .i64 y208_0)), .d (.v (.int .i64 y208_1))])]) ?_ ?_
             ·skip
              refine AG.region HM ?_
              refine a_ldB (v := .agg [_, _]) ?_ T61
              refine a_ldB (v := .agg [_, _]) ?_ T61
              refine a_eqS (b := (((rd60 x0 x24).f0) == ((rd60 x0 (Int.tmod (wrap64 (x24 + 1)) x3)).f0) && (((rd60 x0 x24).f1) == ((rd60 x0 (Int.tmod (wrap64 (x24 + 1)) x3)).f1)))) ?_ (.inl ⟨rfl, rfl⟩) (Q61 ((rd60 x0 x24).f0) ((rd60 x0 (Int.tmod (wrap64 (x24 + 1)) x3)).f0) ((rd60 x0 x24).f1) ((rd60 x0 (Int.tmod (wrap64 (x24 + 1)) x3)).f1)).1
              refine a_move (v := vB _) ?_
              by_cases hc14 : (((rd60 x0 x24).f0) == ((rd60 x0 (Int.tmod (wrap64 (x24 + 1)) x3)).f0) && (((rd60 x0 x24).f1) == ((rd60 x0 (Int.tmod (wrap64 (x24 + 1)) x3)).f1))) = true
              ·rw [if_pos hc14] at H
               refine RA.skip rfl rfl rfl rfl rfl hc14 (by decide) ?_
               refine RA.skip rfl rfl rfl rfl rfl hc14 (by decide) ?_
               refine RA.skip rfl rfl rfl rfl rfl hc14 (by decide) ?_
               refine RA.skip rfl rfl rfl rfl rfl hc14 (by decide) ?_
               refine a_pick (b := true) (v := vB _) ?_ hc14
               refine a_move (v := vB _) ?_
               refine RA.skip rfl rfl rfl rfl rfl rfl (by decide) ?_
               refine RA.skip rfl rfl rfl rfl rfl rfl (by decide) ?_
               refine RA.skip rfl rfl rfl rfl rfl rfl (by decide) ?_
               refine RA.skip rfl rfl rfl rfl rfl rfl (by decide) ?_
               refine a_pick (b := true) (v := vB _) ?_ rfl
               refine RA.nil nofun ?_
               exact CanR.mk (fun κ => cond (Nat.beq κ 207) 202 (cond (Nat.beq κ 208) 203 (κ))) ⟨_, (by omega), _, _, _, _, _, _, _, _, _, _, H, rfl⟩ ⟨rfl, rfl, rfl, rfl, rfl, rfl, rfl, rfl, trivial⟩ ⟨rfl, rfl, trivial⟩ rfl
              ·rw [if_neg hc14] at H
               refine a_ldB (v := .agg [_, _]) ?_ T61 (hg := Gs.yes rfl rfl rfl (Bool.eq_false_iff.2 hc14))
               refine a_ldB (v := .agg [_, _]) ?_ T61 (hg := Gs.yes rfl rfl rfl (Bool.eq_false_iff.2 hc14))
               refine a_ldB (v := .agg [_, _]) ?_ T61 (hg := Gs.yes rfl rfl rfl (Bool.eq_false_iff.2 hc14))
               obtain ⟨t15, e16, H⟩ := bindO H
               refine a_call (v := vB t15) (nk := []) (L := []) ?_ rfl (impl_on.ok e16) id (qg (qg (qg qn))) trivial trivial trivial rfl (hg := Gs.yes rfl rfl rfl (Bool.eq_false_iff.2 hc14))
               refine a_pick (b := false) (v := vB _) ?_ (Bool.eq_false_iff.2 hc14)
               refine a_move (v := vB _) ?_
               by_cases hc17 : t15 = true
               ·rw [if_pos hc17] at H
                refine RA.skip rfl rfl rfl rfl rfl hc17 (by decide) ?_
                refine RA.skip rfl rfl rfl rfl rfl hc17 (by decide) ?_
                refine RA.skip rfl rfl rfl rfl rfl hc17 (by decide) ?_
                refine RA.skip rfl rfl rfl rfl rfl hc17 (by decide) ?_
                refine a_pick (b := true) (v := vB _) ?_ hc17
                refine RA.nil nofun ?_
                exact CanR.mk (fun κ => cond (Nat.beq κ 207) 202 (cond (Nat.beq κ 208) 203 (κ))) ⟨_, (by omega), _, _, _, _, _, _, _, _, _, _, H, rfl⟩ ⟨rfl, rfl, rfl, rfl, rfl, rfl, rfl, rfl, trivial⟩ ⟨rfl, rfl, trivial⟩ rfl
               ·rw [if_neg hc17] at H
                refine a_ldB (v := .agg [_, _]) ?_ T61 (hg := Gs.yes rfl rfl rfl (Bool.eq_false_iff.2 hc17))
                refine a_ldB (v := .agg [_, _]) ?_ T61 (hg := Gs.yes rfl rfl rfl (Bool.eq_false_iff.2 hc17))
                refine a_ldB (v := .agg [_, _]) ?_ T61 (hg := Gs.yes rfl rfl rfl (Bool.eq_false_iff.2 hc17))
                obtain ⟨t18, e19, H⟩ := bindO H
                refine a_call (v := vB t18) (nk := []) (L := []) ?_ rfl (impl_on.ok e19) id (qg (qg (qg qn))) trivial trivial trivial rfl (hg := Gs.yes rfl rfl rfl (Bool.eq_false_iff.2 hc17))
                refine a_pick (b := false) (v := vB _) ?_ (Bool.eq_false_iff.2 hc17)
                refine RA.nil nofun ?_
                exact CanR.mk (fun κ => cond (Nat.beq κ 207) 202 (cond (Nat.beq κ 208) 203 (κ))) ⟨_, (by omega), _, _, _, _, _, _, _, _, _, _, H, rfl⟩ ⟨rfl, rfl, rfl, rfl, rfl, rfl, rfl, rfl, trivial⟩ ⟨rfl, rfl, trivial⟩ rfl
             ·clear H
              rintro _ ⟨k, hj1, x0, x3, x4, y207_0, y207_1, y208_0, y208_1, x23, x24, x59, H, rfl⟩
              cases k with
              | zero => cases H
              | succ k =>
               rw [impl_ValidPolygon.j1] at H
               by_cases hc20 : x59 = true
               ·rw [if_pos hc20] at H
                refine AG.yes rfl hc20 ?_
                refine AG.seq ?_
                refine AG.region HM ?_
                refine a_move (v := vB _) ?_
                refine RA.nil nofun ?_
                refine AG.ret ?_
                obtain rfl := Option.some.inj H
                exact RetP.mk id ⟨rfl, trivial⟩ trivial rfl
               ·rw [if_neg hc20] at H
                refine AG.no rfl (Bool.eq_false_iff.2 hc20) ?_
                refine AG.skip ?_
                refine AG.seq ?_
                refine AG.region HM ?_
                refine a_move (v := vI _) ?_
                refine a_int (u := .int .i64 (wrap64 (x4 + 2))) ?_
                refine a_move (v := vI _) ?_
                refine RA.nil nofun ?_
                refine AG.block ?_
                refine AG.loop ?_
                obtain ⟨K1, hK1, gK1⟩ : ∃ K, k ≤ K ∧ K ≤ k := ⟨k, Nat.le_refl k, Nat.le_refl k⟩
                refine AGr.canon (fun κ => cond (Nat.beq κ 209) 207 (cond (Nat.beq κ 210) 208 (κ))) (AGr.loopI (n := k) (fun k s => k ≤ K1 ∧ ∃ (x0 : List S60) (x3 : Int) (x4 : Int) (y209_0 : Int) (y209_1 : Int) (y210_0 : Int) (y210_1 : Int) (x8 : Int) (x23 : Int) (x24 : Int), impl_ValidPolygon.l1 k x0 x3 x4 y209_0 y209_1 y210_0 y210_1 x8 x23 x24 = some r ∧ s = St.of [(0, vR 61 (x0.map c60)), (3, vI x3), (4, vI x4), (5, .c (.ptr 209 0)), (6, .c (.ptr 210 0)), (8, vI x8), (23, vI x23), (24, vI x24)] [(209, .box 61 [.d (.v (.int .i64 y209_0)), .d (.v (.int .i64 y209_1))]), (210, .box 61 [.d (.v (.int .i64 y210_0)), .d (.v (.int .i64 y210_1))])]) ⟨hK1, _, _, _, _, _, _, _, _, _, _, H, rfl⟩ ?_ ?_) ⟨rfl, rfl, rfl, rfl, rfl, rfl, rfl, rfl, trivial⟩ ⟨rfl, rfl, trivial⟩ rfl
                ·rintro _ ⟨_, _, _, _, _, _, _, _, _, _, _, H, _⟩
                 cases H
                ·clear H hK1
                 rintro k ih1 _ ⟨hK1, x0, x3, x4, y209_0, y209_1, y210_0, y210_1, x8, x23, x24, H, rfl⟩
                 unfold impl_ValidPolygon.l1 at H
                 refine AG.seq ?_
                 refine AG.seq ?_
                 refine AG.region HM ?_
                 refine a_move (v := vI _) ?_
                 refine a_move (v := vI _) ?_
                 refine a_int (u := .bool (decide (x8 < x3))) ?_
                 refine RA.nil nofun ?_
                 by_cases hc21 : x8 < x3
                 ·rw [if_pos hc21] at H
                  refine AG.yes rfl (decide_eq_true hc21) ?_
                  refine AG.skip ?_
                  refine AG.seq ?_
                  refine AG.block ?_
                  refine AG.seq ?_
                  refine AG.region HM ?_
                  refine a_move (v := vI _) ?_
                  refine a_int (u := .int .i64 (wrap64 (x8 + 1))) ?_
                  refine a_move (v := vI _) ?_
                  by_cases hc22 : x3 = 0
                  ·rw [if_pos hc22] at H
                   cases H
                  ·rw [if_neg hc22] at H
                   refine a_rem (r := Int.tmod (wrap64 (x8 + 1)) x3) ?_ hc22
                   refine a_move (v := vI _) ?_
                   refine a_int (u := .bool (((Int.tmod (wrap64 (x8 + 1)) x3) != x4))) ?_
                   refine a_move (v := vB _) ?_
                   by_cases hc23 : (Int.tmod (wrap64 (x8 + 1)) x3) = x4
                   ·rw [if_pos hc23] at H
                    refine RA.skip rfl rfl rfl rfl rfl (bne_eq_false_iff_eq.2 hc23) (by decide) ?_
                    refine RA.skip rfl rfl rfl rfl rfl (bne_eq_false_iff_eq.2 hc23) (by decide) ?_
                    refine RA.skip rfl rfl rfl rfl rfl (bne_eq_false_iff_eq.2 hc23) (by decide) ?_
                    refine RA.skip rfl rfl rfl rfl rfl (bne_eq_false_iff_eq.2 hc23) (by decide) ?_
                    refine RA.skip rfl rfl rfl rfl rfl (bne_eq_false_iff_eq.2 hc23) (by decide) ?_
                    refine RA.skip rfl rfl rfl rfl rfl (bne_eq_false_iff_eq.2 hc23) (by decide) ?_
                    refine RA.skip rfl rfl rfl rfl rfl (bne_eq_false_iff_eq.2 hc23) (by decide) ?_
                    refine RA.skip rfl rfl rfl rfl rfl (bne_eq_false_iff_eq.2 hc23) (by decide) ?_
                    refine RA.skip rfl rfl rfl rfl rfl (bne_eq_false_iff_eq.2 hc23) (by decide) ?_
                    refine RA.skip rfl rfl rfl rfl rfl (bne_eq_false_iff_eq.2 hc23) (by decide) ?_
                    refine RA.skip rfl rfl rfl rfl rfl (bne_eq_false_iff_eq.2 hc23) (by decide) ?_
                    refine RA.skip rfl rfl rfl rfl rfl (bne_eq_false_iff_eq.2 hc23) (by decide) ?_
                    refine RA.skip rfl rfl rfl rfl rfl (bne_eq_false_iff_eq.2 hc23) (by decide) ?_
                    refine RA.skip rfl rfl rfl rfl rfl (bne_eq_false_iff_eq.2 hc23) (by decide) ?_
                    refine a_pick (b := false) (v := vB _) ?_ (bne_eq_false_iff_eq.2 hc23)
                    refine RA.nil (fun _ => by kernel_rfl) ?_
                    refine AG.no rfl rfl ?_
                    refine AG.skip ?_
                    refine AG.region HM ?_
                    refine a_move (v := vI _) ?_
                    refine a_int (u := .int .i64 (wrap64 (x8 + 1))) ?_
                    refine a_move (v := vI _) ?_
                    refine RA.nil nofun ?_
                    exact AGr.canon id (ih1 _ (by omega) _ ⟨by omega, _, _, _, _, _, _, _, _, _, _, H, rfl⟩) ⟨rfl, rfl, rfl, rfl, rfl, rfl, rfl, rfl, trivial⟩ ⟨rfl, rfl, trivial⟩ rfl
                   ·rw [if_neg hc23] at H
                    refine a_ldB (v := .agg [_, _]) ?_ T61 (hg := Gs.yes rfl rfl rfl (bne_iff_ne.2 hc23))
                    refine a_ldB (v := .agg [_, _]) ?_ T61 (hg := Gs.yes rfl rfl rfl (bne_iff_ne.2 hc23))
                    refine a_move (v := vR _ _) ?_ (hg := Gs.yes rfl rfl rfl (bne_iff_ne.2 hc23))
                    refine a_move (v := vI _) ?_ (hg := Gs.yes rfl rfl rfl (bne_iff_ne.2 hc23))
                    by_cases hc24 : 0 ≤ x8
                    ·rw [if_pos hc24] at H
                     by_cases hc25 : x8 < (x0.length : Int)
                     ·rw [if_pos hc25] at H
                      refine a_ixR (el := c60 (rd60 x0 x8)) ?_ ⟨hc24, hc25⟩ T61 Try.underlying29 (hel := R60 hc24 hc25) (hg := Gs.yes rfl rfl rfl (bne_iff_ne.2 hc23))
                      refine a_ldR (v := .agg [_, _]) ?_ T61 (hg := Gs.yes rfl rfl rfl (bne_iff_ne.2 hc23))
                      refine a_move (v := vR _ _) ?_ (hg := Gs.yes rfl rfl rfl (bne_iff_ne.2 hc23))
                      refine a_move (v := vI _) ?_ (hg := Gs.yes rfl rfl rfl (bne_iff_ne.2 hc23))
                      refine a_int (u := .int .i64 (wrap64 (x8 + 1))) ?_ (hg := Gs.yes rfl rfl rfl (bne_iff_ne.2 hc23))
                      refine a_move (v := vI _) ?_ (hg := Gs.yes rfl rfl rfl (bne_iff_ne.2 hc23))
                      refine a_rem (r := Int.tmod (wrap64 (x8 + 1)) x3) ?_ hc22 (hg := Gs.yes rfl rfl rfl (bne_iff_ne.2 hc23))
                      by_cases hc26 : 0 ≤ (Int.tmod (wrap64 (x8 + 1)) x3)
                      ·rw [if_pos hc26] at H
                       by_cases hc27 : (Int.tmod (wrap64 (x8 + 1)) x3) < (x0.length : Int)
                       ·rw [if_pos hc27] at H
                        refine a_ixR (el := c60 (rd60 x0 (Int.tmod (wrap64 (x8 + 1)) x3))) ?_ ⟨hc26, hc27⟩ T61 Try.underlying29 (hel := R60 hc26 hc27) (hg := Gs.yes rfl rfl rfl (bne_iff_ne.2 hc23))
                        refine a_ldR (v := .agg [_, _]) ?_ T61 (hg := Gs.yes rfl rfl rfl (bne_iff_ne.2 hc23))
                        obtain ⟨t28, e29, H⟩ := bindO H
                        refine a_call (v := vB t28) (nk := []) (L := []) ?_ rfl (impl_touching.ok e29) id (qg (qg (qg (qg qn)))) trivial trivial trivial rfl (hg := Gs.yes rfl rfl rfl (bne_iff_ne.2 hc23))
                        refine a_pick (b := true) (v := vB _) ?_ (bne_iff_ne.2 hc23)
                        refine RA.nil (fun _ => by kernel_rfl) ?_
                        by_cases hc30 : t28 = true
                        ·rw [if_pos hc30] at H
                         refine AG.yes rfl hc30 ?_
                         refine AG.seq ?_
                         refine AG.region HM ?_
                         refine a_move (v := vB _) ?_
                         refine RA.nil nofun ?_
                         refine AG.ret ?_
                         obtain rfl := Option.some.inj H
                         exact RetP.mk id ⟨rfl, trivial⟩ trivial rfl
                        ·rw [if_neg hc30] at H
                         refine AG.no rfl (Bool.eq_false_iff.2 hc30) ?_
                         refine AG.skip ?_
                         refine AG.region HM ?_
                         refine a_move (v := vI _) ?_
                         refine a_int (u := .int .i64 (wrap64 (x8 + 1))) ?_
                         refine a_move (v := vI _) ?_
                         refine RA.nil nofun ?_
                         exact AGr.canon id (ih1 _ (by omega) _ ⟨by omega, _, _, _, _, _, _, _, _, _, _, H, rfl⟩) ⟨rfl, rfl, rfl, rfl, rfl, rfl, rfl, rfl, trivial⟩ ⟨rfl, rfl, trivial⟩ rfl
                       ·rw [if_neg hc27] at H
                        cases H
                      ·rw [if_neg hc26] at H
                       cases H
                     ·rw [if_neg hc25] at H
                      cases H
                    ·rw [if_neg hc24] at H
                     cases H
                 ·rw [if_neg hc21] at H
                  refine AG.no rfl (decide_eq_false hc21) ?_
                  refine AG.exit ?_
                  refine AG.region HM ?_
                  refine a_int (u := .int .i64 (wrap64 (x24 + 1))) ?_
                  refine a_move (v := vI _) ?_
                  refine RA.nil nofun ?_
                  exact AGr.canon id (ih0 _ (by omega) _ ⟨by omega, _, _, _, _, H, rfl⟩) ⟨rfl, rfl, rfl, rfl, trivial⟩ trivial rfl
            ·rw [if_neg hc13] at H
             cases H
           ·rw [if_neg hc12] at H
            cases H
          ·rw [if_neg hc11] at H
           cases H
         ·rw [if_neg hc10] at H
          cases H
       ·rw [if_neg hc8] at H
        cases H
      ·rw [if_neg hc7] at H
       cases H
     ·rw [if_neg hc6] at H
      refine AG.no rfl (decide_eq_false hc6) ?_
      refine AG.exit ?_
      refine AG.seq ?_
      refine AG.region HM ?_
      refine a_move (v := vR _ _) ?_
      obtain ⟨t31, e32, H⟩ := bindO H
      refine a_call (v := vI t31) (nk := []) (L := []) ?_ rfl (impl_doubled.ok e32) id (qd qn) trivial trivial trivial rfl
      refine a_int (u := .bool (decide (t31 > 0))) ?_
      refine a_move (v := vB _) ?_
      refine RA.nil nofun ?_
      refine AG.ret ?_
      obtain rfl := Option.some.inj H
      exact RetP.mk id ⟨rfl, trivial⟩ trivial rfl
/-! ### impl_ValidDrawing: function 56 -/
mutual
def impl_ValidDrawing.j0 : Nat → Int → Int → List S60 → List S91 → Bool → Option (Bool)
 | 0, _, _, _, _, _ => none
 | k + 1, y203_0, y203_1, y203_2, y203_3, x30 => if x30 = true then (some false) else (impl_ValidDrawing.l0 k y203_0 y203_1 y203_2 y203_3 y203_2 (y203_2.length : Int) 0)
def impl_ValidDrawing.j1 : Nat → List S60 → List S91 → Option (Bool)
 | 0, _, _ => none
 | k + 1, y209_2, y209_3 => impl_ValidDrawing.l1 k y209_2 y209_3 y209_3 (y209_3.length : Int) 0
def impl_ValidDrawing.l0 : Nat → Int → Int → List S60 → List S91 → List S60 → Int → Int → Option (Bool)
 | 0, _, _, _, _, _, _, _ => none
 | k + 1, y204_0, y204_1, y204_2, y204_3, x32, x33, x34 => if x34 < x33 then (if 0 ≤ x34 then (if x34 < (x32.length : Int) then ((impl_within.f ((rd60 x32 x34).f0) 0 y204_0).bind fun t12 => (if t12 = true then ((impl_within.f ((rd60 x32 x34).f1) 0 y204_1).bind fun t15 => (if t15 = true then (if x34 ≤ (y204_2.length : Int) then ((slices_Contains_impl_Point.f k (y204_2.take ((x34 : Int).toNat)) ((rd60 x32 x34).f0) ((rd60 x32 x34).f1)).bind fun t19 => (if t19 = true then (some false) else (impl_ValidDrawing.l0 k y204_0 y204_1 y204_2 y204_3 x32 x33 (wrap64 (x34 + 1))))) else (none)) else (some false))) else (some false))) else (none)) else (none)) else (impl_ValidDrawing.j1 k y204_2 y204_3)
def impl_ValidDrawing.l1 : Nat → List S60 → List S91 → List S91 → Int → Int → Option (Bool)
 | 0, _, _, _, _, _ => none
 | k + 1, y210_2, y210_3, x63, x64, x65 => if x65 < x64 then (if 0 ≤ x65 then (if x65 < (x63.length : Int) then ((impl_IsName.f k ((rd91 x63 x65).f0)).bind fun t25 => (if t25 = true then (if x65 > 0 then (if 0 ≤ (wrap64 (x65 - 1)) then (if (wrap64 (x65 - 1)) < (y210_3.length : Int) then (impl_ValidDrawing.j2 k y210_2 y210_3 ((rd91 x63 x65).f1) x63 x64 x65 (!(Op.bytesLess (((rd91 y210_3 (wrap64 (x65 - 1))).f0).toList) (((rd91 x63 x65).f0).toList)))) else (none)) else (none)) else (impl_ValidDrawing.j2 k y210_2 y210_3 ((rd91 x63 x65).f1) x63 x64 x65 false)) else (impl_ValidDrawing.j2 k y210_2 y210_3 ((rd91 x63 x65).f1) x63 x64 x65 true))) else (none)) else (none)) else (some true)
def impl_ValidDrawing.j2 : Nat → List S60 → List S91 → List Int → List S91 → Int → Int → Bool → Option (Bool)
 | 0, _, _, _, _, _, _, _ => none
 | k + 1, y213_2, y213_3, y214_1, x63, x64, x65, x89 => if x89 = true then (some false) else ((impl_ringPolygon.f k y213_2 y214_1).bind fun bt32 => (if bt32.2 = true then ((impl_ValidPolygon.f k bt32.1).bind fun t36 => (if t36 = true then (impl_ValidDrawing.l1 k y213_2 y213_3 x63 x64 (wrap64 (x65 + 1))) else (some false))) else (some false)))
end
def impl_ValidDrawing.f (k : Nat) (a0_0 : Int) (a0_1 : Int) (l0_2 : List S60) (l0_3 : List S91) : Option (Bool) := (impl_within.f a0_0 10 20000).bind fun t1 => (if t1 = true then ((impl_within.f a0_1 10 20000).bind fun t4 => (if t4 = true then (if (l0_2.length : Int) > 48 then (impl_ValidDrawing.j0 k a0_0 a0_1 l0_2 l0_3 true) else (impl_ValidDrawing.j0 k a0_0 a0_1 l0_2 l0_3 (decide ((l0_3.length : Int) > 24)))) else (impl_ValidDrawing.j0 k a0_0 a0_1 l0_2 l0_3 true))) else (impl_ValidDrawing.j0 k a0_0 a0_1 l0_2 l0_3 true))
set_option maxRecDepth 100000 in
theorem impl_ValidDrawing.ok {k : Nat} {a0_0 : Int} {a0_1 : Int} {l0_2 : List S60} {l0_3 : List S91} {r : Bool} (H : impl_ValidDrawing.f k a0_0 a0_1 l0_2 l0_3 = some r) : OkF Try.prog 56 [.agg [.d (.v (.int .i64 a0_0)), .d (.v (.int .i64 a0_1)), .d (.row 61 (l0_2.map c60)), .d (.row 96 (l0_3.map c91))]] [] (.c (.d (.v (.bool r)))) [] := by
 unfold impl_ValidDrawing.f at H
 refine OkF.of (N := 106) (rs := [2]) (avs := [.c (.d (.v (.bool r)))]) Try.func56 rfl rfl (fun _ _ => results_tmp rfl _ _ _) (by decide) rfl rfl rfl rfl (fun w0 S => ?_)
 refine AG.seq ?_
 refine AG.region HM ?_
 refine a_box 200 ?_
 refine a_move (v := vB _) ?_
 refine RA.nil nofun ?_
 refine AG.seq ?_
 refine AG.seq ?_
 refine AG.joinR (fun s => ∃ q, q ≤ k ∧ ∃ (y203_0 : Int) (y203_1 : Int) (y203_2 : List S60) (y203_3 : List S91) (x30 : Bool), impl_ValidDrawing.j0 q y203_0 y203_1 y203_2 y203_3 x30 = some r ∧ s = St.of [(1, .c (.ptr 203 0)), (30, vB x30)] [(203, .box 32 [.d (.v (.int .i64 y203_0)), .d (.v (.int .i64 y203_1)), .d (.row 61 (y203_2.map c60)), .d (.row 96 (y203_3.map c91))])]) ?_ ?_
 ·skip
  refine AG.region HM ?_
  refine a_faB (q := 0) ?_ D32_0
  refine a_ldB (v := vI _) ?_ T2
  obtain ⟨t1, e2, H⟩ := bindO H
  refine a_call (v := vB t1) (nk := []) (L := []) ?_ rfl (impl_within.ok e2) id (qd (qd (qd qn))) trivial trivial trivial rfl
  refine a_un (u := .bool (!t1)) ?_
  refine a_move (v := vB _) ?_
  by_cases hc3 : t1 = true
  ·rw [if_pos hc3] at H
   refine a_faB (q := 1) ?_ D32_1 (hg := Gs.yes rfl rfl rfl (congrArg Bool.not hc3))
   refine a_ldB (v := vI _) ?_ T2 (hg := Gs.yes rfl rfl rfl (congrArg Bool.not hc3))
   obtain ⟨t4, e5, H⟩ := bindO H
   refine a_call (v := vB t4) (nk := []) (L := []) ?_ rfl (impl_within.ok e5) id (qd (qd (qd qn))) trivial trivial trivial rfl (hg := Gs.yes rfl rfl rfl (congrArg Bool.not hc3))
   refine a_un (u := .bool (!t4)) ?_ (hg := Gs.yes rfl rfl rfl (congrArg Bool.not hc3))
   refine a_pick (b := false) (v := vB _) ?_ (congrArg Bool.not hc3)
   refine a_move (v := vB _) ?_
   by_cases hc6 : t4 = true
   ·rw [if_pos hc6] at H
    refine a_faB (q := 2) ?_ D32_2 (hg := Gs.yes rfl rfl rfl (congrArg Bool.not hc6))
    refine a_ldB (v := vR _ _) ?_ T29 (hg := Gs.yes rfl rfl rfl (congrArg Bool.not hc6))
    refine a_lenR ?_ Try.underlying29 (hg := Gs.yes rfl rfl rfl (congrArg Bool.not hc6))
    refine a_int (u := .bool (decide ((l0_2.length : Int) > 48))) ?_ (hg := Gs.yes rfl rfl rfl (congrArg Bool.not hc6))
    refine a_pick (b := false) (v := vB _) ?_ (congrArg Bool.not hc6)
    refine a_move (v := vB _) ?_
    by_cases hc7 : (l0_2.length : Int) > 48
    ·rw [if_pos hc7] at H
     refine RA.skip rfl rfl rfl rfl rfl (decide_eq_true hc7) (by decide) ?_
     refine RA.skip rfl rfl rfl rfl rfl (decide_eq_true hc7) (by decide) ?_
     refine RA.skip rfl rfl rfl rfl rfl (decide_eq_true hc7) (by decide) ?_
     refine RA.skip rfl rfl rfl rfl rfl (decide_eq_true hc7) (by decide) ?_
     refine a_pick (b := true) (v := vB _) ?_ (decide_eq_true hc7)
     refine RA.nil nofun ?_
     exact CanR.mk (fun κ => cond (Nat.beq κ 203) 200 (κ)) ⟨_, (by omega), _, _, _, _, _, H, rfl⟩ ⟨rfl, rfl, trivial⟩ ⟨rfl, trivial⟩ rfl
    ·rw [if_neg hc7] at H
     refine a_faB (q := 3) ?_ D32_3 (hg := Gs.yes rfl rfl rfl (decide_eq_false hc7))
     refine a_ldB (v := vR _ _) ?_ T30 (hg := Gs.yes rfl rfl rfl (decide_eq_false hc7))
     refine a_lenR ?_ Try.underlying30 (hg := Gs.yes rfl rfl rfl (decide_eq_false hc7))
     refine a_int (u := .bool (decide ((l0_3.length : Int) > 24))) ?_ (hg := Gs.yes rfl rfl rfl (decide_eq_false hc7))
     refine a_pick (b := false) (v := vB _) ?_ (decide_eq_false hc7)
     refine RA.nil nofun ?_
     exact CanR.mk (fun κ => cond (Nat.beq κ 203) 200 (κ)) ⟨_, (by omega), _, _, _, _, _, H, rfl⟩ ⟨rfl, rfl, trivial⟩ ⟨rfl, trivial⟩ rfl
   ·rw [if_neg hc6] at H
    refine RA.skip rfl rfl rfl rfl rfl (congrArg Bool.not (Bool.eq_false_iff.2 hc6)) (by decide) ?_
    refine RA.skip rfl rfl rfl rfl rfl (congrArg Bool.not (Bool.eq_false_iff.2 hc6)) (by decide) ?_
    refine RA.skip rfl rfl rfl rfl rfl (congrArg Bool.not (Bool.eq_false_iff.2 hc6)) (by decide) ?_
    refine RA.skip rfl rfl rfl rfl rfl (congrArg Bool.not (Bool.eq_false_iff.2 hc6)) (by decide) ?_
    refine a_pick (b := true) (v := vB _) ?_ (congrArg Bool.not (Bool.eq_false_iff.2 hc6))
    refine a_move (v := vB _) ?_
    refine RA.skip rfl rfl rfl rfl rfl rfl (by decide) ?_
    refine RA.skip rfl rfl rfl rfl rfl rfl (by decide) ?_
    refine RA.skip rfl rfl rfl rfl rfl rfl (by decide) ?_
    refine RA.skip rfl rfl rfl rfl rfl rfl (by decide) ?_
    refine a_pick (b := true) (v := vB _) ?_ rfl
    refine RA.nil nofun ?_
    exact CanR.mk (fun κ => cond (Nat.beq κ 203) 200 (κ)) ⟨_, (by omega), _, _, _, _, _, H, rfl⟩ ⟨rfl, rfl, trivial⟩ ⟨rfl, trivial⟩ rfl
  ·rw [if_neg hc3] at H
   refine RA.skip rfl rfl rfl rfl rfl (congrArg Bool.not (Bool.eq_false_iff.2 hc3)) (by decide) ?_
   refine RA.skip rfl rfl rfl rfl rfl (congrArg Bool.not (Bool.eq_false_iff.2 hc3)) (by decide) ?_
   refine RA.skip rfl rfl rfl rfl rfl (congrArg Bool.not (Bool.eq_false_iff.2 hc3)) (by decide) ?_
   refine RA.skip rfl rfl rfl rfl rfl (congrArg Bool.not (Bool.eq_false_iff.2 hc3)) (by decide) ?_
   refine a_pick (b := true) (v := vB _) ?_ (congrArg Bool.not (Bool.eq_false_iff.2 hc3))
   refine a_move (v := vB _) ?_
   refine RA.skip rfl rfl rfl rfl rfl rfl (by decide) ?_
   refine RA.skip rfl rfl rfl rfl rfl rfl (by decide) ?_
   refine RA.skip rfl rfl rfl rfl rfl rfl (by decide) ?_
   refine RA.skip rfl rfl rfl rfl rfl rfl (by decide) ?_
   refine a_pick (b := true) (v := vB _) ?_ rfl
   refine a_move (v := vB _) ?_
   refine RA.skip rfl rfl rfl rfl rfl rfl (by decide) ?_
   refine RA.skip rfl rfl rfl rfl rfl rfl (by decide) ?_
   refine RA.skip rfl rfl rfl rfl rfl rfl (by decide) ?_
   refine RA.skip rfl rfl rfl rfl rfl rfl (by decide) ?_
   refine a_pick (b := true) (v := vB _) ?_ rfl
   refine RA.nil nofun ?_
   exact CanR.mk (fun κ => cond (Nat.beq κ 203) 200 (κ)) ⟨_, (by omega), _, _, _, _, _, H, rfl⟩ ⟨rfl, rfl, trivial⟩ ⟨rfl, trivial⟩ rfl
 ·clear H
  rintro _ ⟨k, hj0, y203_0, y203_1, y203_2, y203_3, x30, H, rfl⟩
  cases k with
  | zero => cases H
  | succ k =>
   rw [impl_ValidDrawing.j0] at H
   by_cases hc8 : x30 = true
   ·rw [if_pos hc8] at H
    refine AG.yes rfl hc8 ?_
    refine AG.seq ?_
    refine AG.region HM ?_
    refine a_move (v := vB _) ?_
    refine RA.nil nofun ?_
    refine AG.ret ?_
    obtain rfl := Option.some.inj H
    exact RetP.mk id ⟨rfl, trivial⟩ trivial rfl
   ·rw [if_neg hc8] at H
    refine AG.no rfl (Bool.eq_false_iff.2 hc8) ?_
    refine AG.skip ?_
    refine AG.seq ?_
    refine AG.seq ?_
    refine AG.region HM ?_
    refine a_faB (q := 2) ?_ D32_2
    refine a_ldB (v := vR _ _) ?_ T29
    refine a_lenR ?_ Try.underlying29
    refine a_move (v := vI _) ?_
    refine RA.nil nofun ?_
    refine AG.joinR (fun s => ∃ q, q ≤ k ∧ ∃ (y209_0 : Int) (y209_1 : Int) (y209_2 : List S60) (y209_3 : List S91), impl_ValidDrawing.j1 q y209_2 y209_3 = some r ∧ s = St.of [(1, .c (.ptr 209 0))] [(209, .box 32 [.d (.v (.int .i64 y209_0)), .d (.v (.int .i64 y209_1)), .d (.row 61 (y209_2.map c60)), .d (.row 96 (y209_3.map c91))])]) ?_ ?_
    ·skip
     refine AG.block ?_
     refine AG.loop ?_
     obtain ⟨K0, hK0, gK0⟩ : ∃ K, k ≤ K ∧ K ≤ k := ⟨k, Nat.le_refl k, Nat.le_refl k⟩
     refine AGr.canon (fun κ => cond (Nat.beq κ 204) 203 (κ)) (AGr.loopI (n := k) (fun k s => k ≤ K0 ∧ ∃ (y204_0 : Int) (y204_1 : Int) (y204_2 : List S60) (y204_3 : List S91) (x32 : List S60) (x33 : Int) (x34 : Int), impl_ValidDrawing.l0 k y204_0 y204_1 y204_2 y204_3 x32 x33 x34 = some r ∧ s = St.of [(1, .c (.ptr 204 0)), (32, vR 61 (x32.map c60)), (33, vI x33), (34, vI x34)] [(204, .box 32 [.d (.v (.int .i64 y204_0)), .d (.v (.int .i64 y204_1)), .d (.row 61 (y204_2.map c60)), .d (.row 96 (y204_3.map c91))])]) ⟨hK0, _, _, _, _, _, _, _, H, rfl⟩ ?_ ?_) ⟨rfl, rfl, rfl, rfl, trivial⟩ ⟨rfl, trivial⟩ rfl
     ·rintro _ ⟨_, _, _, _, _, _, _, _, H, _⟩
      cases H
     ·clear H hK0
      rintro k ih0 _ ⟨hK0, y204_0, y204_1, y204_2, y204_3, x32, x33, x34, H, rfl⟩
      unfold impl_ValidDrawing.l0 at H
      refine AG.seq ?_
      refine AG.region HM ?_
      refine a_int (u := .bool (decide (x34 < x33))) ?_
      refine RA.nil nofun ?_
      refine AG.seq ?_
      by_cases hc9 : x34 < x33
      ·rw [if_pos hc9] at H
       refine AG.yes rfl (decide_eq_true hc9) ?_
       refine AG.skip ?_
       refine AG.seq ?_
       refine AG.block ?_
       refine AG.seq ?_
       refine AG.region HM ?_
       refine a_move (v := vI _) ?_
       by_cases hc10 : 0 ≤ x34
       ·rw [if_pos hc10] at H
        by_cases hc11 : x34 < (x32.length : Int)
        ·rw [if_pos hc11] at H
         refine a_ixR (el := c60 (rd60 x32 x34)) ?_ ⟨hc10, hc11⟩ T61 Try.underlying29 (hel := R60 hc10 hc11)
         refine a_ldR (v := .agg [_, _]) ?_ T61
         refine a_alloc (cs := [_, _]) 205 ?_ T61
         refine a_move (v := vI _) ?_
         refine a_stB (cs' := [_, _]) ?_ T61
         refine RA.nil nofun ?_
         refine AG.seq ?_
         refine AG.region HM ?_
         refine a_faB (q := 0) ?_ D61_0
         refine a_ldB (v := vI _) ?_ T2
         refine a_faB (q := 0) ?_ D32_0
         refine a_ldB (v := vI _) ?_ T2
         obtain ⟨t12, e13, H⟩ := bindO H
         refine a_call (v := vB t12) (nk := []) (L := []) ?_ rfl (impl_within.ok e13) id (qd (qd (qd qn))) trivial trivial trivial rfl
         refine a_un (u := .bool (!t12)) ?_
         refine a_move (v := vB _) ?_
         by_cases hc14 : t12 = true
         ·rw [if_pos hc14] at H
          refine a_faB (q := 1) ?_ D61_1 (hg := Gs.yes rfl rfl rfl (congrArg Bool.not hc14))
          refine a_ldB (v := vI _) ?_ T2 (hg := Gs.yes rfl rfl rfl (congrArg Bool.not hc14))
          refine a_faB (q := 1) ?_ D32_1 (hg := Gs.yes rfl rfl rfl (congrArg Bool.not hc14))
          refine a_ldB (v := vI _) ?_ T2 (hg := Gs.yes rfl rfl rfl (congrArg Bool.not hc14))
          obtain ⟨t15, e16, H⟩ := bindO H
          refine a_call (v := vB t15) (nk := []) (L := []) ?_ rfl (impl_within.ok e16) id (qd (qd (qd qn))) trivial trivial trivial rfl (hg := Gs.yes rfl rfl rfl (congrArg Bool.not hc14))
          refine a_un (u := .bool (!t15)) ?_ (hg := Gs.yes rfl rfl rfl (congrArg Bool.not hc14))
          refine a_pick (b := false) (v := vB _) ?_ (congrArg Bool.not hc14)
          refine a_move (v := vB _) ?_
          by_cases hc17 : t15 = true
          ·rw [if_pos hc17] at H
           refine a_faB (q := 2) ?_ D32_2 (hg := Gs.yes rfl rfl rfl (congrArg Bool.not hc17))
           refine a_ldB (v := vR _ _) ?_ T29 (hg := Gs.yes rfl rfl rfl (congrArg Bool.not hc17))
           refine a_move (v := vI _) ?_ (hg := Gs.yes rfl rfl rfl (congrArg Bool.not hc17))
           by_cases hc18 : x34 ≤ (y204_2.length : Int)
           ·rw [if_pos hc18] at H
            refine a_slR (l := none) (h := some x34) (css' := (y204_2.take ((x34 : Int).toNat)).map c60) ?_ Try.underlying29 T61 ⟨(Int.le_refl 0), hc10, (lenM (p := fun n => x34 ≤ n) hc18)⟩ (map_take_drop _ _ _ _) (hg := Gs.yes rfl rfl rfl (congrArg Bool.not hc17))
            refine a_ldB (v := .agg [_, _]) ?_ T61 (hg := Gs.yes rfl rfl rfl (congrArg Bool.not hc17))
            obtain ⟨t19, e20, H⟩ := bindO H
            refine a_call (v := vB t19) (nk := []) (L := []) ?_ rfl (slices_Contains_impl_Point.ok e20) id (qd (qg qn)) trivial trivial trivial rfl (hg := Gs.yes rfl rfl rfl (congrArg Bool.not hc17))
            refine a_pick (b := false) (v := vB _) ?_ (congrArg Bool.not hc17)
            refine RA.nil (fun _ => by kernel_rfl) ?_
            by_cases hc21 : t19 = true
            ·rw [if_pos hc21] at H
             refine AG.yes rfl hc21 ?_
             refine AG.seq ?_
             refine AG.region HM ?_
             refine a_move (v := vB _) ?_
             refine RA.nil nofun ?_
             refine AG.ret ?_
             obtain rfl := Option.some.inj H
             exact RetP.mk id ⟨rfl, trivial⟩ trivial rfl
            ·rw [if_neg hc21] at H
             refine AG.no rfl (Bool.eq_false_iff.2 hc21) ?_
             refine AG.skip ?_
             refine AG.region HM ?_
             refine a_int (u := .int .i64 (wrap64 (x34 + 1))) ?_
             refine a_move (v := vI _) ?_
             refine RA.nil nofun ?_
             exact AGr.canon id (ih0 _ (by omega) _ ⟨by omega, _, _, _, _, _, _, _, H, rfl⟩) ⟨rfl, rfl, rfl, rfl, trivial⟩ ⟨rfl, trivial⟩ rfl
           ·rw [if_neg hc18] at H
            cases H
          ·rw [if_neg hc17] at H
           refine RA.skip rfl rfl rfl rfl rfl (congrArg Bool.not (Bool.eq_false_iff.2 hc17)) (by decide) ?_
           refine RA.skip rfl rfl rfl rfl rfl (congrArg Bool.not (Bool.eq_false_iff.2 hc17)) (by decide) ?_
           refine RA.skip rfl rfl rfl rfl rfl (congrArg Bool.not (Bool.eq_false_iff.2 hc17)) (by decide) ?_
           refine RA.skip rfl rfl rfl rfl rfl (congrArg Bool.not (Bool.eq_false_iff.2 hc17)) (by decide) ?_
           refine RA.skip rfl rfl rfl rfl rfl (congrArg Bool.not (Bool.eq_false_iff.2 hc17)) (by decide) ?_
           refine RA.skip rfl rfl rfl rfl rfl (congrArg Bool.not (Bool.eq_false_iff.2 hc17)) (by decide) ?_
           refine a_pick (b := true) (v := vB _) ?_ (congrArg Bool.not (Bool.eq_false_iff.2 hc17))
           refine RA.nil (fun _ => by kernel_rfl) ?_
           refine AG.yes rfl rfl ?_
           refine AG.seq ?_
           refine AG.region HM ?_
           refine a_move (v := vB _) ?_
           refine RA.nil nofun ?_
           refine AG.ret ?_
           obtain rfl := Option.some.inj H
           exact RetP.mk id ⟨rfl, trivial⟩ trivial rfl
         ·rw [if_neg hc14] at H
          refine RA.skip rfl rfl rfl rfl rfl (congrArg Bool.not (Bool.eq_false_iff.2 hc14)) (by decide) ?_
          refine RA.skip rfl rfl rfl rfl rfl (congrArg Bool.not (Bool.eq_false_iff.2 hc14)) (by decide) ?_
          refine RA.skip rfl rfl rfl rfl rfl (congrArg Bool.not (Bool.eq_false_iff.2 hc14)) (by decide) ?_
          refine RA.skip rfl rfl rfl rfl rfl (congrArg Bool.not (Bool.eq_false_iff.2 hc14)) (by decide) ?_
          refine RA.skip rfl rfl rfl rfl rfl (congrArg Bool.not (Bool.eq_false_iff.2 hc14)) (by decide) ?_
          refine RA.skip rfl rfl rfl rfl rfl (congrArg Bool.not (Bool.eq_false_iff.2 hc14)) (by decide) ?_
          refine a_pick (b := true) (v := vB _) ?_ (congrArg Bool.not (Bool.eq_false_iff.2 hc14))
          refine a_move (v := vB _) ?_
          refine RA.skip rfl rfl rfl rfl rfl rfl (by decide) ?_
          refine RA.skip rfl rfl rfl rfl rfl rfl (by decide) ?_
          refine RA.skip rfl rfl rfl rfl rfl rfl (by decide) ?_
          refine RA.skip rfl rfl rfl rfl rfl rfl (by decide) ?_
          refine RA.skip rfl rfl rfl rfl rfl rfl (by decide) ?_
          refine RA.skip rfl rfl rfl rfl rfl rfl (by decide) ?_
          refine a_pick (b := true) (v := vB _) ?_ rfl
          refine RA.nil (fun _ => by kernel_rfl) ?_
          refine AG.yes rfl rfl ?_
          refine AG.seq ?_
          refine AG.region HM ?_
          refine a_move (v := vB _) ?_
          refine RA.nil nofun ?_
          refine AG.ret ?_
          obtain rfl := Option.some.inj H
          exact RetP.mk id ⟨rfl, trivial⟩ trivial rfl
        ·rw [if_neg hc11] at H
         cases H
       ·rw [if_neg hc10] at H
        cases H
      ·rw [if_neg hc9] at H
       refine AG.no rfl (decide_eq_false hc9) ?_
       refine AG.exit ?_
       exact CanR.mk (fun κ => cond (Nat.beq κ 209) 204 (κ)) ⟨_, (by omega), _, _, _, _, H, rfl⟩ ⟨rfl, trivial⟩ ⟨rfl, trivial⟩ rfl
    ·clear H
     rintro _ ⟨k, hj1, y209_0, y209_1, y209_2, y209_3, H, rfl⟩
     cases k with
     | zero => cases H
     | succ k =>
      rw [impl_ValidDrawing.j1] at H
      refine AG.seq ?_
      refine AG.seq ?_
      refine AG.region HM ?_
      refine a_faB (q := 3) ?_ D32_3
      refine a_ldB (v := vR _ _) ?_ T30
      refine a_lenR ?_ Try.underlying30
      refine a_move (v := vI _) ?_
      refine RA.nil nofun ?_
      refine AG.block ?_
      refine AG.loop ?_
      obtain ⟨K1, hK1, gK1⟩ : ∃ K, k ≤ K ∧ K ≤ k := ⟨k, Nat.le_refl k, Nat.le_refl k⟩
      refine AGr.canon (fun κ => cond (Nat.beq κ 210) 209 (κ)) (AGr.loopI (n := k) (fun k s => k ≤ K1 ∧ ∃ (y210_0 : Int) (y210_1 : Int) (y210_2 : List S60) (y210_3 : List S91) (x63 : List S91) (x64 : Int) (x65 : Int), impl_ValidDrawing.l1 k y210_2 y210_3 x63 x64 x65 = some r ∧ s = St.of [(1, .c (.ptr 210 0)), (63, vR 96 (x63.map c91)), (64, vI x64), (65, vI x65)] [(210, .box 32 [.d (.v (.int .i64 y210_0)), .d (.v (.int .i64 y210_1)), .d (.row 61 (y210_2.map c60)), .d (.row 96 (y210_3.map c91))])]) ⟨hK1, _, _, _, _, _, _, _, H, rfl⟩ ?_ ?_) ⟨rfl, rfl, rfl, rfl, trivial⟩ ⟨rfl, trivial⟩ rfl
      ·rintro _ ⟨_, _, _, _, _, _, _, _, H, _⟩
       cases H
      ·clear H hK1
       rintro k ih1 _ ⟨hK1, y210_0, y210_1, y210_2, y210_3, x63, x64, x65, H, rfl⟩
       unfold impl_ValidDrawing.l1 at H
       refine AG.seq ?_
       refine AG.region HM ?_
       refine a_int (u := .bool (decide (x65 < x64))) ?_
       refine RA.nil nofun ?_
       refine AG.seq ?_
       by_cases hc22 : x65 < x64
       ·rw [if_pos hc22] at H
        refine AG.yes rfl (decide_eq_true hc22) ?_
        refine AG.skip ?_
        refine AG.seq ?_
        refine AG.block ?_
        refine AG.seq ?_
        refine AG.region HM ?_
        refine a_move (v := vI _) ?_
        by_cases hc23 : 0 ≤ x65
        ·rw [if_pos hc23] at H
         by_cases hc24 : x65 < (x63.length : Int)
         ·rw [if_pos hc24] at H
          refine a_ixR (el := c91 (rd91 x63 x65)) ?_ ⟨hc23, hc24⟩ T96 Try.underlying30 (hel := R91 hc23 hc24)
          refine a_ldR (v := .agg [_, _]) ?_ T96
          refine a_alloc (cs := [_, _]) 211 ?_ T96
          refine a_move (v := vI _) ?_
          refine a_stB (cs' := [_, _]) ?_ T96
          refine RA.nil nofun ?_
          refine AG.seq ?_
          refine AG.seq ?_
          refine AG.joinR (fun s => ∃ q, q ≤ k ∧ ∃ (y213_0 : Int) (y213_1 : Int) (y213_2 : List S60) (y213_3 : List S91) (y214_0 : ByteArray) (y214_1 : List Int) (x63 : List S91) (x64 : Int) (x65 : Int) (x89 : Bool), impl_ValidDrawing.j2 q y213_2 y213_3 y214_1 x63 x64 x65 x89 = some r ∧ s = St.of [(1, .c (.ptr 213 0)), (6, .c (.ptr 214 0)), (63, vR 96 (x63.map c91)), (64, vI x64), (65, vI x65), (89, vB x89)] [(213, .box 32 [.d (.v (.int .i64 y213_0)), .d (.v (.int .i64 y213_1)), .d (.row 61 (y213_2.map c60)), .d (.row 96 (y213_3.map c91))]), (214, .box 96 [.d (.v (.string y214_0)), .d (.row 2 (y214_1.map c2))])]) ?_ ?_
          ·skip
           refine AG.region HM ?_
           refine a_faB (q := 0) ?_ D96_0
           refine a_ldB (v := vS _) ?_ T9
           obtain ⟨t25, e26, H⟩ := bindO H
           refine a_call (v := vB t25) (nk := []) (L := []) ?_ rfl (impl_IsName.ok e26) id (qd qn) trivial trivial trivial rfl
           refine a_un (u := .bool (!t25)) ?_
           refine a_move (v := vB _) ?_
           by_cases hc27 : t25 = true
           ·rw [if_pos hc27] at H
            refine a_move (v := vI _) ?_ (hg := Gs.yes rfl rfl rfl (congrArg Bool.not hc27))
            refine a_int (u := .bool (decide (x65 > 0))) ?_ (hg := Gs.yes rfl rfl rfl (congrArg Bool.not hc27))
            refine a_move (v := vB _) ?_ (hg := Gs.yes rfl rfl rfl (congrArg Bool.not hc27))
            by_cases hc28 : x65 > 0
            ·rw [if_pos hc28] at H
             refine a_faB (q := 3) ?_ D32_3 (hg := Gs.yes rfl rfl rfl (decide_eq_true hc28))
             refine a_ldB (v := vR _ _) ?_ T30 (hg := Gs.yes rfl rfl rfl (decide_eq_true hc28))
             refine a_move (v := vI _) ?_ (hg := Gs.yes rfl rfl rfl (decide_eq_true hc28))
             refine a_int (u := .int .i64 (wrap64 (x65 - 1))) ?_ (hg := Gs.yes rfl rfl rfl (decide_eq_true hc28))
             by_cases hc29 : 0 ≤ (wrap64 (x65 - 1))
             ·rw [if_pos hc29] at H
              by_cases hc30 : (wrap64 (x65 - 1)) < (y210_3.length : Int)
              ·rw [if_pos hc30] at H
               refine a_ixR (el := c91 (rd91 y210_3 (wrap64 (x65 - 1)))) ?_ ⟨hc29, hc30⟩ T96 Try.underlying30 (hel := R91 hc29 hc30) (hg := Gs.yes rfl rfl rfl (decide_eq_true hc28))
               refine a_faR (cells' := [_, _]) ?_ D96_0 (hg := Gs.yes rfl rfl rfl (decide_eq_true hc28))
               refine a_ldR (v := vS _) ?_ T9 (hg := Gs.yes rfl rfl rfl (decide_eq_true hc28))
               refine a_faB (q := 0) ?_ D96_0 (hg := Gs.yes rfl rfl rfl (decide_eq_true hc28))
               refine a_ldB (v := vS _) ?_ T9 (hg := Gs.yes rfl rfl rfl (decide_eq_true hc28))
               refine a_bin (u := .bool (!(Op.bytesLess (((rd91 y210_3 (wrap64 (x65 - 1))).f0).toList) (((rd91 x63 x65).f0).toList)))) ?_ (hg := Gs.yes rfl rfl rfl (decide_eq_true hc28))
               refine a_pick (b := true) (v := vB _) ?_ (decide_eq_true hc28) (hg := Gs.yes rfl rfl rfl (congrArg Bool.not hc27))
               refine a_pick (b := false) (v := vB _) ?_ (congrArg Bool.not hc27)
               refine RA.nil (fun _ => by kernel_rfl) ?_
               exact CanR.mk (fun κ => cond (Nat.beq κ 213) 210 (cond (Nat.beq κ 214) 211 (κ))) ⟨_, (by omega), _, _, _, _, _, _, _, _, _, _, H, rfl⟩ ⟨rfl, rfl, rfl, rfl, rfl, rfl, trivial⟩ ⟨rfl, rfl, trivial⟩ rfl
              ·rw [if_neg hc30] at H
               cases H
             ·rw [if_neg hc29] at H
              cases H
            ·rw [if_neg hc28] at H
             refine RA.skip rfl rfl rfl rfl rfl (decide_eq_false hc28) (by decide) ?_
             refine RA.skip rfl rfl rfl rfl rfl (decide_eq_false hc28) (by decide) ?_
             refine RA.skip rfl rfl rfl rfl rfl (decide_eq_false hc28) (by decide) ?_
             refine RA.skip rfl rfl rfl rfl rfl (decide_eq_false hc28) (by decide) ?_
             refine RA.skip rfl rfl rfl rfl rfl (decide_eq_false hc28) (by decide) ?_
             refine RA.skip rfl rfl rfl rfl rfl (decide_eq_false hc28) (by decide) ?_
             refine RA.skip rfl rfl rfl rfl rfl (decide_eq_false hc28) (by decide) ?_
             refine RA.skip rfl rfl rfl rfl rfl (decide_eq_false hc28) (by decide) ?_
             refine RA.skip rfl rfl rfl rfl rfl (decide_eq_false hc28) (by decide) ?_
             refine RA.skip rfl rfl rfl rfl rfl (decide_eq_false hc28) (by decide) ?_
             refine a_pick (b := false) (v := vB _) ?_ (decide_eq_false hc28) (hg := Gs.yes rfl rfl rfl (congrArg Bool.not hc27))
             refine a_pick (b := false) (v := vB _) ?_ (congrArg Bool.not hc27)
             refine RA.nil (fun _ => by kernel_rfl) ?_
             exact CanR.mk (fun κ => cond (Nat.beq κ 213) 210 (cond (Nat.beq κ 214) 211 (κ))) ⟨_, (by omega), _, _, _, _, _, _, _, _, _, _, H, rfl⟩ ⟨rfl, rfl, rfl, rfl, rfl, rfl, trivial⟩ ⟨rfl, rfl, trivial⟩ rfl
           ·rw [if_neg hc27] at H
            refine RA.skip rfl rfl rfl rfl rfl (congrArg Bool.not (Bool.eq_false_iff.2 hc27)) (by decide) ?_
            refine RA.skip rfl rfl rfl rfl rfl (congrArg Bool.not (Bool.eq_false_iff.2 hc27)) (by decide) ?_
            refine RA.skip rfl rfl rfl rfl rfl (congrArg Bool.not (Bool.eq_false_iff.2 hc27)) (by decide) ?_
            refine RA.skip0 rfl rfl rfl rfl rfl ?_
            refine RA.skip0 rfl rfl rfl rfl rfl ?_
            refine RA.skip0 rfl rfl rfl rfl rfl ?_
            refine RA.skip0 rfl rfl rfl rfl rfl ?_
            refine RA.skip0 rfl rfl rfl rfl rfl ?_
            refine RA.skip0 rfl rfl rfl rfl rfl ?_
            refine RA.skip0 rfl rfl rfl rfl rfl ?_
            refine RA.skip0 rfl rfl rfl rfl rfl ?_
            refine RA.skip0 rfl rfl rfl rfl rfl ?_
            refine RA.skip0 rfl rfl rfl rfl rfl ?_
            refine RA.skip rfl rfl rfl rfl rfl (congrArg Bool.not (Bool.eq_false_iff.2 hc27)) (by decide) ?_
            refine a_pick (b := true) (v := vB _) ?_ (congrArg Bool.not (Bool.eq_false_iff.2 hc27))
            refine RA.nil (fun _ => by kernel_rfl) ?_
            exact CanR.mk (fun κ => cond (Nat.beq κ 213) 210 (cond (Nat.beq κ 214) 211 (κ))) ⟨_, (by omega), _, _, _, _, _, _, _, _, _, _, H, rfl⟩ ⟨rfl, rfl, rfl, rfl, rfl, rfl, trivial⟩ ⟨rfl, rfl, trivial⟩ rfl
          ·clear H
           rintro _ ⟨k, hj2, y213_0, y213_1, y213_2, y213_3, y214_0, y214_1, x63, x64, x65, x89, H, rfl⟩
           cases k with
           | zero => cases H
           | succ k =>
            rw [impl_ValidDrawing.j2] at H
            by_cases hc31 : x89 = true
            ·rw [if_pos hc31] at H
             refine AG.yes rfl hc31 ?_
             refine AG.seq ?_
             refine AG.region HM ?_
             refine a_move (v := vB _) ?_
             refine RA.nil nofun ?_
             refine AG.ret ?_
             obtain rfl := Option.some.inj H
             exact RetP.mk id ⟨rfl, trivial⟩ trivial rfl
            ·rw [if_neg hc31] at H
             refine AG.no rfl (Bool.eq_false_iff.2 hc31) ?_
             refine AG.skip ?_
             refine AG.seq ?_
             refine AG.region HM ?_
             refine a_faB (q := 2) ?_ D32_2
             refine a_ldB (v := vR _ _) ?_ T29
             refine a_faB (q := 1) ?_ D96_1
             refine a_ldB (v := vR _ _) ?_ T38
             obtain ⟨⟨t32, t33⟩, e34, H⟩ := bindO H
             refine a_call (v := .tup [.c (.own 215 t32.length), .c (.d (.v (.bool t33)))]) (nk := [(215, .row 61 (t32.map c60))]) (L := []) ?_ rfl (impl_ringPolygon.ok e34) (fun κ => cond (Nat.beq κ 215) 100 (κ)) (qd (qd qn)) trivial ⟨rfl, trivial⟩ ⟨rfl, trivial⟩ rfl
             refine a_move (v := .tup [_, _]) ?_
             refine a_ext (v := .c (.own _ _)) ?_
             refine a_ext (v := vB _) ?_
             refine a_move (v := .c (.own _ _)) ?_
             refine a_move (v := vB _) ?_
             refine RA.nil nofun ?_
             refine AG.seq ?_
             refine AG.region HM ?_
             refine a_move (v := vB _) ?_
             refine a_un (u := .bool (!t33)) ?_
             refine a_move (v := vB _) ?_
             by_cases hc35 : t33 = true
             ·rw [if_pos hc35] at H
              refine a_move (v := .c (.own _ _)) ?_ (hg := Gs.yes rfl rfl rfl (congrArg Bool.not hc35))
              obtain ⟨t36, e37, H⟩ := bindO H
              refine a_call (v := vB t36) (nk := []) (L := [(215, _)]) ?_ rfl (impl_ValidPolygon.ok e37) id (qc rO qn) ⟨rfl, trivial⟩ trivial trivial rfl (hg := Gs.yes rfl rfl rfl (congrArg Bool.not hc35))
              refine a_un (u := .bool (!t36)) ?_ (hg := Gs.yes rfl rfl rfl (congrArg Bool.not hc35))
              refine a_pick (b := false) (v := vB _) ?_ (congrArg Bool.not hc35)
              refine RA.nil nofun ?_
              by_cases hc38 : t36 = true
              ·rw [if_pos hc38] at H
               refine AG.no rfl (congrArg Bool.not hc38) ?_
               refine AG.skip ?_
               refine AG.region HM ?_
               refine a_int (u := .int .i64 (wrap64 (x65 + 1))) ?_
               refine a_move (v := vI _) ?_
               refine RA.nil nofun ?_
               exact AGr.canon (fun κ => cond (Nat.beq κ 210) 213 (κ)) (ih1 _ (by omega) _ ⟨by omega, _, _, _, _, _, _, _, H, rfl⟩) ⟨rfl, rfl, rfl, rfl, trivial⟩ ⟨rfl, trivial⟩ rfl
              ·rw [if_neg hc38] at H
               refine AG.yes rfl (congrArg Bool.not (Bool.eq_false_iff.2 hc38)) ?_
               refine AG.seq ?_
               refine AG.region HM ?_
               refine a_move (v := vB _) ?_
               refine RA.nil nofun ?_
               refine AG.ret ?_
               obtain rfl := Option.some.inj H
               exact RetP.mk id ⟨rfl, trivial⟩ trivial rfl
             ·rw [if_neg hc35] at H
              refine RA.skip rfl rfl rfl rfl rfl (congrArg Bool.not (Bool.eq_false_iff.2 hc35)) (by decide) ?_
              refine RA.skip rfl rfl rfl rfl rfl (congrArg Bool.not (Bool.eq_false_iff.2 hc35)) (by decide) ?_
              refine RA.skip rfl rfl rfl rfl rfl (congrArg Bool.not (Bool.eq_false_iff.2 hc35)) (by decide) ?_
              refine a_pick (b := true) (v := vB _) ?_ (congrArg Bool.not (Bool.eq_false_iff.2 hc35))
              refine RA.nil nofun ?_
              refine AG.yes rfl rfl ?_
              refine AG.seq ?_
              refine AG.region HM ?_
              refine a_move (v := vB _) ?_
              refine RA.nil nofun ?_
              refine AG.ret ?_
              obtain rfl := Option.some.inj H
              exact RetP.mk id ⟨rfl, trivial⟩ trivial rfl
         ·rw [if_neg hc24] at H
          cases H
        ·rw [if_neg hc23] at H
         cases H
       ·rw [if_neg hc22] at H
        refine AG.no rfl (decide_eq_false hc22) ?_
        refine AG.exit ?_
        refine AG.seq ?_
        refine AG.region HM ?_
        refine a_move (v := vB _) ?_
        refine RA.nil nofun ?_
        refine AG.ret ?_
        obtain rfl := Option.some.inj H
        exact RetP.mk id ⟨rfl, trivial⟩ trivial rfl
/-! ### impl_ringEdges: function 78 -/
def impl_ringEdges.l0 : Nat → List Int → List S88 → List Int → Int → Int → Option ((List S88))
 | 0, _, _, _, _, _ => none
 | k + 1, x0, x3, x8, x9, x10 => if x10 < x9 then (if 0 ≤ x10 then (if x10 < (x8.length : Int) then (if (x0.length : Int) = 0 then (none) else (if 0 ≤ (Int.tmod (wrap64 (x10 + 1)) (x0.length : Int)) then (if (Int.tmod (wrap64 (x10 + 1)) (x0.length : Int)) < (x0.length : Int) then (if x3.length < 8796093022208 then (impl_ringEdges.l0 k x0 (x3 ++ [(⟨mn (rd2 x8 x10) (rd2 x0 (Int.tmod (wrap64 (x10 + 1)) (x0.length : Int))), mx (rd2 x8 x10) (rd2 x0 (Int.tmod (wrap64 (x10 + 1)) (x0.length : Int)))⟩ : S88)]) x8 x9 (wrap64 (x10 + 1))) else (none)) else (none)) else (none))) else (none)) else (none)) else (some x3)
def impl_ringEdges.f (k : Nat) (l0 : List Int) : Option ((List S88)) := impl_ringEdges.l0 k l0 (([] : List S88) : List S88) l0 (l0.length : Int) 0
set_option maxRecDepth 100000 in
theorem impl_ringEdges.ok {k : Nat} {l0 : List Int} {r : List S88} (H : impl_ringEdges.f k l0 = some r) : OkF Try.prog 78 [vR 2 (l0.map c2)] [] (.c (.own 100 r.length)) [(100, .row 88 (r.map c88))] := by
 unfold impl_ringEdges.f at H
 refine OkF.of (N := 35) (rs := [2]) (avs := [.c (.own 100 r.length)]) Try.func78 rfl rfl (fun _ _ => results_tmp rfl _ _ _) (by decide) rfl rfl rfl rfl (fun w0 S => ?_)
 refine AG.seq ?_
 refine AG.region HM ?_
 refine a_nilO (e := 88) 200 ?_ T88
 refine RA.nil nofun ?_
 refine AG.seq ?_
 refine AG.region HM ?_
 refine a_lit (cs := []) (D := []) (css := (([] : List S88) : List S88).map c88) 201 ?_ N87 T88 (hcss := by rfl)
 refine a_move (v := .c (.own _ _)) ?_
 refine RA.nil nofun ?_
 refine AG.seq ?_
 refine AG.seq ?_
 refine AG.region HM ?_
 refine a_move (v := vR _ _) ?_
 refine a_lenR ?_ Try.underlying38
 refine a_move (v := vI _) ?_
 refine RA.nil nofun ?_
 refine AG.block ?_
 refine AG.loop ?_
 obtain ⟨K0, hK0, gK0⟩ : ∃ K, k ≤ K ∧ K ≤ k := ⟨k, Nat.le_refl k, Nat.le_refl k⟩
 refine AGr.canon (fun κ => cond (Nat.beq κ 202) 201 (κ)) (AGr.loopI (n := k) (fun k s => k ≤ K0 ∧ ∃ (x0 : List Int) (x3 : List S88) (x8 : List Int) (x9 : Int) (x10 : Int), impl_ringEdges.l0 k x0 x3 x8 x9 x10 = some r ∧ s = St.of [(0, vR 2 (x0.map c2)), (3, .c (.own 202 x3.length)), (8, vR 2 (x8.map c2)), (9, vI x9), (10, vI x10)] [(202, .row 88 (x3.map c88))]) ⟨hK0, _, _, _, _, _, H, rfl⟩ ?_ ?_) ⟨rfl, (ownE rfl (by simp)), rfl, rfl, rfl, trivial⟩ ⟨rfl, trivial⟩ rfl
 ·rintro _ ⟨_, _, _, _, _, _, H, _⟩
  cases H
 ·clear H hK0
  rintro k ih0 _ ⟨hK0, x0, x3, x8, x9, x10, H, rfl⟩
  unfold impl_ringEdges.l0 at H
  refine AG.seq ?_
  refine AG.region HM ?_
  refine a_int (u := .bool (decide (x10 < x9))) ?_
  refine RA.nil nofun ?_
  refine AG.seq ?_
  by_cases hc2 : x10 < x9
  ·rw [if_pos hc2] at H
   refine AG.yes rfl (decide_eq_true hc2) ?_
   refine AG.skip ?_
   refine AG.seq ?_
   refine AG.block ?_
   refine AG.seq ?_
   refine AG.region HM ?_
   refine a_move (v := vI _) ?_
   by_cases hc3 : 0 ≤ x10
   ·rw [if_pos hc3] at H
    by_cases hc4 : x10 < (x8.length : Int)
    ·rw [if_pos hc4] at H
     refine a_ixR (el := c2 (rd2 x8 x10)) ?_ ⟨hc3, hc4⟩ T2 Try.underlying38 (hel := R2 hc3 hc4)
     refine a_ldR (v := vI _) ?_ T2
     refine a_move (v := vI _) ?_
     refine a_move (v := vI _) ?_
     refine RA.nil nofun ?_
     refine AG.seq ?_
     refine AG.region HM ?_
     refine a_move (v := vR _ _) ?_
     refine a_move (v := vI _) ?_
     refine a_int (u := .int .i64 (wrap64 (x10 + 1))) ?_
     refine a_move (v := vR _ _) ?_
     refine a_lenR ?_ Try.underlying38
     by_cases hc5 : (x0.length : Int) = 0
     ·rw [if_pos hc5] at H
      cases H
     ·rw [if_neg hc5] at H
      refine a_rem (r := Int.tmod (wrap64 (x10 + 1)) (x0.length : Int)) ?_ hc5
      by_cases hc6 : 0 ≤ (Int.tmod (wrap64 (x10 + 1)) (x0.length : Int))
      ·rw [if_pos hc6] at H
       by_cases hc7 : (Int.tmod (wrap64 (x10 + 1)) (x0.length : Int)) < (x0.length : Int)
       ·rw [if_pos hc7] at H
        refine a_ixR (el := c2 (rd2 x0 (Int.tmod (wrap64 (x10 + 1)) (x0.length : Int)))) ?_ ⟨hc6, hc7⟩ T2 Try.underlying38 (hel := R2 hc6 hc7)
        refine a_ldR (v := vI _) ?_ T2
        refine a_move (v := vI _) ?_
        refine RA.nil nofun ?_
        refine AG.region HM ?_
        refine a_move (v := .c (.own _ _)) ?_
        refine a_move (v := vI _) ?_
        refine a_move (v := vI _) ?_
        refine a_minmax (mx := false) (r := mn (rd2 x8 x10) (rd2 x0 (Int.tmod (wrap64 (x10 + 1)) (x0.length : Int)))) ?_
        refine a_move (v := vI _) ?_
        refine a_move (v := vI _) ?_
        refine a_minmax (mx := true) (r := mx (rd2 x8 x10) (rd2 x0 (Int.tmod (wrap64 (x10 + 1)) (x0.length : Int)))) ?_
        refine a_buildA (cs := [_, _]) ?_ T88 Try.underlying88 T2 rfl
        refine a_lit (cs := [_, _]) (D := []) (css := ([(⟨mn (rd2 x8 x10) (rd2 x0 (Int.tmod (wrap64 (x10 + 1)) (x0.length : Int))), mx (rd2 x8 x10) (rd2 x0 (Int.tmod (wrap64 (x10 + 1)) (x0.length : Int)))⟩ : S88)]).map c88) 203 ?_ N87 T88
        by_cases hc8 : x3.length < 8796093022208
        ·rw [if_pos hc8] at H
         refine a_appO (css' := (x3 ++ [(⟨mn (rd2 x8 x10) (rd2 x0 (Int.tmod (wrap64 (x10 + 1)) (x0.length : Int))), mx (rd2 x8 x10) (rd2 x0 (Int.tmod (wrap64 (x10 + 1)) (x0.length : Int)))⟩ : S88)]).map c88) (n' := (x3 ++ [(⟨mn (rd2 x8 x10) (rd2 x0 (Int.tmod (wrap64 (x10 + 1)) (x0.length : Int))), mx (rd2 x8 x10) (rd2 x0 (Int.tmod (wrap64 (x10 + 1)) (x0.length : Int)))⟩ : S88)]).length) ?_ T88 (by simp [maxLen]; omega) (by simp; omega) Try.underlying87 (hc := by exact List.map_append.symm) (hn := by exact List.length_map _)
         refine a_move (v := .c (.own _ _)) ?_
         refine RA.nil nofun ?_
         refine AG.region HM ?_
         refine a_int (u := .int .i64 (wrap64 (x10 + 1))) ?_
         refine a_move (v := vI _) ?_
         refine RA.nil nofun ?_
         exact AGr.canon id (ih0 _ (by omega) _ ⟨by omega, _, _, _, _, _, H, rfl⟩) ⟨rfl, rfl, rfl, rfl, rfl, trivial⟩ ⟨rfl, trivial⟩ rfl
        ·rw [if_neg hc8] at H
         cases H
       ·rw [if_neg hc7] at H
        cases H
      ·rw [if_neg hc6] at H
       cases H
    ·rw [if_neg hc4] at H
     cases H
   ·rw [if_neg hc3] at H
    cases H
  ·rw [if_neg hc2] at H
   refine AG.no rfl (decide_eq_false hc2) ?_
   refine AG.exit ?_
   refine AG.seq ?_
   refine AG.region HM ?_
   refine a_move (v := .c (.own _ _)) ?_
   refine a_move (v := .c (.own _ _)) ?_
   refine RA.nil nofun ?_
   refine AG.ret ?_
   obtain rfl := Option.some.inj H
   exact RetP.mk (fun κ => cond (Nat.beq κ 100) 202 (κ)) ⟨rfl, trivial⟩ ⟨rfl, trivial⟩ rfl
/-! ### slices_SortFunc_pairs: function 79 -/
def slices_SortFunc_pairs.f (l0 : List S88) : Option (List S88) := if l0.length < 4611686018427387904 then some ((sortP (l0.map fun x => (x.f0, x.f1))).map fun p => (⟨p.1, p.2⟩ : S88)) else none
theorem slices_SortFunc_pairs.ok {l0 : List S88} {r : List S88} (H : slices_SortFunc_pairs.f l0 = some r) : OkF Try.prog 79 [.c (.own 0 l0.length), .c (.d (.fn 80 []))] [(0, .row 88 (l0.map c88))] (.tup []) [(0, .row 88 (r.map c88))] := by
 unfold slices_SortFunc_pairs.f at H
 by_cases h : l0.length < 4611686018427387904
 ·rw [if_pos h] at H
  obtain rfl := Option.some.inj H
  have := sortPairs (l0.map fun x => (x.f0, x.f1)) (by rw [List.length_map]; exact h)
  rw [List.length_map, List.map_map] at this
  rw [List.map_map]
  exact this
 ·rw [if_neg h] at H
  cases H
/-! ### impl_EdgesOf: function 44 -/
mutual
def impl_EdgesOf.l0 : Nat → List S88 → List S91 → Int → Int → Option ((List (List Int)) × Int)
 | 0, _, _, _, _ => none
 | k + 1, x4, x15, x16, x17 => if x17 < x16 then (if 0 ≤ x17 then (if x17 < (x15.length : Int) then ((impl_ringEdges.f k ((rd91 x15 x17).f1)).bind fun t8 => (if x4.length + t8.length < 8796093022208 then (impl_EdgesOf.l0 k (x4 ++ t8) x15 x16 (wrap64 (x17 + 1))) else (none))) else (none)) else (none)) else ((slices_SortFunc_pairs.f x4).bind fun t12 => (impl_EdgesOf.l1 k t12 (([] : List (List Int)) : List (List Int)) (t12.length : Int) 0))
def impl_EdgesOf.l1 : Nat → List S88 → List (List Int) → Int → Int → Option ((List (List Int)) × Int)
 | 0, _, _, _, _ => none
 | k + 1, x4, x7, x31, x32 => if x32 < x31 then (if 0 ≤ x32 then (if x32 < (x4.length : Int) then (if x32 = 0 then (if x7.length < 5864062014805 then (impl_EdgesOf.l1 k x4 (x7 ++ [[(rd88 x4 x32).f0, (rd88 x4 x32).f1]]) x31 (wrap64 (x32 + 1))) else (none)) else (if 0 ≤ (wrap64 (x32 - 1)) then (if (wrap64 (x32 - 1)) < (x4.length : Int) then (if (((rd88 x4 x32).f0) == ((rd88 x4 (wrap64 (x32 - 1))).f0) && (((rd88 x4 x32).f1) == ((rd88 x4 (wrap64 (x32 - 1))).f1))) = true then (impl_EdgesOf.l1 k x4 x7 x31 (wrap64 (x32 + 1))) else (if x7.length < 5864062014805 then (impl_EdgesOf.l1 k x4 (x7 ++ [[(rd88 x4 x32).f0, (rd88 x4 x32).f1]]) x31 (wrap64 (x32 + 1))) else (none))) else (none)) else (none))) else (none)) else (none)) else (some (x7, 0))
end
def impl_EdgesOf.f (k : Nat) (a0_0 : Int) (a0_1 : Int) (l0_2 : List S60) (l0_3 : List S91) : Option ((List (List Int)) × Int) := (impl_ValidDrawing.f k a0_0 a0_1 l0_2 l0_3).bind fun t1 => (if t1 = true then (impl_EdgesOf.l0 k (([] : List S88) : List S88) l0_3 (l0_3.length : Int) 0) else (some (([] : List (List Int)), 1)))
set_option maxRecDepth 100000 in
theorem impl_EdgesOf.ok {k : Nat} {a0_0 : Int} {a0_1 : Int} {l0_2 : List S60} {l0_3 : List S91} {r0 : List (List Int)} {r1 : Int} (H : impl_EdgesOf.f k a0_0 a0_1 l0_2 l0_3 = some (r0, r1)) : OkF Try.prog 44 [.agg [.d (.v (.int .i64 a0_0)), .d (.v (.int .i64 a0_1)), .d (.row 61 (l0_2.map c60)), .d (.row 96 (l0_3.map c91))]] [] (.tup [.c (.own 100 r0.length), .c (.d (.v (.int .i64 r1)))]) [(100, .row 38 (r0.map c38))] := by
 unfold impl_EdgesOf.f at H
 refine OkF.of (N := 58) (rs := [2, 3]) (avs := [.c (.own 100 r0.length), .c (.d (.v (.int .i64 r1)))]) Try.func44 rfl rfl (fun _ _ => results_tmp2 rfl _ _ _) (by decide) rfl rfl rfl rfl (fun w0 S => ?_)
 refine AG.seq ?_
 refine AG.region HM ?_
 refine a_box 200 ?_
 refine a_nilO (e := 38) 201 ?_ T38
 refine a_move (v := vI _) ?_
 refine RA.nil nofun ?_
 refine AG.seq ?_
 refine AG.seq ?_
 refine AG.region HM ?_
 refine a_ldB (v := .agg [_, _, _, _]) ?_ T32
 obtain ⟨t1, e2, H⟩ := bindO H
 refine a_call (v := vB t1) (nk := []) (L := []) ?_ rfl (impl_ValidDrawing.ok e2) id (qg qn) trivial trivial trivial rfl
 refine a_un (u := .bool (!t1)) ?_
 refine RA.nil nofun ?_
 by_cases hc3 : t1 = true
 ·rw [if_pos hc3] at H
  refine AG.no rfl (congrArg Bool.not hc3) ?_
  refine AG.skip ?_
  refine AG.seq ?_
  refine AG.region HM ?_
  refine a_lit (cs := []) (D := []) (css := (([] : List S88) : List S88).map c88) 204 ?_ N87 T88 (hcss := by rfl)
  refine a_move (v := .c (.own _ _)) ?_
  refine RA.nil nofun ?_
  refine AG.seq ?_
  refine AG.seq ?_
  refine AG.region HM ?_
  refine a_faB (q := 3) ?_ D32_3
  refine a_ldB (v := vR _ _) ?_ T30
  refine a_lenR ?_ Try.underlying30
  refine a_move (v := vI _) ?_
  refine RA.nil nofun ?_
  refine AG.block ?_
  refine AG.loop ?_
  obtain ⟨K0, hK0, gK0⟩ : ∃ K, k ≤ K ∧ K ≤ k := ⟨k, Nat.le_refl k, Nat.le_refl k⟩
  refine AGr.canon (fun κ => cond (Nat.beq κ 205) 204 (κ)) (AGr.loopI (n := k) (fun k s => k ≤ K0 ∧ ∃ (x4 : List S88) (x15 : List S91) (x16 : Int) (x17 : Int), impl_EdgesOf.l0 k x4 x15 x16 x17 = some (r0, r1) ∧ s = St.of [(4, .c (.own 205 x4.length)), (15, vR 96 (x15.map c91)), (16, vI x16), (17, vI x17)] [(205, .row 88 (x4.map c88))]) ⟨hK0, _, _, _, _, H, rfl⟩ ?_ ?_) ⟨(ownE rfl (by simp)), rfl, rfl, rfl, trivial⟩ ⟨rfl, trivial⟩ rfl
  ·rintro _ ⟨_, _, _, _, _, H, _⟩
   cases H
  ·clear H hK0
   rintro k ih0 _ ⟨hK0, x4, x15, x16, x17, H, rfl⟩
   unfold impl_EdgesOf.l0 at H
   refine AG.seq ?_
   refine AG.region HM ?_
   refine a_int (u := .bool (decide (x17 < x16))) ?_
   refine RA.nil nofun ?_
   refine AG.seq ?_
   by_cases hc5 : x17 < x16
   ·rw [if_pos hc5] at H
    refine AG.yes rfl (decide_eq_true hc5) ?_
    refine AG.skip ?_
    refine AG.seq ?_
    refine AG.block ?_
    refine AG.seq ?_
    refine AG.region HM ?_
    by_cases hc6 : 0 ≤ x17
    ·rw [if_pos hc6] at H
     by_cases hc7 : x17 < (x15.length : Int)
     ·rw [if_pos hc7] at H
      refine a_ixR (el := c91 (rd91 x15 x17)) ?_ ⟨hc6, hc7⟩ T96 Try.underlying30 (hel := R91 hc6 hc7)
      refine a_ldR (v := .agg [_, _]) ?_ T96
      refine a_alloc (cs := [_, _]) 206 ?_ T96
      refine a_stB (cs' := [_, _]) ?_ T96
      refine RA.nil nofun ?_
      refine AG.region HM ?_
      refine a_move (v := .c (.own _ _)) ?_
      refine a_faB (q := 1) ?_ D96_1
      refine a_ldB (v := vR _ _) ?_ T38
      obtain ⟨t8, e9, H⟩ := bindO H
      refine a_call (v := .c (.own 207 t8.length)) (nk := [(207, .row 88 (t8.map c88))]) (L := []) ?_ rfl (impl_ringEdges.ok e9) (fun κ => cond (Nat.beq κ 207) 100 (κ)) (qd qn) trivial ⟨rfl, trivial⟩ ⟨rfl, trivial⟩ rfl
      by_cases hc10 : x4.length + t8.length < 8796093022208
      ·rw [if_pos hc10] at H
       refine a_appO (css' := (x4 ++ t8).map c88) (n' := (x4 ++ t8).length) ?_ T88 (by simp [maxLen]; omega) (by simp; omega) Try.underlying87 (hc := by exact List.map_append.symm) (hn := by exact List.length_map _)
       refine a_move (v := .c (.own _ _)) ?_
       refine RA.nil nofun ?_
       refine AG.region HM ?_
       refine a_int (u := .int .i64 (wrap64 (x17 + 1))) ?_
       refine a_move (v := vI _) ?_
       refine RA.nil nofun ?_
       exact AGr.canon id (ih0 _ (by omega) _ ⟨by omega, _, _, _, _, H, rfl⟩) ⟨rfl, rfl, rfl, rfl, trivial⟩ ⟨rfl, trivial⟩ rfl
      ·rw [if_neg hc10] at H
       cases H
     ·rw [if_neg hc7] at H
      cases H
    ·rw [if_neg hc6] at H
     cases H
   ·rw [if_neg hc5] at H
    refine AG.no rfl (decide_eq_false hc5) ?_
    refine AG.exit ?_
    refine AG.seq ?_
    refine AG.region HM ?_
    refine a_move (v := .c (.own _ _)) ?_
    obtain ⟨t12, e13, H⟩ := bindO H
    refine a_callM (v := .tup []) (nk := []) (L := []) (Mk := [(205, _)]) (ck := [(205, .row 88 (t12.map c88))]) ?_ rfl (slices_SortFunc_pairs.ok e13) (fun κ => cond (Nat.beq κ 0) 205 (κ)) (fun κ => cond (Nat.beq κ 205) 0 (κ)) (mcO (mcD m0)) trivial ⟨rfl, trivial⟩ trivial ⟨rfl, trivial⟩ trivial ⟨rfl, trivial⟩ rfl rfl rfl
    refine RA.nil nofun ?_
    refine AG.relen 205 t12.length ?_
    refine AG.seq ?_
    refine AG.region HM ?_
    refine a_lit (cs := []) (D := []) (css := (([] : List (List Int)) : List (List Int)).map c38) 209 ?_ N56 T38 (hcss := by rfl)
    refine a_move (v := .c (.own _ _)) ?_
    refine RA.nil nofun ?_
    refine AG.seq ?_
    refine AG.seq ?_
    refine AG.region HM ?_
    refine a_move (v := .c (.own _ _)) ?_
    refine a_lenO ?_ Try.underlying87
    refine a_move (v := vI _) ?_
    refine RA.nil nofun ?_
    refine AG.block ?_
    refine AG.loop ?_
    obtain ⟨K1, hK1, gK1⟩ : ∃ K, k ≤ K ∧ K ≤ k := ⟨k, Nat.le_refl k, Nat.le_refl k⟩
    refine AGr.canon (fun κ => cond (Nat.beq κ 210) 205 (cond (Nat.beq κ 211) 209 (κ))) (AGr.loopI (n := k) (fun k s => k ≤ K1 ∧ ∃ (x4 : List S88) (x7 : List (List Int)) (x31 : Int) (x32 : Int), impl_EdgesOf.l1 k x4 x7 x31 x32 = some (r0, r1) ∧ s = St.of [(4, .c (.own 210 x4.length)), (7, .c (.own 211 x7.length)), (30, .c (.own 210 x4.length)), (31, vI x31), (32, vI x32)] [(210, .row 88 (x4.map c88)), (211, .row 38 (x7.map c38))]) ⟨hK1, _, _, _, _, H, rfl⟩ ?_ ?_) ⟨rfl, (ownE rfl (by simp)), rfl, rfl, rfl, trivial⟩ ⟨rfl, rfl, trivial⟩ rfl
    ·rintro _ ⟨_, _, _, _, _, H, _⟩
     cases H
    ·clear H hK1
     rintro k ih1 _ ⟨hK1, x4, x7, x31, x32, H, rfl⟩
     unfold impl_EdgesOf.l1 at H
     refine AG.seq ?_
     refine AG.region HM ?_
     refine a_int (u := .bool (decide (x32 < x31))) ?_
     refine RA.nil nofun ?_
     refine AG.seq ?_
     by_cases hc15 : x32 < x31
     ·rw [if_pos hc15] at H
      refine AG.yes rfl (decide_eq_true hc15) ?_
      refine AG.skip ?_
      refine AG.seq ?_
      refine AG.block ?_
      refine AG.seq ?_
      refine AG.region HM ?_
      refine a_move (v := vI _) ?_
      by_cases hc16 : 0 ≤ x32
      ·rw [if_pos hc16] at H
       by_cases hc17 : x32 < (x4.length : Int)
       ·rw [if_pos hc17] at H
        refine a_ixO ?_ ⟨hc16, hc17⟩ T88 Try.underlying87
        refine a_ldE (v := .agg [_, _]) ?_ (G88 hc16 hc17) T88
        refine a_alloc (cs := [_, _]) 212 ?_ T88
        refine a_move (v := vI _) ?_
        refine a_stB (cs' := [_, _]) ?_ T88
        refine RA.nil nofun ?_
        refine AG.seq ?_
        refine AG.region HM ?_
        refine a_move (v := vI _) ?_
        refine a_int (u := .bool ((x32 == 0))) ?_
        refine a_move (v := vB _) ?_
        by_cases hc18 : x32 = 0
        ·rw [if_pos hc18] at H
         refine RA.skip rfl rfl rfl rfl rfl (beq_iff_eq.2 hc18) (by decide) ?_
         refine RA.skip rfl rfl rfl rfl rfl (beq_iff_eq.2 hc18) (by decide) ?_
         refine RA.skip rfl rfl rfl rfl rfl (beq_iff_eq.2 hc18) (by decide) ?_
         refine RA.skip rfl rfl rfl rfl rfl (beq_iff_eq.2 hc18) (by decide) ?_
         refine RA.skip rfl rfl rfl rfl rfl (beq_iff_eq.2 hc18) (by decide) ?_
         refine RA.skip rfl rfl rfl rfl rfl (beq_iff_eq.2 hc18) (by decide) ?_
         refine RA.skip rfl rfl rfl rfl rfl (beq_iff_eq.2 hc18) (by decide) ?_
         refine a_pick (b := true) (v := vB _) ?_ (beq_iff_eq.2 hc18)
         refine RA.nil (fun _ => by kernel_rfl) ?_
         refine AG.yes rfl rfl ?_
         refine AG.region HM ?_
         refine a_move (v := .c (.own _ _)) ?_
         refine a_ixaB (q := 0) (iv := 0) ?_ (by decide) T2 Try.underlying88
         refine a_ldB (v := vI _) ?_ T2
         refine a_ixaB (q := 1) (iv := 1) ?_ (by decide) T2 Try.underlying88
         refine a_ldB (v := vI _) ?_ T2
         refine a_lit (cs := [_, _]) (D := []) (css := ([(rd88 x4 x32).f0, (rd88 x4 x32).f1]).map c2) 213 ?_ N38 T2
         refine a_lit (cs := [_]) (D := [213]) (css := ([[(rd88 x4 x32).f0, (rd88 x4 x32).f1]]).map c38) 214 ?_ N56 T38
         by_cases hc19 : x7.length < 5864062014805
         ·rw [if_pos hc19] at H
          refine a_appO (css' := (x7 ++ [[(rd88 x4 x32).f0, (rd88 x4 x32).f1]]).map c38) (n' := (x7 ++ [[(rd88 x4 x32).f0, (rd88 x4 x32).f1]]).length) ?_ T38 (by simp [maxLen]; omega) (by simp; omega) Try.underlying56 (hc := by exact List.map_append.symm) (hn := by exact List.length_map _)
          refine a_move (v := .c (.own _ _)) ?_
          refine RA.nil nofun ?_
          refine AG.region HM ?_
          refine a_int (u := .int .i64 (wrap64 (x32 + 1))) ?_
          refine a_move (v := vI _) ?_
          refine RA.nil nofun ?_
          exact AGr.canon id (ih1 _ (by omega) _ ⟨by omega, _, _, _, _, H, rfl⟩) ⟨rfl, rfl, rfl, rfl, rfl, trivial⟩ ⟨rfl, rfl, trivial⟩ rfl
         ·rw [if_neg hc19] at H
          cases H
        ·rw [if_neg hc18] at H
         refine a_ldB (v := .agg [_, _]) ?_ T88 (hg := Gs.yes rfl rfl rfl (beq_eq_false_iff_ne.2 hc18))
         refine a_move (v := .c (.own _ _)) ?_ (hg := Gs.yes rfl rfl rfl (beq_eq_false_iff_ne.2 hc18))
         refine a_move (v := vI _) ?_ (hg := Gs.yes rfl rfl rfl (beq_eq_false_iff_ne.2 hc18))
         refine a_int (u := .int .i64 (wrap64 (x32 - 1))) ?_ (hg := Gs.yes rfl rfl rfl (beq_eq_false_iff_ne.2 hc18))
         by_cases hc21 : 0 ≤ (wrap64 (x32 - 1))
         ·rw [if_pos hc21] at H
          by_cases hc22 : (wrap64 (x32 - 1)) < (x4.length : Int)
          ·rw [if_pos hc22] at H
           refine a_ixO ?_ ⟨hc21, hc22⟩ T88 Try.underlying87 (hg := Gs.yes rfl rfl rfl (beq_eq_false_iff_ne.2 hc18))
           refine a_ldE (v := .agg [_, _]) ?_ (G88 hc21 hc22) T88 (hg := Gs.yes rfl rfl rfl (beq_eq_false_iff_ne.2 hc18))
           refine a_eqS (b := (!(((rd88 x4 x32).f0) == ((rd88 x4 (wrap64 (x32 - 1))).f0) && (((rd88 x4 x32).f1) == ((rd88 x4 (wrap64 (x32 - 1))).f1))))) ?_ (.inr ⟨rfl, rfl⟩) (Q88 ((rd88 x4 x32).f0) ((rd88 x4 (wrap64 (x32 - 1))).f0) ((rd88 x4 x32).f1) ((rd88 x4 (wrap64 (x32 - 1))).f1)).2 (hg := Gs.yes rfl rfl rfl (beq_eq_false_iff_ne.2 hc18))
           refine a_pick (b := false) (v := vB _) ?_ (beq_eq_false_iff_ne.2 hc18)
           refine RA.nil (fun _ => by kernel_rfl) ?_
           by_cases hc23 : (((rd88 x4 x32).f0) == ((rd88 x4 (wrap64 (x32 - 1))).f0) && (((rd88 x4 x32).f1) == ((rd88 x4 (wrap64 (x32 - 1))).f1))) = true
           ·rw [if_pos hc23] at H
            refine AG.no rfl (by rw [show (((rd88 x4 x32).f0) == ((rd88 x4 (wrap64 (x32 - 1))).f0) && (((rd88 x4 x32).f1) == ((rd88 x4 (wrap64 (x32 - 1))).f1))) = true from hc23]; rfl) ?_
            refine AG.skip ?_
            refine AG.region HM ?_
            refine a_int (u := .int .i64 (wrap64 (x32 + 1))) ?_
            refine a_move (v := vI _) ?_
            refine RA.nil nofun ?_
            exact AGr.canon id (ih1 _ (by omega) _ ⟨by omega, _, _, _, _, H, rfl⟩) ⟨rfl, rfl, rfl, rfl, rfl, trivial⟩ ⟨rfl, rfl, trivial⟩ rfl
           ·rw [if_neg hc23] at H
            refine AG.yes rfl (by rw [Bool.eq_false_iff.2 hc23]; rfl) ?_
            refine AG.region HM ?_
            refine a_move (v := .c (.own _ _)) ?_
            refine a_ixaB (q := 0) (iv := 0) ?_ (by decide) T2 Try.underlying88
            refine a_ldB (v := vI _) ?_ T2
            refine a_ixaB (q := 1) (iv := 1) ?_ (by decide) T2 Try.underlying88
            refine a_ldB (v := vI _) ?_ T2
            refine a_lit (cs := [_, _]) (D := []) (css := ([(rd88 x4 x32).f0, (rd88 x4 x32).f1]).map c2) 213 ?_ N38 T2
            refine a_lit (cs := [_]) (D := [213]) (css := ([[(rd88 x4 x32).f0, (rd88 x4 x32).f1]]).map c38) 214 ?_ N56 T38
            by_cases hc24 : x7.length < 5864062014805
            ·rw [if_pos hc24] at H
             refine a_appO (css' := (x7 ++ [[(rd88 x4 x32).f0, (rd88 x4 x32).f1]]).map c38) (n' := (x7 ++ [[(rd88 x4 x32).f0, (rd88 x4 x32).f1]]).length) ?_ T38 (by simp [maxLen]; omega) (by simp; omega) Try.underlying56 (hc := by exact List.map_append.symm) (hn := by exact List.length_map _)
             refine a_move (v := .c (.own _ _)) ?_
             refine RA.nil nofun ?_
             refine AG.region HM ?_
             refine a_int (u := .int .i64 (wrap64 (x32 + 1))) ?_
             refine a_move (v := vI _) ?_
             refine RA.nil nofun ?_
             exact AGr.canon id (ih1 _ (by omega) _ ⟨by omega, _, _, _, _, H, rfl⟩) ⟨rfl, rfl, rfl, rfl, rfl, trivial⟩ ⟨rfl, rfl, trivial⟩ rfl
            ·rw [if_neg hc24] at H
             cases H
          ·rw [if_neg hc22] at H
           cases H
         ·rw [if_neg hc21] at H
          cases H
       ·rw [if_neg hc17] at H
        cases H
      ·rw [if_neg hc16] at H
       cases H
     ·rw [if_neg hc15] at H
      refine AG.no rfl (decide_eq_false hc15) ?_
      refine AG.exit ?_
      refine AG.seq ?_
      refine AG.region HM ?_
      refine a_move (v := .c (.own _ _)) ?_
      refine a_move (v := .c (.own _ _)) ?_
      refine a_move (v := vI _) ?_
      refine RA.nil nofun ?_
      refine AG.ret ?_
      simp only [Option.some.injEq, Prod.mk.injEq] at H
      obtain ⟨rfl, rfl⟩ := H
      exact RetP.mk (fun κ => cond (Nat.beq κ 100) 211 (κ)) ⟨rfl, rfl, trivial⟩ ⟨rfl, trivial⟩ rfl
 ·rw [if_neg hc3] at H
  refine AG.yes rfl (congrArg Bool.not (Bool.eq_false_iff.2 hc3)) ?_
  refine AG.seq ?_
  refine AG.region HM ?_
  refine a_nilO (e := 38) 203 ?_ T38
  refine a_move (v := vI _) ?_
  refine RA.nil nofun ?_
  refine AG.ret ?_
  simp only [Option.some.injEq, Prod.mk.injEq] at H
  obtain ⟨rfl, rfl⟩ := H
  exact RetP.mk (fun κ => cond (Nat.beq κ 100) 203 (κ)) ⟨(ownE rfl (by simp)), rfl, trivial⟩ ⟨rfl, trivial⟩ rfl
/-! ### impl_isOrder: function 58 -/
def impl_isOrder.l0 : Nat → Int → List Bool → List Int → Int → Int → Option (Bool)
 | 0, _, _, _, _, _ => none
 | k + 1, x1, x5, x14, x15, x16 => if x16 < x15 then (if 0 ≤ x16 then (if x16 < (x14.length : Int) then ((impl_within.f (rd2 x14 x16) 0 (wrap64 (x1 - 1))).bind fun t8 => (if t8 = true then (if 0 ≤ (rd2 x14 x16) then (if (rd2 x14 x16) < (x5.length : Int) then (if (rd4 x5 (rd2 x14 x16)) = true then (some false) else (impl_isOrder.l0 k x1 (x5.set ((rd2 x14 x16) : Int).toNat true) x14 x15 (wrap64 (x16 + 1)))) else (none)) else (none)) else (some false))) else (none)) else (none)) else (some true)
def impl_isOrder.f (k : Nat) (l0 : List Int) (a1 : Int) : Option (Bool) := if (l0.length : Int) = a1 then (if 0 ≤ a1 then (if (a1 : Int).toNat ≤ 281474976710656 then (impl_isOrder.l0 k a1 (List.replicate ((a1 : Int).toNat) false) l0 (l0.length : Int) 0) else (none)) else (none)) else (some false)
set_option maxRecDepth 100000 in
theorem impl_isOrder.ok {k : Nat} {l0 : List Int} {a1 : Int} {r : Bool} (H : impl_isOrder.f k l0 a1 = some r) : OkF Try.prog 58 [vR 2 (l0.map c2), vI a1] [] (.c (.d (.v (.bool r)))) [] := by
 unfold impl_isOrder.f at H
 refine OkF.of (N := 35) (rs := [4]) (avs := [.c (.d (.v (.bool r)))]) Try.func58 rfl rfl (fun _ _ => results_tmp rfl _ _ _) (by decide) rfl rfl rfl rfl (fun w0 S => ?_)
 refine AG.seq ?_
 refine AG.region HM ?_
 refine a_move (v := vB _) ?_
 refine RA.nil nofun ?_
 refine AG.seq ?_
 refine AG.seq ?_
 refine AG.region HM ?_
 refine a_move (v := vR _ _) ?_
 refine a_lenR ?_ Try.underlying38
 refine a_move (v := vI _) ?_
 refine a_int (u := .bool (((l0.length : Int) != a1))) ?_
 refine RA.nil nofun ?_
 by_cases hc1 : (l0.length : Int) = a1
 ·rw [if_pos hc1] at H
  refine AG.no rfl (bne_eq_false_iff_eq.2 hc1) ?_
  refine AG.skip ?_
  refine AG.seq ?_
  refine AG.region HM ?_
  refine a_move (v := vI _) ?_
  by_cases hc2 : 0 ≤ a1
  ·rw [if_pos hc2] at H
   by_cases hc3 : (a1 : Int).toNat ≤ 281474976710656
   ·rw [if_pos hc3] at H
    refine a_make (n := a1) (css := (List.replicate ((a1 : Int).toNat) false).map c4) 200 ?_ N108 T4 (zV zN) hc2 (by omega) (by omega) (hcss := by exact rep_map rfl)
    refine a_move (v := .c (.own _ _)) ?_
    refine RA.nil nofun ?_
    refine AG.seq ?_
    refine AG.seq ?_
    refine AG.region HM ?_
    refine a_move (v := vR _ _) ?_
    refine a_lenR ?_ Try.underlying38
    refine a_move (v := vI _) ?_
    refine RA.nil nofun ?_
    refine AG.block ?_
    refine AG.loop ?_
    obtain ⟨K0, hK0, gK0⟩ : ∃ K, k ≤ K ∧ K ≤ k := ⟨k, Nat.le_refl k, Nat.le_refl k⟩
    refine AGr.canon (fun κ => cond (Nat.beq κ 201) 200 (κ)) (AGr.loopI (n := k) (fun k s => k ≤ K0 ∧ ∃ (x1 : Int) (x5 : List Bool) (x14 : List Int) (x15 : Int) (x16 : Int), impl_isOrder.l0 k x1 x5 x14 x15 x16 = some r ∧ s = St.of [(1, vI x1), (5, .c (.own 201 x5.length)), (14, vR 2 (x14.map c2)), (15, vI x15), (16, vI x16)] [(201, .row 4 (x5.map c4))]) ⟨hK0, _, _, _, _, _, H, rfl⟩ ?_ ?_) ⟨rfl, (ownE rfl (by simp)), rfl, rfl, rfl, trivial⟩ ⟨rfl, trivial⟩ rfl
    ·rintro _ ⟨_, _, _, _, _, _, H, _⟩
     cases H
    ·clear H hK0
     rintro k ih0 _ ⟨hK0, x1, x5, x14, x15, x16, H, rfl⟩
     unfold impl_isOrder.l0 at H
     refine AG.seq ?_
     refine AG.region HM ?_
     refine a_int (u := .bool (decide (x16 < x15))) ?_
     refine RA.nil nofun ?_
     refine AG.seq ?_
     by_cases hc5 : x16 < x15
     ·rw [if_pos hc5] at H
      refine AG.yes rfl (decide_eq_true hc5) ?_
      refine AG.skip ?_
      refine AG.seq ?_
      refine AG.block ?_
      refine AG.seq ?_
      refine AG.region HM ?_
      by_cases hc6 : 0 ≤ x16
      ·rw [if_pos hc6] at H
       by_cases hc7 : x16 < (x14.length : Int)
       ·rw [if_pos hc7] at H
        refine a_ixR (el := c2 (rd2 x14 x16)) ?_ ⟨hc6, hc7⟩ T2 Try.underlying38 (hel := R2 hc6 hc7)
        refine a_ldR (v := vI _) ?_ T2
        refine a_move (v := vI _) ?_
        refine RA.nil nofun ?_
        refine AG.seq ?_
        refine AG.seq ?_
        refine AG.region HM ?_
        refine a_move (v := vI _) ?_
        refine a_move (v := vI _) ?_
        refine a_int (u := .int .i64 (wrap64 (x1 - 1))) ?_
        obtain ⟨t8, e9, H⟩ := bindO H
        refine a_call (v := vB t8) (nk := []) (L := []) ?_ rfl (impl_within.ok e9) id (qd (qd (qd qn))) trivial trivial trivial rfl
        refine a_un (u := .bool (!t8)) ?_
        refine a_move (v := vB _) ?_
        by_cases hc10 : t8 = true
        ·rw [if_pos hc10] at H
         refine a_move (v := .c (.own _ _)) ?_ (hg := Gs.yes rfl rfl rfl (congrArg Bool.not hc10))
         refine a_move (v := vI _) ?_ (hg := Gs.yes rfl rfl rfl (congrArg Bool.not hc10))
         by_cases hc11 : 0 ≤ (rd2 x14 x16)
         ·rw [if_pos hc11] at H
          by_cases hc12 : (rd2 x14 x16) < (x5.length : Int)
          ·rw [if_pos hc12] at H
           refine a_ixO ?_ ⟨hc11, hc12⟩ T4 Try.underlying108 (hg := Gs.yes rfl rfl rfl (congrArg Bool.not hc10))
           refine a_ldE (v := vB _) ?_ (G4 hc11 hc12) T4 (hg := Gs.yes rfl rfl rfl (congrArg Bool.not hc10))
           refine a_pick (b := false) (v := vB _) ?_ (congrArg Bool.not hc10)
           refine RA.nil nofun ?_
           by_cases hc13 : (rd4 x5 (rd2 x14 x16)) = true
           ·rw [if_pos hc13] at H
            refine AG.yes rfl hc13 ?_
            refine AG.seq ?_
            refine AG.region HM ?_
            refine a_move (v := vB _) ?_
            refine RA.nil nofun ?_
            refine AG.ret ?_
            obtain rfl := Option.some.inj H
            exact RetP.mk id ⟨rfl, trivial⟩ trivial rfl
           ·rw [if_neg hc13] at H
            refine AG.no rfl (Bool.eq_false_iff.2 hc13) ?_
            refine AG.skip ?_
            refine AG.region HM ?_
            refine a_move (v := .c (.own _ _)) ?_
            refine a_move (v := vI _) ?_
            refine a_ixO ?_ ⟨hc11, hc12⟩ T4 Try.underlying108
            refine a_stF (css' := (x5.set ((rd2 x14 x16) : Int).toNat true).map c4) ?_ (flat_map (fun _ => rfl)) (G4 hc11 hc12) T4 (hcss := by exact set_map rfl)
            refine RA.nil nofun ?_
            refine AG.region HM ?_
            refine a_int (u := .int .i64 (wrap64 (x16 + 1))) ?_
            refine a_move (v := vI _) ?_
            refine RA.nil nofun ?_
            exact AGr.canon id (ih0 _ (by omega) _ ⟨by omega, _, _, _, _, _, H, rfl⟩) ⟨rfl, (ownE rfl (by simp)), rfl, rfl, rfl, trivial⟩ ⟨rfl, trivial⟩ rfl
          ·rw [if_neg hc12] at H
           cases H
         ·rw [if_neg hc11] at H
          cases H
        ·rw [if_neg hc10] at H
         refine RA.skip rfl rfl rfl rfl rfl (congrArg Bool.not (Bool.eq_false_iff.2 hc10)) (by decide) ?_
         refine RA.skip rfl rfl rfl rfl rfl (congrArg Bool.not (Bool.eq_false_iff.2 hc10)) (by decide) ?_
         refine RA.skip rfl rfl rfl rfl rfl (congrArg Bool.not (Bool.eq_false_iff.2 hc10)) (by decide) ?_
         refine RA.skip rfl rfl rfl rfl rfl (congrArg Bool.not (Bool.eq_false_iff.2 hc10)) (by decide) ?_
         refine a_pick (b := true) (v := vB _) ?_ (congrArg Bool.not (Bool.eq_false_iff.2 hc10))
         refine RA.nil nofun ?_
         refine AG.yes rfl rfl ?_
         refine AG.seq ?_
         refine AG.region HM ?_
         refine a_move (v := vB _) ?_
         refine RA.nil nofun ?_
         refine AG.ret ?_
         obtain rfl := Option.some.inj H
         exact RetP.mk id ⟨rfl, trivial⟩ trivial rfl
       ·rw [if_neg hc7] at H
        cases H
      ·rw [if_neg hc6] at H
       cases H
     ·rw [if_neg hc5] at H
      refine AG.no rfl (decide_eq_false hc5) ?_
      refine AG.exit ?_
      refine AG.seq ?_
      refine AG.region HM ?_
      refine a_move (v := vB _) ?_
      refine RA.nil nofun ?_
      refine AG.ret ?_
      obtain rfl := Option.some.inj H
      exact RetP.mk id ⟨rfl, trivial⟩ trivial rfl
   ·rw [if_neg hc3] at H
    cases H
  ·rw [if_neg hc2] at H
   cases H
 ·rw [if_neg hc1] at H
  refine AG.yes rfl (bne_iff_ne.2 hc1) ?_
  refine AG.seq ?_
  refine AG.region HM ?_
  refine a_move (v := vB _) ?_
  refine RA.nil nofun ?_
  refine AG.ret ?_
  obtain rfl := Option.some.inj H
  exact RetP.mk id ⟨rfl, trivial⟩ trivial rfl
/-! ### impl_waysCode: function 63 -/
mutual
def impl_waysCode.j0 : Nat → List Int → List (List Int) → Bool → Option ((List (List Int)) × Int)
 | 0, _, _, _ => none
 | k + 1, x2, x8, x31 => if x31 = true then (some (([] : List (List Int)), 2)) else (impl_waysCode.l0 k x8 x2 (x2.length : Int) 0)
def impl_waysCode.l0 : Nat → List (List Int) → List Int → Int → Int → Option ((List (List Int)) × Int)
 | 0, _, _, _, _ => none
 | k + 1, x8, x32, x33, x34 => if x34 < x33 then (if 0 ≤ x34 then (if x34 < (x32.length : Int) then ((impl_within.f (rd2 x32 x34) 0 1).bind fun t12 => (if t12 = true then (impl_waysCode.l0 k x8 x32 x33 (wrap64 (x34 + 1))) else (some (([] : List (List Int)), 2)))) else (none)) else (none)) else (some (x8, 0))
end
def impl_waysCode.f (k : Nat) (a0_0 : Int) (a0_1 : Int) (l0_2 : List S60) (l0_3 : List S91) (l1 : List Int) (l2 : List Int) : Option ((List (List Int)) × Int) := (impl_EdgesOf.f k a0_0 a0_1 l0_2 l0_3).bind fun bt1 => (if bt1.2 = 0 then ((impl_isOrder.f k l1 (bt1.1.length : Int)).bind fun t5 => (if t5 = true then (impl_waysCode.j0 k l2 bt1.1 ((l2.length : Int) != (bt1.1.length : Int))) else (impl_waysCode.j0 k l2 bt1.1 true))) else (some (([] : List (List Int)), bt1.2)))
set_option maxRecDepth 100000 in
theorem impl_waysCode.ok {k : Nat} {a0_0 : Int} {a0_1 : Int} {l0_2 : List S60} {l0_3 : List S91} {l1 : List Int} {l2 : List Int} {r0 : List (List Int)} {r1 : Int} (H : impl_waysCode.f k a0_0 a0_1 l0_2 l0_3 l1 l2 = some (r0, r1)) : OkF Try.prog 63 [.agg [.d (.v (.int .i64 a0_0)), .d (.v (.int .i64 a0_1)), .d (.row 61 (l0_2.map c60)), .d (.row 96 (l0_3.map c91))], vR 2 (l1.map c2), vR 2 (l2.map c2)] [] (.tup [.c (.own 100 r0.length), .c (.d (.v (.int .i64 r1)))]) [(100, .row 38 (r0.map c38))] := by
 unfold impl_waysCode.f at H
 refine OkF.of (N := 43) (rs := [6, 7]) (avs := [.c (.own 100 r0.length), .c (.d (.v (.int .i64 r1)))]) Try.func63 rfl rfl (fun _ _ => results_tmp2 rfl _ _ _) (by decide) rfl rfl rfl rfl (fun w0 S => ?_)
 refine AG.seq ?_
 refine AG.region HM ?_
 refine a_box 200 ?_
 refine a_nilO (e := 38) 201 ?_ T38
 refine a_move (v := vI _) ?_
 refine RA.nil nofun ?_
 refine AG.seq ?_
 refine AG.region HM ?_
 refine a_ldB (v := .agg [_, _, _, _]) ?_ T32
 obtain ⟨⟨t1, t2⟩, e3, H⟩ := bindO H
 refine a_call (v := .tup [.c (.own 202 t1.length), .c (.d (.v (.int .i64 t2)))]) (nk := [(202, .row 38 (t1.map c38))]) (L := []) ?_ rfl (impl_EdgesOf.ok e3) (fun κ => cond (Nat.beq κ 202) 100 (κ)) (qg qn) trivial ⟨rfl, trivial⟩ ⟨rfl, trivial⟩ rfl
 refine a_move (v := .tup [_, _]) ?_
 refine a_ext (v := .c (.own _ _)) ?_
 refine a_ext (v := vI _) ?_
 refine a_move (v := .c (.own _ _)) ?_
 refine a_move (v := vI _) ?_
 refine RA.nil nofun ?_
 refine AG.seq ?_
 refine AG.seq ?_
 refine AG.region HM ?_
 refine a_move (v := vI _) ?_
 refine a_int (u := .bool ((t2 != 0))) ?_
 refine RA.nil nofun ?_
 by_cases hc4 : t2 = 0
 ·rw [if_pos hc4] at H
  refine AG.no rfl (bne_eq_false_iff_eq.2 hc4) ?_
  refine AG.skip ?_
  refine AG.seq ?_
  refine AG.seq ?_
  refine AG.joinR (fun s => ∃ q, q ≤ k ∧ ∃ (x2 : List Int) (x8 : List (List Int)) (x31 : Bool), impl_waysCode.j0 q x2 x8 x31 = some (r0, r1) ∧ s = St.of [(2, vR 2 (x2.map c2)), (8, .c (.own 205 x8.length)), (31, vB x31)] [(205, .row 38 (x8.map c38))]) ?_ ?_
  ·skip
   refine AG.region HM ?_
   refine a_move (v := vR _ _) ?_
   refine a_move (v := .c (.own _ _)) ?_
   refine a_lenO ?_ Try.underlying56
   obtain ⟨t5, e6, H⟩ := bindO H
   refine a_call (v := vB t5) (nk := []) (L := []) ?_ rfl (impl_isOrder.ok e6) id (qd (qd qn)) trivial trivial trivial rfl
   refine a_un (u := .bool (!t5)) ?_
   refine a_move (v := vB _) ?_
   by_cases hc7 : t5 = true
   ·rw [if_pos hc7] at H
    refine a_move (v := vR _ _) ?_ (hg := Gs.yes rfl rfl rfl (congrArg Bool.not hc7))
    refine a_lenR ?_ Try.underlying38 (hg := Gs.yes rfl rfl rfl (congrArg Bool.not hc7))
    refine a_move (v := .c (.own _ _)) ?_ (hg := Gs.yes rfl rfl rfl (congrArg Bool.not hc7))
    refine a_lenO ?_ Try.underlying56 (hg := Gs.yes rfl rfl rfl (congrArg Bool.not hc7))
    refine a_int (u := .bool (((l2.length : Int) != (t1.length : Int)))) ?_ (hg := Gs.yes rfl rfl rfl (congrArg Bool.not hc7))
    refine a_pick (b := false) (v := vB _) ?_ (congrArg Bool.not hc7)
    refine RA.nil nofun ?_
    exact CanR.mk (fun κ => cond (Nat.beq κ 205) 202 (κ)) ⟨_, (by omega), _, _, _, H, rfl⟩ ⟨rfl, rfl, rfl, trivial⟩ ⟨rfl, trivial⟩ rfl
   ·rw [if_neg hc7] at H
    refine RA.skip rfl rfl rfl rfl rfl (congrArg Bool.not (Bool.eq_false_iff.2 hc7)) (by decide) ?_
    refine RA.skip rfl rfl rfl rfl rfl (congrArg Bool.not (Bool.eq_false_iff.2 hc7)) (by decide) ?_
    refine RA.skip rfl rfl rfl rfl rfl (congrArg Bool.not (Bool.eq_false_iff.2 hc7)) (by decide) ?_
    refine RA.skip rfl rfl rfl rfl rfl (congrArg Bool.not (Bool.eq_false_iff.2 hc7)) (by decide) ?_
    refine RA.skip rfl rfl rfl rfl rfl (congrArg Bool.not (Bool.eq_false_iff.2 hc7)) (by decide) ?_
    refine a_pick (b := true) (v := vB _) ?_ (congrArg Bool.not (Bool.eq_false_iff.2 hc7))
    refine RA.nil nofun ?_
    exact CanR.mk (fun κ => cond (Nat.beq κ 205) 202 (κ)) ⟨_, (by omega), _, _, _, H, rfl⟩ ⟨rfl, rfl, rfl, trivial⟩ ⟨rfl, trivial⟩ rfl
  ·clear H
   rintro _ ⟨k, hj0, x2, x8, x31, H, rfl⟩
   cases k with
   | zero => cases H
   | succ k =>
    rw [impl_waysCode.j0] at H
    by_cases hc8 : x31 = true
    ·rw [if_pos hc8] at H
     refine AG.yes rfl hc8 ?_
     refine AG.seq ?_
     refine AG.region HM ?_
     refine a_nilO (e := 38) 206 ?_ T38
     refine a_move (v := vI _) ?_
     refine RA.nil nofun ?_
     refine AG.ret ?_
     simp only [Option.some.injEq, Prod.mk.injEq] at H
     obtain ⟨rfl, rfl⟩ := H
     exact RetP.mk (fun κ => cond (Nat.beq κ 100) 206 (κ)) ⟨(ownE rfl (by simp)), rfl, trivial⟩ ⟨rfl, trivial⟩ rfl
    ·rw [if_neg hc8] at H
     refine AG.no rfl (Bool.eq_false_iff.2 hc8) ?_
     refine AG.skip ?_
     refine AG.seq ?_
     refine AG.seq ?_
     refine AG.region HM ?_
     refine a_move (v := vR _ _) ?_
     refine a_lenR ?_ Try.underlying38
     refine a_move (v := vI _) ?_
     refine RA.nil nofun ?_
     refine AG.block ?_
     refine AG.loop ?_
     obtain ⟨K0, hK0, gK0⟩ : ∃ K, k ≤ K ∧ K ≤ k := ⟨k, Nat.le_refl k, Nat.le_refl k⟩
     refine AGr.canon (fun κ => cond (Nat.beq κ 207) 205 (κ)) (AGr.loopI (n := k) (fun k s => k ≤ K0 ∧ ∃ (x8 : List (List Int)) (x32 : List Int) (x33 : Int) (x34 : Int), impl_waysCode.l0 k x8 x32 x33 x34 = some (r0, r1) ∧ s = St.of [(8, .c (.own 207 x8.length)), (32, vR 2 (x32.map c2)), (33, vI x33), (34, vI x34)] [(207, .row 38 (x8.map c38))]) ⟨hK0, _, _, _, _, H, rfl⟩ ?_ ?_) ⟨rfl, rfl, rfl, rfl, trivial⟩ ⟨rfl, trivial⟩ rfl
     ·rintro _ ⟨_, _, _, _, _, H, _⟩
      cases H
     ·clear H hK0
      rintro k ih0 _ ⟨hK0, x8, x32, x33, x34, H, rfl⟩
      unfold impl_waysCode.l0 at H
      refine AG.seq ?_
      refine AG.region HM ?_
      refine a_int (u := .bool (decide (x34 < x33))) ?_
      refine RA.nil nofun ?_
      refine AG.seq ?_
      by_cases hc9 : x34 < x33
      ·rw [if_pos hc9] at H
       refine AG.yes rfl (decide_eq_true hc9) ?_
       refine AG.skip ?_
       refine AG.seq ?_
       refine AG.block ?_
       refine AG.seq ?_
       refine AG.region HM ?_
       by_cases hc10 : 0 ≤ x34
       ·rw [if_pos hc10] at H
        by_cases hc11 : x34 < (x32.length : Int)
        ·rw [if_pos hc11] at H
         refine a_ixR (el := c2 (rd2 x32 x34)) ?_ ⟨hc10, hc11⟩ T2 Try.underlying38 (hel := R2 hc10 hc11)
         refine a_ldR (v := vI _) ?_ T2
         refine a_move (v := vI _) ?_
         refine RA.nil nofun ?_
         refine AG.seq ?_
         refine AG.region HM ?_
         refine a_move (v := vI _) ?_
         obtain ⟨t12, e13, H⟩ := bindO H
         refine a_call (v := vB t12) (nk := []) (L := []) ?_ rfl (impl_within.ok e13) id (qd (qd (qd qn))) trivial trivial trivial rfl
         refine a_un (u := .bool (!t12)) ?_
         refine RA.nil nofun ?_
         by_cases hc14 : t12 = true
         ·rw [if_pos hc14] at H
          refine AG.no rfl (congrArg Bool.not hc14) ?_
          refine AG.skip ?_
          refine AG.region HM ?_
          refine a_int (u := .int .i64 (wrap64 (x34 + 1))) ?_
          refine a_move (v := vI _) ?_
          refine RA.nil nofun ?_
          exact AGr.canon id (ih0 _ (by omega) _ ⟨by omega, _, _, _, _, H, rfl⟩) ⟨rfl, rfl, rfl, rfl, trivial⟩ ⟨rfl, trivial⟩ rfl
         ·rw [if_neg hc14] at H
          refine AG.yes rfl (congrArg Bool.not (Bool.eq_false_iff.2 hc14)) ?_
          refine AG.seq ?_
          refine AG.region HM ?_
          refine a_nilO (e := 38) 209 ?_ T38
          refine a_move (v := vI _) ?_
          refine RA.nil nofun ?_
          refine AG.ret ?_
          simp only [Option.some.injEq, Prod.mk.injEq] at H
          obtain ⟨rfl, rfl⟩ := H
          exact RetP.mk (fun κ => cond (Nat.beq κ 100) 209 (κ)) ⟨(ownE rfl (by simp)), rfl, trivial⟩ ⟨rfl, trivial⟩ rfl
        ·rw [if_neg hc11] at H
         cases H
       ·rw [if_neg hc10] at H
        cases H
      ·rw [if_neg hc9] at H
       refine AG.no rfl (decide_eq_false hc9) ?_
       refine AG.exit ?_
       refine AG.seq ?_
       refine AG.region HM ?_
       refine a_move (v := .c (.own _ _)) ?_
       refine a_move (v := .c (.own _ _)) ?_
       refine a_move (v := vI _) ?_
       refine RA.nil nofun ?_
       refine AG.ret ?_
       simp only [Option.some.injEq, Prod.mk.injEq] at H
       obtain ⟨rfl, rfl⟩ := H
       exact RetP.mk (fun κ => cond (Nat.beq κ 100) 207 (κ)) ⟨rfl, rfl, trivial⟩ ⟨rfl, trivial⟩ rfl
 ·rw [if_neg hc4] at H
  refine AG.yes rfl (bne_iff_ne.2 hc4) ?_
  refine AG.seq ?_
  refine AG.region HM ?_
  refine a_move (v := vI _) ?_
  refine a_nilO (e := 38) 203 ?_ T38
  refine a_move (v := vI _) ?_
  refine RA.nil nofun ?_
  refine AG.ret ?_
  simp only [Option.some.injEq, Prod.mk.injEq] at H
  obtain ⟨rfl, rfl⟩ := H
  exact RetP.mk (fun κ => cond (Nat.beq κ 100) 203 (κ)) ⟨(ownE rfl (by simp)), rfl, trivial⟩ ⟨rfl, trivial⟩ rfl
end Go.Proofs.Ytanbgmnhbncapaa.PFnExactBestWays

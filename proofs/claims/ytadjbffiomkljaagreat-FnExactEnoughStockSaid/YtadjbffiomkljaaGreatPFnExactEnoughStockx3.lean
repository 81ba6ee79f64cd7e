/- What each function that the law FnExactEnoughStock reaches comes to, and the proof that its walk comes to it; laid by a program of this session. No condition. -/
import Derived.Test.YtadjbffiomkljaaGreatPFnExactEnoughStockx2
import Derived.KernelRfl
import Derived.OwnWalk
import Derived.Test.YtadjbffiomkljaaGreatProg
set_option linter.unusedVariables false
set_option linter.unusedSimpArgs false
namespace Go.Proofs.YtadjbffiomkljaaGreat.PFnExactEnoughStock
open Go Go.RowKit Go.Proofs.YtadjbffiomkljaaGreatM Go.Proofs Go.Proofs.YtadjbffiomkljaaGreat.SortI Go.Proofs.YtadjbffiomkljaaGreat.CloneI Go.Proofs.YtadjbffiomkljaaGreat.ReverseI
mutual
def impl_AreaBound.j0 : Nat → List Int → List Int → Int → Option (Int × Int)
 | 0, _, _, _ => none
 | k + 1, x0, x1, x6 => if (x0.length : Int) > 64 then (impl_AreaBound.j1 k x0 x1 x6 true) else (impl_AreaBound.j1 k x0 x1 x6 (decide ((x1.length : Int) > 64)))
def impl_AreaBound.l0 : Nat → List Int → List Int → Int → List (List Int) → Int → Int → Option (Int × Int)
 | 0, _, _, _, _, _, _ => none
 | k + 1, x0, x1, x6, x18, x19, x20 => if x20 < x19 then (if 0 ≤ x20 then (if x20 < (x18.length : Int) then (impl_AreaBound.l1 k x0 x1 x6 x18 x19 x20 (rd29 x18 x20) ((rd29 x18 x20).length : Int) 0) else (none)) else (none)) else (impl_AreaBound.j0 k x0 x1 x6)
def impl_AreaBound.l1 : Nat → List Int → List Int → Int → List (List Int) → Int → Int → List Int → Int → Int → Option (Int × Int)
 | 0, _, _, _, _, _, _, _, _, _ => none
 | k + 1, x0, x1, x6, x18, x19, x20, x24, x25, x26 => if x26 < x25 then (if 0 ≤ x26 then (if x26 < (x24.length : Int) then ((impl_within.f (rd2 x24 x26) 0 1000000000000).bind fun t8 => (if t8 = true then (impl_AreaBound.l1 k x0 x1 x6 x18 x19 x20 x24 x25 (wrap64 (x26 + 1))) else (some (0, 2)))) else (none)) else (none)) else (impl_AreaBound.l0 k x0 x1 x6 x18 x19 (wrap64 (x20 + 1)))
def impl_AreaBound.j1 : Nat → List Int → List Int → Int → Bool → Option (Int × Int)
 | 0, _, _, _, _ => none
 | k + 1, x0, x1, x6, x42 => if x42 = true then (some (0, 5)) else (impl_AreaBound.l2 k x1 x6 x0 (x0.length : Int) 0)
def impl_AreaBound.l2 : Nat → List Int → Int → List Int → Int → Int → Option (Int × Int)
 | 0, _, _, _, _, _ => none
 | k + 1, x1, x6, x43, x44, x45 => if x45 < x44 then (if 0 ≤ x45 then (if x45 < (x43.length : Int) then (impl_AreaBound.l2 k x1 (wrap64 (x6 + (rd2 x43 x45))) x43 x44 (wrap64 (x45 + 1))) else (none)) else (none)) else ((slices_Clone_int64.f x1).bind fun t16 => ((slices_Sort_int64.f t16).bind fun t18 => ((slices_Reverse_int64.f t18).bind fun t20 => (impl_AreaBound.l3 k (wrap64 (Int.tdiv (wrap64 (x6 + 1)) 2)) t20 0))))
def impl_AreaBound.l3 : Nat → Int → List Int → Int → Option (Int × Int)
 | 0, _, _, _ => none
 | k + 1, x13, x14, x15 => if x13 ≤ 0 then (some (x15, 0)) else (if x15 = (x14.length : Int) then (some (0, 3)) else (if 0 ≤ x15 then (if x15 < (x14.length : Int) then (impl_AreaBound.l3 k (wrap64 (x13 - (rd2 x14 x15))) x14 (wrap64 (x15 + 1))) else (none)) else (none)))
end
def impl_AreaBound.f (k : Nat) (l0 : List Int) (l1 : List Int) : Option (Int × Int) := (some ([l0, l1] : List (List Int))).bind fun y1 => (impl_AreaBound.l0 k l0 l1 0 y1 (y1.length : Int) 0)
set_option maxRecDepth 100000 in
theorem impl_AreaBound.ok {k : Nat} {l0 : List Int} {l1 : List Int} {r0 : Int} {r1 : Int} (H : impl_AreaBound.f k l0 l1 = some (r0, r1)) : OkF Tryz.prog 65 [vR 2 (l0.map c2), vR 2 (l1.map c2)] [] (.tup [.c (.d (.v (.int .i64 r0))), .c (.d (.v (.int .i64 r1)))]) [] := by
 unfold impl_AreaBound.f at H
 refine OkF.of (N := 77) (rs := [4, 5]) (avs := [.c (.d (.v (.int .i64 r0))), .c (.d (.v (.int .i64 r1)))]) Tryz.func65 rfl rfl (fun _ _ => results_tmp2 rfl _ _ _) (by decide) rfl rfl rfl rfl (fun w0 S => ?_)
 refine AG.seq ?_
 refine AG.region HM ?_
 refine a_move (v := vI _) ?_
 refine a_move (v := vI _) ?_
 refine RA.nil nofun ?_
 refine AG.seq ?_
 refine AG.region HM ?_
 refine a_move (v := vI _) ?_
 refine RA.nil nofun ?_
 refine AG.seq ?_
 refine AG.seq ?_
 refine AG.region HM ?_
 refine a_move (v := vR _ _) ?_
 refine a_move (v := vR _ _) ?_
 obtain ⟨y1, ey1, H⟩ := bindO H
 have ey1 := Option.some.inj ey1
 refine a_litD (ds := [_, _]) (css := y1.map c29) ?_ N184 T29 (hcss := by rw [← ey1]; rfl)
 refine a_lenR ?_ Tryz.underlying184
 refine a_move (v := vI _) ?_
 refine RA.nil nofun ?_
 refine AG.joinR (fun s => ∃ q, q ≤ k ∧ ∃ (x0 : List Int) (x1 : List Int) (x6 : Int), impl_AreaBound.j0 q x0 x1 x6 = some (r0, r1) ∧ s = St.of [(0, vR 2 (x0.map c2)), (1, vR 2 (x1.map c2)), (6, vI x6)] []) ?_ ?_
 ·skip
  refine AG.block ?_
  refine AG.loop ?_
  obtain ⟨K0, hK0, gK0⟩ : ∃ K, k ≤ K ∧ K ≤ k := ⟨k, Nat.le_refl k, Nat.le_refl k⟩
  refine AGr.canon id (AGr.loopI (n := k) (fun k s => k ≤ K0 ∧ ∃ (x0 : List Int) (x1 : List Int) (x6 : Int) (x18 : List (List Int)) (x19 : Int) (x20 : Int), impl_AreaBound.l0 k x0 x1 x6 x18 x19 x20 = some (r0, r1) ∧ s = St.of [(0, vR 2 (x0.map c2)), (1, vR 2 (x1.map c2)), (6, vI x6), (18, vR 29 (x18.map c29)), (19, vI x19), (20, vI x20)] []) ⟨hK0, _, _, _, _, _, _, H, rfl⟩ ?_ ?_) ⟨rfl, rfl, rfl, rfl, rfl, rfl, trivial⟩ trivial rfl
  ·rintro _ ⟨_, _, _, _, _, _, _, H, _⟩
   cases H
  ·clear H hK0
   rintro k ih0 _ ⟨hK0, x0, x1, x6, x18, x19, x20, H, rfl⟩
   unfold impl_AreaBound.l0 at H
   refine AG.seq ?_
   refine AG.region HM ?_
   refine a_int (u := .bool (decide (x20 < x19))) ?_
   refine RA.nil nofun ?_
   refine AG.seq ?_
   by_cases hc2 : x20 < x19
   ·rw [if_pos hc2] at H
    refine AG.yes rfl (decide_eq_true hc2) ?_
    refine AG.skip ?_
    refine AG.seq ?_
    refine AG.block ?_
    refine AG.seq ?_
    refine AG.region HM ?_
    by_cases hc3 : 0 ≤ x20
    ·rw [if_pos hc3] at H
     by_cases hc4 : x20 < (x18.length : Int)
     ·rw [if_pos hc4] at H
      refine a_ixR (el := c29 (rd29 x18 x20)) ?_ ⟨hc3, hc4⟩ T29 Tryz.underlying184 (hel := R29 hc3 hc4)
      refine a_ldR (v := vR _ _) ?_ T29
      refine a_move (v := vR _ _) ?_
      refine RA.nil nofun ?_
      refine AG.seq ?_
      refine AG.region HM ?_
      refine a_move (v := vR _ _) ?_
      refine a_lenR ?_ Tryz.underlying29
      refine a_move (v := vI _) ?_
      refine RA.nil nofun ?_
      refine AG.block ?_
      refine AG.loop ?_
      obtain ⟨K1, hK1, gK1⟩ : ∃ K, k ≤ K ∧ K ≤ k := ⟨k, Nat.le_refl k, Nat.le_refl k⟩
      refine AGr.canon id (AGr.loopI (n := k) (fun k s => k ≤ K1 ∧ ∃ (x0 : List Int) (x1 : List Int) (x6 : Int) (x18 : List (List Int)) (x19 : Int) (x20 : Int) (x24 : List Int) (x25 : Int) (x26 : Int), impl_AreaBound.l1 k x0 x1 x6 x18 x19 x20 x24 x25 x26 = some (r0, r1) ∧ s = St.of [(0, vR 2 (x0.map c2)), (1, vR 2 (x1.map c2)), (6, vI x6), (18, vR 29 (x18.map c29)), (19, vI x19), (20, vI x20), (24, vR 2 (x24.map c2)), (25, vI x25), (26, vI x26)] []) ⟨hK1, _, _, _, _, _, _, _, _, _, H, rfl⟩ ?_ ?_) ⟨rfl, rfl, rfl, rfl, rfl, rfl, rfl, rfl, rfl, trivial⟩ trivial rfl
      ·rintro _ ⟨_, _, _, _, _, _, _, _, _, _, H, _⟩
       cases H
      ·clear H hK1
       rintro k ih1 _ ⟨hK1, x0, x1, x6, x18, x19, x20, x24, x25, x26, H, rfl⟩
       unfold impl_AreaBound.l1 at H
       refine AG.seq ?_
       refine AG.region HM ?_
       refine a_int (u := .bool (decide (x26 < x25))) ?_
       refine RA.nil nofun ?_
       refine AG.seq ?_
       by_cases hc5 : x26 < x25
       ·rw [if_pos hc5] at H
        refine AG.yes rfl (decide_eq_true hc5) ?_
        refine AG.skip ?_
        refine AG.seq ?_
        refine AG.block ?_
        refine AG.seq ?_
        refine AG.region HM ?_
        by_cases hc6 : 0 ≤ x26
        ·rw [if_pos hc6] at H
         by_cases hc7 : x26 < (x24.length : Int)
         ·rw [if_pos hc7] at H
          refine a_ixR (el := c2 (rd2 x24 x26)) ?_ ⟨hc6, hc7⟩ T2 Tryz.underlying29 (hel := R2 hc6 hc7)
          refine a_ldR (v := vI _) ?_ T2
          refine a_move (v := vI _) ?_
          refine RA.nil nofun ?_
          refine AG.seq ?_
          refine AG.region HM ?_
          refine a_move (v := vI _) ?_
          obtain ⟨t8, e9, H⟩ := bindO H
          refine a_call (v := vB t8) (nk := []) (L := []) ?_ rfl (impl_within.ok e9) id (qd (qd (qd qn))) trivial trivial trivial rfl
          refine a_un (u := .bool (!t8)) ?_
          refine RA.nil nofun ?_
          by_cases hc10 : t8 = true
          ·rw [if_pos hc10] at H
           refine AG.no rfl (congrArg Bool.not hc10) ?_
           refine AG.skip ?_
           refine AG.region HM ?_
           refine a_int (u := .int .i64 (wrap64 (x26 + 1))) ?_
           refine a_move (v := vI _) ?_
           refine RA.nil nofun ?_
           exact AGr.canon id (ih1 _ (by omega) _ ⟨by omega, _, _, _, _, _, _, _, _, _, H, rfl⟩) ⟨rfl, rfl, rfl, rfl, rfl, rfl, rfl, rfl, rfl, trivial⟩ trivial rfl
          ·rw [if_neg hc10] at H
           refine AG.yes rfl (congrArg Bool.not (Bool.eq_false_iff.2 hc10)) ?_
           refine AG.seq ?_
           refine AG.region HM ?_
           refine a_move (v := vI _) ?_
           refine a_move (v := vI _) ?_
           refine RA.nil nofun ?_
           refine AG.ret ?_
           simp only [Option.some.injEq, Prod.mk.injEq] at H
           obtain ⟨rfl, rfl⟩ := H
           exact RetP.mk id ⟨rfl, rfl, trivial⟩ trivial rfl
         ·rw [if_neg hc7] at H
          cases H
        ·rw [if_neg hc6] at H
         cases H
       ·rw [if_neg hc5] at H
        refine AG.no rfl (decide_eq_false hc5) ?_
        refine AG.exit ?_
        refine AG.region HM ?_
        refine a_int (u := .int .i64 (wrap64 (x20 + 1))) ?_
        refine a_move (v := vI _) ?_
        refine RA.nil nofun ?_
        exact AGr.canon id (ih0 _ (by omega) _ ⟨by omega, _, _, _, _, _, _, H, rfl⟩) ⟨rfl, rfl, rfl, rfl, rfl, rfl, trivial⟩ trivial rfl
     ·rw [if_neg hc4] at H
      cases H
    ·rw [if_neg hc3] at H
     cases H
   ·rw [if_neg hc2] at H
    refine AG.no rfl (decide_eq_false hc2) ?_
    refine AG.exit ?_
    exact CanR.mk id ⟨_, (by omega), _, _, _, H, rfl⟩ ⟨rfl, rfl, rfl, trivial⟩ trivial rfl
 ·clear H
  rintro _ ⟨k, hj0, x0, x1, x6, H, rfl⟩
  cases k with
  | zero => cases H
  | succ k =>
   rw [impl_AreaBound.j0] at H
   refine AG.seq ?_
   refine AG.seq ?_
   refine AG.joinR (fun s => ∃ q, q ≤ k ∧ ∃ (x0 : List Int) (x1 : List Int) (x6 : Int) (x42 : Bool), impl_AreaBound.j1 q x0 x1 x6 x42 = some (r0, r1) ∧ s = St.of [(0, vR 2 (x0.map c2)), (1, vR 2 (x1.map c2)), (6, vI x6), (42, vB x42)] []) ?_ ?_
   ·skip
    refine AG.region HM ?_
    refine a_move (v := vR _ _) ?_
    refine a_lenR ?_ Tryz.underlying29
    refine a_int (u := .bool (decide ((x0.length : Int) > 64))) ?_
    refine a_move (v := vB _) ?_
    by_cases hc11 : (x0.length : Int) > 64
    ·rw [if_pos hc11] at H
     refine RA.skip rfl rfl rfl rfl rfl (decide_eq_true hc11) (by decide) ?_
     refine RA.skip rfl rfl rfl rfl rfl (decide_eq_true hc11) (by decide) ?_
     refine RA.skip rfl rfl rfl rfl rfl (decide_eq_true hc11) (by decide) ?_
     refine a_pick (b := true) (v := vB _) ?_ (decide_eq_true hc11)
     refine RA.nil nofun ?_
     exact CanR.mk id ⟨_, (by omega), _, _, _, _, H, rfl⟩ ⟨rfl, rfl, rfl, rfl, trivial⟩ trivial rfl
    ·rw [if_neg hc11] at H
     refine a_move (v := vR _ _) ?_ (hg := Gs.yes rfl rfl rfl (decide_eq_false hc11))
     refine a_lenR ?_ Tryz.underlying29 (hg := Gs.yes rfl rfl rfl (decide_eq_false hc11))
     refine a_int (u := .bool (decide ((x1.length : Int) > 64))) ?_ (hg := Gs.yes rfl rfl rfl (decide_eq_false hc11))
     refine a_pick (b := false) (v := vB _) ?_ (decide_eq_false hc11)
     refine RA.nil nofun ?_
     exact CanR.mk id ⟨_, (by omega), _, _, _, _, H, rfl⟩ ⟨rfl, rfl, rfl, rfl, trivial⟩ trivial rfl
   ·clear H
    rintro _ ⟨k, hj1, x0, x1, x6, x42, H, rfl⟩
    cases k with
    | zero => cases H
    | succ k =>
     rw [impl_AreaBound.j1] at H
     by_cases hc12 : x42 = true
     ·rw [if_pos hc12] at H
      refine AG.yes rfl hc12 ?_
      refine AG.seq ?_
      refine AG.region HM ?_
      refine a_move (v := vI _) ?_
      refine a_move (v := vI _) ?_
      refine RA.nil nofun ?_
      refine AG.ret ?_
      simp only [Option.some.injEq, Prod.mk.injEq] at H
      obtain ⟨rfl, rfl⟩ := H
      exact RetP.mk id ⟨rfl, rfl, trivial⟩ trivial rfl
     ·rw [if_neg hc12] at H
      refine AG.no rfl (Bool.eq_false_iff.2 hc12) ?_
      refine AG.skip ?_
      refine AG.seq ?_
      refine AG.seq ?_
      refine AG.region HM ?_
      refine a_move (v := vR _ _) ?_
      refine a_lenR ?_ Tryz.underlying29
      refine a_move (v := vI _) ?_
      refine RA.nil nofun ?_
      refine AG.block ?_
      refine AG.loop ?_
      obtain ⟨K2, hK2, gK2⟩ : ∃ K, k ≤ K ∧ K ≤ k := ⟨k, Nat.le_refl k, Nat.le_refl k⟩
      refine AGr.canon id (AGr.loopI (n := k) (fun k s => k ≤ K2 ∧ ∃ (x1 : List Int) (x6 : Int) (x43 : List Int) (x44 : Int) (x45 : Int), impl_AreaBound.l2 k x1 x6 x43 x44 x45 = some (r0, r1) ∧ s = St.of [(1, vR 2 (x1.map c2)), (6, vI x6), (43, vR 2 (x43.map c2)), (44, vI x44), (45, vI x45)] []) ⟨hK2, _, _, _, _, _, H, rfl⟩ ?_ ?_) ⟨rfl, rfl, rfl, rfl, rfl, trivial⟩ trivial rfl
      ·rintro _ ⟨_, _, _, _, _, _, H, _⟩
       cases H
      ·clear H hK2
       rintro k ih2 _ ⟨hK2, x1, x6, x43, x44, x45, H, rfl⟩
       unfold impl_AreaBound.l2 at H
       refine AG.seq ?_
       refine AG.region HM ?_
       refine a_int (u := .bool (decide (x45 < x44))) ?_
       refine RA.nil nofun ?_
       refine AG.seq ?_
       by_cases hc13 : x45 < x44
       ·rw [if_pos hc13] at H
        refine AG.yes rfl (decide_eq_true hc13) ?_
        refine AG.skip ?_
        refine AG.seq ?_
        refine AG.block ?_
        refine AG.seq ?_
        refine AG.region HM ?_
        by_cases hc14 : 0 ≤ x45
        ·rw [if_pos hc14] at H
         by_cases hc15 : x45 < (x43.length : Int)
         ·rw [if_pos hc15] at H
          refine a_ixR (el := c2 (rd2 x43 x45)) ?_ ⟨hc14, hc15⟩ T2 Tryz.underlying29 (hel := R2 hc14 hc15)
          refine a_ldR (v := vI _) ?_ T2
          refine a_move (v := vI _) ?_
          refine RA.nil nofun ?_
          refine AG.region HM ?_
          refine a_move (v := vI _) ?_
          refine a_move (v := vI _) ?_
          refine a_int (u := .int .i64 (wrap64 (x6 + (rd2 x43 x45)))) ?_
          refine a_move (v := vI _) ?_
          refine RA.nil nofun ?_
          refine AG.region HM ?_
          refine a_int (u := .int .i64 (wrap64 (x45 + 1))) ?_
          refine a_move (v := vI _) ?_
          refine RA.nil nofun ?_
          exact AGr.canon id (ih2 _ (by omega) _ ⟨by omega, _, _, _, _, _, H, rfl⟩) ⟨rfl, rfl, rfl, rfl, rfl, trivial⟩ trivial rfl
         ·rw [if_neg hc15] at H
          cases H
        ·rw [if_neg hc14] at H
         cases H
       ·rw [if_neg hc13] at H
        refine AG.no rfl (decide_eq_false hc13) ?_
        refine AG.exit ?_
        refine AG.seq ?_
        refine AG.region HM ?_
        refine a_move (v := vI _) ?_
        refine a_int (u := .int .i64 (wrap64 (x6 + 1))) ?_
        refine a_quo (r := wrap64 (Int.tdiv (wrap64 (x6 + 1)) 2)) ?_ (show ¬ (2 : Int) = 0 from by decide)
        refine a_move (v := vI _) ?_
        refine RA.nil nofun ?_
        refine AG.seq ?_
        refine AG.region HM ?_
        refine a_move (v := vR _ _) ?_
        obtain ⟨t16, e17, H⟩ := bindO H
        refine a_call (v := .c (.own 201 t16.length)) (nk := [(201, .row 2 (t16.map c2))]) (L := []) ?_ rfl (slices_Clone_int64.ok e17) (fun κ => cond (Nat.beq κ 201) 100 (κ)) (qd qn) trivial ⟨rfl, trivial⟩ ⟨rfl, trivial⟩ rfl
        refine a_move (v := .c (.own _ _)) ?_
        refine RA.nil nofun ?_
        refine AG.seq ?_
        refine AG.region HM ?_
        refine a_move (v := .c (.own _ _)) ?_
        obtain ⟨t18, e19, H⟩ := bindO H
        refine a_callM (v := .tup []) (nk := []) (L := []) (Mk := [(201, _)]) (ck := [(201, .row 2 (t18.map c2))]) ?_ rfl (slices_Sort_int64.ok e19) (fun κ => cond (Nat.beq κ 0) 201 (κ)) (fun κ => cond (Nat.beq κ 201) 0 (κ)) (mcO m0) trivial ⟨rfl, trivial⟩ trivial ⟨rfl, trivial⟩ trivial ⟨rfl, trivial⟩ rfl rfl rfl
        refine RA.nil nofun ?_
        refine AG.relen 201 t18.length ?_
        refine AG.seq ?_
        refine AG.region HM ?_
        refine a_move (v := .c (.own _ _)) ?_
        obtain ⟨t20, e21, H⟩ := bindO H
        refine a_callM (v := .tup []) (nk := []) (L := []) (Mk := [(201, _)]) (ck := [(201, .row 2 (t20.map c2))]) ?_ rfl (slices_Reverse_int64.ok e21) (fun κ => cond (Nat.beq κ 0) 201 (κ)) (fun κ => cond (Nat.beq κ 201) 0 (κ)) (mcO m0) trivial ⟨rfl, trivial⟩ trivial ⟨rfl, trivial⟩ trivial ⟨rfl, trivial⟩ rfl rfl rfl
        refine RA.nil nofun ?_
        refine AG.relen 201 t20.length ?_
        refine AG.seq ?_
        refine AG.region HM ?_
        refine a_move (v := vI _) ?_
        refine RA.nil nofun ?_
        refine AG.block ?_
        refine AG.loop ?_
        obtain ⟨K3, hK3, gK3⟩ : ∃ K, k ≤ K ∧ K ≤ k := ⟨k, Nat.le_refl k, Nat.le_refl k⟩
        refine AGr.canon (fun κ => cond (Nat.beq κ 204) 201 (κ)) (AGr.loopI (n := k) (fun k s => k ≤ K3 ∧ ∃ (x13 : Int) (x14 : List Int) (x15 : Int), impl_AreaBound.l3 k x13 x14 x15 = some (r0, r1) ∧ s = St.of [(13, vI x13), (14, .c (.own 204 x14.length)), (15, vI x15)] [(204, .row 2 (x14.map c2))]) ⟨hK3, _, _, _, H, rfl⟩ ?_ ?_) ⟨rfl, rfl, rfl, trivial⟩ ⟨rfl, trivial⟩ rfl
        ·rintro _ ⟨_, _, _, _, H, _⟩
         cases H
        ·clear H hK3
         rintro k ih3 _ ⟨hK3, x13, x14, x15, H, rfl⟩
         unfold impl_AreaBound.l3 at H
         refine AG.seq ?_
         refine AG.block ?_
         refine AG.seq ?_
         refine AG.seq ?_
         refine AG.region HM ?_
         refine a_move (v := vI _) ?_
         refine a_int (u := .bool (decide (x13 ≤ 0))) ?_
         refine RA.nil nofun ?_
         by_cases hc22 : x13 ≤ 0
         ·rw [if_pos hc22] at H
          refine AG.yes rfl (decide_eq_true hc22) ?_
          refine AG.seq ?_
          refine AG.region HM ?_
          refine a_move (v := vI _) ?_
          refine a_move (v := vI _) ?_
          refine a_move (v := vI _) ?_
          refine RA.nil nofun ?_
          refine AG.ret ?_
          simp only [Option.some.injEq, Prod.mk.injEq] at H
          obtain ⟨rfl, rfl⟩ := H
          exact RetP.mk id ⟨rfl, rfl, trivial⟩ trivial rfl
         ·rw [if_neg hc22] at H
          refine AG.no rfl (decide_eq_false hc22) ?_
          refine AG.skip ?_
          refine AG.seq ?_
          refine AG.seq ?_
          refine AG.region HM ?_
          refine a_move (v := vI _) ?_
          refine a_move (v := .c (.own _ _)) ?_
          refine a_lenO ?_ Tryz.underlying29
          refine a_int (u := .bool ((x15 == (x14.length : Int)))) ?_
          refine RA.nil nofun ?_
          by_cases hc23 : x15 = (x14.length : Int)
          ·rw [if_pos hc23] at H
           refine AG.yes rfl (beq_iff_eq.2 hc23) ?_
           refine AG.seq ?_
           refine AG.region HM ?_
           refine a_move (v := vI _) ?_
           refine a_move (v := vI _) ?_
           refine RA.nil nofun ?_
           refine AG.ret ?_
           simp only [Option.some.injEq, Prod.mk.injEq] at H
           obtain ⟨rfl, rfl⟩ := H
           exact RetP.mk id ⟨rfl, rfl, trivial⟩ trivial rfl
          ·rw [if_neg hc23] at H
           refine AG.no rfl (beq_eq_false_iff_ne.2 hc23) ?_
           refine AG.skip ?_
           refine AG.region HM ?_
           refine a_move (v := vI _) ?_
           refine a_move (v := .c (.own _ _)) ?_
           refine a_move (v := vI _) ?_
           by_cases hc24 : 0 ≤ x15
           ·rw [if_pos hc24] at H
            by_cases hc25 : x15 < (x14.length : Int)
            ·rw [if_pos hc25] at H
             refine a_ixO ?_ ⟨hc24, hc25⟩ T2 Tryz.underlying29
             refine a_ldE (v := vI _) ?_ (G2 hc24 hc25) T2
             refine a_int (u := .int .i64 (wrap64 (x13 - (rd2 x14 x15)))) ?_
             refine a_move (v := vI _) ?_
             refine RA.nil nofun ?_
             refine AG.region HM ?_
             refine a_move (v := vI _) ?_
             refine a_int (u := .int .i64 (wrap64 (x15 + 1))) ?_
             refine a_move (v := vI _) ?_
             refine RA.nil nofun ?_
             exact AGr.canon id (ih3 _ (by omega) _ ⟨by omega, _, _, _, H, rfl⟩) ⟨rfl, rfl, rfl, trivial⟩ ⟨rfl, trivial⟩ rfl
            ·rw [if_neg hc25] at H
             cases H
           ·rw [if_neg hc24] at H
            cases H
def impl_faceAreas.l0 : Nat → Int → Int → List S159 → List S146 → List Int → Int → Int → Option ((List Int))
 | 0, _, _, _, _, _, _, _ => none
 | k + 1, y203_0, y203_1, y203_2, y203_3, x3, x8, x9 => if x9 < x8 then ((impl_facePolygon.f k y203_0 y203_1 y203_2 y203_3 x9).bind fun t3 => ((impl_doubled.f k t3).bind fun t5 => (if x3.length < 17592186044416 then (impl_faceAreas.l0 k y203_0 y203_1 y203_2 y203_3 (x3 ++ [t5]) x8 (wrap64 (x9 + 1))) else (none)))) else (some x3)
def impl_faceAreas.f (k : Nat) (a0_0 : Int) (a0_1 : Int) (l0_2 : List S159) (l0_3 : List S146) : Option ((List Int)) := impl_faceAreas.l0 k a0_0 a0_1 l0_2 l0_3 (([] : List Int) : List Int) (l0_3.length : Int) 0
set_option maxRecDepth 100000 in
theorem impl_faceAreas.ok {k : Nat} {a0_0 : Int} {a0_1 : Int} {l0_2 : List S159} {l0_3 : List S146} {r : List Int} (H : impl_faceAreas.f k a0_0 a0_1 l0_2 l0_3 = some r) : OkF Tryz.prog 66 [.agg [.d (.v (.int .i64 a0_0)), .d (.v (.int .i64 a0_1)), .d (.row 160 (l0_2.map c159)), .d (.row 152 (l0_3.map c146))]] [] (.c (.own 100 r.length)) [(100, .row 2 (r.map c2))] := by
 unfold impl_faceAreas.f at H
 refine OkF.of (N := 21) (rs := [2]) (avs := [.c (.own 100 r.length)]) Tryz.func66 rfl rfl (fun _ _ => results_tmp rfl _ _ _) (by decide) rfl rfl rfl rfl (fun w0 S => ?_)
 refine AG.seq ?_
 refine AG.region HM ?_
 refine a_box 200 ?_
 refine a_nilO (e := 2) 201 ?_ T2
 refine RA.nil nofun ?_
 refine AG.seq ?_
 refine AG.region HM ?_
 refine a_lit (cs := []) (D := []) (css := (([] : List Int) : List Int).map c2) 202 ?_ N29 T2 (hcss := by rfl)
 refine a_move (v := .c (.own _ _)) ?_
 refine RA.nil nofun ?_
 refine AG.seq ?_
 refine AG.seq ?_
 refine AG.region HM ?_
 refine a_faB (q := 3) ?_ D35_3
 refine a_ldB (v := vR _ _) ?_ T33
 refine a_lenR ?_ Tryz.underlying33
 refine a_move (v := vI _) ?_
 refine RA.nil nofun ?_
 refine AG.block ?_
 refine AG.loop ?_
 obtain ⟨K0, hK0, gK0⟩ : ∃ K, k ≤ K ∧ K ≤ k := ⟨k, Nat.le_refl k, Nat.le_refl k⟩
 refine AGr.canon (fun κ => cond (Nat.beq κ 203) 200 (cond (Nat.beq κ 204) 202 (κ))) (AGr.loopI (n := k) (fun k s => k ≤ K0 ∧ ∃ (y203_0 : Int) (y203_1 : Int) (y203_2 : List S159) (y203_3 : List S146) (x3 : List Int) (x8 : Int) (x9 : Int), impl_faceAreas.l0 k y203_0 y203_1 y203_2 y203_3 x3 x8 x9 = some r ∧ s = St.of [(1, .c (.ptr 203 0)), (3, .c (.own 204 x3.length)), (8, vI x8), (9, vI x9)] [(203, .box 35 [.d (.v (.int .i64 y203_0)), .d (.v (.int .i64 y203_1)), .d (.row 160 (y203_2.map c159)), .d (.row 152 (y203_3.map c146))]), (204, .row 2 (x3.map c2))]) ⟨hK0, _, _, _, _, _, _, _, H, rfl⟩ ?_ ?_) ⟨rfl, (ownE rfl (by simp)), rfl, rfl, trivial⟩ ⟨rfl, rfl, trivial⟩ rfl
 ·rintro _ ⟨_, _, _, _, _, _, _, _, H, _⟩
  cases H
 ·clear H hK0
  rintro k ih0 _ ⟨hK0, y203_0, y203_1, y203_2, y203_3, x3, x8, x9, H, rfl⟩
  unfold impl_faceAreas.l0 at H
  refine AG.seq ?_
  refine AG.region HM ?_
  refine a_int (u := .bool (decide (x9 < x8))) ?_
  refine RA.nil nofun ?_
  refine AG.seq ?_
  by_cases hc2 : x9 < x8
  ·rw [if_pos hc2] at H
   refine AG.yes rfl (decide_eq_true hc2) ?_
   refine AG.skip ?_
   refine AG.seq ?_
   refine AG.block ?_
   refine AG.seq ?_
   refine AG.region HM ?_
   refine a_move (v := vI _) ?_
   refine a_move (v := vI _) ?_
   refine RA.nil nofun ?_
   refine AG.region HM ?_
   refine a_move (v := .c (.own _ _)) ?_
   refine a_ldB (v := .agg [_, _, _, _]) ?_ T35
   refine a_move (v := vI _) ?_
   obtain ⟨t3, e4, H⟩ := bindO H
   refine a_call (v := .c (.own 205 t3.length)) (nk := [(205, .row 160 (t3.map c159))]) (L := []) ?_ rfl (impl_facePolygon.ok e4) (fun κ => cond (Nat.beq κ 205) 100 (κ)) (qg (qd qn)) trivial ⟨rfl, trivial⟩ ⟨rfl, trivial⟩ rfl
   obtain ⟨t5, e6, H⟩ := bindO H
   refine a_call (v := vI t5) (nk := []) (L := [(205, _)]) ?_ rfl (impl_doubled.ok e6) id (qc rO qn) ⟨rfl, trivial⟩ trivial trivial rfl
   refine a_lit (cs := [_]) (D := []) (css := ([t5]).map c2) 207 ?_ N29 T2
   by_cases hc7 : x3.length < 17592186044416
   ·rw [if_pos hc7] at H
    refine a_appO (css' := (x3 ++ [t5]).map c2) (n' := (x3 ++ [t5]).length) ?_ T2 (by simp [maxLen]; omega) (by simp; omega) Tryz.underlying29 (hc := by exact List.map_append.symm) (hn := by exact List.length_map _)
    refine a_move (v := .c (.own _ _)) ?_
    refine RA.nil nofun ?_
    refine AG.region HM ?_
    refine a_int (u := .int .i64 (wrap64 (x9 + 1))) ?_
    refine a_move (v := vI _) ?_
    refine RA.nil nofun ?_
    exact AGr.canon id (ih0 _ (by omega) _ ⟨by omega, _, _, _, _, _, _, _, H, rfl⟩) ⟨rfl, rfl, rfl, rfl, trivial⟩ ⟨rfl, rfl, trivial⟩ rfl
   ·rw [if_neg hc7] at H
    cases H
  ·rw [if_neg hc2] at H
   refine AG.no rfl (decide_eq_false hc2) ?_
   refine AG.exit ?_
   refine AG.seq ?_
   refine AG.region HM ?_
   refine a_move (v := .c (.own _ _)) ?_
   refine a_move (v := .c (.own _ _)) ?_
   refine RA.nil nofun ?_
   refine AG.ret ?_
   obtain rfl := Option.some.inj H
   exact RetP.mk (fun κ => cond (Nat.beq κ 100) 204 (κ)) ⟨rfl, trivial⟩ ⟨rfl, trivial⟩ rfl
mutual
def impl_LeavesBound.j0 : Nat → List S94 → Int → Int → List S159 → List S146 → Bool → Option (Int × Int)
 | 0, _, _, _, _, _, _ => none
 | k + 1, x1, y203_0, y203_1, y203_2, y203_3, x18 => if x18 = true then (some (0, 1)) else ((impl_unfit.f k y203_0 y203_1 y203_2 y203_3 x1).bind fun t7 => (if (t7.length : Int) > 0 then (some (0, 3)) else (impl_LeavesBound.l0 k y203_0 y203_1 y203_2 y203_3 (([] : List Int) : List Int) x1 (x1.length : Int) 0)))
def impl_LeavesBound.l0 : Nat → Int → Int → List S159 → List S146 → List Int → List S94 → Int → Int → Option (Int × Int)
 | 0, _, _, _, _, _, _, _, _ => none
 | k + 1, y206_0, y206_1, y206_2, y206_3, x6, x25, x26, x27 => if x27 < x26 then (if 0 ≤ x27 then (if x27 < (x25.length : Int) then ((impl_UsableArea.f k ((rd94 x25 x27).f0) ((rd94 x25 x27).f1) ((rd94 x25 x27).f2) ((rd94 x25 x27).f3.f0) ((rd94 x25 x27).f3.f1) ((rd94 x25 x27).f3.f2) ((rd94 x25 x27).f4) ((rd94 x25 x27).f5) ((rd94 x25 x27).f6)).bind fun bt14 => (if x6.length < 17592186044416 then (impl_LeavesBound.l0 k y206_0 y206_1 y206_2 y206_3 (x6 ++ [bt14.1]) x25 x26 (wrap64 (x27 + 1))) else (none))) else (none)) else (none)) else ((impl_faceAreas.f k y206_0 y206_1 y206_2 y206_3).bind fun t19 => ((impl_AreaBound.f k t19 x6).bind fun bt21 => (some (bt21.1, bt21.2))))
end
def impl_LeavesBound.f (k : Nat) (a0_0 : Int) (a0_1 : Int) (l0_2 : List S159) (l0_3 : List S146) (l1 : List S94) : Option (Int × Int) := (impl_ValidDrawing.f k a0_0 a0_1 l0_2 l0_3).bind fun t1 => (if t1 = true then ((impl_ValidLeaves.f k l1).bind fun t4 => (impl_LeavesBound.j0 k l1 a0_0 a0_1 l0_2 l0_3 (!t4))) else (impl_LeavesBound.j0 k l1 a0_0 a0_1 l0_2 l0_3 true))
set_option maxRecDepth 100000 in
theorem impl_LeavesBound.ok {k : Nat} {a0_0 : Int} {a0_1 : Int} {l0_2 : List S159} {l0_3 : List S146} {l1 : List S94} {r0 : Int} {r1 : Int} (H : impl_LeavesBound.f k a0_0 a0_1 l0_2 l0_3 l1 = some (r0, r1)) : OkF Tryz.prog 23 [.agg [.d (.v (.int .i64 a0_0)), .d (.v (.int .i64 a0_1)), .d (.row 160 (l0_2.map c159)), .d (.row 152 (l0_3.map c146))], vR 95 (l1.map c94)] [] (.tup [.c (.d (.v (.int .i64 r0))), .c (.d (.v (.int .i64 r1)))]) [] := by
 unfold impl_LeavesBound.f at H
 refine OkF.of (N := 47) (rs := [4, 5]) (avs := [.c (.d (.v (.int .i64 r0))), .c (.d (.v (.int .i64 r1)))]) Tryz.func23 rfl rfl (fun _ _ => results_tmp2 rfl _ _ _) (by decide) rfl rfl rfl rfl (fun w0 S => ?_)
 refine AG.seq ?_
 refine AG.region HM ?_
 refine a_box 200 ?_
 refine a_move (v := vI _) ?_
 refine a_move (v := vI _) ?_
 refine RA.nil nofun ?_
 refine AG.seq ?_
 refine AG.seq ?_
 refine AG.joinR (fun s => ∃ q, q ≤ k ∧ ∃ (x1 : List S94) (y203_0 : Int) (y203_1 : Int) (y203_2 : List S159) (y203_3 : List S146) (x18 : Bool), impl_LeavesBound.j0 q x1 y203_0 y203_1 y203_2 y203_3 x18 = some (r0, r1) ∧ s = St.of [(1, vR 95 (x1.map c94)), (2, .c (.ptr 203 0)), (18, vB x18)] [(203, .box 35 [.d (.v (.int .i64 y203_0)), .d (.v (.int .i64 y203_1)), .d (.row 160 (y203_2.map c159)), .d (.row 152 (y203_3.map c146))])]) ?_ ?_
 ·skip
  refine AG.region HM ?_
  refine a_ldB (v := .agg [_, _, _, _]) ?_ T35
  obtain ⟨t1, e2, H⟩ := bindO H
  refine a_call (v := vB t1) (nk := []) (L := []) ?_ rfl (impl_ValidDrawing.ok e2) id (qg qn) trivial trivial trivial rfl
  refine a_un (u := .bool (!t1)) ?_
  refine a_move (v := vB _) ?_
  by_cases hc3 : t1 = true
  ·rw [if_pos hc3] at H
   refine a_move (v := vR _ _) ?_ (hg := Gs.yes rfl rfl rfl (congrArg Bool.not hc3))
   obtain ⟨t4, e5, H⟩ := bindO H
   refine a_call (v := vB t4) (nk := []) (L := []) ?_ rfl (impl_ValidLeaves.ok e5) id (qd qn) trivial trivial trivial rfl (hg := Gs.yes rfl rfl rfl (congrArg Bool.not hc3))
   refine a_un (u := .bool (!t4)) ?_ (hg := Gs.yes rfl rfl rfl (congrArg Bool.not hc3))
   refine a_pick (b := false) (v := vB _) ?_ (congrArg Bool.not hc3)
   refine RA.nil nofun ?_
   exact CanR.mk (fun κ => cond (Nat.beq κ 203) 200 (κ)) ⟨_, (by omega), _, _, _, _, _, _, H, rfl⟩ ⟨rfl, rfl, rfl, trivial⟩ ⟨rfl, trivial⟩ rfl
  ·rw [if_neg hc3] at H
   refine RA.skip rfl rfl rfl rfl rfl (congrArg Bool.not (Bool.eq_false_iff.2 hc3)) (by decide) ?_
   refine RA.skip rfl rfl rfl rfl rfl (congrArg Bool.not (Bool.eq_false_iff.2 hc3)) (by decide) ?_
   refine RA.skip rfl rfl rfl rfl rfl (congrArg Bool.not (Bool.eq_false_iff.2 hc3)) (by decide) ?_
   refine a_pick (b := true) (v := vB _) ?_ (congrArg Bool.not (Bool.eq_false_iff.2 hc3))
   refine RA.nil nofun ?_
   exact CanR.mk (fun κ => cond (Nat.beq κ 203) 200 (κ)) ⟨_, (by omega), _, _, _, _, _, _, H, rfl⟩ ⟨rfl, rfl, rfl, trivial⟩ ⟨rfl, trivial⟩ rfl
 ·clear H
  rintro _ ⟨k, hj0, x1, y203_0, y203_1, y203_2, y203_3, x18, H, rfl⟩
  cases k with
  | zero => cases H
  | succ k =>
   rw [impl_LeavesBound.j0] at H
   by_cases hc6 : x18 = true
   ·rw [if_pos hc6] at H
    refine AG.yes rfl hc6 ?_
    refine AG.seq ?_
    refine AG.region HM ?_
    refine a_move (v := vI _) ?_
    refine a_move (v := vI _) ?_
    refine RA.nil nofun ?_
    refine AG.ret ?_
    simp only [Option.some.injEq, Prod.mk.injEq] at H
    obtain ⟨rfl, rfl⟩ := H
    exact RetP.mk id ⟨rfl, rfl, trivial⟩ trivial rfl
   ·rw [if_neg hc6] at H
    refine AG.no rfl (Bool.eq_false_iff.2 hc6) ?_
    refine AG.skip ?_
    refine AG.seq ?_
    refine AG.seq ?_
    refine AG.region HM ?_
    refine a_ldB (v := .agg [_, _, _, _]) ?_ T35
    refine a_move (v := vR _ _) ?_
    obtain ⟨t7, e8, H⟩ := bindO H
    refine a_call (v := .c (.own 204 t7.length)) (nk := [(204, .row 2 (t7.map c2))]) (L := []) ?_ rfl (impl_unfit.ok e8) (fun κ => cond (Nat.beq κ 204) 100 (κ)) (qg (qd qn)) trivial ⟨rfl, trivial⟩ ⟨rfl, trivial⟩ rfl
    refine a_lenO ?_ Tryz.underlying29
    refine a_int (u := .bool (decide ((t7.length : Int) > 0))) ?_
    refine RA.nil nofun ?_
    by_cases hc9 : (t7.length : Int) > 0
    ·rw [if_pos hc9] at H
     refine AG.yes rfl (decide_eq_true hc9) ?_
     refine AG.seq ?_
     refine AG.region HM ?_
     refine a_move (v := vI _) ?_
     refine a_move (v := vI _) ?_
     refine RA.nil nofun ?_
     refine AG.ret ?_
     simp only [Option.some.injEq, Prod.mk.injEq] at H
     obtain ⟨rfl, rfl⟩ := H
     exact RetP.mk id ⟨rfl, rfl, trivial⟩ trivial rfl
    ·rw [if_neg hc9] at H
     refine AG.no rfl (decide_eq_false hc9) ?_
     refine AG.skip ?_
     refine AG.seq ?_
     refine AG.region HM ?_
     refine a_lit (cs := []) (D := []) (css := (([] : List Int) : List Int).map c2) 205 ?_ N29 T2 (hcss := by rfl)
     refine a_move (v := .c (.own _ _)) ?_
     refine RA.nil nofun ?_
     refine AG.seq ?_
     refine AG.seq ?_
     refine AG.region HM ?_
     refine a_move (v := vR _ _) ?_
     refine a_lenR ?_ Tryz.underlying37
     refine a_move (v := vI _) ?_
     refine RA.nil nofun ?_
     refine AG.block ?_
     refine AG.loop ?_
     obtain ⟨K0, hK0, gK0⟩ : ∃ K, k ≤ K ∧ K ≤ k := ⟨k, Nat.le_refl k, Nat.le_refl k⟩
     refine AGr.canon (fun κ => cond (Nat.beq κ 206) 203 (cond (Nat.beq κ 207) 205 (κ))) (AGr.loopI (n := k) (fun k s => k ≤ K0 ∧ ∃ (y206_0 : Int) (y206_1 : Int) (y206_2 : List S159) (y206_3 : List S146) (x6 : List Int) (x25 : List S94) (x26 : Int) (x27 : Int), impl_LeavesBound.l0 k y206_0 y206_1 y206_2 y206_3 x6 x25 x26 x27 = some (r0, r1) ∧ s = St.of [(2, .c (.ptr 206 0)), (6, .c (.own 207 x6.length)), (25, vR 95 (x25.map c94)), (26, vI x26), (27, vI x27)] [(206, .box 35 [.d (.v (.int .i64 y206_0)), .d (.v (.int .i64 y206_1)), .d (.row 160 (y206_2.map c159)), .d (.row 152 (y206_3.map c146))]), (207, .row 2 (x6.map c2))]) ⟨hK0, _, _, _, _, _, _, _, _, H, rfl⟩ ?_ ?_) ⟨rfl, (ownE rfl (by simp)), rfl, rfl, rfl, trivial⟩ ⟨rfl, rfl, trivial⟩ rfl
     ·rintro _ ⟨_, _, _, _, _, _, _, _, _, H, _⟩
      cases H
     ·clear H hK0
      rintro k ih0 _ ⟨hK0, y206_0, y206_1, y206_2, y206_3, x6, x25, x26, x27, H, rfl⟩
      unfold impl_LeavesBound.l0 at H
      refine AG.seq ?_
      refine AG.region HM ?_
      refine a_int (u := .bool (decide (x27 < x26))) ?_
      refine RA.nil nofun ?_
      refine AG.seq ?_
      by_cases hc11 : x27 < x26
      ·rw [if_pos hc11] at H
       refine AG.yes rfl (decide_eq_true hc11) ?_
       refine AG.skip ?_
       refine AG.seq ?_
       refine AG.block ?_
       refine AG.seq ?_
       refine AG.region HM ?_
       by_cases hc12 : 0 ≤ x27
       ·rw [if_pos hc12] at H
        by_cases hc13 : x27 < (x25.length : Int)
        ·rw [if_pos hc13] at H
         refine a_ixR (el := c94 (rd94 x25 x27)) ?_ ⟨hc12, hc13⟩ T95 Tryz.underlying37 (hel := R94 hc12 hc13)
         refine a_ldR (v := .agg [_, _, _, _, _, _, _, _, _]) ?_ T95
         refine a_alloc (cs := [_, _, _, _, _, _, _, _, _]) 208 ?_ T95
         refine a_stB (cs' := [_, _, _, _, _, _, _, _, _]) ?_ T95
         refine RA.nil nofun ?_
         refine AG.seq ?_
         refine AG.region HM ?_
         refine a_ldB (v := .agg [_, _, _, _, _, _, _, _, _]) ?_ T95
         obtain ⟨⟨t14, t15⟩, e16, H⟩ := bindO H
         refine a_call (v := .tup [.c (.d (.v (.int .i64 t14))), .c (.d (.v (.int .i64 t15)))]) (nk := []) (L := []) ?_ rfl (impl_UsableArea.ok e16) id (qg qn) trivial trivial trivial rfl
         refine a_move (v := .tup [_, _]) ?_
         refine a_ext (v := vI _) ?_
         refine a_ext (v := vI _) ?_
         refine a_move (v := vI _) ?_
         refine a_move (v := vI _) ?_
         refine RA.nil nofun ?_
         refine AG.region HM ?_
         refine a_move (v := .c (.own _ _)) ?_
         refine a_move (v := vI _) ?_
         refine a_lit (cs := [_]) (D := []) (css := ([t14]).map c2) 210 ?_ N29 T2
         by_cases hc17 : x6.length < 17592186044416
         ·rw [if_pos hc17] at H
          refine a_appO (css' := (x6 ++ [t14]).map c2) (n' := (x6 ++ [t14]).length) ?_ T2 (by simp [maxLen]; omega) (by simp; omega) Tryz.underlying29 (hc := by exact List.map_append.symm) (hn := by exact List.length_map _)
          refine a_move (v := .c (.own _ _)) ?_
          refine RA.nil nofun ?_
          refine AG.region HM ?_
          refine a_int (u := .int .i64 (wrap64 (x27 + 1))) ?_
          refine a_move (v := vI _) ?_
          refine RA.nil nofun ?_
          exact AGr.canon id (ih0 _ (by omega) _ ⟨by omega, _, _, _, _, _, _, _, _, H, rfl⟩) ⟨rfl, rfl, rfl, rfl, rfl, trivial⟩ ⟨rfl, rfl, trivial⟩ rfl
         ·rw [if_neg hc17] at H
          cases H
        ·rw [if_neg hc13] at H
         cases H
       ·rw [if_neg hc12] at H
        cases H
      ·rw [if_neg hc11] at H
       refine AG.no rfl (decide_eq_false hc11) ?_
       refine AG.exit ?_
       refine AG.seq ?_
       refine AG.region HM ?_
       refine a_ldB (v := .agg [_, _, _, _]) ?_ T35
       obtain ⟨t19, e20, H⟩ := bindO H
       refine a_call (v := .c (.own 211 t19.length)) (nk := [(211, .row 2 (t19.map c2))]) (L := []) ?_ rfl (impl_faceAreas.ok e20) (fun κ => cond (Nat.beq κ 211) 100 (κ)) (qg qn) trivial ⟨rfl, trivial⟩ ⟨rfl, trivial⟩ rfl
       refine a_move (v := .c (.own _ _)) ?_
       obtain ⟨⟨t21, t22⟩, e23, H⟩ := bindO H
       refine a_call (v := .tup [.c (.d (.v (.int .i64 t21))), .c (.d (.v (.int .i64 t22)))]) (nk := []) (L := [(211, _), (207, _)]) ?_ rfl (impl_AreaBound.ok e23) id (qc rO (qc rO qn)) ⟨rfl, rfl, trivial⟩ trivial trivial rfl
       refine a_ext (v := vI _) ?_
       refine a_ext (v := vI _) ?_
       refine a_move (v := vI _) ?_
       refine a_move (v := vI _) ?_
       refine RA.nil nofun ?_
       refine AG.ret ?_
       simp only [Option.some.injEq, Prod.mk.injEq] at H
       obtain ⟨rfl, rfl⟩ := H
       exact RetP.mk id ⟨rfl, rfl, trivial⟩ trivial rfl
def impl_EnoughStock.f (k : Nat) (a0_0 : Int) (a0_1 : Int) (l0_2 : List S159) (l0_3 : List S146) (l1 : List S94) : Option (Bool) := (impl_LeavesBound.f k a0_0 a0_1 l0_2 l0_3 l1).bind fun bt1 => (some (bt1.2 == 0))
set_option maxRecDepth 100000 in
theorem impl_EnoughStock.ok {k : Nat} {a0_0 : Int} {a0_1 : Int} {l0_2 : List S159} {l0_3 : List S146} {l1 : List S94} {r : Bool} (H : impl_EnoughStock.f k a0_0 a0_1 l0_2 l0_3 l1 = some r) : OkF Tryz.prog 25 [.agg [.d (.v (.int .i64 a0_0)), .d (.v (.int .i64 a0_1)), .d (.row 160 (l0_2.map c159)), .d (.row 152 (l0_3.map c146))], vR 95 (l1.map c94)] [] (.c (.d (.v (.bool r)))) [] := by
 unfold impl_EnoughStock.f at H
 refine OkF.of (N := 15) (rs := [4]) (avs := [.c (.d (.v (.bool r)))]) Tryz.func25 rfl rfl (fun _ _ => results_tmp rfl _ _ _) (by decide) rfl rfl rfl rfl (fun w0 S => ?_)
 refine AG.seq ?_
 refine AG.region HM ?_
 refine a_box 200 ?_
 refine a_move (v := vB _) ?_
 refine RA.nil nofun ?_
 refine AG.seq ?_
 refine AG.region HM ?_
 refine a_ldB (v := .agg [_, _, _, _]) ?_ T35
 refine a_move (v := vR _ _) ?_
 obtain ⟨⟨t1, t2⟩, e3, H⟩ := bindO H
 refine a_call (v := .tup [.c (.d (.v (.int .i64 t1))), .c (.d (.v (.int .i64 t2)))]) (nk := []) (L := []) ?_ rfl (impl_LeavesBound.ok e3) id (qg (qd qn)) trivial trivial trivial rfl
 refine a_move (v := .tup [_, _]) ?_
 refine a_ext (v := vI _) ?_
 refine a_ext (v := vI _) ?_
 refine a_move (v := vI _) ?_
 refine a_move (v := vI _) ?_
 refine RA.nil nofun ?_
 refine AG.seq ?_
 refine AG.region HM ?_
 refine a_move (v := vI _) ?_
 refine a_int (u := .bool ((t2 == 0))) ?_
 refine a_move (v := vB _) ?_
 refine RA.nil nofun ?_
 refine AG.ret ?_
 obtain rfl := Option.some.inj H
 exact RetP.mk id ⟨rfl, trivial⟩ trivial rfl
def laws_FnExactEnoughStock.f (k : Nat) (a0_0 : Int) (a0_1 : Int) (l0_2 : List S159) (l0_3 : List S146) (l1 : List S84) : Option (Bool) := (laws_szDrawing.f k a0_0 a0_1 l0_2 l0_3 1048576).bind fun t1 => (if t1 < 0 then (some true) else ((laws_szLeafS.f k l1 t1).bind fun t4 => (if t4 < 0 then (some true) else ((laws_toDrawing.f k a0_0 a0_1 l0_2 l0_3).bind fun bt7 => ((laws_toLeafS.f k l1).bind fun t12 => ((spec_EnoughStock.f k bt7.1 bt7.2.1 bt7.2.2.1 bt7.2.2.2 t12).bind fun t13 => ((laws_toDrawing.f k a0_0 a0_1 l0_2 l0_3).bind fun bt15 => ((laws_toLeafS.f k l1).bind fun t20 => ((impl_EnoughStock.f k bt15.1 bt15.2.1 bt15.2.2.1 bt15.2.2.2 t20).bind fun t21 => (if (t21 == t13) = true then ((laws_toDrawing.f k a0_0 a0_1 l0_2 l0_3).bind fun bt24 => ((laws_eqDrawing.f k bt15.1 bt15.2.1 bt15.2.2.1 bt15.2.2.2 bt24.1 bt24.2.1 bt24.2.2.1 bt24.2.2.2).bind fun t29 => (if t29 = true then ((laws_toLeafS.f k l1).bind fun t32 => ((laws_eqLeafS.f k t20 t32).bind fun t33 => (if t33 = true then (some true) else (some false)))) else (some false)))) else (some false)))))))))))
set_option maxRecDepth 100000 in
theorem laws_FnExactEnoughStock.ok {k : Nat} {a0_0 : Int} {a0_1 : Int} {l0_2 : List S159} {l0_3 : List S146} {l1 : List S84} {r : Bool} (H : laws_FnExactEnoughStock.f k a0_0 a0_1 l0_2 l0_3 l1 = some r) : OkF Tryz.prog 5 [.agg [.d (.v (.int .i64 a0_0)), .d (.v (.int .i64 a0_1)), .d (.row 162 (l0_2.map c159)), .d (.row 147 (l0_3.map c146))], vR 85 (l1.map c84)] [] (.c (.d (.v (.bool r)))) [] := by
 unfold laws_FnExactEnoughStock.f at H
 refine OkF.of (N := 45) (rs := [4]) (avs := [.c (.d (.v (.bool r)))]) Tryz.func5 rfl rfl (fun _ _ => results_tmp rfl _ _ _) (by decide) rfl rfl rfl rfl (fun w0 S => ?_)
 refine AG.seq ?_
 refine AG.region HM ?_
 refine a_box 200 ?_
 refine a_move (v := vB _) ?_
 refine RA.nil nofun ?_
 refine AG.seq ?_
 refine AG.region HM ?_
 refine a_move (v := vI _) ?_
 refine RA.nil nofun ?_
 refine AG.seq ?_
 refine AG.region HM ?_
 refine a_ldB (v := .agg [_, _, _, _]) ?_ T25
 refine a_move (v := vI _) ?_
 obtain ⟨t1, e2, H⟩ := bindO H
 refine a_call (v := vI t1) (nk := []) (L := []) ?_ rfl (laws_szDrawing.ok e2) id (qg (qd qn)) trivial trivial trivial rfl
 refine a_move (v := vI _) ?_
 refine RA.nil nofun ?_
 refine AG.seq ?_
 refine AG.seq ?_
 refine AG.region HM ?_
 refine a_move (v := vI _) ?_
 refine a_int (u := .bool (decide (t1 < 0))) ?_
 refine RA.nil nofun ?_
 by_cases hc3 : t1 < 0
 ·rw [if_pos hc3] at H
  refine AG.yes rfl (decide_eq_true hc3) ?_
  refine AG.seq ?_
  refine AG.region HM ?_
  refine a_move (v := vB _) ?_
  refine RA.nil nofun ?_
  refine AG.ret ?_
  obtain rfl := Option.some.inj H
  exact RetP.mk id ⟨rfl, trivial⟩ trivial rfl
 ·rw [if_neg hc3] at H
  refine AG.no rfl (decide_eq_false hc3) ?_
  refine AG.skip ?_
  refine AG.seq ?_
  refine AG.region HM ?_
  refine a_move (v := vR _ _) ?_
  refine a_move (v := vI _) ?_
  obtain ⟨t4, e5, H⟩ := bindO H
  refine a_call (v := vI t4) (nk := []) (L := []) ?_ rfl (laws_szLeafS.ok e5) id (qd (qd qn)) trivial trivial trivial rfl
  refine a_move (v := vI _) ?_
  refine RA.nil nofun ?_
  refine AG.seq ?_
  refine AG.seq ?_
  refine AG.region HM ?_
  refine a_move (v := vI _) ?_
  refine a_int (u := .bool (decide (t4 < 0))) ?_
  refine RA.nil nofun ?_
  by_cases hc6 : t4 < 0
  ·rw [if_pos hc6] at H
   refine AG.yes rfl (decide_eq_true hc6) ?_
   refine AG.seq ?_
   refine AG.region HM ?_
   refine a_move (v := vB _) ?_
   refine RA.nil nofun ?_
   refine AG.ret ?_
   obtain rfl := Option.some.inj H
   exact RetP.mk id ⟨rfl, trivial⟩ trivial rfl
  ·rw [if_neg hc6] at H
   refine AG.no rfl (decide_eq_false hc6) ?_
   refine AG.skip ?_
   refine AG.seq ?_
   refine AG.region HM ?_
   refine a_ldB (v := .agg [_, _, _, _]) ?_ T25
   obtain ⟨⟨t7, t8, t9, t10⟩, e11, H⟩ := bindO H
   refine a_call (v := .agg [.d (.v (.int .i64 t7)), .d (.v (.int .i64 t8)), .own 203 t9.length, .own 204 t10.length]) (nk := [(203, .row 160 (t9.map c159)), (204, .row 152 (t10.map c146))]) (L := []) ?_ rfl (laws_toDrawing.ok e11) (fun κ => cond (Nat.beq κ 203) 100 (cond (Nat.beq κ 204) 101 (κ))) (qg qn) trivial ⟨rfl, rfl, trivial⟩ ⟨rfl, rfl, trivial⟩ rfl
   refine a_move (v := vR _ _) ?_
   obtain ⟨t12, et12, H⟩ := bindO H
   refine a_callF (L := []) ?_ rfl (laws_toLeafS.ok et12) (qd qn) trivial
   obtain ⟨t13, e14, H⟩ := bindO H
   refine a_call (v := vB t13) (nk := []) (L := [(203, _), (204, _)]) ?_ rfl (spec_EnoughStock.ok e14) id (qm (eD (eD (eC rO (eC rO eN)))) (qd qn)) ⟨rfl, rfl, trivial⟩ trivial trivial rfl
   refine a_move (v := vB _) ?_
   refine RA.nil nofun ?_
   refine AG.seq ?_
   refine AG.freeze 204 ?_
   refine AG.region HM ?_
   refine a_ldB (v := .agg [_, _, _, _]) ?_ T25
   obtain ⟨⟨t15, t16, t17, t18⟩, e19, H⟩ := bindO H
   refine a_call (v := .agg [.d (.v (.int .i64 t15)), .d (.v (.int .i64 t16)), .own 206 t17.length, .own 207 t18.length]) (nk := [(206, .row 160 (t17.map c159)), (207, .row 152 (t18.map c146))]) (L := []) ?_ rfl (laws_toDrawing.ok e19) (fun κ => cond (Nat.beq κ 206) 100 (cond (Nat.beq κ 207) 101 (κ))) (qg qn) trivial ⟨rfl, rfl, trivial⟩ ⟨rfl, rfl, trivial⟩ rfl
   refine a_alloc (cs := [_, _, _, _]) 208 ?_ T35
   refine a_stB (cs' := [_, _, _, _]) ?_ T35
   refine RA.nil nofun ?_
   refine AG.seq ?_
   refine AG.freeze 207 ?_
   refine AG.region HM ?_
   refine a_move (v := vR _ _) ?_
   obtain ⟨t20, et20, H⟩ := bindO H
   refine a_callF (L := []) ?_ rfl (laws_toLeafS.ok et20) (qd qn) trivial
   refine a_move (v := vR _ _) ?_
   refine RA.nil nofun ?_
   refine AG.seq ?_
   refine AG.region HM ?_
   refine a_ldB (v := .agg [_, _, _, _]) ?_ T35
   refine a_move (v := vR _ _) ?_
   obtain ⟨t21, e22, H⟩ := bindO H
   refine a_call (v := vB t21) (nk := []) (L := [(206, _)]) ?_ rfl (impl_EnoughStock.ok e22) id (qm (eD (eD (eC rO (eD eN)))) (qd qn)) ⟨rfl, trivial⟩ trivial trivial rfl
   refine a_move (v := vB _) ?_
   refine RA.nil nofun ?_
   refine AG.seq ?_
   refine AG.seq ?_
   refine AG.region HM ?_
   refine a_move (v := vB _) ?_
   refine a_move (v := vB _) ?_
   refine a_binB (p := t21) (q := t13) (b := (!(t21 == t13))) ?_ Tryz.underlying4 (.inr ⟨rfl, rfl⟩)
   refine RA.nil nofun ?_
   by_cases hc23 : (t21 == t13) = true
   ·rw [if_pos hc23] at H
    refine AG.no rfl (by rw [show (t21 == t13) = true from hc23]; rfl) ?_
    refine AG.skip ?_
    refine AG.seq ?_
    refine AG.seq ?_
    refine AG.region HM ?_
    refine a_ldB (v := .agg [_, _, _, _]) ?_ T35
    refine a_ldB (v := .agg [_, _, _, _]) ?_ T25
    obtain ⟨⟨t24, t25, t26, t27⟩, e28, H⟩ := bindO H
    refine a_call (v := .agg [.d (.v (.int .i64 t24)), .d (.v (.int .i64 t25)), .own 210 t26.length, .own 211 t27.length]) (nk := [(210, .row 160 (t26.map c159)), (211, .row 152 (t27.map c146))]) (L := []) ?_ rfl (laws_toDrawing.ok e28) (fun κ => cond (Nat.beq κ 210) 100 (cond (Nat.beq κ 211) 101 (κ))) (qg qn) trivial ⟨rfl, rfl, trivial⟩ ⟨rfl, rfl, trivial⟩ rfl
    obtain ⟨t29, e30, H⟩ := bindO H
    refine a_call (v := vB t29) (nk := []) (L := [(206, _), (210, _), (211, _)]) ?_ rfl (laws_eqDrawing.ok e30) id (qm (eD (eD (eC rO (eD eN)))) (qm (eD (eD (eC rO (eC rO eN)))) qn)) ⟨rfl, rfl, rfl, trivial⟩ trivial trivial rfl
    refine a_un (u := .bool (!t29)) ?_
    refine RA.nil (fun _ => by kernel_rfl) ?_
    by_cases hc31 : t29 = true
    ·rw [if_pos hc31] at H
     refine AG.no rfl (congrArg Bool.not hc31) ?_
     refine AG.skip ?_
     refine AG.seq ?_
     refine AG.seq ?_
     refine AG.freeze 211 ?_
     refine AG.region HM ?_
     refine a_move (v := vR _ _) ?_
     refine a_move (v := vR _ _) ?_
     obtain ⟨t32, et32, H⟩ := bindO H
     refine a_callF (L := []) ?_ rfl (laws_toLeafS.ok et32) (qd qn) trivial
     obtain ⟨t33, e34, H⟩ := bindO H
     refine a_call (v := vB t33) (nk := []) (L := []) ?_ rfl (laws_eqLeafS.ok e34) id (qd (qd qn)) trivial trivial trivial rfl
     refine a_un (u := .bool (!t33)) ?_
     refine RA.nil nofun ?_
     by_cases hc35 : t33 = true
     ·rw [if_pos hc35] at H
      refine AG.no rfl (congrArg Bool.not hc35) ?_
      refine AG.skip ?_
      refine AG.seq ?_
      refine AG.region HM ?_
      refine a_move (v := vB _) ?_
      refine RA.nil nofun ?_
      refine AG.ret ?_
      obtain rfl := Option.some.inj H
      exact RetP.mk id ⟨rfl, trivial⟩ trivial rfl
     ·rw [if_neg hc35] at H
      refine AG.yes rfl (congrArg Bool.not (Bool.eq_false_iff.2 hc35)) ?_
      refine AG.seq ?_
      refine AG.region HM ?_
      refine a_move (v := vB _) ?_
      refine RA.nil nofun ?_
      refine AG.ret ?_
      obtain rfl := Option.some.inj H
      exact RetP.mk id ⟨rfl, trivial⟩ trivial rfl
    ·rw [if_neg hc31] at H
     refine AG.yes rfl (congrArg Bool.not (Bool.eq_false_iff.2 hc31)) ?_
     refine AG.seq ?_
     refine AG.freeze 211 ?_
     refine AG.region HM ?_
     refine a_move (v := vB _) ?_
     refine RA.nil nofun ?_
     refine AG.ret ?_
     obtain rfl := Option.some.inj H
     exact RetP.mk id ⟨rfl, trivial⟩ trivial rfl
   ·rw [if_neg hc23] at H
    refine AG.yes rfl (by rw [Bool.eq_false_iff.2 hc23]; rfl) ?_
    refine AG.seq ?_
    refine AG.region HM ?_
    refine a_move (v := vB _) ?_
    refine RA.nil nofun ?_
    refine AG.ret ?_
    obtain rfl := Option.some.inj H
    exact RetP.mk id ⟨rfl, trivial⟩ trivial rfl
def B159 (x : S159) : Prop := (Lit.int .i64 x.f0).wf = true ∧ (Lit.int .i64 x.f1).wf = true
def B146 (x : S146) : Prop := x.f0.size ≤ maxLen ∧ (x.f1.length ≤ maxLen ∧ ∀ x_ ∈ x.f1, (Lit.int .i64 x_).wf = true)
def B24 (x : S24) : Prop := (Lit.int .i64 x.f0).wf = true ∧ (Lit.int .i64 x.f1).wf = true ∧ (x.f2.length ≤ maxLen ∧ ∀ x_ ∈ x.f2, B159 x_) ∧ (x.f3.length ≤ maxLen ∧ ∀ x_ ∈ x.f3, B146 x_)
def B81 (x : S81) : Prop := x.f0.size ≤ maxLen ∧ (Lit.int .i64 x.f1).wf = true ∧ (Lit.int .i64 x.f2).wf = true
def B176 (x : S176) : Prop := (Lit.int .i64 x.f0).wf = true ∧ (Lit.int .i64 x.f1).wf = true ∧ (Lit.int .i64 x.f2).wf = true ∧ (Lit.int .i64 x.f3).wf = true
def B84 (x : S84) : Prop := x.f0.size ≤ maxLen ∧ x.f1.size ≤ maxLen ∧ (Lit.int .i64 x.f2).wf = true ∧ B81 x.f3 ∧ (Lit.int .i64 x.f4).wf = true ∧ (Lit.int .i64 x.f5).wf = true ∧ (x.f6.length ≤ maxLen ∧ ∀ x_ ∈ x.f6, B176 x_)
def laws_FnExactEnoughStock.Pure : Prop := ∀ (a0_0 : Int) (a0_1 : Int) (l0_2 : List S159) (l0_3 : List S146) (l1 : List S84), B24 (⟨a0_0, a0_1, l0_2, l0_3⟩ : S24) → (l1.length ≤ maxLen ∧ ∀ x_ ∈ l1, B84 x_) → ∃ k, laws_FnExactEnoughStock.f k a0_0 a0_1 l0_2 l0_3 l1 = some true
end Go.Proofs.YtadjbffiomkljaaGreat.PFnExactEnoughStock

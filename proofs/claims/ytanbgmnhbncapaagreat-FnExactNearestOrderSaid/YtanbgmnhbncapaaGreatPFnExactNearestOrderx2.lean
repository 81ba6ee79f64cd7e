/- What each function that the law FnExactNearestOrder reaches comes to, and the proof that its walk comes to it; laid by a program of this session. No condition. -/
import Derived.Test.YtanbgmnhbncapaaGreatPFnExactNearestOrderx1
import Derived.KernelRfl
import Derived.OwnWalk
import Derived.Test.YtanbgmnhbncapaaGreatProg
set_option linter.unusedVariables false
set_option linter.unusedSimpArgs false
namespace Go.Proofs.YtanbgmnhbncapaaGreat.PFnExactNearestOrder
open Go Go.RowKit Go.Proofs.YtanbgmnhbncapaaGreatM Go.Proofs Go.Proofs.YtanbgmnhbncapaaGreat.SortP
/-! ### impl_FacesOfEdge: function 85 -/
mutual
def impl_FacesOfEdge.j0 : Nat → Int → Int → List S72 → Bool → Option ((List Int) × Int)
 | 0, _, _, _, _ => none
 | k + 1, x1, x2, y206_3, x29 => if x29 = true then (some (([] : List Int), 2)) else (impl_FacesOfEdge.l0 k x1 x2 (([] : List Int) : List Int) y206_3 (y206_3.length : Int) 0)
def impl_FacesOfEdge.l0 : Nat → Int → Int → List Int → List S72 → Int → Int → Option ((List Int) × Int)
 | 0, _, _, _, _, _, _ => none
 | k + 1, x1, x2, x8, x32, x33, x34 => if x34 < x33 then (if 0 ≤ x34 then (if x34 < (x32.length : Int) then ((impl_ringEdges.f k ((rd72 x32 x34).f1)).bind fun t14 => ((slices_Contains_2_int64_2_int64.f k t14 (mn x1 x2) (mx x1 x2)).bind fun t16 => (if t16 = true then (if x8.length < 17592186044416 then (impl_FacesOfEdge.l0 k x1 x2 (x8 ++ [x34]) x32 x33 (wrap64 (x34 + 1))) else (none)) else (impl_FacesOfEdge.l0 k x1 x2 x8 x32 x33 (wrap64 (x34 + 1)))))) else (none)) else (none)) else (some (x8, 0))
end
def impl_FacesOfEdge.f (k : Nat) (a0_0 : Int) (a0_1 : Int) (l0_2 : List S50) (l0_3 : List S72) (a1 : Int) (a2 : Int) : Option ((List Int) × Int) := (impl_ValidDrawing.f k a0_0 a0_1 l0_2 l0_3).bind fun t1 => (if t1 = true then ((impl_within.f a1 0 (wrap64 ((l0_2.length : Int) - 1))).bind fun t4 => (if t4 = true then ((impl_within.f a2 0 (wrap64 ((l0_2.length : Int) - 1))).bind fun t7 => (impl_FacesOfEdge.j0 k a1 a2 l0_3 (!t7))) else (impl_FacesOfEdge.j0 k a1 a2 l0_3 true))) else (some (([] : List Int), 1)))
set_option maxRecDepth 100000 in
theorem impl_FacesOfEdge.ok {k : Nat} {a0_0 : Int} {a0_1 : Int} {l0_2 : List S50} {l0_3 : List S72} {a1 : Int} {a2 : Int} {r0 : List Int} {r1 : Int} (H : impl_FacesOfEdge.f k a0_0 a0_1 l0_2 l0_3 a1 a2 = some (r0, r1)) : OkF Tryz.prog 85 [.agg [.d (.v (.int .i64 a0_0)), .d (.v (.int .i64 a0_1)), .d (.row 51 (l0_2.map c50)), .d (.row 76 (l0_3.map c72))], vI a1, vI a2] [] (.tup [.c (.own 100 r0.length), .c (.d (.v (.int .i64 r1)))]) [(100, .row 2 (r0.map c2))] := by
 unfold impl_FacesOfEdge.f at H
 refine OkF.of (N := 56) (rs := [6, 7]) (avs := [.c (.own 100 r0.length), .c (.d (.v (.int .i64 r1)))]) Tryz.func85 rfl rfl (fun _ _ => results_tmp2 rfl _ _ _) (by decide) rfl rfl rfl rfl (fun w0 S => ?_)
 refine AG.seq ?_
 refine AG.region HM ?_
 refine a_box 200 ?_
 refine a_nilO (e := 2) 201 ?_ T2
 refine a_move (v := vI _) ?_
 refine RA.nil nofun ?_
 refine AG.seq ?_
 refine AG.seq ?_
 refine AG.region HM ?_
 refine a_ldB (v := .agg [_, _, _, _]) ?_ T33
 obtain ⟨t1, e2, H⟩ := bindO H
 refine a_call (v := vB t1) (nk := []) (L := []) ?_ rfl (impl_ValidDrawing.ok e2) id (qg qn) trivial trivial trivial rfl
 refine a_un (u := .bool (!t1)) ?_
 refine RA.nil nofun ?_
 by_cases hc3 : t1 = true
 ·rw [if_pos hc3] at H
  refine AG.no rfl (congrArg Bool.not hc3) ?_
  refine AG.skip ?_
  refine AG.seq ?_
  refine AG.seq ?_
  refine AG.joinR (fun s => ∃ q, q ≤ k ∧ ∃ (x1 : Int) (x2 : Int) (y206_0 : Int) (y206_1 : Int) (y206_2 : List S50) (y206_3 : List S72) (x29 : Bool), impl_FacesOfEdge.j0 q x1 x2 y206_3 x29 = some (r0, r1) ∧ s = St.of [(1, vI x1), (2, vI x2), (3, .c (.ptr 206 0)), (29, vB x29)] [(206, .box 33 [.d (.v (.int .i64 y206_0)), .d (.v (.int .i64 y206_1)), .d (.row 51 (y206_2.map c50)), .d (.row 76 (y206_3.map c72))])]) ?_ ?_
  ·skip
   refine AG.region HM ?_
   refine a_move (v := vI _) ?_
   refine a_faB (q := 2) ?_ D33_2
   refine a_ldB (v := vR _ _) ?_ T30
   refine a_lenR ?_ Tryz.underlying30
   refine a_int (u := .int .i64 (wrap64 ((l0_2.length : Int) - 1))) ?_
   obtain ⟨t4, e5, H⟩ := bindO H
   refine a_call (v := vB t4) (nk := []) (L := []) ?_ rfl (impl_within.ok e5) id (qd (qd (qd qn))) trivial trivial trivial rfl
   refine a_un (u := .bool (!t4)) ?_
   refine a_move (v := vB _) ?_
   by_cases hc6 : t4 = true
   ·rw [if_pos hc6] at H
    refine a_move (v := vI _) ?_ (hg := Gs.yes rfl rfl rfl (congrArg Bool.not hc6))
    refine a_faB (q := 2) ?_ D33_2 (hg := Gs.yes rfl rfl rfl (congrArg Bool.not hc6))
    refine a_ldB (v := vR _ _) ?_ T30 (hg := Gs.yes rfl rfl rfl (congrArg Bool.not hc6))
    refine a_lenR ?_ Tryz.underlying30 (hg := Gs.yes rfl rfl rfl (congrArg Bool.not hc6))
    refine a_int (u := .int .i64 (wrap64 ((l0_2.length : Int) - 1))) ?_ (hg := Gs.yes rfl rfl rfl (congrArg Bool.not hc6))
    obtain ⟨t7, e8, H⟩ := bindO H
    refine a_call (v := vB t7) (nk := []) (L := []) ?_ rfl (impl_within.ok e8) id (qd (qd (qd qn))) trivial trivial trivial rfl (hg := Gs.yes rfl rfl rfl (congrArg Bool.not hc6))
    refine a_un (u := .bool (!t7)) ?_ (hg := Gs.yes rfl rfl rfl (congrArg Bool.not hc6))
    refine a_pick (b := false) (v := vB _) ?_ (congrArg Bool.not hc6)
    refine RA.nil nofun ?_
    exact CanR.mk (fun κ => cond (Nat.beq κ 206) 200 (κ)) ⟨_, (by omega), _, _, _, _, _, _, _, H, rfl⟩ ⟨rfl, rfl, rfl, rfl, trivial⟩ ⟨rfl, trivial⟩ rfl
   ·rw [if_neg hc6] at H
    refine RA.skip rfl rfl rfl rfl rfl (congrArg Bool.not (Bool.eq_false_iff.2 hc6)) (by decide) ?_
    refine RA.skip rfl rfl rfl rfl rfl (congrArg Bool.not (Bool.eq_false_iff.2 hc6)) (by decide) ?_
    refine RA.skip rfl rfl rfl rfl rfl (congrArg Bool.not (Bool.eq_false_iff.2 hc6)) (by decide) ?_
    refine RA.skip rfl rfl rfl rfl rfl (congrArg Bool.not (Bool.eq_false_iff.2 hc6)) (by decide) ?_
    refine RA.skip rfl rfl rfl rfl rfl (congrArg Bool.not (Bool.eq_false_iff.2 hc6)) (by decide) ?_
    refine RA.skip rfl rfl rfl rfl rfl (congrArg Bool.not (Bool.eq_false_iff.2 hc6)) (by decide) ?_
    refine RA.skip rfl rfl rfl rfl rfl (congrArg Bool.not (Bool.eq_false_iff.2 hc6)) (by decide) ?_
    refine a_pick (b := true) (v := vB _) ?_ (congrArg Bool.not (Bool.eq_false_iff.2 hc6))
    refine RA.nil nofun ?_
    exact CanR.mk (fun κ => cond (Nat.beq κ 206) 200 (κ)) ⟨_, (by omega), _, _, _, _, _, _, _, H, rfl⟩ ⟨rfl, rfl, rfl, rfl, trivial⟩ ⟨rfl, trivial⟩ rfl
  ·clear H
   rintro _ ⟨k, hj0, x1, x2, y206_0, y206_1, y206_2, y206_3, x29, H, rfl⟩
   cases k with
   | zero => cases H
   | succ k =>
    rw [impl_FacesOfEdge.j0] at H
    by_cases hc9 : x29 = true
    ·rw [if_pos hc9] at H
     refine AG.yes rfl hc9 ?_
     refine AG.seq ?_
     refine AG.region HM ?_
     refine a_nilO (e := 2) 207 ?_ T2
     refine a_move (v := vI _) ?_
     refine RA.nil nofun ?_
     refine AG.ret ?_
     simp only [Option.some.injEq, Prod.mk.injEq] at H
     obtain ⟨rfl, rfl⟩ := H
     exact RetP.mk (fun κ => cond (Nat.beq κ 100) 207 (κ)) ⟨(ownE rfl (by simp)), rfl, trivial⟩ ⟨rfl, trivial⟩ rfl
    ·rw [if_neg hc9] at H
     refine AG.no rfl (Bool.eq_false_iff.2 hc9) ?_
     refine AG.skip ?_
     refine AG.seq ?_
     refine AG.region HM ?_
     refine a_lit (cs := []) (D := []) (css := (([] : List Int) : List Int).map c2) 208 ?_ N27 T2 (hcss := by rfl)
     refine a_move (v := .c (.own _ _)) ?_
     refine RA.nil nofun ?_
     refine AG.seq ?_
     refine AG.seq ?_
     refine AG.region HM ?_
     refine a_faB (q := 3) ?_ D33_3
     refine a_ldB (v := vR _ _) ?_ T31
     refine a_lenR ?_ Tryz.underlying31
     refine a_move (v := vI _) ?_
     refine RA.nil nofun ?_
     refine AG.block ?_
     refine AG.loop ?_
     obtain ⟨K0, hK0, gK0⟩ : ∃ K, k ≤ K ∧ K ≤ k := ⟨k, Nat.le_refl k, Nat.le_refl k⟩
     refine AGr.canon (fun κ => cond (Nat.beq κ 209) 208 (κ)) (AGr.loopI (n := k) (fun k s => k ≤ K0 ∧ ∃ (x1 : Int) (x2 : Int) (x8 : List Int) (x32 : List S72) (x33 : Int) (x34 : Int), impl_FacesOfEdge.l0 k x1 x2 x8 x32 x33 x34 = some (r0, r1) ∧ s = St.of [(1, vI x1), (2, vI x2), (8, .c (.own 209 x8.length)), (32, vR 76 (x32.map c72)), (33, vI x33), (34, vI x34)] [(209, .row 2 (x8.map c2))]) ⟨hK0, _, _, _, _, _, _, H, rfl⟩ ?_ ?_) ⟨rfl, rfl, (ownE rfl (by simp)), rfl, rfl, rfl, trivial⟩ ⟨rfl, trivial⟩ rfl
     ·rintro _ ⟨_, _, _, _, _, _, _, H, _⟩
      cases H
     ·clear H hK0
      rintro k ih0 _ ⟨hK0, x1, x2, x8, x32, x33, x34, H, rfl⟩
      unfold impl_FacesOfEdge.l0 at H
      refine AG.seq ?_
      refine AG.region HM ?_
      refine a_int (u := .bool (decide (x34 < x33))) ?_
      refine RA.nil nofun ?_
      refine AG.seq ?_
      by_cases hc11 : x34 < x33
      ·rw [if_pos hc11] at H
       refine AG.yes rfl (decide_eq_true hc11) ?_
       refine AG.skip ?_
       refine AG.seq ?_
       refine AG.block ?_
       refine AG.seq ?_
       refine AG.region HM ?_
       refine a_move (v := vI _) ?_
       by_cases hc12 : 0 ≤ x34
       ·rw [if_pos hc12] at H
        by_cases hc13 : x34 < (x32.length : Int)
        ·rw [if_pos hc13] at H
         refine a_ixR (el := c72 (rd72 x32 x34)) ?_ ⟨hc12, hc13⟩ T76 Tryz.underlying31 (hel := R72 hc12 hc13)
         refine a_ldR (v := .agg [_, _]) ?_ T76
         refine a_alloc (cs := [_, _]) 210 ?_ T76
         refine a_move (v := vI _) ?_
         refine a_stB (cs' := [_, _]) ?_ T76
         refine RA.nil nofun ?_
         refine AG.seq ?_
         refine AG.region HM ?_
         refine a_faB (q := 1) ?_ D76_1
         refine a_ldB (v := vR _ _) ?_ T27
         obtain ⟨t14, e15, H⟩ := bindO H
         refine a_call (v := .c (.own 211 t14.length)) (nk := [(211, .row 89 (t14.map c89))]) (L := []) ?_ rfl (impl_ringEdges.ok e15) (fun κ => cond (Nat.beq κ 211) 100 (κ)) (qd qn) trivial ⟨rfl, trivial⟩ ⟨rfl, trivial⟩ rfl
         refine a_move (v := vI _) ?_
         refine a_move (v := vI _) ?_
         refine a_minmax (mx := false) (r := mn x1 x2) ?_
         refine a_move (v := vI _) ?_
         refine a_move (v := vI _) ?_
         refine a_minmax (mx := true) (r := mx x1 x2) ?_
         refine a_buildA (cs := [_, _]) ?_ T89 Tryz.underlying89 T2 rfl
         obtain ⟨t16, e17, H⟩ := bindO H
         refine a_call (v := vB t16) (nk := []) (L := [(211, _)]) ?_ rfl (slices_Contains_2_int64_2_int64.ok e17) id (qc rO (qg qn)) ⟨rfl, trivial⟩ trivial trivial rfl
         refine RA.nil nofun ?_
         by_cases hc18 : t16 = true
         ·rw [if_pos hc18] at H
          refine AG.yes rfl hc18 ?_
          refine AG.region HM ?_
          refine a_move (v := .c (.own _ _)) ?_
          refine a_move (v := vI _) ?_
          refine a_lit (cs := [_]) (D := []) (css := ([x34]).map c2) 213 ?_ N27 T2
          by_cases hc19 : x8.length < 17592186044416
          ·rw [if_pos hc19] at H
           refine a_appO (css' := (x8 ++ [x34]).map c2) (n' := (x8 ++ [x34]).length) ?_ T2 (by simp [maxLen]; omega) (by simp; omega) Tryz.underlying27 (hc := by exact List.map_append.symm) (hn := by exact List.length_map _)
           refine a_move (v := .c (.own _ _)) ?_
           refine RA.nil nofun ?_
           refine AG.region HM ?_
           refine a_int (u := .int .i64 (wrap64 (x34 + 1))) ?_
           refine a_move (v := vI _) ?_
           refine RA.nil nofun ?_
           exact AGr.canon id (ih0 _ (by omega) _ ⟨by omega, _, _, _, _, _, _, H, rfl⟩) ⟨rfl, rfl, rfl, rfl, rfl, rfl, trivial⟩ ⟨rfl, trivial⟩ rfl
          ·rw [if_neg hc19] at H
           cases H
         ·rw [if_neg hc18] at H
          refine AG.no rfl (Bool.eq_false_iff.2 hc18) ?_
          refine AG.skip ?_
          refine AG.region HM ?_
          refine a_int (u := .int .i64 (wrap64 (x34 + 1))) ?_
          refine a_move (v := vI _) ?_
          refine RA.nil nofun ?_
          exact AGr.canon id (ih0 _ (by omega) _ ⟨by omega, _, _, _, _, _, _, H, rfl⟩) ⟨rfl, rfl, rfl, rfl, rfl, rfl, trivial⟩ ⟨rfl, trivial⟩ rfl
        ·rw [if_neg hc13] at H
         cases H
       ·rw [if_neg hc12] at H
        cases H
      ·rw [if_neg hc11] at H
       refine AG.no rfl (decide_eq_false hc11) ?_
       refine AG.exit ?_
       refine AG.seq ?_
       refine AG.region HM ?_
       refine a_move (v := .c (.own _ _)) ?_
       refine a_move (v := .c (.own _ _)) ?_
       refine a_move (v := vI _) ?_
       refine RA.nil nofun ?_
       refine AG.ret ?_
       simp only [Option.some.injEq, Prod.mk.injEq] at H
       obtain ⟨rfl, rfl⟩ := H
       exact RetP.mk (fun κ => cond (Nat.beq κ 100) 209 (κ)) ⟨rfl, rfl, trivial⟩ ⟨rfl, trivial⟩ rfl
 ·rw [if_neg hc3] at H
  refine AG.yes rfl (congrArg Bool.not (Bool.eq_false_iff.2 hc3)) ?_
  refine AG.seq ?_
  refine AG.region HM ?_
  refine a_nilO (e := 2) 203 ?_ T2
  refine a_move (v := vI _) ?_
  refine RA.nil nofun ?_
  refine AG.ret ?_
  simp only [Option.some.injEq, Prod.mk.injEq] at H
  obtain ⟨rfl, rfl⟩ := H
  exact RetP.mk (fun κ => cond (Nat.beq κ 100) 203 (κ)) ⟨(ownE rfl (by simp)), rfl, trivial⟩ ⟨rfl, trivial⟩ rfl
/-! ### impl_edgeFaces: function 57 -/
def impl_edgeFaces.l0 : Nat → Int → Int → List S50 → List S72 → List (List Int) → List (List Int) → Int → Int → Option ((List (List Int)) × (List (List Int)))
 | 0, _, _, _, _, _, _, _, _ => none
 | k + 1, y205_0, y205_1, y205_2, y205_3, x4, x6, x18, x19 => if x19 < x18 then (if 0 ≤ x19 then (if x19 < (x4.length : Int) then (if 0 < ((rd27 x4 x19).length : Int) then (if 1 < ((rd27 x4 x19).length : Int) then ((impl_FacesOfEdge.f k y205_0 y205_1 y205_2 y205_3 (rd2 (rd27 x4 x19) 0) (rd2 (rd27 x4 x19) 1)).bind fun bt10 => (if x6.length < 5864062014805 then (impl_edgeFaces.l0 k y205_0 y205_1 y205_2 y205_3 x4 (x6 ++ [bt10.1]) x18 (wrap64 (x19 + 1))) else (none))) else (none)) else (none)) else (none)) else (none)) else (some (x4, x6))
def impl_edgeFaces.f (k : Nat) (a0_0 : Int) (a0_1 : Int) (l0_2 : List S50) (l0_3 : List S72) : Option ((List (List Int)) × (List (List Int))) := (impl_EdgesOf.f k a0_0 a0_1 l0_2 l0_3).bind fun bt1 => (impl_edgeFaces.l0 k a0_0 a0_1 l0_2 l0_3 bt1.1 (([] : List (List Int)) : List (List Int)) (bt1.1.length : Int) 0)
set_option maxRecDepth 100000 in
theorem impl_edgeFaces.ok {k : Nat} {a0_0 : Int} {a0_1 : Int} {l0_2 : List S50} {l0_3 : List S72} {r0 : List (List Int)} {r1 : List (List Int)} (H : impl_edgeFaces.f k a0_0 a0_1 l0_2 l0_3 = some (r0, r1)) : OkF Tryz.prog 57 [.agg [.d (.v (.int .i64 a0_0)), .d (.v (.int .i64 a0_1)), .d (.row 51 (l0_2.map c50)), .d (.row 76 (l0_3.map c72))]] [] (.tup [.c (.own 100 r0.length), .c (.own 101 r1.length)]) [(100, .row 27 (r0.map c27)), (101, .row 27 (r1.map c27))] := by
 unfold impl_edgeFaces.f at H
 refine OkF.of (N := 41) (rs := [2, 3]) (avs := [.c (.own 100 r0.length), .c (.own 101 r1.length)]) Tryz.func57 rfl rfl (fun _ _ => results_tmp2 rfl _ _ _) (by decide) rfl rfl rfl rfl (fun w0 S => ?_)
 refine AG.seq ?_
 refine AG.region HM ?_
 refine a_box 200 ?_
 refine a_nilO (e := 27) 201 ?_ T27
 refine a_nilO (e := 27) 202 ?_ T27
 refine RA.nil nofun ?_
 refine AG.seq ?_
 refine AG.region HM ?_
 refine a_ldB (v := .agg [_, _, _, _]) ?_ T33
 obtain ⟨⟨t1, t2⟩, e3, H⟩ := bindO H
 refine a_call (v := .tup [.c (.own 203 t1.length), .c (.d (.v (.int .i64 t2)))]) (nk := [(203, .row 27 (t1.map c27))]) (L := []) ?_ rfl (impl_EdgesOf.ok e3) (fun κ => cond (Nat.beq κ 203) 100 (κ)) (qg qn) trivial ⟨rfl, trivial⟩ ⟨rfl, trivial⟩ rfl
 refine a_move (v := .tup [_, _]) ?_
 refine a_ext (v := .c (.own _ _)) ?_
 refine a_ext (v := vI _) ?_
 refine a_move (v := .c (.own _ _)) ?_
 refine a_move (v := vI _) ?_
 refine RA.nil nofun ?_
 refine AG.seq ?_
 refine AG.region HM ?_
 refine a_lit (cs := []) (D := []) (css := (([] : List (List Int)) : List (List Int)).map c27) 204 ?_ N46 T27 (hcss := by rfl)
 refine a_move (v := .c (.own _ _)) ?_
 refine RA.nil nofun ?_
 refine AG.seq ?_
 refine AG.seq ?_
 refine AG.region HM ?_
 refine a_move (v := .c (.own _ _)) ?_
 refine a_lenO ?_ Tryz.underlying46
 refine a_move (v := vI _) ?_
 refine RA.nil nofun ?_
 refine AG.block ?_
 refine AG.loop ?_
 obtain ⟨K0, hK0, gK0⟩ : ∃ K, k ≤ K ∧ K ≤ k := ⟨k, Nat.le_refl k, Nat.le_refl k⟩
 refine AGr.canon (fun κ => cond (Nat.beq κ 205) 200 (cond (Nat.beq κ 206) 203 (cond (Nat.beq κ 207) 204 (κ)))) (AGr.loopI (n := k) (fun k s => k ≤ K0 ∧ ∃ (y205_0 : Int) (y205_1 : Int) (y205_2 : List S50) (y205_3 : List S72) (x4 : List (List Int)) (x6 : List (List Int)) (x18 : Int) (x19 : Int), impl_edgeFaces.l0 k y205_0 y205_1 y205_2 y205_3 x4 x6 x18 x19 = some (r0, r1) ∧ s = St.of [(1, .c (.ptr 205 0)), (4, .c (.own 206 x4.length)), (6, .c (.own 207 x6.length)), (17, .c (.own 206 x4.length)), (18, vI x18), (19, vI x19)] [(205, .box 33 [.d (.v (.int .i64 y205_0)), .d (.v (.int .i64 y205_1)), .d (.row 51 (y205_2.map c50)), .d (.row 76 (y205_3.map c72))]), (206, .row 27 (x4.map c27)), (207, .row 27 (x6.map c27))]) ⟨hK0, _, _, _, _, _, _, _, _, H, rfl⟩ ?_ ?_) ⟨rfl, rfl, (ownE rfl (by simp)), rfl, rfl, rfl, trivial⟩ ⟨rfl, rfl, rfl, trivial⟩ rfl
 ·rintro _ ⟨_, _, _, _, _, _, _, _, _, H, _⟩
  cases H
 ·clear H hK0
  rintro k ih0 _ ⟨hK0, y205_0, y205_1, y205_2, y205_3, x4, x6, x18, x19, H, rfl⟩
  unfold impl_edgeFaces.l0 at H
  refine AG.seq ?_
  refine AG.region HM ?_
  refine a_int (u := .bool (decide (x19 < x18))) ?_
  refine RA.nil nofun ?_
  refine AG.seq ?_
  by_cases hc5 : x19 < x18
  ·rw [if_pos hc5] at H
   refine AG.yes rfl (decide_eq_true hc5) ?_
   refine AG.skip ?_
   refine AG.seq ?_
   refine AG.block ?_
   refine AG.seq ?_
   refine AG.region HM ?_
   by_cases hc6 : 0 ≤ x19
   ·rw [if_pos hc6] at H
    by_cases hc7 : x19 < (x4.length : Int)
    ·rw [if_pos hc7] at H
     refine a_ixO ?_ ⟨hc6, hc7⟩ T27 Tryz.underlying46
     refine a_ldE (v := .c (.sub _ _ _ _)) ?_ (G27 hc6 hc7) T27
     refine a_move (v := .c (.sub _ _ _ _)) ?_
     refine RA.nil nofun ?_
     refine AG.seq ?_
     refine AG.region HM ?_
     refine a_ldB (v := .agg [_, _, _, _]) ?_ T33
     refine a_move (v := .c (.sub _ _ _ _)) ?_
     by_cases hc8 : 0 < ((rd27 x4 x19).length : Int)
     ·rw [if_pos hc8] at H
      refine a_ixS (iv := 0) (css1 := (rd27 x4 x19).map c2) ?_ ⟨(by decide), by rw [List.length_map]; exact hc8⟩ (G27 hc6 hc7) T2 Tryz.underlying27
      refine a_ldS (l := (0 : Int).toNat) (off := 0) (v := vI _) ?_ (G27 hc6 hc7) (G2 (by decide) hc8) T2 T2 rfl
      refine a_move (v := .c (.sub _ _ _ _)) ?_
      by_cases hc9 : 1 < ((rd27 x4 x19).length : Int)
      ·rw [if_pos hc9] at H
       refine a_ixS (iv := 1) (css1 := (rd27 x4 x19).map c2) ?_ ⟨(by decide), by rw [List.length_map]; exact hc9⟩ (G27 hc6 hc7) T2 Tryz.underlying27
       refine a_ldS (l := (1 : Int).toNat) (off := 0) (v := vI _) ?_ (G27 hc6 hc7) (G2 (by decide) hc9) T2 T2 rfl
       obtain ⟨⟨t10, t11⟩, e12, H⟩ := bindO H
       refine a_call (v := .tup [.c (.own 208 t10.length), .c (.d (.v (.int .i64 t11)))]) (nk := [(208, .row 2 (t10.map c2))]) (L := []) ?_ rfl (impl_FacesOfEdge.ok e12) (fun κ => cond (Nat.beq κ 208) 100 (κ)) (qg (qd (qd qn))) trivial ⟨rfl, trivial⟩ ⟨rfl, trivial⟩ rfl
       refine a_move (v := .tup [_, _]) ?_
       refine a_ext (v := .c (.own _ _)) ?_
       refine a_ext (v := vI _) ?_
       refine a_move (v := .c (.own _ _)) ?_
       refine a_move (v := vI _) ?_
       refine RA.nil (fun _ => by kernel_rfl) ?_
       refine AG.region HM ?_
       refine a_move (v := .c (.own _ _)) ?_
       refine a_move (v := .c (.own _ _)) ?_
       refine a_lit (cs := [_]) (D := [208]) (css := ([t10]).map c27) 209 ?_ N46 T27
       by_cases hc13 : x6.length < 5864062014805
       ·rw [if_pos hc13] at H
        refine a_appO (css' := (x6 ++ [t10]).map c27) (n' := (x6 ++ [t10]).length) ?_ T27 (by simp [maxLen]; omega) (by simp; omega) Tryz.underlying46 (hc := by exact List.map_append.symm) (hn := by exact List.length_map _)
        refine a_move (v := .c (.own _ _)) ?_
        refine RA.nil nofun ?_
        refine AG.region HM ?_
        refine a_int (u := .int .i64 (wrap64 (x19 + 1))) ?_
        refine a_move (v := vI _) ?_
        refine RA.nil nofun ?_
        exact AGr.canon id (ih0 _ (by omega) _ ⟨by omega, _, _, _, _, _, _, _, _, H, rfl⟩) ⟨rfl, rfl, rfl, rfl, rfl, rfl, trivial⟩ ⟨rfl, rfl, rfl, trivial⟩ rfl
       ·rw [if_neg hc13] at H
        cases H
      ·rw [if_neg hc9] at H
       cases H
     ·rw [if_neg hc8] at H
      cases H
    ·rw [if_neg hc7] at H
     cases H
   ·rw [if_neg hc6] at H
    cases H
  ·rw [if_neg hc5] at H
   refine AG.no rfl (decide_eq_false hc5) ?_
   refine AG.exit ?_
   refine AG.seq ?_
   refine AG.region HM ?_
   refine a_move (v := .c (.own _ _)) ?_
   refine a_move (v := .c (.own _ _)) ?_
   refine a_move (v := .c (.own _ _)) ?_
   refine a_move (v := .c (.own _ _)) ?_
   refine RA.nil nofun ?_
   refine AG.ret ?_
   simp only [Option.some.injEq, Prod.mk.injEq] at H
   obtain ⟨rfl, rfl⟩ := H
   exact RetP.mk (fun κ => cond (Nat.beq κ 100) 206 (cond (Nat.beq κ 101) 207 (κ))) ⟨rfl, rfl, trivial⟩ ⟨rfl, rfl, trivial⟩ rfl
/-! ### impl_neighbours_1: function 108 -/
def impl_neighbours_1.f (k : Nat) (a0_0 : Int) (a0_1 : Int) (v_0_0 : List (List S89)) (v_1_0 : Int) : Option (Bool) := if 0 ≤ v_1_0 then (if v_1_0 < (v_0_0.length : Int) then ((slices_Contains_2_int64_2_int64.f k (rd86 v_0_0 v_1_0) a0_0 a0_1).bind fun t3 => (some t3)) else (none)) else (none)
set_option maxRecDepth 100000 in
theorem impl_neighbours_1.ok {k : Nat} {a0_0 : Int} {a0_1 : Int} {v_0_0 : List (List S89)} {v_1_0 : Int} {r : Bool} (H : impl_neighbours_1.f k a0_0 a0_1 v_0_0 v_1_0 = some r) : OkF Tryz.prog 108 [.agg [.d (.v (.int .i64 a0_0)), .d (.v (.int .i64 a0_1))], .c (.d (.ro [.row 86 (v_0_0.map c86)])), .c (.d (.ro [.v (.int .i64 v_1_0)]))] [] (.c (.d (.v (.bool r)))) [] := by
 unfold impl_neighbours_1.f at H
 refine OkF.of (N := 11) (rs := [4]) (avs := [.c (.d (.v (.bool r)))]) Tryz.func108 rfl rfl (fun _ _ => results_tmp rfl _ _ _) (by decide) rfl rfl rfl rfl (fun w0 S => ?_)
 refine AG.seq ?_
 refine AG.region HM ?_
 refine a_box 200 ?_
 refine a_move (v := vB _) ?_
 refine RA.nil nofun ?_
 refine AG.seq ?_
 refine AG.region HM ?_
 refine a_ldR (v := vR _ _) ?_ T130
 refine a_ldR (v := vI _) ?_ T3
 by_cases hc1 : 0 ≤ v_1_0
 ·rw [if_pos hc1] at H
  by_cases hc2 : v_1_0 < (v_0_0.length : Int)
  ·rw [if_pos hc2] at H
   refine a_ixR (el := c86 (rd86 v_0_0 v_1_0)) ?_ ⟨hc1, hc2⟩ T86 Tryz.underlying130 (hel := R86 hc1 hc2)
   refine a_ldR (v := vR _ _) ?_ T86
   refine a_ldB (v := .agg [_, _]) ?_ T89
   obtain ⟨t3, e4, H⟩ := bindO H
   refine a_call (v := vB t3) (nk := []) (L := []) ?_ rfl (slices_Contains_2_int64_2_int64.ok e4) id (qd (qg qn)) trivial trivial trivial rfl
   refine a_move (v := vB _) ?_
   refine RA.nil (fun _ => by kernel_rfl) ?_
   refine AG.ret ?_
   obtain rfl := Option.some.inj H
   exact RetP.mk id ⟨rfl, trivial⟩ trivial rfl
  ·rw [if_neg hc2] at H
   cases H
 ·rw [if_neg hc1] at H
  cases H
/-! ### slices_IndexFunc_2_int64_2_int64__impl_neighbours_1: function 120 -/
def slices_IndexFunc_2_int64_2_int64__impl_neighbours_1.l0 : Nat → List S89 → List (List S89) → Int → Int → Int → Option (Int)
 | 0, _, _, _, _, _ => none
 | k + 1, x0, x1_0_0, x1_1_0, x7, x8 => if x8 < x7 then (if 0 ≤ x8 then (if x8 < (x0.length : Int) then ((impl_neighbours_1.f k ((rd89 x0 x8).f0) ((rd89 x0 x8).f1) x1_0_0 x1_1_0).bind fun t4 => (if t4 = true then (some x8) else (slices_IndexFunc_2_int64_2_int64__impl_neighbours_1.l0 k x0 x1_0_0 x1_1_0 x7 (wrap64 (x8 + 1))))) else (none)) else (none)) else (some (-1))
def slices_IndexFunc_2_int64_2_int64__impl_neighbours_1.f (k : Nat) (l0 : List S89) (v1_0_0 : List (List S89)) (v1_1_0 : Int) : Option (Int) := slices_IndexFunc_2_int64_2_int64__impl_neighbours_1.l0 k l0 v1_0_0 v1_1_0 (l0.length : Int) 0
set_option maxRecDepth 100000 in
theorem slices_IndexFunc_2_int64_2_int64__impl_neighbours_1.ok {k : Nat} {l0 : List S89} {v1_0_0 : List (List S89)} {v1_1_0 : Int} {r : Int} (H : slices_IndexFunc_2_int64_2_int64__impl_neighbours_1.f k l0 v1_0_0 v1_1_0 = some r) : OkF Tryz.prog 120 [vR 89 (l0.map c89), .c (.d (.fn 108 [.ro [.row 86 (v1_0_0.map c86)], .ro [.v (.int .i64 v1_1_0)]]))] [] (.c (.d (.v (.int .i64 r)))) [] := by
 unfold slices_IndexFunc_2_int64_2_int64__impl_neighbours_1.f at H
 refine OkF.of (N := 19) (rs := [4]) (avs := [.c (.d (.v (.int .i64 r)))]) Tryz.func120 rfl rfl (fun _ _ => results_tmp rfl _ _ _) (by decide) rfl rfl rfl rfl (fun w0 S => ?_)
 refine AG.seq ?_
 refine AG.region HM ?_
 refine a_move (v := vI _) ?_
 refine RA.nil nofun ?_
 refine AG.seq ?_
 refine AG.seq ?_
 refine AG.region HM ?_
 refine a_move (v := vR _ _) ?_
 refine a_lenR ?_ Tryz.underlying86
 refine a_move (v := vI _) ?_
 refine RA.nil nofun ?_
 refine AG.block ?_
 refine AG.loop ?_
 obtain ⟨K0, hK0, gK0⟩ : ∃ K, k ≤ K ∧ K ≤ k := ⟨k, Nat.le_refl k, Nat.le_refl k⟩
 refine AGr.canon id (AGr.loopI (n := k) (fun k s => k ≤ K0 ∧ ∃ (x0 : List S89) (x1_0_0 : List (List S89)) (x1_1_0 : Int) (x7 : Int) (x8 : Int), slices_IndexFunc_2_int64_2_int64__impl_neighbours_1.l0 k x0 x1_0_0 x1_1_0 x7 x8 = some r ∧ s = St.of [(0, vR 89 (x0.map c89)), (1, .c (.d (.fn 108 [.ro [.row 86 (x1_0_0.map c86)], .ro [.v (.int .i64 x1_1_0)]]))), (7, vI x7), (8, vI x8)] []) ⟨hK0, _, _, _, _, _, H, rfl⟩ ?_ ?_) ⟨rfl, rfl, rfl, rfl, trivial⟩ trivial rfl
 ·rintro _ ⟨_, _, _, _, _, _, H, _⟩
  cases H
 ·clear H hK0
  rintro k ih0 _ ⟨hK0, x0, x1_0_0, x1_1_0, x7, x8, H, rfl⟩
  unfold slices_IndexFunc_2_int64_2_int64__impl_neighbours_1.l0 at H
  refine AG.seq ?_
  refine AG.region HM ?_
  refine a_int (u := .bool (decide (x8 < x7))) ?_
  refine RA.nil nofun ?_
  refine AG.seq ?_
  by_cases hc1 : x8 < x7
  ·rw [if_pos hc1] at H
   refine AG.yes rfl (decide_eq_true hc1) ?_
   refine AG.skip ?_
   refine AG.seq ?_
   refine AG.block ?_
   refine AG.seq ?_
   refine AG.region HM ?_
   refine a_move (v := vI _) ?_
   refine a_move (v := vI _) ?_
   refine RA.nil nofun ?_
   refine AG.seq ?_
   refine AG.region HM ?_
   refine a_move (v := .c (.d (.fn _ _))) ?_
   refine a_move (v := vR _ _) ?_
   refine a_move (v := vI _) ?_
   by_cases hc2 : 0 ≤ x8
   ·rw [if_pos hc2] at H
    by_cases hc3 : x8 < (x0.length : Int)
    ·rw [if_pos hc3] at H
     refine a_ixR (el := c89 (rd89 x0 x8)) ?_ ⟨hc2, hc3⟩ T89 Tryz.underlying86 (hel := R89 hc2 hc3)
     refine a_ldR (v := .agg [_, _]) ?_ T89
     obtain ⟨t4, e5, H⟩ := bindO H
     refine a_callW (v := vB t4) (nk := []) (L := []) ?_ rfl rfl (impl_neighbours_1.ok e5) id (qg qn) rfl trivial trivial trivial rfl
     refine RA.nil nofun ?_
     by_cases hc6 : t4 = true
     ·rw [if_pos hc6] at H
      refine AG.yes rfl hc6 ?_
      refine AG.seq ?_
      refine AG.region HM ?_
      refine a_move (v := vI _) ?_
      refine a_move (v := vI _) ?_
      refine RA.nil nofun ?_
      refine AG.ret ?_
      obtain rfl := Option.some.inj H
      exact RetP.mk id ⟨rfl, trivial⟩ trivial rfl
     ·rw [if_neg hc6] at H
      refine AG.no rfl (Bool.eq_false_iff.2 hc6) ?_
      refine AG.skip ?_
      refine AG.region HM ?_
      refine a_int (u := .int .i64 (wrap64 (x8 + 1))) ?_
      refine a_move (v := vI _) ?_
      refine RA.nil nofun ?_
      exact AGr.canon id (ih0 _ (by omega) _ ⟨by omega, _, _, _, _, _, H, rfl⟩) ⟨rfl, rfl, rfl, rfl, trivial⟩ trivial rfl
    ·rw [if_neg hc3] at H
     cases H
   ·rw [if_neg hc2] at H
    cases H
  ·rw [if_neg hc1] at H
   refine AG.no rfl (decide_eq_false hc1) ?_
   refine AG.exit ?_
   refine AG.seq ?_
   refine AG.region HM ?_
   refine a_move (v := vI _) ?_
   refine RA.nil nofun ?_
   refine AG.ret ?_
   obtain rfl := Option.some.inj H
   exact RetP.mk id ⟨rfl, trivial⟩ trivial rfl
/-! ### slices_ContainsFunc_2_int64_2_int64__impl_neighbours_1: function 107 -/
def slices_ContainsFunc_2_int64_2_int64__impl_neighbours_1.f (k : Nat) (l0 : List S89) (v1_0_0 : List (List S89)) (v1_1_0 : Int) : Option (Bool) := (slices_IndexFunc_2_int64_2_int64__impl_neighbours_1.f k l0 v1_0_0 v1_1_0).bind fun t1 => (some (decide (t1 ≥ 0)))
set_option maxRecDepth 100000 in
theorem slices_ContainsFunc_2_int64_2_int64__impl_neighbours_1.ok {k : Nat} {l0 : List S89} {v1_0_0 : List (List S89)} {v1_1_0 : Int} {r : Bool} (H : slices_ContainsFunc_2_int64_2_int64__impl_neighbours_1.f k l0 v1_0_0 v1_1_0 = some r) : OkF Tryz.prog 107 [vR 89 (l0.map c89), .c (.d (.fn 108 [.ro [.row 86 (v1_0_0.map c86)], .ro [.v (.int .i64 v1_1_0)]]))] [] (.c (.d (.v (.bool r)))) [] := by
 unfold slices_ContainsFunc_2_int64_2_int64__impl_neighbours_1.f at H
 refine OkF.of (N := 9) (rs := [4]) (avs := [.c (.d (.v (.bool r)))]) Tryz.func107 rfl rfl (fun _ _ => results_tmp rfl _ _ _) (by decide) rfl rfl rfl rfl (fun w0 S => ?_)
 refine AG.seq ?_
 refine AG.region HM ?_
 refine a_move (v := vB _) ?_
 refine RA.nil nofun ?_
 refine AG.seq ?_
 refine AG.region HM ?_
 refine a_move (v := vR _ _) ?_
 refine a_move (v := .c (.d (.fn _ _))) ?_
 obtain ⟨t1, e2, H⟩ := bindO H
 refine a_call (v := vI t1) (nk := []) (L := []) ?_ rfl (slices_IndexFunc_2_int64_2_int64__impl_neighbours_1.ok e2) id (qd (qd qn)) trivial trivial trivial rfl
 refine a_int (u := .bool (decide (t1 ≥ 0))) ?_
 refine a_move (v := vB _) ?_
 refine RA.nil nofun ?_
 refine AG.ret ?_
 obtain rfl := Option.some.inj H
 exact RetP.mk id ⟨rfl, trivial⟩ trivial rfl
/-! ### impl_neighbours: function 84 -/
mutual
def impl_neighbours.l0 : Nat → List (List S89) → List S72 → Int → Int → Option ((List (List Int)))
 | 0, _, _, _, _ => none
 | k + 1, y204_0, x11, x12, x13 => if x13 < x12 then (if 0 ≤ x13 then (if x13 < (x11.length : Int) then ((impl_ringEdges.f k ((rd72 x11 x13).f1)).bind fun t5 => (if y204_0.length < 5864062014805 then (impl_neighbours.l0 k (y204_0 ++ [t5]) x11 x12 (wrap64 (x13 + 1))) else (none))) else (none)) else (none)) else (if 0 ≤ (y204_0.length : Int) then (if ((y204_0.length : Int) : Int).toNat ≤ 11728124029610 then (impl_neighbours.l1 k y204_0 (List.replicate (((y204_0.length : Int) : Int).toNat) []) (y204_0.length : Int) 0) else (none)) else (none))
def impl_neighbours.l1 : Nat → List (List S89) → List (List Int) → Int → Int → Option ((List (List Int)))
 | 0, _, _, _, _ => none
 | k + 1, y210_0, x6, x28, x29 => if x29 < x28 then (impl_neighbours.l2 k y210_0 x6 x29 x28 x29 (y210_0.length : Int) 0) else (some x6)
def impl_neighbours.l2 : Nat → List (List S89) → List (List Int) → Int → Int → Int → Int → Int → Option ((List (List Int)))
 | 0, _, _, _, _, _, _, _ => none
 | k + 1, y213_0, x6, x7, x28, x29, x33, x34 => if x34 < x33 then (if x7 = x34 then (impl_neighbours.l2 k y213_0 x6 x7 x28 x29 x33 (wrap64 (x34 + 1))) else (if 0 ≤ x7 then (if x7 < (y213_0.length : Int) then ((slices_ContainsFunc_2_int64_2_int64__impl_neighbours_1.f k (rd86 y213_0 x7) y213_0 x34).bind fun t17 => (if t17 = true then (if x7 < (x6.length : Int) then (if (rd27 x6 x7).length < 17592186044416 then (impl_neighbours.l2 k y213_0 (x6.set (x7 : Int).toNat ((rd27 x6 x7) ++ [x34])) x7 x28 x29 x33 (wrap64 (x34 + 1))) else (none)) else (none)) else (impl_neighbours.l2 k y213_0 x6 x7 x28 x29 x33 (wrap64 (x34 + 1))))) else (none)) else (none))) else (impl_neighbours.l1 k y213_0 x6 x28 (wrap64 (x29 + 1)))
end
def impl_neighbours.f (k : Nat) (a0_0 : Int) (a0_1 : Int) (l0_2 : List S50) (l0_3 : List S72) : Option ((List (List Int))) := impl_neighbours.l0 k (([] : List (List S89)) : List (List S89)) l0_3 (l0_3.length : Int) 0
set_option maxRecDepth 100000 in
theorem impl_neighbours.ok {k : Nat} {a0_0 : Int} {a0_1 : Int} {l0_2 : List S50} {l0_3 : List S72} {r : List (List Int)} (H : impl_neighbours.f k a0_0 a0_1 l0_2 l0_3 = some r) : OkF Tryz.prog 84 [.agg [.d (.v (.int .i64 a0_0)), .d (.v (.int .i64 a0_1)), .d (.row 51 (l0_2.map c50)), .d (.row 76 (l0_3.map c72))]] [] (.c (.own 100 r.length)) [(100, .row 27 (r.map c27))] := by
 unfold impl_neighbours.f at H
 refine OkF.of (N := 61) (rs := [2]) (avs := [.c (.own 100 r.length)]) Tryz.func84 rfl rfl (fun _ _ => results_tmp rfl _ _ _) (by decide) rfl rfl rfl rfl (fun w0 S => ?_)
 refine AG.seq ?_
 refine AG.region HM ?_
 refine a_box 200 ?_
 refine a_nilO (e := 27) 201 ?_ T27
 refine RA.nil nofun ?_
 refine AG.seq ?_
 refine AG.region HM ?_
 refine a_lit (cs := []) (D := []) (css := (([] : List (List S89)) : List (List S89)).map c86) 202 ?_ N130 T86 (hcss := by rfl)
 refine a_alloc (cs := [_]) 203 ?_ T130
 refine a_stB (cs' := [_]) ?_ T130
 refine RA.nil nofun ?_
 refine AG.seq ?_
 refine AG.seq ?_
 refine AG.region HM ?_
 refine a_faB (q := 3) ?_ D33_3
 refine a_ldB (v := vR _ _) ?_ T31
 refine a_lenR ?_ Tryz.underlying31
 refine a_move (v := vI _) ?_
 refine RA.nil nofun ?_
 refine AG.block ?_
 refine AG.loop ?_
 obtain ⟨K0, hK0, gK0⟩ : ∃ K, k ≤ K ∧ K ≤ k := ⟨k, Nat.le_refl k, Nat.le_refl k⟩
 refine AGr.canon (fun κ => cond (Nat.beq κ 204) 203 (cond (Nat.beq κ 205) 202 (κ))) (AGr.loopI (n := k) (fun k s => k ≤ K0 ∧ ∃ (y204_0 : List (List S89)) (x11 : List S72) (x12 : Int) (x13 : Int), impl_neighbours.l0 k y204_0 x11 x12 x13 = some r ∧ s = St.of [(3, .c (.ptr 204 0)), (11, vR 76 (x11.map c72)), (12, vI x12), (13, vI x13)] [(204, .box 130 [.own 205 y204_0.length]), (205, .row 86 (y204_0.map c86))]) ⟨hK0, _, _, _, _, H, rfl⟩ ?_ ?_) ⟨rfl, rfl, rfl, rfl, trivial⟩ ⟨rfl, rfl, trivial⟩ rfl
 ·rintro _ ⟨_, _, _, _, _, H, _⟩
  cases H
 ·clear H hK0
  rintro k ih0 _ ⟨hK0, y204_0, x11, x12, x13, H, rfl⟩
  unfold impl_neighbours.l0 at H
  refine AG.seq ?_
  refine AG.region HM ?_
  refine a_int (u := .bool (decide (x13 < x12))) ?_
  refine RA.nil nofun ?_
  refine AG.seq ?_
  by_cases hc2 : x13 < x12
  ·rw [if_pos hc2] at H
   refine AG.yes rfl (decide_eq_true hc2) ?_
   refine AG.skip ?_
   refine AG.seq ?_
   refine AG.block ?_
   refine AG.seq ?_
   refine AG.region HM ?_
   by_cases hc3 : 0 ≤ x13
   ·rw [if_pos hc3] at H
    by_cases hc4 : x13 < (x11.length : Int)
    ·rw [if_pos hc4] at H
     refine a_ixR (el := c72 (rd72 x11 x13)) ?_ ⟨hc3, hc4⟩ T76 Tryz.underlying31 (hel := R72 hc3 hc4)
     refine a_ldR (v := .agg [_, _]) ?_ T76
     refine a_alloc (cs := [_, _]) 206 ?_ T76
     refine a_stB (cs' := [_, _]) ?_ T76
     refine RA.nil nofun ?_
     refine AG.region HM ?_
     refine a_ldB (v := .c (.own _ _)) ?_ T130
     refine a_faB (q := 1) ?_ D76_1
     refine a_ldB (v := vR _ _) ?_ T27
     obtain ⟨t5, e6, H⟩ := bindO H
     refine a_call (v := .c (.own 207 t5.length)) (nk := [(207, .row 89 (t5.map c89))]) (L := []) ?_ rfl (impl_ringEdges.ok e6) (fun κ => cond (Nat.beq κ 207) 100 (κ)) (qd qn) trivial ⟨rfl, trivial⟩ ⟨rfl, trivial⟩ rfl
     refine a_lit (cs := [_]) (D := [207]) (css := ([t5]).map c86) 208 ?_ N130 T86
     by_cases hc7 : y204_0.length < 5864062014805
     ·rw [if_pos hc7] at H
      refine a_appO (css' := (y204_0 ++ [t5]).map c86) (n' := (y204_0 ++ [t5]).length) ?_ T86 (by simp [maxLen]; omega) (by simp; omega) Tryz.underlying130 (hc := by exact List.map_append.symm) (hn := by exact List.length_map _)
      refine a_stB (cs' := [_]) ?_ T130
      refine RA.nil (fun _ => by kernel_rfl) ?_
      refine AG.region HM ?_
      refine a_int (u := .int .i64 (wrap64 (x13 + 1))) ?_
      refine a_move (v := vI _) ?_
      refine RA.nil nofun ?_
      exact AGr.canon id (ih0 _ (by omega) _ ⟨by omega, _, _, _, _, H, rfl⟩) ⟨rfl, rfl, rfl, rfl, trivial⟩ ⟨rfl, rfl, trivial⟩ rfl
     ·rw [if_neg hc7] at H
      cases H
    ·rw [if_neg hc4] at H
     cases H
   ·rw [if_neg hc3] at H
    cases H
  ·rw [if_neg hc2] at H
   refine AG.no rfl (decide_eq_false hc2) ?_
   refine AG.exit ?_
   refine AG.seq ?_
   refine AG.region HM ?_
   refine a_ldB (v := .c (.own _ _)) ?_ T130
   refine a_lenO ?_ Tryz.underlying130
   by_cases hc9 : 0 ≤ (y204_0.length : Int)
   ·rw [if_pos hc9] at H
    by_cases hc10 : ((y204_0.length : Int) : Int).toNat ≤ 11728124029610
    ·rw [if_pos hc10] at H
     refine a_make (n := (y204_0.length : Int)) (css := (List.replicate (((y204_0.length : Int) : Int).toNat) []).map c27) 209 ?_ N46 T27 (zR T2 zN) hc9 (by omega) (by omega) (hcss := by exact rep_map rfl)
     refine a_move (v := .c (.own _ _)) ?_
     refine RA.nil nofun ?_
     refine AG.seq ?_
     refine AG.seq ?_
     refine AG.region HM ?_
     refine a_ldB (v := .c (.own _ _)) ?_ T130
     refine a_lenO ?_ Tryz.underlying130
     refine a_move (v := vI _) ?_
     refine RA.nil nofun ?_
     refine AG.block ?_
     refine AG.loop ?_
     obtain ⟨K1, hK1, gK1⟩ : ∃ K, k ≤ K ∧ K ≤ k := ⟨k, Nat.le_refl k, Nat.le_refl k⟩
     refine AGr.canon (fun κ => cond (Nat.beq κ 210) 204 (cond (Nat.beq κ 211) 205 (cond (Nat.beq κ 212) 209 (κ)))) (AGr.loopI (n := k) (fun k s => k ≤ K1 ∧ ∃ (y210_0 : List (List S89)) (x6 : List (List Int)) (x28 : Int) (x29 : Int), impl_neighbours.l1 k y210_0 x6 x28 x29 = some r ∧ s = St.of [(3, .c (.ptr 210 0)), (6, .c (.own 212 x6.length)), (28, vI x28), (29, vI x29)] [(210, .box 130 [.own 211 y210_0.length]), (211, .row 86 (y210_0.map c86)), (212, .row 27 (x6.map c27))]) ⟨hK1, _, _, _, _, H, rfl⟩ ?_ ?_) ⟨rfl, (ownE rfl (by simp)), rfl, rfl, trivial⟩ ⟨rfl, rfl, rfl, trivial⟩ rfl
     ·rintro _ ⟨_, _, _, _, _, H, _⟩
      cases H
     ·clear H hK1
      rintro k ih1 _ ⟨hK1, y210_0, x6, x28, x29, H, rfl⟩
      unfold impl_neighbours.l1 at H
      refine AG.seq ?_
      refine AG.region HM ?_
      refine a_int (u := .bool (decide (x29 < x28))) ?_
      refine RA.nil nofun ?_
      refine AG.seq ?_
      by_cases hc12 : x29 < x28
      ·rw [if_pos hc12] at H
       refine AG.yes rfl (decide_eq_true hc12) ?_
       refine AG.skip ?_
       refine AG.seq ?_
       refine AG.block ?_
       refine AG.seq ?_
       refine AG.region HM ?_
       refine a_move (v := vI _) ?_
       refine a_move (v := vI _) ?_
       refine RA.nil nofun ?_
       refine AG.seq ?_
       refine AG.region HM ?_
       refine a_ldB (v := .c (.own _ _)) ?_ T130
       refine a_lenO ?_ Tryz.underlying130
       refine a_move (v := vI _) ?_
       refine RA.nil nofun ?_
       refine AG.block ?_
       refine AG.loop ?_
       obtain ⟨K2, hK2, gK2⟩ : ∃ K, k ≤ K ∧ K ≤ k := ⟨k, Nat.le_refl k, Nat.le_refl k⟩
       refine AGr.canon (fun κ => cond (Nat.beq κ 213) 210 (cond (Nat.beq κ 214) 211 (cond (Nat.beq κ 215) 212 (κ)))) (AGr.loopI (n := k) (fun k s => k ≤ K2 ∧ ∃ (y213_0 : List (List S89)) (x6 : List (List Int)) (x7 : Int) (x28 : Int) (x29 : Int) (x33 : Int) (x34 : Int), impl_neighbours.l2 k y213_0 x6 x7 x28 x29 x33 x34 = some r ∧ s = St.of [(3, .c (.ptr 213 0)), (6, .c (.own 215 x6.length)), (7, vI x7), (28, vI x28), (29, vI x29), (33, vI x33), (34, vI x34)] [(213, .box 130 [.own 214 y213_0.length]), (214, .row 86 (y213_0.map c86)), (215, .row 27 (x6.map c27))]) ⟨hK2, _, _, _, _, _, _, _, H, rfl⟩ ?_ ?_) ⟨rfl, rfl, rfl, rfl, rfl, rfl, rfl, trivial⟩ ⟨rfl, rfl, rfl, trivial⟩ rfl
       ·rintro _ ⟨_, _, _, _, _, _, _, _, H, _⟩
        cases H
       ·clear H hK2
        rintro k ih2 _ ⟨hK2, y213_0, x6, x7, x28, x29, x33, x34, H, rfl⟩
        unfold impl_neighbours.l2 at H
        refine AG.seq ?_
        refine AG.region HM ?_
        refine a_int (u := .bool (decide (x34 < x33))) ?_
        refine RA.nil nofun ?_
        refine AG.seq ?_
        by_cases hc13 : x34 < x33
        ·rw [if_pos hc13] at H
         refine AG.yes rfl (decide_eq_true hc13) ?_
         refine AG.skip ?_
         refine AG.seq ?_
         refine AG.block ?_
         refine AG.seq ?_
         refine AG.region HM ?_
         refine a_move (v := vI _) ?_
         refine a_alloc (cs := [_]) 216 ?_ T3
         refine a_stB (cs' := [_]) ?_ T3
         refine RA.nil nofun ?_
         refine AG.seq ?_
         refine AG.region HM ?_
         refine a_move (v := vI _) ?_
         refine a_ldB (v := vI _) ?_ T3
         refine a_int (u := .bool ((x7 != x34))) ?_
         refine a_move (v := vB _) ?_
         by_cases hc14 : x7 = x34
         ·rw [if_pos hc14] at H
          refine RA.skip rfl rfl rfl rfl rfl (bne_eq_false_iff_eq.2 hc14) (by decide) ?_
          refine RA.skip rfl rfl rfl rfl rfl (bne_eq_false_iff_eq.2 hc14) (by decide) ?_
          refine RA.skip rfl rfl rfl rfl rfl (bne_eq_false_iff_eq.2 hc14) (by decide) ?_
          refine RA.skip rfl rfl rfl rfl rfl (bne_eq_false_iff_eq.2 hc14) (by decide) ?_
          refine RA.skip rfl rfl rfl rfl rfl (bne_eq_false_iff_eq.2 hc14) (by decide) ?_
          refine RA.skip rfl rfl rfl rfl rfl (bne_eq_false_iff_eq.2 hc14) (by decide) ?_
          refine a_pick (b := false) (v := vB _) ?_ (bne_eq_false_iff_eq.2 hc14)
          refine RA.nil nofun ?_
          refine AG.no rfl rfl ?_
          refine AG.skip ?_
          refine AG.region HM ?_
          refine a_int (u := .int .i64 (wrap64 (x34 + 1))) ?_
          refine a_move (v := vI _) ?_
          refine RA.nil nofun ?_
          exact AGr.canon id (ih2 _ (by omega) _ ⟨by omega, _, _, _, _, _, _, _, H, rfl⟩) ⟨rfl, rfl, rfl, rfl, rfl, rfl, rfl, trivial⟩ ⟨rfl, rfl, rfl, trivial⟩ rfl
         ·rw [if_neg hc14] at H
          refine a_ldB (v := .c (.own _ _)) ?_ T130 (hg := Gs.yes rfl rfl rfl (bne_iff_ne.2 hc14))
          refine a_move (v := vI _) ?_ (hg := Gs.yes rfl rfl rfl (bne_iff_ne.2 hc14))
          by_cases hc15 : 0 ≤ x7
          ·rw [if_pos hc15] at H
           by_cases hc16 : x7 < (y213_0.length : Int)
           ·rw [if_pos hc16] at H
            refine a_ixO ?_ ⟨hc15, hc16⟩ T86 Tryz.underlying130 (hg := Gs.yes rfl rfl rfl (bne_iff_ne.2 hc14))
            refine a_ldE (v := .c (.sub _ _ _ _)) ?_ (G86 hc15 hc16) T86 (hg := Gs.yes rfl rfl rfl (bne_iff_ne.2 hc14))
            refine a_fnc (ks := [213, 216]) ?_ (hg := Gs.yes rfl rfl rfl (bne_iff_ne.2 hc14))
            obtain ⟨t17, e18, H⟩ := bindO H
            refine a_call (v := vB t17) (nk := []) (L := [(214, _), (213, _), (216, _)]) ?_ rfl (slices_ContainsFunc_2_int64_2_int64__impl_neighbours_1.ok e18) id (qc (rU (G86 hc15 hc16)) (qc (rF2 (rP (κ := 213) (off := 0) (cs := [.own 214 y213_0.length]) (pC rO p0)) (rP (pD p0))) qn)) ⟨rfl, rfl, rfl, trivial⟩ trivial trivial rfl (hg := Gs.yes rfl rfl rfl (bne_iff_ne.2 hc14))
            refine a_pick (b := true) (v := vB _) ?_ (bne_iff_ne.2 hc14)
            refine RA.nil nofun ?_
            by_cases hc19 : t17 = true
            ·rw [if_pos hc19] at H
             refine AG.yes rfl hc19 ?_
             refine AG.region HM ?_
             refine a_move (v := .c (.own _ _)) ?_
             refine a_move (v := vI _) ?_
             refine a_move (v := .c (.own _ _)) ?_
             refine a_move (v := vI _) ?_
             by_cases hc20 : x7 < (x6.length : Int)
             ·rw [if_pos hc20] at H
              refine a_ixO ?_ ⟨hc15, hc20⟩ T27 Tryz.underlying46
              refine a_ldE (v := .c (.sub _ _ _ _)) ?_ (G27 hc15 hc20) T27
              refine a_ldB (v := vI _) ?_ T3
              refine a_lit (cs := [_]) (D := []) (css := ([x34]).map c2) 218 ?_ N27 T2
              by_cases hc21 : (rd27 x6 x7).length < 17592186044416
              ·rw [if_pos hc21] at H
               refine a_appU (css' := ((rd27 x6 x7) ++ [x34]).map c2) (n' := ((rd27 x6 x7) ++ [x34]).length) (cssH := (x6.map c27).set (x7 : Int).toNat ((c27 (rd27 x6 x7)).set 0 .any)) 219 ?_ (G27 hc15 hc20) T2 (by simp [maxLen]; omega) (by simp; omega) (flat_map (fun _ => rfl)) Tryz.underlying27 (by exact List.map_append.symm) (by exact List.length_map _)
               refine a_ixO ?_ ⟨hc15, hc20⟩ T27 Tryz.underlying46
               refine a_stE (D := [219]) (css' := (x6.set (x7 : Int).toNat ((rd27 x6 x7) ++ [x34])).map c27) ?_ (hole_at (G27 hc15 hc20)) T27 (hcss := by exact hole_map rfl)
               refine RA.nil (fun _ => by kernel_rfl) ?_
               refine AG.region HM ?_
               refine a_int (u := .int .i64 (wrap64 (x34 + 1))) ?_
               refine a_move (v := vI _) ?_
               refine RA.nil nofun ?_
               exact AGr.canon id (ih2 _ (by omega) _ ⟨by omega, _, _, _, _, _, _, _, H, rfl⟩) ⟨rfl, (ownE rfl (by simp)), rfl, rfl, rfl, rfl, rfl, trivial⟩ ⟨rfl, rfl, rfl, trivial⟩ rfl
              ·rw [if_neg hc21] at H
               cases H
             ·rw [if_neg hc20] at H
              cases H
            ·rw [if_neg hc19] at H
             refine AG.no rfl (Bool.eq_false_iff.2 hc19) ?_
             refine AG.skip ?_
             refine AG.region HM ?_
             refine a_int (u := .int .i64 (wrap64 (x34 + 1))) ?_
             refine a_move (v := vI _) ?_
             refine RA.nil nofun ?_
             exact AGr.canon id (ih2 _ (by omega) _ ⟨by omega, _, _, _, _, _, _, _, H, rfl⟩) ⟨rfl, rfl, rfl, rfl, rfl, rfl, rfl, trivial⟩ ⟨rfl, rfl, rfl, trivial⟩ rfl
           ·rw [if_neg hc16] at H
            cases H
          ·rw [if_neg hc15] at H
           cases H
        ·rw [if_neg hc13] at H
         refine AG.no rfl (decide_eq_false hc13) ?_
         refine AG.exit ?_
         refine AG.region HM ?_
         refine a_int (u := .int .i64 (wrap64 (x29 + 1))) ?_
         refine a_move (v := vI _) ?_
         refine RA.nil nofun ?_
         exact AGr.canon (fun κ => cond (Nat.beq κ 210) 213 (cond (Nat.beq κ 211) 214 (cond (Nat.beq κ 212) 215 (κ)))) (ih1 _ (by omega) _ ⟨by omega, _, _, _, _, H, rfl⟩) ⟨rfl, rfl, rfl, rfl, trivial⟩ ⟨rfl, rfl, rfl, trivial⟩ rfl
      ·rw [if_neg hc12] at H
       refine AG.no rfl (decide_eq_false hc12) ?_
       refine AG.exit ?_
       refine AG.seq ?_
       refine AG.region HM ?_
       refine a_move (v := .c (.own _ _)) ?_
       refine a_move (v := .c (.own _ _)) ?_
       refine RA.nil nofun ?_
       refine AG.ret ?_
       obtain rfl := Option.some.inj H
       exact RetP.mk (fun κ => cond (Nat.beq κ 100) 212 (κ)) ⟨rfl, trivial⟩ ⟨rfl, trivial⟩ rfl
    ·rw [if_neg hc10] at H
     cases H
   ·rw [if_neg hc9] at H
    cases H
/-! ### impl_faceDepths: function 56 -/
mutual
def impl_faceDepths.l0 : Nat → Int → Int → List S50 → List S72 → List Int → List Int → Int → Int → Option ((List Int))
 | 0, _, _, _, _, _, _, _, _ => none
 | k + 1, y204_0, y204_1, y204_2, y204_3, x3, x4, x20, x21 => if x21 < x20 then (if 0 ≤ x21 then (if x21 < (x3.length : Int) then (impl_faceDepths.l0 k y204_0 y204_1 y204_2 y204_3 (x3.set (x21 : Int).toNat 24) x4 x20 (wrap64 (x21 + 1))) else (none)) else (none)) else ((impl_edgeFaces.f k y204_0 y204_1 y204_2 y204_3).bind fun bt9 => (impl_faceDepths.l1 k y204_0 y204_1 y204_2 y204_3 x3 x4 bt9.2 (bt9.2.length : Int) 0))
def impl_faceDepths.l1 : Nat → Int → Int → List S50 → List S72 → List Int → List Int → List (List Int) → Int → Int → Option ((List Int))
 | 0, _, _, _, _, _, _, _, _, _ => none
 | k + 1, y209_0, y209_1, y209_2, y209_3, x3, x4, x33, x34, x35 => if x35 < x34 then (if 0 ≤ x35 then (if x35 < (x33.length : Int) then (if ((rd27 x33 x35).length : Int) = 1 then (if 0 < ((rd27 x33 x35).length : Int) then (if 0 ≤ (rd2 (rd27 x33 x35) 0) then (if (rd2 (rd27 x33 x35) 0) < (x3.length : Int) then (if (rd2 x3 (rd2 (rd27 x33 x35) 0)) > 0 then (if x4.length < 17592186044416 then (impl_faceDepths.l1 k y209_0 y209_1 y209_2 y209_3 (x3.set ((rd2 (rd27 x33 x35) 0) : Int).toNat 0) (x4 ++ [(rd2 (rd27 x33 x35) 0)]) x33 x34 (wrap64 (x35 + 1))) else (none)) else (impl_faceDepths.l1 k y209_0 y209_1 y209_2 y209_3 x3 x4 x33 x34 (wrap64 (x35 + 1)))) else (none)) else (none)) else (none)) else (impl_faceDepths.l1 k y209_0 y209_1 y209_2 y209_3 x3 x4 x33 x34 (wrap64 (x35 + 1)))) else (none)) else (none)) else ((impl_neighbours.f k y209_0 y209_1 y209_2 y209_3).bind fun t23 => (impl_faceDepths.l2 k x3 x4 t23 0))
def impl_faceDepths.l2 : Nat → List Int → List Int → List (List Int) → Int → Option ((List Int))
 | 0, _, _, _, _ => none
 | k + 1, x3, x4, x10, x11 => if x11 < (x4.length : Int) then (if 0 ≤ x11 then (if 0 ≤ (rd2 x4 x11) then (if (rd2 x4 x11) < (x10.length : Int) then (impl_faceDepths.l3 k x3 x4 x10 x11 (rd27 x10 (rd2 x4 x11)) ((rd27 x10 (rd2 x4 x11)).length : Int) 0) else (none)) else (none)) else (none)) else (some x3)
def impl_faceDepths.l3 : Nat → List Int → List Int → List (List Int) → Int → List Int → Int → Int → Option ((List Int))
 | 0, _, _, _, _, _, _, _ => none
 | k + 1, x3, x4, x10, x11, x77, x78, x79 => if x79 < x78 then (if 0 ≤ x79 then (if x79 < (x77.length : Int) then (if 0 ≤ (rd2 x77 x79) then (if (rd2 x77 x79) < (x3.length : Int) then (if (rd2 x3 (rd2 x77 x79)) = 24 then (if 0 ≤ x11 then (if x11 < (x4.length : Int) then (if 0 ≤ (rd2 x4 x11) then (if (rd2 x4 x11) < (x3.length : Int) then (if x4.length < 17592186044416 then (impl_faceDepths.l3 k (x3.set ((rd2 x77 x79) : Int).toNat (wrap64 ((rd2 x3 (rd2 x4 x11)) + 1))) (x4 ++ [(rd2 x77 x79)]) x10 x11 x77 x78 (wrap64 (x79 + 1))) else (none)) else (none)) else (none)) else (none)) else (none)) else (impl_faceDepths.l3 k x3 x4 x10 x11 x77 x78 (wrap64 (x79 + 1)))) else (none)) else (none)) else (none)) else (none)) else (impl_faceDepths.l2 k x3 x4 x10 (wrap64 (x11 + 1)))
end
def impl_faceDepths.f (k : Nat) (a0_0 : Int) (a0_1 : Int) (l0_2 : List S50) (l0_3 : List S72) : Option ((List Int)) := if 0 ≤ (l0_3.length : Int) then (if ((l0_3.length : Int) : Int).toNat ≤ 35184372088832 then (impl_faceDepths.l0 k a0_0 a0_1 l0_2 l0_3 (List.replicate (((l0_3.length : Int) : Int).toNat) 0) (([] : List Int) : List Int) (((l0_3.length : Int) : Int).toNat : Int) 0) else (none)) else (none)
set_option maxRecDepth 100000 in
theorem impl_faceDepths.ok {k : Nat} {a0_0 : Int} {a0_1 : Int} {l0_2 : List S50} {l0_3 : List S72} {r : List Int} (H : impl_faceDepths.f k a0_0 a0_1 l0_2 l0_3 = some r) : OkF Tryz.prog 56 [.agg [.d (.v (.int .i64 a0_0)), .d (.v (.int .i64 a0_1)), .d (.row 51 (l0_2.map c50)), .d (.row 76 (l0_3.map c72))]] [] (.c (.own 100 r.length)) [(100, .row 2 (r.map c2))] := by
 unfold impl_faceDepths.f at H
 refine OkF.of (N := 105) (rs := [2]) (avs := [.c (.own 100 r.length)]) Tryz.func56 rfl rfl (fun _ _ => results_tmp rfl _ _ _) (by decide) rfl rfl rfl rfl (fun w0 S => ?_)
 refine AG.seq ?_
 refine AG.region HM ?_
 refine a_box 200 ?_
 refine a_nilO (e := 2) 201 ?_ T2
 refine RA.nil nofun ?_
 refine AG.seq ?_
 refine AG.region HM ?_
 refine a_faB (q := 3) ?_ D33_3
 refine a_ldB (v := vR _ _) ?_ T31
 refine a_lenR ?_ Tryz.underlying31
 by_cases hc1 : 0 ≤ (l0_3.length : Int)
 ·rw [if_pos hc1] at H
  by_cases hc2 : ((l0_3.length : Int) : Int).toNat ≤ 35184372088832
  ·rw [if_pos hc2] at H
   refine a_make (n := (l0_3.length : Int)) (css := (List.replicate (((l0_3.length : Int) : Int).toNat) 0).map c2) 202 ?_ N27 T2 (zV zN) hc1 (by omega) (by omega) (hcss := by exact rep_map rfl)
   refine a_lit (cs := []) (D := []) (css := (([] : List Int) : List Int).map c2) 203 ?_ N27 T2 (hcss := by rfl)
   refine a_move (v := .c (.own _ _)) ?_
   refine a_move (v := .c (.own _ _)) ?_
   refine RA.nil nofun ?_
   refine AG.seq ?_
   refine AG.seq ?_
   refine AG.region HM ?_
   refine a_move (v := .c (.own _ _)) ?_
   refine a_lenO ?_ Tryz.underlying27
   refine a_move (v := vI _) ?_
   refine RA.nil nofun ?_
   refine AG.block ?_
   refine AG.loop ?_
   obtain ⟨K0, hK0, gK0⟩ : ∃ K, k ≤ K ∧ K ≤ k := ⟨k, Nat.le_refl k, Nat.le_refl k⟩
   refine AGr.canon (fun κ => cond (Nat.beq κ 204) 200 (cond (Nat.beq κ 205) 202 (cond (Nat.beq κ 206) 203 (κ)))) (AGr.loopI (n := k) (fun k s => k ≤ K0 ∧ ∃ (y204_0 : Int) (y204_1 : Int) (y204_2 : List S50) (y204_3 : List S72) (x3 : List Int) (x4 : List Int) (x20 : Int) (x21 : Int), impl_faceDepths.l0 k y204_0 y204_1 y204_2 y204_3 x3 x4 x20 x21 = some r ∧ s = St.of [(1, .c (.ptr 204 0)), (3, .c (.own 205 x3.length)), (4, .c (.own 206 x4.length)), (20, vI x20), (21, vI x21)] [(204, .box 33 [.d (.v (.int .i64 y204_0)), .d (.v (.int .i64 y204_1)), .d (.row 51 (y204_2.map c50)), .d (.row 76 (y204_3.map c72))]), (205, .row 2 (x3.map c2)), (206, .row 2 (x4.map c2))]) ⟨hK0, _, _, _, _, _, _, _, _, H, rfl⟩ ?_ ?_) ⟨rfl, (ownE rfl (by simp)), (ownE rfl (by simp)), rfl, rfl, trivial⟩ ⟨rfl, rfl, rfl, trivial⟩ rfl
   ·rintro _ ⟨_, _, _, _, _, _, _, _, _, H, _⟩
    cases H
   ·clear H hK0
    rintro k ih0 _ ⟨hK0, y204_0, y204_1, y204_2, y204_3, x3, x4, x20, x21, H, rfl⟩
    unfold impl_faceDepths.l0 at H
    refine AG.seq ?_
    refine AG.region HM ?_
    refine a_int (u := .bool (decide (x21 < x20))) ?_
    refine RA.nil nofun ?_
    refine AG.seq ?_
    by_cases hc5 : x21 < x20
    ·rw [if_pos hc5] at H
     refine AG.yes rfl (decide_eq_true hc5) ?_
     refine AG.skip ?_
     refine AG.seq ?_
     refine AG.block ?_
     refine AG.seq ?_
     refine AG.region HM ?_
     refine a_move (v := vI _) ?_
     refine a_move (v := vI _) ?_
     refine RA.nil nofun ?_
     refine AG.region HM ?_
     refine a_move (v := .c (.own _ _)) ?_
     refine a_move (v := vI _) ?_
     by_cases hc6 : 0 ≤ x21
     ·rw [if_pos hc6] at H
      by_cases hc7 : x21 < (x3.length : Int)
      ·rw [if_pos hc7] at H
       refine a_ixO ?_ ⟨hc6, hc7⟩ T2 Tryz.underlying27
       refine a_stF (css' := (x3.set (x21 : Int).toNat 24).map c2) ?_ (flat_map (fun _ => rfl)) (G2 hc6 hc7) T2 (hcss := by exact set_map rfl)
       refine RA.nil nofun ?_
       refine AG.region HM ?_
       refine a_int (u := .int .i64 (wrap64 (x21 + 1))) ?_
       refine a_move (v := vI _) ?_
       refine RA.nil nofun ?_
       exact AGr.canon id (ih0 _ (by omega) _ ⟨by omega, _, _, _, _, _, _, _, _, H, rfl⟩) ⟨rfl, (ownE rfl (by simp)), rfl, rfl, rfl, trivial⟩ ⟨rfl, rfl, rfl, trivial⟩ rfl
      ·rw [if_neg hc7] at H
       cases H
     ·rw [if_neg hc6] at H
      cases H
    ·rw [if_neg hc5] at H
     refine AG.no rfl (decide_eq_false hc5) ?_
     refine AG.exit ?_
     refine AG.seq ?_
     refine AG.region HM ?_
     refine a_ldB (v := .agg [_, _, _, _]) ?_ T33
     obtain ⟨⟨t9, t10⟩, e11, H⟩ := bindO H
     refine a_call (v := .tup [.c (.own 207 t9.length), .c (.own 208 t10.length)]) (nk := [(207, .row 27 (t9.map c27)), (208, .row 27 (t10.map c27))]) (L := []) ?_ rfl (impl_edgeFaces.ok e11) (fun κ => cond (Nat.beq κ 207) 100 (cond (Nat.beq κ 208) 101 (κ))) (qg qn) trivial ⟨rfl, rfl, trivial⟩ ⟨rfl, rfl, trivial⟩ rfl
     refine a_move (v := .tup [_, _]) ?_
     refine a_ext (v := .c (.own _ _)) ?_
     refine a_ext (v := .c (.own _ _)) ?_
     refine a_move (v := .c (.own _ _)) ?_
     refine a_move (v := .c (.own _ _)) ?_
     refine RA.nil nofun ?_
     refine AG.seq ?_
     refine AG.seq ?_
     refine AG.freeze 207 ?_
     refine AG.freeze 208 ?_
     refine AG.region HM ?_
     refine a_move (v := vR _ _) ?_
     refine a_lenR ?_ Tryz.underlying46
     refine a_move (v := vI _) ?_
     refine RA.nil nofun ?_
     refine AG.block ?_
     refine AG.loop ?_
     obtain ⟨K1, hK1, gK1⟩ : ∃ K, k ≤ K ∧ K ≤ k := ⟨k, Nat.le_refl k, Nat.le_refl k⟩
     refine AGr.canon (fun κ => cond (Nat.beq κ 209) 204 (cond (Nat.beq κ 210) 205 (cond (Nat.beq κ 211) 206 (κ)))) (AGr.loopI (n := k) (fun k s => k ≤ K1 ∧ ∃ (y209_0 : Int) (y209_1 : Int) (y209_2 : List S50) (y209_3 : List S72) (x3 : List Int) (x4 : List Int) (x33 : List (List Int)) (x34 : Int) (x35 : Int), impl_faceDepths.l1 k y209_0 y209_1 y209_2 y209_3 x3 x4 x33 x34 x35 = some r ∧ s = St.of [(1, .c (.ptr 209 0)), (3, .c (.own 210 x3.length)), (4, .c (.own 211 x4.length)), (33, vR 27 (x33.map c27)), (34, vI x34), (35, vI x35)] [(209, .box 33 [.d (.v (.int .i64 y209_0)), .d (.v (.int .i64 y209_1)), .d (.row 51 (y209_2.map c50)), .d (.row 76 (y209_3.map c72))]), (210, .row 2 (x3.map c2)), (211, .row 2 (x4.map c2))]) ⟨hK1, _, _, _, _, _, _, _, _, _, H, rfl⟩ ?_ ?_) ⟨rfl, rfl, rfl, rfl, rfl, rfl, trivial⟩ ⟨rfl, rfl, rfl, trivial⟩ rfl
     ·rintro _ ⟨_, _, _, _, _, _, _, _, _, _, H, _⟩
      cases H
     ·clear H hK1
      rintro k ih1 _ ⟨hK1, y209_0, y209_1, y209_2, y209_3, x3, x4, x33, x34, x35, H, rfl⟩
      unfold impl_faceDepths.l1 at H
      refine AG.seq ?_
      refine AG.region HM ?_
      refine a_int (u := .bool (decide (x35 < x34))) ?_
      refine RA.nil nofun ?_
      refine AG.seq ?_
      by_cases hc12 : x35 < x34
      ·rw [if_pos hc12] at H
       refine AG.yes rfl (decide_eq_true hc12) ?_
       refine AG.skip ?_
       refine AG.seq ?_
       refine AG.block ?_
       refine AG.seq ?_
       refine AG.region HM ?_
       by_cases hc13 : 0 ≤ x35
       ·rw [if_pos hc13] at H
        by_cases hc14 : x35 < (x33.length : Int)
        ·rw [if_pos hc14] at H
         refine a_ixR (el := c27 (rd27 x33 x35)) ?_ ⟨hc13, hc14⟩ T27 Tryz.underlying46 (hel := R27 hc13 hc14)
         refine a_ldR (v := vR _ _) ?_ T27
         refine a_move (v := vR _ _) ?_
         refine RA.nil nofun ?_
         refine AG.seq ?_
         refine AG.region HM ?_
         refine a_move (v := vR _ _) ?_
         refine a_lenR ?_ Tryz.underlying27
         refine a_int (u := .bool ((((rd27 x33 x35).length : Int) == 1))) ?_
         refine a_move (v := vB _) ?_
         by_cases hc15 : ((rd27 x33 x35).length : Int) = 1
         ·rw [if_pos hc15] at H
          refine a_move (v := .c (.own _ _)) ?_ (hg := Gs.yes rfl rfl rfl (beq_iff_eq.2 hc15))
          refine a_move (v := vR _ _) ?_ (hg := Gs.yes rfl rfl rfl (beq_iff_eq.2 hc15))
          by_cases hc16 : 0 < ((rd27 x33 x35).length : Int)
          ·rw [if_pos hc16] at H
           refine a_ixR (el := c2 (rd2 (rd27 x33 x35) 0)) ?_ ⟨(by decide), hc16⟩ T2 Tryz.underlying27 (hel := R2 (by decide) hc16) (hg := Gs.yes rfl rfl rfl (beq_iff_eq.2 hc15))
           refine a_ldR (v := vI _) ?_ T2 (hg := Gs.yes rfl rfl rfl (beq_iff_eq.2 hc15))
           by_cases hc17 : 0 ≤ (rd2 (rd27 x33 x35) 0)
           ·rw [if_pos hc17] at H
            by_cases hc18 : (rd2 (rd27 x33 x35) 0) < (x3.length : Int)
            ·rw [if_pos hc18] at H
             refine a_ixO ?_ ⟨hc17, hc18⟩ T2 Tryz.underlying27 (hg := Gs.yes rfl rfl rfl (beq_iff_eq.2 hc15))
             refine a_ldE (v := vI _) ?_ (G2 hc17 hc18) T2 (hg := Gs.yes rfl rfl rfl (beq_iff_eq.2 hc15))
             refine a_int (u := .bool (decide ((rd2 x3 (rd2 (rd27 x33 x35) 0)) > 0))) ?_ (hg := Gs.yes rfl rfl rfl (beq_iff_eq.2 hc15))
             refine a_pick (b := true) (v := vB _) ?_ (beq_iff_eq.2 hc15)
             refine RA.nil nofun ?_
             by_cases hc19 : (rd2 x3 (rd2 (rd27 x33 x35) 0)) > 0
             ·rw [if_pos hc19] at H
              refine AG.yes rfl (decide_eq_true hc19) ?_
              refine AG.seq ?_
              refine AG.region HM ?_
              refine a_move (v := .c (.own _ _)) ?_
              refine a_move (v := vR _ _) ?_
              refine a_ixR (el := c2 (rd2 (rd27 x33 x35) 0)) ?_ ⟨(by decide), hc16⟩ T2 Tryz.underlying27 (hel := R2 (by decide) hc16)
              refine a_ldR (v := vI _) ?_ T2
              refine a_ixO ?_ ⟨hc17, hc18⟩ T2 Tryz.underlying27
              refine a_stF (css' := (x3.set ((rd2 (rd27 x33 x35) 0) : Int).toNat 0).map c2) ?_ (flat_map (fun _ => rfl)) (G2 hc17 hc18) T2 (hcss := by exact set_map rfl)
              refine RA.nil nofun ?_
              refine AG.region HM ?_
              refine a_move (v := .c (.own _ _)) ?_
              refine a_move (v := vR _ _) ?_
              refine a_ixR (el := c2 (rd2 (rd27 x33 x35) 0)) ?_ ⟨(by decide), hc16⟩ T2 Tryz.underlying27 (hel := R2 (by decide) hc16)
              refine a_ldR (v := vI _) ?_ T2
              refine a_lit (cs := [_]) (D := []) (css := ([(rd2 (rd27 x33 x35) 0)]).map c2) 212 ?_ N27 T2
              by_cases hc21 : x4.length < 17592186044416
              ·rw [if_pos hc21] at H
               refine a_appO (css' := (x4 ++ [(rd2 (rd27 x33 x35) 0)]).map c2) (n' := (x4 ++ [(rd2 (rd27 x33 x35) 0)]).length) ?_ T2 (by simp [maxLen]; omega) (by simp; omega) Tryz.underlying27 (hc := by exact List.map_append.symm) (hn := by exact List.length_map _)
               refine a_move (v := .c (.own _ _)) ?_
               refine RA.nil nofun ?_
               refine AG.region HM ?_
               refine a_int (u := .int .i64 (wrap64 (x35 + 1))) ?_
               refine a_move (v := vI _) ?_
               refine RA.nil nofun ?_
               exact AGr.canon id (ih1 _ (by omega) _ ⟨by omega, _, _, _, _, _, _, _, _, _, H, rfl⟩) ⟨rfl, (ownE rfl (by simp)), rfl, rfl, rfl, rfl, trivial⟩ ⟨rfl, rfl, rfl, trivial⟩ rfl
              ·rw [if_neg hc21] at H
               cases H
             ·rw [if_neg hc19] at H
              refine AG.no rfl (decide_eq_false hc19) ?_
              refine AG.skip ?_
              refine AG.region HM ?_
              refine a_int (u := .int .i64 (wrap64 (x35 + 1))) ?_
              refine a_move (v := vI _) ?_
              refine RA.nil nofun ?_
              exact AGr.canon id (ih1 _ (by omega) _ ⟨by omega, _, _, _, _, _, _, _, _, _, H, rfl⟩) ⟨rfl, rfl, rfl, rfl, rfl, rfl, trivial⟩ ⟨rfl, rfl, rfl, trivial⟩ rfl
            ·rw [if_neg hc18] at H
             cases H
           ·rw [if_neg hc17] at H
            cases H
          ·rw [if_neg hc16] at H
           cases H
         ·rw [if_neg hc15] at H
          refine RA.skip rfl rfl rfl rfl rfl (beq_eq_false_iff_ne.2 hc15) (by decide) ?_
          refine RA.skip rfl rfl rfl rfl rfl (beq_eq_false_iff_ne.2 hc15) (by decide) ?_
          refine RA.skip rfl rfl rfl rfl rfl (beq_eq_false_iff_ne.2 hc15) (by decide) ?_
          refine RA.skip rfl rfl rfl rfl rfl (beq_eq_false_iff_ne.2 hc15) (by decide) ?_
          refine RA.skip rfl rfl rfl rfl rfl (beq_eq_false_iff_ne.2 hc15) (by decide) ?_
          refine RA.skip rfl rfl rfl rfl rfl (beq_eq_false_iff_ne.2 hc15) (by decide) ?_
          refine RA.skip rfl rfl rfl rfl rfl (beq_eq_false_iff_ne.2 hc15) (by decide) ?_
          refine a_pick (b := false) (v := vB _) ?_ (beq_eq_false_iff_ne.2 hc15)
          refine RA.nil nofun ?_
          refine AG.no rfl rfl ?_
          refine AG.skip ?_
          refine AG.region HM ?_
          refine a_int (u := .int .i64 (wrap64 (x35 + 1))) ?_
          refine a_move (v := vI _) ?_
          refine RA.nil nofun ?_
          exact AGr.canon id (ih1 _ (by omega) _ ⟨by omega, _, _, _, _, _, _, _, _, _, H, rfl⟩) ⟨rfl, rfl, rfl, rfl, rfl, rfl, trivial⟩ ⟨rfl, rfl, rfl, trivial⟩ rfl
        ·rw [if_neg hc14] at H
         cases H
       ·rw [if_neg hc13] at H
        cases H
      ·rw [if_neg hc12] at H
       refine AG.no rfl (decide_eq_false hc12) ?_
       refine AG.exit ?_
       refine AG.seq ?_
       refine AG.region HM ?_
       refine a_ldB (v := .agg [_, _, _, _]) ?_ T33
       obtain ⟨t23, et23, H⟩ := bindO H
       refine a_callF (L := []) ?_ rfl (impl_neighbours.ok et23) (qg qn) trivial
       refine a_move (v := vR _ _) ?_
       refine RA.nil nofun ?_
       refine AG.seq ?_
       refine AG.seq ?_
       refine AG.region HM ?_
       refine a_move (v := vI _) ?_
       refine RA.nil nofun ?_
       refine AG.block ?_
       refine AG.loop ?_
       obtain ⟨K2, hK2, gK2⟩ : ∃ K, k ≤ K ∧ K ≤ k := ⟨k, Nat.le_refl k, Nat.le_refl k⟩
       refine AGr.canon (fun κ => cond (Nat.beq κ 213) 210 (cond (Nat.beq κ 214) 211 (κ))) (AGr.loopI (n := k) (fun k s => k ≤ K2 ∧ ∃ (x3 : List Int) (x4 : List Int) (x10 : List (List Int)) (x11 : Int), impl_faceDepths.l2 k x3 x4 x10 x11 = some r ∧ s = St.of [(3, .c (.own 213 x3.length)), (4, .c (.own 214 x4.length)), (10, vR 27 (x10.map c27)), (11, vI x11)] [(213, .row 2 (x3.map c2)), (214, .row 2 (x4.map c2))]) ⟨hK2, _, _, _, _, H, rfl⟩ ?_ ?_) ⟨rfl, rfl, rfl, rfl, trivial⟩ ⟨rfl, rfl, trivial⟩ rfl
       ·rintro _ ⟨_, _, _, _, _, H, _⟩
        cases H
       ·clear H hK2
        rintro k ih2 _ ⟨hK2, x3, x4, x10, x11, H, rfl⟩
        unfold impl_faceDepths.l2 at H
        refine AG.seq ?_
        refine AG.seq ?_
        refine AG.region HM ?_
        refine a_move (v := vI _) ?_
        refine a_move (v := .c (.own _ _)) ?_
        refine a_lenO ?_ Tryz.underlying27
        refine a_int (u := .bool (decide (x11 < (x4.length : Int)))) ?_
        refine RA.nil nofun ?_
        by_cases hc24 : x11 < (x4.length : Int)
        ·rw [if_pos hc24] at H
         refine AG.yes rfl (decide_eq_true hc24) ?_
         refine AG.skip ?_
         refine AG.seq ?_
         refine AG.block ?_
         refine AG.seq ?_
         refine AG.region HM ?_
         refine a_move (v := vR _ _) ?_
         refine a_move (v := .c (.own _ _)) ?_
         refine a_move (v := vI _) ?_
         by_cases hc25 : 0 ≤ x11
         ·rw [if_pos hc25] at H
          refine a_ixO ?_ ⟨hc25, hc24⟩ T2 Tryz.underlying27
          refine a_ldE (v := vI _) ?_ (G2 hc25 hc24) T2
          by_cases hc26 : 0 ≤ (rd2 x4 x11)
          ·rw [if_pos hc26] at H
           by_cases hc27 : (rd2 x4 x11) < (x10.length : Int)
           ·rw [if_pos hc27] at H
            refine a_ixR (el := c27 (rd27 x10 (rd2 x4 x11))) ?_ ⟨hc26, hc27⟩ T27 Tryz.underlying46 (hel := R27 hc26 hc27)
            refine a_ldR (v := vR _ _) ?_ T27
            refine a_lenR ?_ Tryz.underlying27
            refine a_move (v := vI _) ?_
            refine RA.nil nofun ?_
            refine AG.block ?_
            refine AG.loop ?_
            obtain ⟨K3, hK3, gK3⟩ : ∃ K, k ≤ K ∧ K ≤ k := ⟨k, Nat.le_refl k, Nat.le_refl k⟩
            refine AGr.canon (fun κ => cond (Nat.beq κ 215) 213 (cond (Nat.beq κ 216) 214 (κ))) (AGr.loopI (n := k) (fun k s => k ≤ K3 ∧ ∃ (x3 : List Int) (x4 : List Int) (x10 : List (List Int)) (x11 : Int) (x77 : List Int) (x78 : Int) (x79 : Int), impl_faceDepths.l3 k x3 x4 x10 x11 x77 x78 x79 = some r ∧ s = St.of [(3, .c (.own 215 x3.length)), (4, .c (.own 216 x4.length)), (10, vR 27 (x10.map c27)), (11, vI x11), (77, vR 2 (x77.map c2)), (78, vI x78), (79, vI x79)] [(215, .row 2 (x3.map c2)), (216, .row 2 (x4.map c2))]) ⟨hK3, _, _, _, _, _, _, _, H, rfl⟩ ?_ ?_) ⟨rfl, rfl, rfl, rfl, rfl, rfl, rfl, trivial⟩ ⟨rfl, rfl, trivial⟩ rfl
            ·rintro _ ⟨_, _, _, _, _, _, _, _, H, _⟩
             cases H
            ·clear H hK3
             rintro k ih3 _ ⟨hK3, x3, x4, x10, x11, x77, x78, x79, H, rfl⟩
             unfold impl_faceDepths.l3 at H
             refine AG.seq ?_
             refine AG.region HM ?_
             refine a_int (u := .bool (decide (x79 < x78))) ?_
             refine RA.nil nofun ?_
             refine AG.seq ?_
             by_cases hc28 : x79 < x78
             ·rw [if_pos hc28] at H
              refine AG.yes rfl (decide_eq_true hc28) ?_
              refine AG.skip ?_
              refine AG.seq ?_
              refine AG.block ?_
              refine AG.seq ?_
              refine AG.region HM ?_
              by_cases hc29 : 0 ≤ x79
              ·rw [if_pos hc29] at H
               by_cases hc30 : x79 < (x77.length : Int)
               ·rw [if_pos hc30] at H
                refine a_ixR (el := c2 (rd2 x77 x79)) ?_ ⟨hc29, hc30⟩ T2 Tryz.underlying27 (hel := R2 hc29 hc30)
                refine a_ldR (v := vI _) ?_ T2
                refine a_move (v := vI _) ?_
                refine RA.nil nofun ?_
                refine AG.seq ?_
                refine AG.region HM ?_
                refine a_move (v := .c (.own _ _)) ?_
                refine a_move (v := vI _) ?_
                by_cases hc31 : 0 ≤ (rd2 x77 x79)
                ·rw [if_pos hc31] at H
                 by_cases hc32 : (rd2 x77 x79) < (x3.length : Int)
                 ·rw [if_pos hc32] at H
                  refine a_ixO ?_ ⟨hc31, hc32⟩ T2 Tryz.underlying27
                  refine a_ldE (v := vI _) ?_ (G2 hc31 hc32) T2
                  refine a_int (u := .bool (((rd2 x3 (rd2 x77 x79)) == 24))) ?_
                  refine RA.nil nofun ?_
                  by_cases hc33 : (rd2 x3 (rd2 x77 x79)) = 24
                  ·rw [if_pos hc33] at H
                   refine AG.yes rfl (beq_iff_eq.2 hc33) ?_
                   refine AG.seq ?_
                   refine AG.region HM ?_
                   refine a_move (v := .c (.own _ _)) ?_
                   refine a_move (v := vI _) ?_
                   refine a_move (v := .c (.own _ _)) ?_
                   refine a_move (v := .c (.own _ _)) ?_
                   refine a_move (v := vI _) ?_
                   by_cases hc34 : 0 ≤ x11
                   ·rw [if_pos hc34] at H
                    by_cases hc35 : x11 < (x4.length : Int)
                    ·rw [if_pos hc35] at H
                     refine a_ixO ?_ ⟨hc34, hc35⟩ T2 Tryz.underlying27
                     refine a_ldE (v := vI _) ?_ (G2 hc34 hc35) T2
                     by_cases hc36 : 0 ≤ (rd2 x4 x11)
                     ·rw [if_pos hc36] at H
                      by_cases hc37 : (rd2 x4 x11) < (x3.length : Int)
                      ·rw [if_pos hc37] at H
                       refine a_ixO ?_ ⟨hc36, hc37⟩ T2 Tryz.underlying27
                       refine a_ldE (v := vI _) ?_ (G2 hc36 hc37) T2
                       refine a_int (u := .int .i64 (wrap64 ((rd2 x3 (rd2 x4 x11)) + 1))) ?_
                       refine a_ixO ?_ ⟨hc31, hc32⟩ T2 Tryz.underlying27
                       refine a_stF (css' := (x3.set ((rd2 x77 x79) : Int).toNat (wrap64 ((rd2 x3 (rd2 x4 x11)) + 1))).map c2) ?_ (flat_map (fun _ => rfl)) (G2 hc31 hc32) T2 (hcss := by exact set_map rfl)
                       refine RA.nil nofun ?_
                       refine AG.region HM ?_
                       refine a_move (v := .c (.own _ _)) ?_
                       refine a_move (v := vI _) ?_
                       refine a_lit (cs := [_]) (D := []) (css := ([(rd2 x77 x79)]).map c2) 217 ?_ N27 T2
                       by_cases hc39 : x4.length < 17592186044416
                       ·rw [if_pos hc39] at H
                        refine a_appO (css' := (x4 ++ [(rd2 x77 x79)]).map c2) (n' := (x4 ++ [(rd2 x77 x79)]).length) ?_ T2 (by simp [maxLen]; omega) (by simp; omega) Tryz.underlying27 (hc := by exact List.map_append.symm) (hn := by exact List.length_map _)
                        refine a_move (v := .c (.own _ _)) ?_
                        refine RA.nil nofun ?_
                        refine AG.region HM ?_
                        refine a_int (u := .int .i64 (wrap64 (x79 + 1))) ?_
                        refine a_move (v := vI _) ?_
                        refine RA.nil nofun ?_
                        exact AGr.canon id (ih3 _ (by omega) _ ⟨by omega, _, _, _, _, _, _, _, H, rfl⟩) ⟨(ownE rfl (by simp)), rfl, rfl, rfl, rfl, rfl, rfl, trivial⟩ ⟨rfl, rfl, trivial⟩ rfl
                       ·rw [if_neg hc39] at H
                        cases H
                      ·rw [if_neg hc37] at H
                       cases H
                     ·rw [if_neg hc36] at H
                      cases H
                    ·rw [if_neg hc35] at H
                     cases H
                   ·rw [if_neg hc34] at H
                    cases H
                  ·rw [if_neg hc33] at H
                   refine AG.no rfl (beq_eq_false_iff_ne.2 hc33) ?_
                   refine AG.skip ?_
                   refine AG.region HM ?_
                   refine a_int (u := .int .i64 (wrap64 (x79 + 1))) ?_
                   refine a_move (v := vI _) ?_
                   refine RA.nil nofun ?_
                   exact AGr.canon id (ih3 _ (by omega) _ ⟨by omega, _, _, _, _, _, _, _, H, rfl⟩) ⟨rfl, rfl, rfl, rfl, rfl, rfl, rfl, trivial⟩ ⟨rfl, rfl, trivial⟩ rfl
                 ·rw [if_neg hc32] at H
                  cases H
                ·rw [if_neg hc31] at H
                 cases H
               ·rw [if_neg hc30] at H
                cases H
              ·rw [if_neg hc29] at H
               cases H
             ·rw [if_neg hc28] at H
              refine AG.no rfl (decide_eq_false hc28) ?_
              refine AG.exit ?_
              refine AG.region HM ?_
              refine a_move (v := vI _) ?_
              refine a_int (u := .int .i64 (wrap64 (x11 + 1))) ?_
              refine a_move (v := vI _) ?_
              refine RA.nil nofun ?_
              exact AGr.canon (fun κ => cond (Nat.beq κ 213) 215 (cond (Nat.beq κ 214) 216 (κ))) (ih2 _ (by omega) _ ⟨by omega, _, _, _, _, H, rfl⟩) ⟨rfl, rfl, rfl, rfl, trivial⟩ ⟨rfl, rfl, trivial⟩ rfl
           ·rw [if_neg hc27] at H
            cases H
          ·rw [if_neg hc26] at H
           cases H
         ·rw [if_neg hc25] at H
          cases H
        ·rw [if_neg hc24] at H
         refine AG.no rfl (decide_eq_false hc24) ?_
         refine AG.exit ?_
         refine AG.seq ?_
         refine AG.region HM ?_
         refine a_move (v := .c (.own _ _)) ?_
         refine a_move (v := .c (.own _ _)) ?_
         refine RA.nil nofun ?_
         refine AG.ret ?_
         obtain rfl := Option.some.inj H
         exact RetP.mk (fun κ => cond (Nat.beq κ 100) 213 (κ)) ⟨rfl, trivial⟩ ⟨rfl, trivial⟩ rfl
  ·rw [if_neg hc2] at H
   cases H
 ·rw [if_neg hc1] at H
  cases H
/-! ### impl_edgeDepths: function 28 -/
mutual
def impl_edgeDepths.l0 : Nat → List Int → List Int → List (List Int) → Int → Int → Option ((List Int))
 | 0, _, _, _, _, _ => none
 | k + 1, x3, x4, x20, x21, x22 => if x22 < x21 then (if 0 ≤ x22 then (if x22 < (x20.length : Int) then (if ((rd27 x20 x22).length : Int) > 1 then (impl_edgeDepths.l1 k x3 x4 24 x20 x21 x22 (rd27 x20 x22) ((rd27 x20 x22).length : Int) 0) else (if x4.length < 17592186044416 then (impl_edgeDepths.l0 k x3 (x4 ++ [0]) x20 x21 (wrap64 (x22 + 1))) else (none))) else (none)) else (none)) else (some x4)
def impl_edgeDepths.l1 : Nat → List Int → List Int → Int → List (List Int) → Int → Int → List Int → Int → Int → Option ((List Int))
 | 0, _, _, _, _, _, _, _, _, _ => none
 | k + 1, x3, x4, x9, x20, x21, x22, x29, x30, x31 => if x31 < x30 then (if 0 ≤ x31 then (if x31 < (x29.length : Int) then (if 0 ≤ (rd2 x29 x31) then (if (rd2 x29 x31) < (x3.length : Int) then (impl_edgeDepths.l1 k x3 x4 (mn x9 (rd2 x3 (rd2 x29 x31))) x20 x21 x22 x29 x30 (wrap64 (x31 + 1))) else (none)) else (none)) else (none)) else (none)) else (if x4.length < 17592186044416 then (impl_edgeDepths.l0 k x3 (x4 ++ [wrap64 (x9 + 1)]) x20 x21 (wrap64 (x22 + 1))) else (none))
end
def impl_edgeDepths.f (k : Nat) (a0_0 : Int) (a0_1 : Int) (l0_2 : List S50) (l0_3 : List S72) : Option ((List Int)) := (impl_faceDepths.f k a0_0 a0_1 l0_2 l0_3).bind fun t1 => ((impl_edgeFaces.f k a0_0 a0_1 l0_2 l0_3).bind fun bt4 => (impl_edgeDepths.l0 k t1 (([] : List Int) : List Int) bt4.2 (bt4.2.length : Int) 0))
set_option maxRecDepth 100000 in
theorem impl_edgeDepths.ok {k : Nat} {a0_0 : Int} {a0_1 : Int} {l0_2 : List S50} {l0_3 : List S72} {r : List Int} (H : impl_edgeDepths.f k a0_0 a0_1 l0_2 l0_3 = some r) : OkF Tryz.prog 28 [.agg [.d (.v (.int .i64 a0_0)), .d (.v (.int .i64 a0_1)), .d (.row 51 (l0_2.map c50)), .d (.row 76 (l0_3.map c72))]] [] (.c (.own 100 r.length)) [(100, .row 2 (r.map c2))] := by
 unfold impl_edgeDepths.f at H
 refine OkF.of (N := 50) (rs := [2]) (avs := [.c (.own 100 r.length)]) Tryz.func28 rfl rfl (fun _ _ => results_tmp rfl _ _ _) (by decide) rfl rfl rfl rfl (fun w0 S => ?_)
 refine AG.seq ?_
 refine AG.region HM ?_
 refine a_box 200 ?_
 refine a_nilO (e := 2) 201 ?_ T2
 refine RA.nil nofun ?_
 refine AG.seq ?_
 refine AG.region HM ?_
 refine a_ldB (v := .agg [_, _, _, _]) ?_ T33
 obtain ⟨t1, e2, H⟩ := bindO H
 refine a_call (v := .c (.own 202 t1.length)) (nk := [(202, .row 2 (t1.map c2))]) (L := []) ?_ rfl (impl_faceDepths.ok e2) (fun κ => cond (Nat.beq κ 202) 100 (κ)) (qg qn) trivial ⟨rfl, trivial⟩ ⟨rfl, trivial⟩ rfl
 refine a_lit (cs := []) (D := []) (css := (([] : List Int) : List Int).map c2) 203 ?_ N27 T2 (hcss := by rfl)
 refine a_move (v := .c (.own _ _)) ?_
 refine a_move (v := .c (.own _ _)) ?_
 refine RA.nil nofun ?_
 refine AG.seq ?_
 refine AG.region HM ?_
 refine a_ldB (v := .agg [_, _, _, _]) ?_ T33
 obtain ⟨⟨t4, t5⟩, e6, H⟩ := bindO H
 refine a_call (v := .tup [.c (.own 204 t4.length), .c (.own 205 t5.length)]) (nk := [(204, .row 27 (t4.map c27)), (205, .row 27 (t5.map c27))]) (L := []) ?_ rfl (impl_edgeFaces.ok e6) (fun κ => cond (Nat.beq κ 204) 100 (cond (Nat.beq κ 205) 101 (κ))) (qg qn) trivial ⟨rfl, rfl, trivial⟩ ⟨rfl, rfl, trivial⟩ rfl
 refine a_move (v := .tup [_, _]) ?_
 refine a_ext (v := .c (.own _ _)) ?_
 refine a_ext (v := .c (.own _ _)) ?_
 refine a_move (v := .c (.own _ _)) ?_
 refine a_move (v := .c (.own _ _)) ?_
 refine RA.nil nofun ?_
 refine AG.seq ?_
 refine AG.seq ?_
 refine AG.freeze 204 ?_
 refine AG.freeze 205 ?_
 refine AG.region HM ?_
 refine a_move (v := vR _ _) ?_
 refine a_lenR ?_ Tryz.underlying46
 refine a_move (v := vI _) ?_
 refine RA.nil nofun ?_
 refine AG.block ?_
 refine AG.loop ?_
 obtain ⟨K0, hK0, gK0⟩ : ∃ K, k ≤ K ∧ K ≤ k := ⟨k, Nat.le_refl k, Nat.le_refl k⟩
 refine AGr.canon (fun κ => cond (Nat.beq κ 206) 202 (cond (Nat.beq κ 207) 203 (κ))) (AGr.loopI (n := k) (fun k s => k ≤ K0 ∧ ∃ (x3 : List Int) (x4 : List Int) (x20 : List (List Int)) (x21 : Int) (x22 : Int), impl_edgeDepths.l0 k x3 x4 x20 x21 x22 = some r ∧ s = St.of [(3, .c (.own 206 x3.length)), (4, .c (.own 207 x4.length)), (20, vR 27 (x20.map c27)), (21, vI x21), (22, vI x22)] [(206, .row 2 (x3.map c2)), (207, .row 2 (x4.map c2))]) ⟨hK0, _, _, _, _, _, H, rfl⟩ ?_ ?_) ⟨rfl, (ownE rfl (by simp)), rfl, rfl, rfl, trivial⟩ ⟨rfl, rfl, trivial⟩ rfl
 ·rintro _ ⟨_, _, _, _, _, _, H, _⟩
  cases H
 ·clear H hK0
  rintro k ih0 _ ⟨hK0, x3, x4, x20, x21, x22, H, rfl⟩
  unfold impl_edgeDepths.l0 at H
  refine AG.seq ?_
  refine AG.region HM ?_
  refine a_int (u := .bool (decide (x22 < x21))) ?_
  refine RA.nil nofun ?_
  refine AG.seq ?_
  by_cases hc7 : x22 < x21
  ·rw [if_pos hc7] at H
   refine AG.yes rfl (decide_eq_true hc7) ?_
   refine AG.skip ?_
   refine AG.seq ?_
   refine AG.block ?_
   refine AG.seq ?_
   refine AG.region HM ?_
   by_cases hc8 : 0 ≤ x22
   ·rw [if_pos hc8] at H
    by_cases hc9 : x22 < (x20.length : Int)
    ·rw [if_pos hc9] at H
     refine a_ixR (el := c27 (rd27 x20 x22)) ?_ ⟨hc8, hc9⟩ T27 Tryz.underlying46 (hel := R27 hc8 hc9)
     refine a_ldR (v := vR _ _) ?_ T27
     refine a_move (v := vR _ _) ?_
     refine RA.nil nofun ?_
     refine AG.seq ?_
     refine AG.region HM ?_
     refine a_move (v := vI _) ?_
     refine RA.nil nofun ?_
     refine AG.seq ?_
     refine AG.seq ?_
     refine AG.region HM ?_
     refine a_move (v := vR _ _) ?_
     refine a_lenR ?_ Tryz.underlying27
     refine a_int (u := .bool (decide (((rd27 x20 x22).length : Int) > 1))) ?_
     refine RA.nil nofun ?_
     by_cases hc10 : ((rd27 x20 x22).length : Int) > 1
     ·rw [if_pos hc10] at H
      refine AG.yes rfl (decide_eq_true hc10) ?_
      refine AG.seq ?_
      refine AG.region HM ?_
      refine a_move (v := vI _) ?_
      refine RA.nil nofun ?_
      refine AG.seq ?_
      refine AG.seq ?_
      refine AG.region HM ?_
      refine a_move (v := vR _ _) ?_
      refine a_lenR ?_ Tryz.underlying27
      refine a_move (v := vI _) ?_
      refine RA.nil nofun ?_
      refine AG.block ?_
      refine AG.loop ?_
      obtain ⟨K1, hK1, gK1⟩ : ∃ K, k ≤ K ∧ K ≤ k := ⟨k, Nat.le_refl k, Nat.le_refl k⟩
      refine AGr.canon (fun κ => cond (Nat.beq κ 208) 206 (cond (Nat.beq κ 209) 207 (κ))) (AGr.loopI (n := k) (fun k s => k ≤ K1 ∧ ∃ (x3 : List Int) (x4 : List Int) (x9 : Int) (x20 : List (List Int)) (x21 : Int) (x22 : Int) (x29 : List Int) (x30 : Int) (x31 : Int), impl_edgeDepths.l1 k x3 x4 x9 x20 x21 x22 x29 x30 x31 = some r ∧ s = St.of [(3, .c (.own 208 x3.length)), (4, .c (.own 209 x4.length)), (9, vI x9), (20, vR 27 (x20.map c27)), (21, vI x21), (22, vI x22), (29, vR 2 (x29.map c2)), (30, vI x30), (31, vI x31)] [(208, .row 2 (x3.map c2)), (209, .row 2 (x4.map c2))]) ⟨hK1, _, _, _, _, _, _, _, _, _, H, rfl⟩ ?_ ?_) ⟨rfl, rfl, rfl, rfl, rfl, rfl, rfl, rfl, rfl, trivial⟩ ⟨rfl, rfl, trivial⟩ rfl
      ·rintro _ ⟨_, _, _, _, _, _, _, _, _, _, H, _⟩
       cases H
      ·clear H hK1
       rintro k ih1 _ ⟨hK1, x3, x4, x9, x20, x21, x22, x29, x30, x31, H, rfl⟩
       unfold impl_edgeDepths.l1 at H
       refine AG.seq ?_
       refine AG.region HM ?_
       refine a_int (u := .bool (decide (x31 < x30))) ?_
       refine RA.nil nofun ?_
       refine AG.seq ?_
       by_cases hc11 : x31 < x30
       ·rw [if_pos hc11] at H
        refine AG.yes rfl (decide_eq_true hc11) ?_
        refine AG.skip ?_
        refine AG.seq ?_
        refine AG.block ?_
        refine AG.seq ?_
        refine AG.region HM ?_
        by_cases hc12 : 0 ≤ x31
        ·rw [if_pos hc12] at H
         by_cases hc13 : x31 < (x29.length : Int)
         ·rw [if_pos hc13] at H
          refine a_ixR (el := c2 (rd2 x29 x31)) ?_ ⟨hc12, hc13⟩ T2 Tryz.underlying27 (hel := R2 hc12 hc13)
          refine a_ldR (v := vI _) ?_ T2
          refine a_move (v := vI _) ?_
          refine RA.nil nofun ?_
          refine AG.region HM ?_
          refine a_move (v := vI _) ?_
          refine a_move (v := .c (.own _ _)) ?_
          refine a_move (v := vI _) ?_
          by_cases hc14 : 0 ≤ (rd2 x29 x31)
          ·rw [if_pos hc14] at H
           by_cases hc15 : (rd2 x29 x31) < (x3.length : Int)
           ·rw [if_pos hc15] at H
            refine a_ixO ?_ ⟨hc14, hc15⟩ T2 Tryz.underlying27
            refine a_ldE (v := vI _) ?_ (G2 hc14 hc15) T2
            refine a_minmax (mx := false) (r := mn x9 (rd2 x3 (rd2 x29 x31))) ?_
            refine a_move (v := vI _) ?_
            refine RA.nil nofun ?_
            refine AG.region HM ?_
            refine a_int (u := .int .i64 (wrap64 (x31 + 1))) ?_
            refine a_move (v := vI _) ?_
            refine RA.nil nofun ?_
            exact AGr.canon id (ih1 _ (by omega) _ ⟨by omega, _, _, _, _, _, _, _, _, _, H, rfl⟩) ⟨rfl, rfl, rfl, rfl, rfl, rfl, rfl, rfl, rfl, trivial⟩ ⟨rfl, rfl, trivial⟩ rfl
           ·rw [if_neg hc15] at H
            cases H
          ·rw [if_neg hc14] at H
           cases H
         ·rw [if_neg hc13] at H
          cases H
        ·rw [if_neg hc12] at H
         cases H
       ·rw [if_neg hc11] at H
        refine AG.no rfl (decide_eq_false hc11) ?_
        refine AG.exit ?_
        refine AG.region HM ?_
        refine a_move (v := vI _) ?_
        refine a_int (u := .int .i64 (wrap64 (x9 + 1))) ?_
        refine a_move (v := vI _) ?_
        refine RA.nil nofun ?_
        refine AG.region HM ?_
        refine a_move (v := .c (.own _ _)) ?_
        refine a_move (v := vI _) ?_
        refine a_lit (cs := [_]) (D := []) (css := ([wrap64 (x9 + 1)]).map c2) 210 ?_ N27 T2
        by_cases hc16 : x4.length < 17592186044416
        ·rw [if_pos hc16] at H
         refine a_appO (css' := (x4 ++ [wrap64 (x9 + 1)]).map c2) (n' := (x4 ++ [wrap64 (x9 + 1)]).length) ?_ T2 (by simp [maxLen]; omega) (by simp; omega) Tryz.underlying27 (hc := by exact List.map_append.symm) (hn := by exact List.length_map _)
         refine a_move (v := .c (.own _ _)) ?_
         refine RA.nil nofun ?_
         refine AG.region HM ?_
         refine a_int (u := .int .i64 (wrap64 (x22 + 1))) ?_
         refine a_move (v := vI _) ?_
         refine RA.nil nofun ?_
         exact AGr.canon (fun κ => cond (Nat.beq κ 206) 208 (cond (Nat.beq κ 207) 209 (κ))) (ih0 _ (by omega) _ ⟨by omega, _, _, _, _, _, H, rfl⟩) ⟨rfl, rfl, rfl, rfl, rfl, trivial⟩ ⟨rfl, rfl, trivial⟩ rfl
        ·rw [if_neg hc16] at H
         cases H
     ·rw [if_neg hc10] at H
      refine AG.no rfl (decide_eq_false hc10) ?_
      refine AG.skip ?_
      refine AG.region HM ?_
      refine a_move (v := .c (.own _ _)) ?_
      refine a_move (v := vI _) ?_
      refine a_lit (cs := [_]) (D := []) (css := ([0]).map c2) 210 ?_ N27 T2
      by_cases hc18 : x4.length < 17592186044416
      ·rw [if_pos hc18] at H
       refine a_appO (css' := (x4 ++ [0]).map c2) (n' := (x4 ++ [0]).length) ?_ T2 (by simp [maxLen]; omega) (by simp; omega) Tryz.underlying27 (hc := by exact List.map_append.symm) (hn := by exact List.length_map _)
       refine a_move (v := .c (.own _ _)) ?_
       refine RA.nil nofun ?_
       refine AG.region HM ?_
       refine a_int (u := .int .i64 (wrap64 (x22 + 1))) ?_
       refine a_move (v := vI _) ?_
       refine RA.nil nofun ?_
       exact AGr.canon id (ih0 _ (by omega) _ ⟨by omega, _, _, _, _, _, H, rfl⟩) ⟨rfl, rfl, rfl, rfl, rfl, trivial⟩ ⟨rfl, rfl, trivial⟩ rfl
      ·rw [if_neg hc18] at H
       cases H
    ·rw [if_neg hc9] at H
     cases H
   ·rw [if_neg hc8] at H
    cases H
  ·rw [if_neg hc7] at H
   refine AG.no rfl (decide_eq_false hc7) ?_
   refine AG.exit ?_
   refine AG.seq ?_
   refine AG.region HM ?_
   refine a_move (v := .c (.own _ _)) ?_
   refine a_move (v := .c (.own _ _)) ?_
   refine RA.nil nofun ?_
   refine AG.ret ?_
   obtain rfl := Option.some.inj H
   exact RetP.mk (fun κ => cond (Nat.beq κ 100) 207 (κ)) ⟨rfl, trivial⟩ ⟨rfl, trivial⟩ rfl
/-! ### impl_RootOf: function 59 -/
def impl_RootOf.l0 : Nat → Int → Int → Int → Option (Int)
 | 0, _, _, _ => none
 | k + 1, x0, x3, x4 => if x3 < x4 then (if (wrap64 (Int.tdiv (wrap64 ((wrap64 (x3 + x4)) + 1)) 2)) = 0 then (none) else (if (wrap64 (Int.tdiv (wrap64 ((wrap64 (x3 + x4)) + 1)) 2)) ≤ (wrap64 (Int.tdiv x0 (wrap64 (Int.tdiv (wrap64 ((wrap64 (x3 + x4)) + 1)) 2)))) then (impl_RootOf.l0 k x0 (wrap64 (Int.tdiv (wrap64 ((wrap64 (x3 + x4)) + 1)) 2)) x4) else (impl_RootOf.l0 k x0 x3 (wrap64 ((wrap64 (Int.tdiv (wrap64 ((wrap64 (x3 + x4)) + 1)) 2)) - 1))))) else (some x3)
def impl_RootOf.f (k : Nat) (a0 : Int) : Option (Int) := if a0 < 1 then (some 0) else (impl_RootOf.l0 k a0 1 3037000499)
set_option maxRecDepth 100000 in
theorem impl_RootOf.ok {k : Nat} {a0 : Int} {r : Int} (H : impl_RootOf.f k a0 = some r) : OkF Tryz.prog 59 [vI a0] [] (.c (.d (.v (.int .i64 r)))) [] := by
 unfold impl_RootOf.f at H
 refine OkF.of (N := 25) (rs := [2]) (avs := [.c (.d (.v (.int .i64 r)))]) Tryz.func59 rfl rfl (fun _ _ => results_tmp rfl _ _ _) (by decide) rfl rfl rfl rfl (fun w0 S => ?_)
 refine AG.seq ?_
 refine AG.region HM ?_
 refine a_move (v := vI _) ?_
 refine RA.nil nofun ?_
 refine AG.seq ?_
 refine AG.seq ?_
 refine AG.region HM ?_
 refine a_move (v := vI _) ?_
 refine a_int (u := .bool (decide (a0 < 1))) ?_
 refine RA.nil nofun ?_
 by_cases hc1 : a0 < 1
 ·rw [if_pos hc1] at H
  refine AG.yes rfl (decide_eq_true hc1) ?_
  refine AG.seq ?_
  refine AG.region HM ?_
  refine a_move (v := vI _) ?_
  refine RA.nil nofun ?_
  refine AG.ret ?_
  obtain rfl := Option.some.inj H
  exact RetP.mk id ⟨rfl, trivial⟩ trivial rfl
 ·rw [if_neg hc1] at H
  refine AG.no rfl (decide_eq_false hc1) ?_
  refine AG.skip ?_
  refine AG.seq ?_
  refine AG.region HM ?_
  refine a_move (v := vI _) ?_
  refine a_move (v := vI _) ?_
  refine RA.nil nofun ?_
  refine AG.seq ?_
  refine AG.block ?_
  refine AG.loop ?_
  obtain ⟨K0, hK0, gK0⟩ : ∃ K, k ≤ K ∧ K ≤ k := ⟨k, Nat.le_refl k, Nat.le_refl k⟩
  refine AGr.canon id (AGr.loopI (n := k) (fun k s => k ≤ K0 ∧ ∃ (x0 : Int) (x3 : Int) (x4 : Int), impl_RootOf.l0 k x0 x3 x4 = some r ∧ s = St.of [(0, vI x0), (3, vI x3), (4, vI x4)] []) ⟨hK0, _, _, _, H, rfl⟩ ?_ ?_) ⟨rfl, rfl, rfl, trivial⟩ trivial rfl
  ·rintro _ ⟨_, _, _, _, H, _⟩
   cases H
  ·clear H hK0
   rintro k ih0 _ ⟨hK0, x0, x3, x4, H, rfl⟩
   unfold impl_RootOf.l0 at H
   refine AG.seq ?_
   refine AG.seq ?_
   refine AG.region HM ?_
   refine a_move (v := vI _) ?_
   refine a_move (v := vI _) ?_
   refine a_int (u := .bool (decide (x3 < x4))) ?_
   refine RA.nil nofun ?_
   by_cases hc2 : x3 < x4
   ·rw [if_pos hc2] at H
    refine AG.yes rfl (decide_eq_true hc2) ?_
    refine AG.skip ?_
    refine AG.block ?_
    refine AG.seq ?_
    refine AG.region HM ?_
    refine a_move (v := vI _) ?_
    refine a_move (v := vI _) ?_
    refine a_int (u := .int .i64 (wrap64 (x3 + x4))) ?_
    refine a_int (u := .int .i64 (wrap64 ((wrap64 (x3 + x4)) + 1))) ?_
    refine a_quo (r := wrap64 (Int.tdiv (wrap64 ((wrap64 (x3 + x4)) + 1)) 2)) ?_ (show ¬ (2 : Int) = 0 from by decide)
    refine a_move (v := vI _) ?_
    refine RA.nil nofun ?_
    refine AG.seq ?_
    refine AG.region HM ?_
    refine a_move (v := vI _) ?_
    refine a_move (v := vI _) ?_
    refine a_move (v := vI _) ?_
    by_cases hc3 : (wrap64 (Int.tdiv (wrap64 ((wrap64 (x3 + x4)) + 1)) 2)) = 0
    ·rw [if_pos hc3] at H
     cases H
    ·rw [if_neg hc3] at H
     refine a_quo (r := wrap64 (Int.tdiv x0 (wrap64 (Int.tdiv (wrap64 ((wrap64 (x3 + x4)) + 1)) 2)))) ?_ hc3
     refine a_int (u := .bool (decide ((wrap64 (Int.tdiv (wrap64 ((wrap64 (x3 + x4)) + 1)) 2)) ≤ (wrap64 (Int.tdiv x0 (wrap64 (Int.tdiv (wrap64 ((wrap64 (x3 + x4)) + 1)) 2))))))) ?_
     refine RA.nil nofun ?_
     by_cases hc4 : (wrap64 (Int.tdiv (wrap64 ((wrap64 (x3 + x4)) + 1)) 2)) ≤ (wrap64 (Int.tdiv x0 (wrap64 (Int.tdiv (wrap64 ((wrap64 (x3 + x4)) + 1)) 2))))
     ·rw [if_pos hc4] at H
      refine AG.yes rfl (decide_eq_true hc4) ?_
      refine AG.region HM ?_
      refine a_move (v := vI _) ?_
      refine a_move (v := vI _) ?_
      refine RA.nil nofun ?_
      exact AGr.canon id (ih0 _ (by omega) _ ⟨by omega, _, _, _, H, rfl⟩) ⟨rfl, rfl, rfl, trivial⟩ trivial rfl
     ·rw [if_neg hc4] at H
      refine AG.no rfl (decide_eq_false hc4) ?_
      refine AG.region HM ?_
      refine a_move (v := vI _) ?_
      refine a_int (u := .int .i64 (wrap64 ((wrap64 (Int.tdiv (wrap64 ((wrap64 (x3 + x4)) + 1)) 2)) - 1))) ?_
      refine a_move (v := vI _) ?_
      refine RA.nil nofun ?_
      exact AGr.canon id (ih0 _ (by omega) _ ⟨by omega, _, _, _, H, rfl⟩) ⟨rfl, rfl, rfl, trivial⟩ trivial rfl
   ·rw [if_neg hc2] at H
    refine AG.no rfl (decide_eq_false hc2) ?_
    refine AG.exit ?_
    refine AG.seq ?_
    refine AG.region HM ?_
    refine a_move (v := vI _) ?_
    refine a_move (v := vI _) ?_
    refine RA.nil nofun ?_
    refine AG.ret ?_
    obtain rfl := Option.some.inj H
    exact RetP.mk id ⟨rfl, trivial⟩ trivial rfl
/-! ### impl_squared: function 60 -/
def impl_squared.f (a0_0 : Int) (a0_1 : Int) (a1_0 : Int) (a1_1 : Int) : Option (Int) := some (wrap64 ((wrap64 ((wrap64 (a0_0 - a1_0)) * (wrap64 (a0_0 - a1_0)))) + (wrap64 ((wrap64 (a0_1 - a1_1)) * (wrap64 (a0_1 - a1_1))))))
set_option maxRecDepth 100000 in
theorem impl_squared.ok {a0_0 : Int} {a0_1 : Int} {a1_0 : Int} {a1_1 : Int} {r : Int} (H : impl_squared.f a0_0 a0_1 a1_0 a1_1 = some r) : OkF Tryz.prog 60 [.agg [.d (.v (.int .i64 a0_0)), .d (.v (.int .i64 a0_1))], .agg [.d (.v (.int .i64 a1_0)), .d (.v (.int .i64 a1_1))]] [] (.c (.d (.v (.int .i64 r)))) [] := by
 unfold impl_squared.f at H
 refine OkF.of (N := 28) (rs := [4]) (avs := [.c (.d (.v (.int .i64 r)))]) Tryz.func60 rfl rfl (fun _ _ => results_tmp rfl _ _ _) (by decide) rfl rfl rfl rfl (fun w0 S => ?_)
 refine AG.seq ?_
 refine AG.region HM ?_
 refine a_box 200 ?_
 refine a_box 201 ?_
 refine a_move (v := vI _) ?_
 refine RA.nil nofun ?_
 refine AG.seq ?_
 refine AG.region HM ?_
 refine a_faB (q := 0) ?_ D51_0
 refine a_ldB (v := vI _) ?_ T2
 refine a_faB (q := 0) ?_ D51_0
 refine a_ldB (v := vI _) ?_ T2
 refine a_int (u := .int .i64 (wrap64 (a0_0 - a1_0))) ?_
 refine a_faB (q := 0) ?_ D51_0
 refine a_ldB (v := vI _) ?_ T2
 refine a_faB (q := 0) ?_ D51_0
 refine a_ldB (v := vI _) ?_ T2
 refine a_int (u := .int .i64 (wrap64 (a0_0 - a1_0))) ?_
 refine a_int (u := .int .i64 (wrap64 ((wrap64 (a0_0 - a1_0)) * (wrap64 (a0_0 - a1_0))))) ?_
 refine a_faB (q := 1) ?_ D51_1
 refine a_ldB (v := vI _) ?_ T2
 refine a_faB (q := 1) ?_ D51_1
 refine a_ldB (v := vI _) ?_ T2
 refine a_int (u := .int .i64 (wrap64 (a0_1 - a1_1))) ?_
 refine a_faB (q := 1) ?_ D51_1
 refine a_ldB (v := vI _) ?_ T2
 refine a_faB (q := 1) ?_ D51_1
 refine a_ldB (v := vI _) ?_ T2
 refine a_int (u := .int .i64 (wrap64 (a0_1 - a1_1))) ?_
 refine a_int (u := .int .i64 (wrap64 ((wrap64 (a0_1 - a1_1)) * (wrap64 (a0_1 - a1_1))))) ?_
 refine a_int (u := .int .i64 (wrap64 ((wrap64 ((wrap64 (a0_0 - a1_0)) * (wrap64 (a0_0 - a1_0)))) + (wrap64 ((wrap64 (a0_1 - a1_1)) * (wrap64 (a0_1 - a1_1))))))) ?_
 refine a_move (v := vI _) ?_
 refine RA.nil nofun ?_
 refine AG.ret ?_
 obtain rfl := Option.some.inj H
 exact RetP.mk id ⟨rfl, trivial⟩ trivial rfl
/-! ### impl_Distance: function 29 -/
def impl_Distance.f (k : Nat) (a0_0 : Int) (a0_1 : Int) (a1_0 : Int) (a1_1 : Int) : Option (Int) := (impl_validPoints.f k ([(⟨a0_0, a0_1⟩ : S50), (⟨a1_0, a1_1⟩ : S50)])).bind fun t2 => (if t2 = true then ((impl_squared.f a0_0 a0_1 a1_0 a1_1).bind fun t5 => ((impl_RootOf.f k t5).bind fun t7 => (some t7))) else (some (-1)))
set_option maxRecDepth 100000 in
theorem impl_Distance.ok {k : Nat} {a0_0 : Int} {a0_1 : Int} {a1_0 : Int} {a1_1 : Int} {r : Int} (H : impl_Distance.f k a0_0 a0_1 a1_0 a1_1 = some r) : OkF Tryz.prog 29 [.agg [.d (.v (.int .i64 a0_0)), .d (.v (.int .i64 a0_1))], .agg [.d (.v (.int .i64 a1_0)), .d (.v (.int .i64 a1_1))]] [] (.c (.d (.v (.int .i64 r)))) [] := by
 unfold impl_Distance.f at H
 refine OkF.of (N := 14) (rs := [4]) (avs := [.c (.d (.v (.int .i64 r)))]) Tryz.func29 rfl rfl (fun _ _ => results_tmp rfl _ _ _) (by decide) rfl rfl rfl rfl (fun w0 S => ?_)
 refine AG.seq ?_
 refine AG.region HM ?_
 refine a_box 200 ?_
 refine a_box 201 ?_
 refine a_move (v := vI _) ?_
 refine RA.nil nofun ?_
 refine AG.seq ?_
 refine AG.seq ?_
 refine AG.region HM ?_
 refine a_ldB (v := .agg [_, _]) ?_ T51
 refine a_ldB (v := .agg [_, _]) ?_ T51
 refine a_lit (cs := [_, _, _, _]) (D := []) (css := ([(⟨a0_0, a0_1⟩ : S50), (⟨a1_0, a1_1⟩ : S50)]).map c50) 202 ?_ N30 T51 (hcss := by rfl)
 obtain ⟨t2, e3, H⟩ := bindO H
 refine a_call (v := vB t2) (nk := []) (L := [(202, _)]) ?_ rfl (impl_validPoints.ok e3) id (qc rO qn) ⟨rfl, trivial⟩ trivial trivial rfl
 refine a_un (u := .bool (!t2)) ?_
 refine RA.nil nofun ?_
 by_cases hc4 : t2 = true
 ·rw [if_pos hc4] at H
  refine AG.no rfl (congrArg Bool.not hc4) ?_
  refine AG.skip ?_
  refine AG.seq ?_
  refine AG.region HM ?_
  refine a_ldB (v := .agg [_, _]) ?_ T51
  refine a_ldB (v := .agg [_, _]) ?_ T51
  obtain ⟨t5, e6, H⟩ := bindO H
  refine a_call (v := vI t5) (nk := []) (L := []) ?_ rfl (impl_squared.ok e6) id (qg (qg qn)) trivial trivial trivial rfl
  obtain ⟨t7, e8, H⟩ := bindO H
  refine a_call (v := vI t7) (nk := []) (L := []) ?_ rfl (impl_RootOf.ok e8) id (qd qn) trivial trivial trivial rfl
  refine a_move (v := vI _) ?_
  refine RA.nil nofun ?_
  refine AG.ret ?_
  obtain rfl := Option.some.inj H
  exact RetP.mk id ⟨rfl, trivial⟩ trivial rfl
 ·rw [if_neg hc4] at H
  refine AG.yes rfl (congrArg Bool.not (Bool.eq_false_iff.2 hc4)) ?_
  refine AG.seq ?_
  refine AG.region HM ?_
  refine a_move (v := vI _) ?_
  refine RA.nil nofun ?_
  refine AG.ret ?_
  obtain rfl := Option.some.inj H
  exact RetP.mk id ⟨rfl, trivial⟩ trivial rfl
/-! ### impl_cutEnds: function 30 -/
def impl_cutEnds.f (a0_0 : Int) (a0_1 : Int) (l0_2 : List S50) (l0_3 : List S72) (l1 : List Int) (a2 : Int) : Option (Int × Int × Int × Int) := if 0 < (l1.length : Int) then (if 0 ≤ (rd2 l1 0) then (if (rd2 l1 0) < (l0_2.length : Int) then (if 1 < (l1.length : Int) then (if 0 ≤ (rd2 l1 1) then (if (rd2 l1 1) < (l0_2.length : Int) then (if a2 = 1 then (some ((rd50 l0_2 (rd2 l1 1)).f0, (rd50 l0_2 (rd2 l1 1)).f1, (rd50 l0_2 (rd2 l1 0)).f0, (rd50 l0_2 (rd2 l1 0)).f1)) else (some ((rd50 l0_2 (rd2 l1 0)).f0, (rd50 l0_2 (rd2 l1 0)).f1, (rd50 l0_2 (rd2 l1 1)).f0, (rd50 l0_2 (rd2 l1 1)).f1))) else (none)) else (none)) else (none)) else (none)) else (none)) else (none)
set_option maxRecDepth 100000 in
theorem impl_cutEnds.ok {a0_0 : Int} {a0_1 : Int} {l0_2 : List S50} {l0_3 : List S72} {l1 : List Int} {a2 : Int} {r0 : Int} {r1 : Int} {r2 : Int} {r3 : Int} (H : impl_cutEnds.f a0_0 a0_1 l0_2 l0_3 l1 a2 = some (r0, r1, r2, r3)) : OkF Tryz.prog 30 [.agg [.d (.v (.int .i64 a0_0)), .d (.v (.int .i64 a0_1)), .d (.row 51 (l0_2.map c50)), .d (.row 76 (l0_3.map c72))], vR 2 (l1.map c2), vI a2] [] (.tup [.agg [.d (.v (.int .i64 r0)), .d (.v (.int .i64 r1))], .agg [.d (.v (.int .i64 r2)), .d (.v (.int .i64 r3))]]) [] := by
 unfold impl_cutEnds.f at H
 refine OkF.ofC (N := 30) (rs := [6, 7]) (avs := [.agg [.d (.v (.int .i64 r0)), .d (.v (.int .i64 r1))], .agg [.d (.v (.int .i64 r2)), .d (.v (.int .i64 r3))]]) [(6, 51), (7, 51)] Tryz.func30 rfl rfl (rc_cc rfl) (by decide) rfl (by decide) rfl rfl rfl rfl (fun w0 S => ?_)
 refine AG.seq ?_
 refine AG.region HM ?_
 refine a_box 200 ?_
 refine a_alloc (cs := [_, _]) 201 ?_ T51
 refine a_alloc (cs := [_, _]) 202 ?_ T51
 refine RA.nil nofun ?_
 refine AG.seq ?_
 refine AG.region HM ?_
 refine a_faB (q := 2) ?_ D33_2
 refine a_ldB (v := vR _ _) ?_ T30
 refine a_move (v := vR _ _) ?_
 by_cases hc1 : 0 < (l1.length : Int)
 ·rw [if_pos hc1] at H
  refine a_ixR (el := c2 (rd2 l1 0)) ?_ ⟨(by decide), hc1⟩ T2 Tryz.underlying27 (hel := R2 (by decide) hc1)
  refine a_ldR (v := vI _) ?_ T2
  by_cases hc2 : 0 ≤ (rd2 l1 0)
  ·rw [if_pos hc2] at H
   by_cases hc3 : (rd2 l1 0) < (l0_2.length : Int)
   ·rw [if_pos hc3] at H
    refine a_ixR (el := c50 (rd50 l0_2 (rd2 l1 0))) ?_ ⟨hc2, hc3⟩ T51 Tryz.underlying30 (hel := R50 hc2 hc3)
    refine a_ldR (v := .agg [_, _]) ?_ T51
    refine a_faB (q := 2) ?_ D33_2
    refine a_ldB (v := vR _ _) ?_ T30
    refine a_move (v := vR _ _) ?_
    by_cases hc4 : 1 < (l1.length : Int)
    ·rw [if_pos hc4] at H
     refine a_ixR (el := c2 (rd2 l1 1)) ?_ ⟨(by decide), hc4⟩ T2 Tryz.underlying27 (hel := R2 (by decide) hc4)
     refine a_ldR (v := vI _) ?_ T2
     by_cases hc5 : 0 ≤ (rd2 l1 1)
     ·rw [if_pos hc5] at H
      by_cases hc6 : (rd2 l1 1) < (l0_2.length : Int)
      ·rw [if_pos hc6] at H
       refine a_ixR (el := c50 (rd50 l0_2 (rd2 l1 1))) ?_ ⟨hc5, hc6⟩ T51 Tryz.underlying30 (hel := R50 hc5 hc6)
       refine a_ldR (v := .agg [_, _]) ?_ T51
       refine a_alloc (cs := [_, _]) 203 ?_ T51
       refine a_alloc (cs := [_, _]) 204 ?_ T51
       refine a_stB (cs' := [_, _]) ?_ T51
       refine a_stB (cs' := [_, _]) ?_ T51
       refine RA.nil (fun _ => by kernel_rfl) ?_
       refine AG.seq ?_
       refine AG.seq ?_
       refine AG.region HM ?_
       refine a_move (v := vI _) ?_
       refine a_int (u := .bool ((a2 == 1))) ?_
       refine RA.nil nofun ?_
       by_cases hc7 : a2 = 1
       ·rw [if_pos hc7] at H
        refine AG.yes rfl (beq_iff_eq.2 hc7) ?_
        refine AG.seq ?_
        refine AG.region HM ?_
        refine a_ldB (v := .agg [_, _]) ?_ T51
        refine a_ldB (v := .agg [_, _]) ?_ T51
        refine a_stB (cs' := [_, _]) ?_ T51
        refine a_stB (cs' := [_, _]) ?_ T51
        refine RA.nil (fun _ => by kernel_rfl) ?_
        refine AG.ret ?_
        simp only [Option.some.injEq, Prod.mk.injEq] at H
        obtain ⟨rfl, rfl, rfl, rfl⟩ := H
        exact RetL.cell T51 rfl rfl rfl (RetL.cell T51 rfl rfl rfl (RetL.nil (RetP.mk id ⟨rfl, rfl, trivial⟩ trivial rfl)))
       ·rw [if_neg hc7] at H
        refine AG.no rfl (beq_eq_false_iff_ne.2 hc7) ?_
        refine AG.skip ?_
        refine AG.seq ?_
        refine AG.region HM ?_
        refine a_ldB (v := .agg [_, _]) ?_ T51
        refine a_ldB (v := .agg [_, _]) ?_ T51
        refine a_stB (cs' := [_, _]) ?_ T51
        refine a_stB (cs' := [_, _]) ?_ T51
        refine RA.nil (fun _ => by kernel_rfl) ?_
        refine AG.ret ?_
        simp only [Option.some.injEq, Prod.mk.injEq] at H
        obtain ⟨rfl, rfl, rfl, rfl⟩ := H
        exact RetL.cell T51 rfl rfl rfl (RetL.cell T51 rfl rfl rfl (RetL.nil (RetP.mk id ⟨rfl, rfl, trivial⟩ trivial rfl)))
      ·rw [if_neg hc6] at H
       cases H
     ·rw [if_neg hc5] at H
      cases H
    ·rw [if_neg hc4] at H
     cases H
   ·rw [if_neg hc3] at H
    cases H
  ·rw [if_neg hc2] at H
   cases H
 ·rw [if_neg hc1] at H
  cases H
/-! ### impl_NearestOrder: function 8 -/
mutual
def impl_NearestOrder.l0 : Nat → Int → Int → List S50 → List S72 → List (List Int) → List Int → List Bool → Int → Int → Option ((List Int) × (List Int) × Int × Int)
 | 0, _, _, _, _, _, _, _, _, _ => none
 | k + 1, y208_0, y208_1, y208_2, y208_3, x6, x8, x9, x37, x38 => if x38 < x37 then (if 0 ≤ x38 then (if x38 < (x9.length : Int) then (impl_NearestOrder.l0 k y208_0 y208_1 y208_2 y208_3 x6 x8 (x9.set (x38 : Int).toNat true) x37 (wrap64 (x38 + 1))) else (none)) else (none)) else (impl_NearestOrder.l1 k y208_0 y208_1 y208_2 y208_3 x6 x8 x9 (([] : List Int) : List Int) (([] : List Int) : List Int) 0 0 0)
def impl_NearestOrder.l1 : Nat → Int → Int → List S50 → List S72 → List (List Int) → List Int → List Bool → List Int → List Int → Int → Int → Int → Option ((List Int) × (List Int) × Int × Int)
 | 0, _, _, _, _, _, _, _, _, _, _, _, _ => none
 | k + 1, y214_0, y214_1, y214_2, y214_3, x6, x8, x9, x11, x12, x13, y219_0, y219_1 => if (x11.length : Int) < (x6.length : Int) then (impl_NearestOrder.l2 k y214_0 y214_1 y214_2 y214_3 x6 x8 x9 x11 x12 x13 y219_0 y219_1 (-1) 0 0 (-1) (x6.length : Int) 0) else (some (x11, x12, x13, 0))
def impl_NearestOrder.l2 : Nat → Int → Int → List S50 → List S72 → List (List Int) → List Int → List Bool → List Int → List Int → Int → Int → Int → Int → Int → Int → Int → Int → Int → Option ((List Int) × (List Int) × Int × Int)
 | 0, _, _, _, _, _, _, _, _, _, _, _, _, _, _, _, _, _, _ => none
 | k + 1, y220_0, y220_1, y220_2, y220_3, x6, x8, x9, x11, x12, x13, y225_0, y225_1, x15, x16, x17, x18, x54, x55 => if x55 < x54 then (if 0 ≤ x55 then (if x55 < (x9.length : Int) then (if (rd4 x9 x55) = true then (if x55 < (x8.length : Int) then (impl_NearestOrder.j0 k y220_0 y220_1 y220_2 y220_3 x6 x8 x9 x11 x12 x13 y225_0 y225_1 x15 x16 x17 x18 x55 x54 x55 (decide ((rd2 x8 x55) < x18))) else (none)) else (impl_NearestOrder.j0 k y220_0 y220_1 y220_2 y220_3 x6 x8 x9 x11 x12 x13 y225_0 y225_1 x15 x16 x17 x18 x55 x54 x55 true)) else (none)) else (none)) else (if x11.length < 17592186044416 then (if x12.length < 17592186044416 then (if 0 ≤ x15 then (if x15 < (x9.length : Int) then (if x15 < (x6.length : Int) then ((impl_cutEnds.f y220_0 y220_1 y220_2 y220_3 (rd27 x6 x15) x16).bind fun bt55 => (impl_NearestOrder.l1 k y220_0 y220_1 y220_2 y220_3 x6 x8 (x9.set (x15 : Int).toNat false) (x11 ++ [x15]) (x12 ++ [x16]) (wrap64 (x13 + x17)) bt55.2.2.1 bt55.2.2.2)) else (none)) else (none)) else (none)) else (none)) else (none))
def impl_NearestOrder.j0 : Nat → Int → Int → List S50 → List S72 → List (List Int) → List Int → List Bool → List Int → List Int → Int → Int → Int → Int → Int → Int → Int → Int → Int → Int → Bool → Option ((List Int) × (List Int) × Int × Int)
 | 0, _, _, _, _, _, _, _, _, _, _, _, _, _, _, _, _, _, _, _, _ => none
 | k + 1, y229_0, y229_1, y229_2, y229_3, x6, x8, x9, x11, x12, x13, y234_0, y234_1, x15, x16, x17, x18, x19, x54, x55, x70 => if x70 = true then (impl_NearestOrder.l2 k y229_0 y229_1 y229_2 y229_3 x6 x8 x9 x11 x12 x13 y234_0 y234_1 x15 x16 x17 x18 x54 (wrap64 (x55 + 1))) else (if (x11.length : Int) > 0 then (if 0 ≤ x19 then (if x19 < (x6.length : Int) then (if 0 < ((rd27 x6 x19).length : Int) then (if 0 ≤ (rd2 (rd27 x6 x19) 0) then (if (rd2 (rd27 x6 x19) 0) < (y229_2.length : Int) then ((impl_Distance.f k y234_0 y234_1 ((rd50 y229_2 (rd2 (rd27 x6 x19) 0)).f0) ((rd50 y229_2 (rd2 (rd27 x6 x19) 0)).f1)).bind fun t29 => (if 1 < ((rd27 x6 x19).length : Int) then (if 0 ≤ (rd2 (rd27 x6 x19) 1) then (if (rd2 (rd27 x6 x19) 1) < (y229_2.length : Int) then ((impl_Distance.f k y234_0 y234_1 ((rd50 y229_2 (rd2 (rd27 x6 x19) 1)).f0) ((rd50 y229_2 (rd2 (rd27 x6 x19) 1)).f1)).bind fun t34 => (if t34 < t29 then (if x19 < (x8.length : Int) then (if (rd2 x8 x19) > x18 then (impl_NearestOrder.l2 k y229_0 y229_1 y229_2 y229_3 x6 x8 x9 x11 x12 x13 y234_0 y234_1 x19 1 t34 (rd2 x8 x19) x54 (wrap64 (x55 + 1))) else (if t34 < x17 then (impl_NearestOrder.l2 k y229_0 y229_1 y229_2 y229_3 x6 x8 x9 x11 x12 x13 y234_0 y234_1 x19 1 t34 (rd2 x8 x19) x54 (wrap64 (x55 + 1))) else (impl_NearestOrder.l2 k y229_0 y229_1 y229_2 y229_3 x6 x8 x9 x11 x12 x13 y234_0 y234_1 x15 x16 x17 x18 x54 (wrap64 (x55 + 1))))) else (none)) else (if x19 < (x8.length : Int) then (if (rd2 x8 x19) > x18 then (impl_NearestOrder.l2 k y229_0 y229_1 y229_2 y229_3 x6 x8 x9 x11 x12 x13 y234_0 y234_1 x19 0 t29 (rd2 x8 x19) x54 (wrap64 (x55 + 1))) else (if t29 < x17 then (impl_NearestOrder.l2 k y229_0 y229_1 y229_2 y229_3 x6 x8 x9 x11 x12 x13 y234_0 y234_1 x19 0 t29 (rd2 x8 x19) x54 (wrap64 (x55 + 1))) else (impl_NearestOrder.l2 k y229_0 y229_1 y229_2 y229_3 x6 x8 x9 x11 x12 x13 y234_0 y234_1 x15 x16 x17 x18 x54 (wrap64 (x55 + 1))))) else (none)))) else (none)) else (none)) else (none))) else (none)) else (none)) else (none)) else (none)) else (none)) else (if 0 ≤ x19 then (if x19 < (x8.length : Int) then (if (rd2 x8 x19) > x18 then (impl_NearestOrder.l2 k y229_0 y229_1 y229_2 y229_3 x6 x8 x9 x11 x12 x13 y234_0 y234_1 x19 0 0 (rd2 x8 x19) x54 (wrap64 (x55 + 1))) else (if 0 < x17 then (impl_NearestOrder.l2 k y229_0 y229_1 y229_2 y229_3 x6 x8 x9 x11 x12 x13 y234_0 y234_1 x19 0 0 (rd2 x8 x19) x54 (wrap64 (x55 + 1))) else (impl_NearestOrder.l2 k y229_0 y229_1 y229_2 y229_3 x6 x8 x9 x11 x12 x13 y234_0 y234_1 x15 x16 x17 x18 x54 (wrap64 (x55 + 1))))) else (none)) else (none)))
end
def impl_NearestOrder.f (k : Nat) (a0_0 : Int) (a0_1 : Int) (l0_2 : List S50) (l0_3 : List S72) : Option ((List Int) × (List Int) × Int × Int) := (impl_EdgesOf.f k a0_0 a0_1 l0_2 l0_3).bind fun bt1 => (if bt1.2 = 0 then ((impl_edgeDepths.f k a0_0 a0_1 l0_2 l0_3).bind fun t5 => (if 0 ≤ (bt1.1.length : Int) then (if ((bt1.1.length : Int) : Int).toNat ≤ 281474976710656 then (impl_NearestOrder.l0 k a0_0 a0_1 l0_2 l0_3 bt1.1 t5 (List.replicate (((bt1.1.length : Int) : Int).toNat) false) (((bt1.1.length : Int) : Int).toNat : Int) 0) else (none)) else (none))) else (some (([] : List Int), ([] : List Int), 0, bt1.2)))
set_option maxRecDepth 100000 in
theorem impl_NearestOrder.ok {k : Nat} {a0_0 : Int} {a0_1 : Int} {l0_2 : List S50} {l0_3 : List S72} {r0 : List Int} {r1 : List Int} {r2 : Int} {r3 : Int} (H : impl_NearestOrder.f k a0_0 a0_1 l0_2 l0_3 = some (r0, r1, r2, r3)) : OkF Tryz.prog 8 [.agg [.d (.v (.int .i64 a0_0)), .d (.v (.int .i64 a0_1)), .d (.row 51 (l0_2.map c50)), .d (.row 76 (l0_3.map c72))]] [] (.tup [.c (.own 100 r0.length), .c (.own 101 r1.length), .c (.d (.v (.int .i64 r2))), .c (.d (.v (.int .i64 r3)))]) [(100, .row 2 (r0.map c2)), (101, .row 2 (r1.map c2))] := by
 unfold impl_NearestOrder.f at H
 refine OkF.of (N := 148) (rs := [2, 3, 4, 5]) (avs := [.c (.own 100 r0.length), .c (.own 101 r1.length), .c (.d (.v (.int .i64 r2))), .c (.d (.v (.int .i64 r3)))]) Tryz.func8 rfl rfl (fun _ _ => results_tmp4 rfl _ _ _) (by decide) rfl rfl rfl rfl (fun w0 S => ?_)
 refine AG.seq ?_
 refine AG.region HM ?_
 refine a_box 200 ?_
 refine a_nilO (e := 2) 201 ?_ T2
 refine a_nilO (e := 2) 202 ?_ T2
 refine a_move (v := vI _) ?_
 refine a_move (v := vI _) ?_
 refine RA.nil nofun ?_
 refine AG.seq ?_
 refine AG.region HM ?_
 refine a_ldB (v := .agg [_, _, _, _]) ?_ T33
 obtain ⟨⟨t1, t2⟩, e3, H⟩ := bindO H
 refine a_call (v := .tup [.c (.own 203 t1.length), .c (.d (.v (.int .i64 t2)))]) (nk := [(203, .row 27 (t1.map c27))]) (L := []) ?_ rfl (impl_EdgesOf.ok e3) (fun κ => cond (Nat.beq κ 203) 100 (κ)) (qg qn) trivial ⟨rfl, trivial⟩ ⟨rfl, trivial⟩ rfl
 refine a_move (v := .tup [_, _]) ?_
 refine a_ext (v := .c (.own _ _)) ?_
 refine a_ext (v := vI _) ?_
 refine a_move (v := .c (.own _ _)) ?_
 refine a_move (v := vI _) ?_
 refine RA.nil nofun ?_
 refine AG.seq ?_
 refine AG.seq ?_
 refine AG.freeze 203 ?_
 refine AG.region HM ?_
 refine a_move (v := vI _) ?_
 refine a_int (u := .bool ((t2 != 0))) ?_
 refine RA.nil nofun ?_
 by_cases hc4 : t2 = 0
 ·rw [if_pos hc4] at H
  refine AG.no rfl (bne_eq_false_iff_eq.2 hc4) ?_
  refine AG.skip ?_
  refine AG.seq ?_
  refine AG.region HM ?_
  refine a_ldB (v := .agg [_, _, _, _]) ?_ T33
  obtain ⟨t5, e6, H⟩ := bindO H
  refine a_call (v := .c (.own 206 t5.length)) (nk := [(206, .row 2 (t5.map c2))]) (L := []) ?_ rfl (impl_edgeDepths.ok e6) (fun κ => cond (Nat.beq κ 206) 100 (κ)) (qg qn) trivial ⟨rfl, trivial⟩ ⟨rfl, trivial⟩ rfl
  refine a_move (v := vR _ _) ?_
  refine a_lenR ?_ Tryz.underlying46
  by_cases hc7 : 0 ≤ (t1.length : Int)
  ·rw [if_pos hc7] at H
   by_cases hc8 : ((t1.length : Int) : Int).toNat ≤ 281474976710656
   ·rw [if_pos hc8] at H
    refine a_make (n := (t1.length : Int)) (css := (List.replicate (((t1.length : Int) : Int).toNat) false).map c4) 207 ?_ N61 T4 (zV zN) hc7 (by omega) (by omega) (hcss := by exact rep_map rfl)
    refine a_move (v := .c (.own _ _)) ?_
    refine a_move (v := .c (.own _ _)) ?_
    refine RA.nil (fun _ => by kernel_rfl) ?_
    refine AG.seq ?_
    refine AG.seq ?_
    refine AG.region HM ?_
    refine a_move (v := .c (.own _ _)) ?_
    refine a_lenO ?_ Tryz.underlying61
    refine a_move (v := vI _) ?_
    refine RA.nil nofun ?_
    refine AG.block ?_
    refine AG.loop ?_
    obtain ⟨K0, hK0, gK0⟩ : ∃ K, k ≤ K ∧ K ≤ k := ⟨k, Nat.le_refl k, Nat.le_refl k⟩
    refine AGr.canon (fun κ => cond (Nat.beq κ 208) 200 (cond (Nat.beq κ 209) 206 (cond (Nat.beq κ 210) 207 (κ)))) (AGr.loopI (n := k) (fun k s => k ≤ K0 ∧ ∃ (y208_0 : Int) (y208_1 : Int) (y208_2 : List S50) (y208_3 : List S72) (x6 : List (List Int)) (x8 : List Int) (x9 : List Bool) (x37 : Int) (x38 : Int), impl_NearestOrder.l0 k y208_0 y208_1 y208_2 y208_3 x6 x8 x9 x37 x38 = some (r0, r1, r2, r3) ∧ s = St.of [(1, .c (.ptr 208 0)), (6, vR 27 (x6.map c27)), (8, .c (.own 209 x8.length)), (9, .c (.own 210 x9.length)), (37, vI x37), (38, vI x38)] [(208, .box 33 [.d (.v (.int .i64 y208_0)), .d (.v (.int .i64 y208_1)), .d (.row 51 (y208_2.map c50)), .d (.row 76 (y208_3.map c72))]), (209, .row 2 (x8.map c2)), (210, .row 4 (x9.map c4))]) ⟨hK0, _, _, _, _, _, _, _, _, _, H, rfl⟩ ?_ ?_) ⟨rfl, rfl, rfl, (ownE rfl (by simp)), rfl, rfl, trivial⟩ ⟨rfl, rfl, rfl, trivial⟩ rfl
    ·rintro _ ⟨_, _, _, _, _, _, _, _, _, _, H, _⟩
     cases H
    ·clear H hK0
     rintro k ih0 _ ⟨hK0, y208_0, y208_1, y208_2, y208_3, x6, x8, x9, x37, x38, H, rfl⟩
     unfold impl_NearestOrder.l0 at H
     refine AG.seq ?_
     refine AG.region HM ?_
     refine a_int (u := .bool (decide (x38 < x37))) ?_
     refine RA.nil nofun ?_
     refine AG.seq ?_
     by_cases hc10 : x38 < x37
     ·rw [if_pos hc10] at H
      refine AG.yes rfl (decide_eq_true hc10) ?_
      refine AG.skip ?_
      refine AG.seq ?_
      refine AG.block ?_
      refine AG.seq ?_
      refine AG.region HM ?_
      refine a_move (v := vI _) ?_
      refine a_move (v := vI _) ?_
      refine RA.nil nofun ?_
      refine AG.region HM ?_
      refine a_move (v := .c (.own _ _)) ?_
      refine a_move (v := vI _) ?_
      by_cases hc11 : 0 ≤ x38
      ·rw [if_pos hc11] at H
       by_cases hc12 : x38 < (x9.length : Int)
       ·rw [if_pos hc12] at H
        refine a_ixO ?_ ⟨hc11, hc12⟩ T4 Tryz.underlying61
        refine a_stF (css' := (x9.set (x38 : Int).toNat true).map c4) ?_ (flat_map (fun _ => rfl)) (G4 hc11 hc12) T4 (hcss := by exact set_map rfl)
        refine RA.nil nofun ?_
        refine AG.region HM ?_
        refine a_int (u := .int .i64 (wrap64 (x38 + 1))) ?_
        refine a_move (v := vI _) ?_
        refine RA.nil nofun ?_
        exact AGr.canon id (ih0 _ (by omega) _ ⟨by omega, _, _, _, _, _, _, _, _, _, H, rfl⟩) ⟨rfl, rfl, rfl, (ownE rfl (by simp)), rfl, rfl, trivial⟩ ⟨rfl, rfl, rfl, trivial⟩ rfl
       ·rw [if_neg hc12] at H
        cases H
      ·rw [if_neg hc11] at H
       cases H
     ·rw [if_neg hc10] at H
      refine AG.no rfl (decide_eq_false hc10) ?_
      refine AG.exit ?_
      refine AG.seq ?_
      refine AG.region HM ?_
      refine a_lit (cs := []) (D := []) (css := (([] : List Int) : List Int).map c2) 211 ?_ N27 T2 (hcss := by rfl)
      refine a_lit (cs := []) (D := []) (css := (([] : List Int) : List Int).map c2) 212 ?_ N27 T2 (hcss := by rfl)
      refine a_move (v := .c (.own _ _)) ?_
      refine a_move (v := .c (.own _ _)) ?_
      refine a_move (v := vI _) ?_
      refine RA.nil nofun ?_
      refine AG.seq ?_
      refine AG.region HM ?_
      refine a_build (cs := [_, _]) ?_ T51 rfl (hin := I51)
      refine a_alloc (cs := [_, _]) 213 ?_ T51
      refine a_stB (cs' := [_, _]) ?_ T51
      refine RA.nil nofun ?_
      refine AG.seq ?_
      refine AG.block ?_
      refine AG.loop ?_
      obtain ⟨K1, hK1, gK1⟩ : ∃ K, k ≤ K ∧ K ≤ k := ⟨k, Nat.le_refl k, Nat.le_refl k⟩
      refine AGr.canon (fun κ => cond (Nat.beq κ 214) 208 (cond (Nat.beq κ 215) 209 (cond (Nat.beq κ 216) 210 (cond (Nat.beq κ 217) 211 (cond (Nat.beq κ 218) 212 (cond (Nat.beq κ 219) 213 (κ))))))) (AGr.loopI (n := k) (fun k s => k ≤ K1 ∧ ∃ (y214_0 : Int) (y214_1 : Int) (y214_2 : List S50) (y214_3 : List S72) (x6 : List (List Int)) (x8 : List Int) (x9 : List Bool) (x11 : List Int) (x12 : List Int) (x13 : Int) (y219_0 : Int) (y219_1 : Int), impl_NearestOrder.l1 k y214_0 y214_1 y214_2 y214_3 x6 x8 x9 x11 x12 x13 y219_0 y219_1 = some (r0, r1, r2, r3) ∧ s = St.of [(1, .c (.ptr 214 0)), (6, vR 27 (x6.map c27)), (8, .c (.own 215 x8.length)), (9, .c (.own 216 x9.length)), (11, .c (.own 217 x11.length)), (12, .c (.own 218 x12.length)), (13, vI x13), (14, .c (.ptr 219 0))] [(214, .box 33 [.d (.v (.int .i64 y214_0)), .d (.v (.int .i64 y214_1)), .d (.row 51 (y214_2.map c50)), .d (.row 76 (y214_3.map c72))]), (215, .row 2 (x8.map c2)), (216, .row 4 (x9.map c4)), (217, .row 2 (x11.map c2)), (218, .row 2 (x12.map c2)), (219, .box 51 [.d (.v (.int .i64 y219_0)), .d (.v (.int .i64 y219_1))])]) ⟨hK1, _, _, _, _, _, _, _, _, _, _, _, _, H, rfl⟩ ?_ ?_) ⟨rfl, rfl, rfl, rfl, (ownE rfl (by simp)), (ownE rfl (by simp)), rfl, rfl, trivial⟩ ⟨rfl, rfl, rfl, rfl, rfl, rfl, trivial⟩ rfl
      ·rintro _ ⟨_, _, _, _, _, _, _, _, _, _, _, _, _, H, _⟩
       cases H
      ·clear H hK1
       rintro k ih1 _ ⟨hK1, y214_0, y214_1, y214_2, y214_3, x6, x8, x9, x11, x12, x13, y219_0, y219_1, H, rfl⟩
       unfold impl_NearestOrder.l1 at H
       refine AG.seq ?_
       refine AG.seq ?_
       refine AG.region HM ?_
       refine a_move (v := .c (.own _ _)) ?_
       refine a_lenO ?_ Tryz.underlying27
       refine a_move (v := vR _ _) ?_
       refine a_lenR ?_ Tryz.underlying46
       refine a_int (u := .bool (decide ((x11.length : Int) < (x6.length : Int)))) ?_
       refine RA.nil nofun ?_
       by_cases hc16 : (x11.length : Int) < (x6.length : Int)
       ·rw [if_pos hc16] at H
        refine AG.yes rfl (decide_eq_true hc16) ?_
        refine AG.skip ?_
        refine AG.block ?_
        refine AG.seq ?_
        refine AG.region HM ?_
        refine a_move (v := vI _) ?_
        refine a_move (v := vI _) ?_
        refine a_move (v := vI _) ?_
        refine a_move (v := vI _) ?_
        refine RA.nil nofun ?_
        refine AG.seq ?_
        refine AG.seq ?_
        refine AG.region HM ?_
        refine a_move (v := vR _ _) ?_
        refine a_lenR ?_ Tryz.underlying46
        refine a_move (v := vI _) ?_
        refine RA.nil nofun ?_
        refine AG.block ?_
        refine AG.loop ?_
        obtain ⟨K2, hK2, gK2⟩ : ∃ K, k ≤ K ∧ K ≤ k := ⟨k, Nat.le_refl k, Nat.le_refl k⟩
        refine AGr.canon (fun κ => cond (Nat.beq κ 220) 214 (cond (Nat.beq κ 221) 215 (cond (Nat.beq κ 222) 216 (cond (Nat.beq κ 223) 217 (cond (Nat.beq κ 224) 218 (cond (Nat.beq κ 225) 219 (κ))))))) (AGr.loopI (n := k) (fun k s => k ≤ K2 ∧ ∃ (y220_0 : Int) (y220_1 : Int) (y220_2 : List S50) (y220_3 : List S72) (x6 : List (List Int)) (x8 : List Int) (x9 : List Bool) (x11 : List Int) (x12 : List Int) (x13 : Int) (y225_0 : Int) (y225_1 : Int) (x15 : Int) (x16 : Int) (x17 : Int) (x18 : Int) (x54 : Int) (x55 : Int), impl_NearestOrder.l2 k y220_0 y220_1 y220_2 y220_3 x6 x8 x9 x11 x12 x13 y225_0 y225_1 x15 x16 x17 x18 x54 x55 = some (r0, r1, r2, r3) ∧ s = St.of [(1, .c (.ptr 220 0)), (6, vR 27 (x6.map c27)), (8, .c (.own 221 x8.length)), (9, .c (.own 222 x9.length)), (11, .c (.own 223 x11.length)), (12, .c (.own 224 x12.length)), (13, vI x13), (14, .c (.ptr 225 0)), (15, vI x15), (16, vI x16), (17, vI x17), (18, vI x18), (54, vI x54), (55, vI x55)] [(220, .box 33 [.d (.v (.int .i64 y220_0)), .d (.v (.int .i64 y220_1)), .d (.row 51 (y220_2.map c50)), .d (.row 76 (y220_3.map c72))]), (221, .row 2 (x8.map c2)), (222, .row 4 (x9.map c4)), (223, .row 2 (x11.map c2)), (224, .row 2 (x12.map c2)), (225, .box 51 [.d (.v (.int .i64 y225_0)), .d (.v (.int .i64 y225_1))])]) ⟨hK2, _, _, _, _, _, _, _, _, _, _, _, _, _, _, _, _, _, _, H, rfl⟩ ?_ ?_) ⟨rfl, rfl, rfl, rfl, rfl, rfl, rfl, rfl, rfl, rfl, rfl, rfl, rfl, rfl, trivial⟩ ⟨rfl, rfl, rfl, rfl, rfl, rfl, trivial⟩ rfl
        ·rintro _ ⟨_, _, _, _, _, _, _, _, _, _, _, _, _, _, _, _, _, _, _, H, _⟩
         cases H
        ·clear H hK2
         rintro k ih2 _ ⟨hK2, y220_0, y220_1, y220_2, y220_3, x6, x8, x9, x11, x12, x13, y225_0, y225_1, x15, x16, x17, x18, x54, x55, H, rfl⟩
         unfold impl_NearestOrder.l2 at H
         refine AG.seq ?_
         refine AG.region HM ?_
         refine a_int (u := .bool (decide (x55 < x54))) ?_
         refine RA.nil nofun ?_
         refine AG.seq ?_
         by_cases hc17 : x55 < x54
         ·rw [if_pos hc17] at H
          refine AG.yes rfl (decide_eq_true hc17) ?_
          refine AG.skip ?_
          refine AG.seq ?_
          refine AG.block ?_
          refine AG.seq ?_
          refine AG.region HM ?_
          refine a_move (v := vI _) ?_
          refine a_move (v := vI _) ?_
          refine RA.nil nofun ?_
          refine AG.seq ?_
          refine AG.seq ?_
          refine AG.joinR (fun s => ∃ q, q ≤ k ∧ ∃ (y229_0 : Int) (y229_1 : Int) (y229_2 : List S50) (y229_3 : List S72) (x6 : List (List Int)) (x8 : List Int) (x9 : List Bool) (x11 : List Int) (x12 : List Int) (x13 : Int) (y234_0 : Int) (y234_1 : Int) (x15 : Int) (x16 : Int) (x17 : Int) (x18 : Int) (x19 : Int) (x54 : Int) (x55 : Int) (x70 : Bool), impl_NearestOrder.j0 q y229_0 y229_1 y229_2 y229_3 x6 x8 x9 x11 x12 x13 y234_0 y234_1 x15 x16 x17 x18 x19 x54 x55 x70 = some (r0, r1, r2, r3) ∧ s = St.of [(1, .c (.ptr 229 0)), (6, vR 27 (x6.map c27)), (8, .c (.own 230 x8.length)), (9, .c (.own 231 x9.length)), (11, .c (.own 232 x11.length)), (12, .c (.own 233 x12.length)), (13, vI x13), (14, .c (.ptr 234 0)), (15, vI x15), (16, vI x16), (17, vI x17), (18, vI x18), (19, vI x19), (54, vI x54), (55, vI x55), (70, vB x70)] [(229, .box 33 [.d (.v (.int .i64 y229_0)), .d (.v (.int .i64 y229_1)), .d (.row 51 (y229_2.map c50)), .d (.row 76 (y229_3.map c72))]), (230, .row 2 (x8.map c2)), (231, .row 4 (x9.map c4)), (232, .row 2 (x11.map c2)), (233, .row 2 (x12.map c2)), (234, .box 51 [.d (.v (.int .i64 y234_0)), .d (.v (.int .i64 y234_1))])]) ?_ ?_
          ·skip
           refine AG.region HM ?_
           refine a_move (v := .c (.own _ _)) ?_
           refine a_move (v := vI _) ?_
           by_cases hc18 : 0 ≤ x55
           ·rw [if_pos hc18] at H
            by_cases hc19 : x55 < (x9.length : Int)
            ·rw [if_pos hc19] at H
             refine a_ixO ?_ ⟨hc18, hc19⟩ T4 Tryz.underlying61
             refine a_ldE (v := vB _) ?_ (G4 hc18 hc19) T4
             refine a_un (u := .bool (!(rd4 x9 x55))) ?_
             refine a_move (v := vB _) ?_
             by_cases hc20 : (rd4 x9 x55) = true
             ·rw [if_pos hc20] at H
              refine a_move (v := .c (.own _ _)) ?_ (hg := Gs.yes rfl rfl rfl (congrArg Bool.not hc20))
              refine a_move (v := vI _) ?_ (hg := Gs.yes rfl rfl rfl (congrArg Bool.not hc20))
              by_cases hc21 : x55 < (x8.length : Int)
              ·rw [if_pos hc21] at H
               refine a_ixO ?_ ⟨hc18, hc21⟩ T2 Tryz.underlying27 (hg := Gs.yes rfl rfl rfl (congrArg Bool.not hc20))
               refine a_ldE (v := vI _) ?_ (G2 hc18 hc21) T2 (hg := Gs.yes rfl rfl rfl (congrArg Bool.not hc20))
               refine a_move (v := vI _) ?_ (hg := Gs.yes rfl rfl rfl (congrArg Bool.not hc20))
               refine a_int (u := .bool (decide ((rd2 x8 x55) < x18))) ?_ (hg := Gs.yes rfl rfl rfl (congrArg Bool.not hc20))
               refine a_pick (b := false) (v := vB _) ?_ (congrArg Bool.not hc20)
               refine RA.nil nofun ?_
               exact CanR.mk (fun κ => cond (Nat.beq κ 229) 220 (cond (Nat.beq κ 230) 221 (cond (Nat.beq κ 231) 222 (cond (Nat.beq κ 232) 223 (cond (Nat.beq κ 233) 224 (cond (Nat.beq κ 234) 225 (κ))))))) ⟨_, (by omega), _, _, _, _, _, _, _, _, _, _, _, _, _, _, _, _, _, _, _, _, H, rfl⟩ ⟨rfl, rfl, rfl, rfl, rfl, rfl, rfl, rfl, rfl, rfl, rfl, rfl, rfl, rfl, rfl, rfl, trivial⟩ ⟨rfl, rfl, rfl, rfl, rfl, rfl, trivial⟩ rfl
              ·rw [if_neg hc21] at H
               cases H
             ·rw [if_neg hc20] at H
              refine RA.skip rfl rfl rfl rfl rfl (congrArg Bool.not (Bool.eq_false_iff.2 hc20)) (by decide) ?_
              refine RA.skip rfl rfl rfl rfl rfl (congrArg Bool.not (Bool.eq_false_iff.2 hc20)) (by decide) ?_
              refine RA.skip rfl rfl rfl rfl rfl (congrArg Bool.not (Bool.eq_false_iff.2 hc20)) (by decide) ?_
              refine RA.skip rfl rfl rfl rfl rfl (congrArg Bool.not (Bool.eq_false_iff.2 hc20)) (by decide) ?_
              refine RA.skip rfl rfl rfl rfl rfl (congrArg Bool.not (Bool.eq_false_iff.2 hc20)) (by decide) ?_
              refine RA.skip rfl rfl rfl rfl rfl (congrArg Bool.not (Bool.eq_false_iff.2 hc20)) (by decide) ?_
              refine a_pick (b := true) (v := vB _) ?_ (congrArg Bool.not (Bool.eq_false_iff.2 hc20))
              refine RA.nil nofun ?_
              exact CanR.mk (fun κ => cond (Nat.beq κ 229) 220 (cond (Nat.beq κ 230) 221 (cond (Nat.beq κ 231) 222 (cond (Nat.beq κ 232) 223 (cond (Nat.beq κ 233) 224 (cond (Nat.beq κ 234) 225 (κ))))))) ⟨_, (by omega), _, _, _, _, _, _, _, _, _, _, _, _, _, _, _, _, _, _, _, _, H, rfl⟩ ⟨rfl, rfl, rfl, rfl, rfl, rfl, rfl, rfl, rfl, rfl, rfl, rfl, rfl, rfl, rfl, rfl, trivial⟩ ⟨rfl, rfl, rfl, rfl, rfl, rfl, trivial⟩ rfl
            ·rw [if_neg hc19] at H
             cases H
           ·rw [if_neg hc18] at H
            cases H
          ·clear H
           rintro _ ⟨k, hj0, y229_0, y229_1, y229_2, y229_3, x6, x8, x9, x11, x12, x13, y234_0, y234_1, x15, x16, x17, x18, x19, x54, x55, x70, H, rfl⟩
           cases k with
           | zero => cases H
           | succ k =>
            rw [impl_NearestOrder.j0] at H
            by_cases hc22 : x70 = true
            ·rw [if_pos hc22] at H
             refine AG.yes rfl hc22 ?_
             refine AG.exit ?_
             refine AG.region HM ?_
             refine a_int (u := .int .i64 (wrap64 (x55 + 1))) ?_
             refine a_move (v := vI _) ?_
             refine RA.nil nofun ?_
             exact AGr.canon (fun κ => cond (Nat.beq κ 220) 229 (cond (Nat.beq κ 221) 230 (cond (Nat.beq κ 222) 231 (cond (Nat.beq κ 223) 232 (cond (Nat.beq κ 224) 233 (cond (Nat.beq κ 225) 234 (κ))))))) (ih2 _ (by omega) _ ⟨by omega, _, _, _, _, _, _, _, _, _, _, _, _, _, _, _, _, _, _, H, rfl⟩) ⟨rfl, rfl, rfl, rfl, rfl, rfl, rfl, rfl, rfl, rfl, rfl, rfl, rfl, rfl, trivial⟩ ⟨rfl, rfl, rfl, rfl, rfl, rfl, trivial⟩ rfl
            ·rw [if_neg hc22] at H
             refine AG.no rfl (Bool.eq_false_iff.2 hc22) ?_
             refine AG.skip ?_
             refine AG.seq ?_
             refine AG.region HM ?_
             refine a_move (v := vI _) ?_
             refine a_move (v := vI _) ?_
             refine RA.nil nofun ?_
             refine AG.seq ?_
             refine AG.seq ?_
             refine AG.region HM ?_
             refine a_move (v := .c (.own _ _)) ?_
             refine a_lenO ?_ Tryz.underlying27
             refine a_int (u := .bool (decide ((x11.length : Int) > 0))) ?_
             refine RA.nil nofun ?_
             by_cases hc23 : (x11.length : Int) > 0
             ·rw [if_pos hc23] at H
              refine AG.yes rfl (decide_eq_true hc23) ?_
              refine AG.seq ?_
              refine AG.region HM ?_
              refine a_ldB (v := .agg [_, _]) ?_ T51
              refine a_faB (q := 2) ?_ D33_2
              refine a_ldB (v := vR _ _) ?_ T30
              refine a_move (v := vR _ _) ?_
              refine a_move (v := vI _) ?_
              by_cases hc24 : 0 ≤ x19
              ·rw [if_pos hc24] at H
               by_cases hc25 : x19 < (x6.length : Int)
               ·rw [if_pos hc25] at H
                refine a_ixR (el := c27 (rd27 x6 x19)) ?_ ⟨hc24, hc25⟩ T27 Tryz.underlying46 (hel := R27 hc24 hc25)
                refine a_ldR (v := vR _ _) ?_ T27
                by_cases hc26 : 0 < ((rd27 x6 x19).length : Int)
                ·rw [if_pos hc26] at H
                 refine a_ixR (el := c2 (rd2 (rd27 x6 x19) 0)) ?_ ⟨(by decide), hc26⟩ T2 Tryz.underlying27 (hel := R2 (by decide) hc26)
                 refine a_ldR (v := vI _) ?_ T2
                 by_cases hc27 : 0 ≤ (rd2 (rd27 x6 x19) 0)
                 ·rw [if_pos hc27] at H
                  by_cases hc28 : (rd2 (rd27 x6 x19) 0) < (y229_2.length : Int)
                  ·rw [if_pos hc28] at H
                   refine a_ixR (el := c50 (rd50 y229_2 (rd2 (rd27 x6 x19) 0))) ?_ ⟨hc27, hc28⟩ T51 Tryz.underlying30 (hel := R50 hc27 hc28)
                   refine a_ldR (v := .agg [_, _]) ?_ T51
                   obtain ⟨t29, e30, H⟩ := bindO H
                   refine a_call (v := vI t29) (nk := []) (L := []) ?_ rfl (impl_Distance.ok e30) id (qg (qg qn)) trivial trivial trivial rfl
                   refine a_move (v := vI _) ?_
                   refine RA.nil (fun _ => by kernel_rfl) ?_
                   refine AG.seq ?_
                   refine AG.region HM ?_
                   refine a_ldB (v := .agg [_, _]) ?_ T51
                   refine a_faB (q := 2) ?_ D33_2
                   refine a_ldB (v := vR _ _) ?_ T30
                   refine a_move (v := vR _ _) ?_
                   refine a_move (v := vI _) ?_
                   refine a_ixR (el := c27 (rd27 x6 x19)) ?_ ⟨hc24, hc25⟩ T27 Tryz.underlying46 (hel := R27 hc24 hc25)
                   refine a_ldR (v := vR _ _) ?_ T27
                   by_cases hc31 : 1 < ((rd27 x6 x19).length : Int)
                   ·rw [if_pos hc31] at H
                    refine a_ixR (el := c2 (rd2 (rd27 x6 x19) 1)) ?_ ⟨(by decide), hc31⟩ T2 Tryz.underlying27 (hel := R2 (by decide) hc31)
                    refine a_ldR (v := vI _) ?_ T2
                    by_cases hc32 : 0 ≤ (rd2 (rd27 x6 x19) 1)
                    ·rw [if_pos hc32] at H
                     by_cases hc33 : (rd2 (rd27 x6 x19) 1) < (y229_2.length : Int)
                     ·rw [if_pos hc33] at H
                      refine a_ixR (el := c50 (rd50 y229_2 (rd2 (rd27 x6 x19) 1))) ?_ ⟨hc32, hc33⟩ T51 Tryz.underlying30 (hel := R50 hc32 hc33)
                      refine a_ldR (v := .agg [_, _]) ?_ T51
                      obtain ⟨t34, e35, H⟩ := bindO H
                      refine a_call (v := vI t34) (nk := []) (L := []) ?_ rfl (impl_Distance.ok e35) id (qg (qg qn)) trivial trivial trivial rfl
                      refine a_move (v := vI _) ?_
                      refine RA.nil (fun _ => by kernel_rfl) ?_
                      refine AG.seq ?_
                      refine AG.region HM ?_
                      refine a_move (v := vI _) ?_
                      refine a_move (v := vI _) ?_
                      refine a_int (u := .bool (decide (t34 < t29))) ?_
                      refine RA.nil nofun ?_
                      by_cases hc36 : t34 < t29
                      ·rw [if_pos hc36] at H
                       refine AG.yes rfl (decide_eq_true hc36) ?_
                       refine AG.region HM ?_
                       refine a_move (v := vI _) ?_
                       refine a_move (v := vI _) ?_
                       refine a_move (v := vI _) ?_
                       refine RA.nil nofun ?_
                       refine AG.seq ?_
                       refine AG.region HM ?_
                       refine a_move (v := .c (.own _ _)) ?_
                       refine a_move (v := vI _) ?_
                       by_cases hc37 : x19 < (x8.length : Int)
                       ·rw [if_pos hc37] at H
                        refine a_ixO ?_ ⟨hc24, hc37⟩ T2 Tryz.underlying27
                        refine a_ldE (v := vI _) ?_ (G2 hc24 hc37) T2
                        refine a_move (v := vI _) ?_
                        refine a_int (u := .bool (decide ((rd2 x8 x19) > x18))) ?_
                        refine a_move (v := vB _) ?_
                        by_cases hc38 : (rd2 x8 x19) > x18
                        ·rw [if_pos hc38] at H
                         refine RA.skip rfl rfl rfl rfl rfl (decide_eq_true hc38) (by decide) ?_
                         refine RA.skip rfl rfl rfl rfl rfl (decide_eq_true hc38) (by decide) ?_
                         refine RA.skip rfl rfl rfl rfl rfl (decide_eq_true hc38) (by decide) ?_
                         refine a_pick (b := true) (v := vB _) ?_ (decide_eq_true hc38)
                         refine RA.nil nofun ?_
                         refine AG.yes rfl rfl ?_
                         refine AG.region HM ?_
                         refine a_move (v := vI _) ?_
                         refine a_move (v := vI _) ?_
                         refine a_move (v := vI _) ?_
                         refine a_move (v := .c (.own _ _)) ?_
                         refine a_move (v := vI _) ?_
                         refine a_ixO ?_ ⟨hc24, hc37⟩ T2 Tryz.underlying27
                         refine a_ldE (v := vI _) ?_ (G2 hc24 hc37) T2
                         refine a_move (v := vI _) ?_
                         refine a_move (v := vI _) ?_
                         refine a_move (v := vI _) ?_
                         refine a_move (v := vI _) ?_
                         refine RA.nil (fun _ => by kernel_rfl) ?_
                         refine AG.region HM ?_
                         refine a_int (u := .int .i64 (wrap64 (x55 + 1))) ?_
                         refine a_move (v := vI _) ?_
                         refine RA.nil nofun ?_
                         exact AGr.canon (fun κ => cond (Nat.beq κ 220) 229 (cond (Nat.beq κ 221) 230 (cond (Nat.beq κ 222) 231 (cond (Nat.beq κ 223) 232 (cond (Nat.beq κ 224) 233 (cond (Nat.beq κ 225) 234 (κ))))))) (ih2 _ (by omega) _ ⟨by omega, _, _, _, _, _, _, _, _, _, _, _, _, _, _, _, _, _, _, H, rfl⟩) ⟨rfl, rfl, rfl, rfl, rfl, rfl, rfl, rfl, rfl, rfl, rfl, rfl, rfl, rfl, trivial⟩ ⟨rfl, rfl, rfl, rfl, rfl, rfl, trivial⟩ rfl
                        ·rw [if_neg hc38] at H
                         refine a_move (v := vI _) ?_ (hg := Gs.yes rfl rfl rfl (decide_eq_false hc38))
                         refine a_move (v := vI _) ?_ (hg := Gs.yes rfl rfl rfl (decide_eq_false hc38))
                         refine a_int (u := .bool (decide (t34 < x17))) ?_ (hg := Gs.yes rfl rfl rfl (decide_eq_false hc38))
                         refine a_pick (b := false) (v := vB _) ?_ (decide_eq_false hc38)
                         refine RA.nil nofun ?_
                         by_cases hc39 : t34 < x17
                         ·rw [if_pos hc39] at H
                          refine AG.yes rfl (decide_eq_true hc39) ?_
                          refine AG.region HM ?_
                          refine a_move (v := vI _) ?_
                          refine a_move (v := vI _) ?_
                          refine a_move (v := vI _) ?_
                          refine a_move (v := .c (.own _ _)) ?_
                          refine a_move (v := vI _) ?_
                          refine a_ixO ?_ ⟨hc24, hc37⟩ T2 Tryz.underlying27
                          refine a_ldE (v := vI _) ?_ (G2 hc24 hc37) T2
                          refine a_move (v := vI _) ?_
                          refine a_move (v := vI _) ?_
                          refine a_move (v := vI _) ?_
                          refine a_move (v := vI _) ?_
                          refine RA.nil (fun _ => by kernel_rfl) ?_
                          refine AG.region HM ?_
                          refine a_int (u := .int .i64 (wrap64 (x55 + 1))) ?_
                          refine a_move (v := vI _) ?_
                          refine RA.nil nofun ?_
                          exact AGr.canon (fun κ => cond (Nat.beq κ 220) 229 (cond (Nat.beq κ 221) 230 (cond (Nat.beq κ 222) 231 (cond (Nat.beq κ 223) 232 (cond (Nat.beq κ 224) 233 (cond (Nat.beq κ 225) 234 (κ))))))) (ih2 _ (by omega) _ ⟨by omega, _, _, _, _, _, _, _, _, _, _, _, _, _, _, _, _, _, _, H, rfl⟩) ⟨rfl, rfl, rfl, rfl, rfl, rfl, rfl, rfl, rfl, rfl, rfl, rfl, rfl, rfl, trivial⟩ ⟨rfl, rfl, rfl, rfl, rfl, rfl, trivial⟩ rfl
                         ·rw [if_neg hc39] at H
                          refine AG.no rfl (decide_eq_false hc39) ?_
                          refine AG.skip ?_
                          refine AG.region HM ?_
                          refine a_int (u := .int .i64 (wrap64 (x55 + 1))) ?_
                          refine a_move (v := vI _) ?_
                          refine RA.nil nofun ?_
                          exact AGr.canon (fun κ => cond (Nat.beq κ 220) 229 (cond (Nat.beq κ 221) 230 (cond (Nat.beq κ 222) 231 (cond (Nat.beq κ 223) 232 (cond (Nat.beq κ 224) 233 (cond (Nat.beq κ 225) 234 (κ))))))) (ih2 _ (by omega) _ ⟨by omega, _, _, _, _, _, _, _, _, _, _, _, _, _, _, _, _, _, _, H, rfl⟩) ⟨rfl, rfl, rfl, rfl, rfl, rfl, rfl, rfl, rfl, rfl, rfl, rfl, rfl, rfl, trivial⟩ ⟨rfl, rfl, rfl, rfl, rfl, rfl, trivial⟩ rfl
                       ·rw [if_neg hc37] at H
                        cases H
                      ·rw [if_neg hc36] at H
                       refine AG.no rfl (decide_eq_false hc36) ?_
                       refine AG.skip ?_
                       refine AG.seq ?_
                       refine AG.region HM ?_
                       refine a_move (v := .c (.own _ _)) ?_
                       refine a_move (v := vI _) ?_
                       by_cases hc40 : x19 < (x8.length : Int)
                       ·rw [if_pos hc40] at H
                        refine a_ixO ?_ ⟨hc24, hc40⟩ T2 Tryz.underlying27
                        refine a_ldE (v := vI _) ?_ (G2 hc24 hc40) T2
                        refine a_move (v := vI _) ?_
                        refine a_int (u := .bool (decide ((rd2 x8 x19) > x18))) ?_
                        refine a_move (v := vB _) ?_
                        by_cases hc41 : (rd2 x8 x19) > x18
                        ·rw [if_pos hc41] at H
                         refine RA.skip rfl rfl rfl rfl rfl (decide_eq_true hc41) (by decide) ?_
                         refine RA.skip rfl rfl rfl rfl rfl (decide_eq_true hc41) (by decide) ?_
                         refine RA.skip rfl rfl rfl rfl rfl (decide_eq_true hc41) (by decide) ?_
                         refine a_pick (b := true) (v := vB _) ?_ (decide_eq_true hc41)
                         refine RA.nil nofun ?_
                         refine AG.yes rfl rfl ?_
                         refine AG.region HM ?_
                         refine a_move (v := vI _) ?_
                         refine a_move (v := vI _) ?_
                         refine a_move (v := vI _) ?_
                         refine a_move (v := .c (.own _ _)) ?_
                         refine a_move (v := vI _) ?_
                         refine a_ixO ?_ ⟨hc24, hc40⟩ T2 Tryz.underlying27
                         refine a_ldE (v := vI _) ?_ (G2 hc24 hc40) T2
                         refine a_move (v := vI _) ?_
                         refine a_move (v := vI _) ?_
                         refine a_move (v := vI _) ?_
                         refine a_move (v := vI _) ?_
                         refine RA.nil (fun _ => by kernel_rfl) ?_
                         refine AG.region HM ?_
                         refine a_int (u := .int .i64 (wrap64 (x55 + 1))) ?_
                         refine a_move (v := vI _) ?_
                         refine RA.nil nofun ?_
                         exact AGr.canon (fun κ => cond (Nat.beq κ 220) 229 (cond (Nat.beq κ 221) 230 (cond (Nat.beq κ 222) 231 (cond (Nat.beq κ 223) 232 (cond (Nat.beq κ 224) 233 (cond (Nat.beq κ 225) 234 (κ))))))) (ih2 _ (by omega) _ ⟨by omega, _, _, _, _, _, _, _, _, _, _, _, _, _, _, _, _, _, _, H, rfl⟩) ⟨rfl, rfl, rfl, rfl, rfl, rfl, rfl, rfl, rfl, rfl, rfl, rfl, rfl, rfl, trivial⟩ ⟨rfl, rfl, rfl, rfl, rfl, rfl, trivial⟩ rfl
                        ·rw [if_neg hc41] at H
                         refine a_move (v := vI _) ?_ (hg := Gs.yes rfl rfl rfl (decide_eq_false hc41))
                         refine a_move (v := vI _) ?_ (hg := Gs.yes rfl rfl rfl (decide_eq_false hc41))
                         refine a_int (u := .bool (decide (t29 < x17))) ?_ (hg := Gs.yes rfl rfl rfl (decide_eq_false hc41))
                         refine a_pick (b := false) (v := vB _) ?_ (decide_eq_false hc41)
                         refine RA.nil nofun ?_
                         by_cases hc42 : t29 < x17
                         ·rw [if_pos hc42] at H
                          refine AG.yes rfl (decide_eq_true hc42) ?_
                          refine AG.region HM ?_
                          refine a_move (v := vI _) ?_
                          refine a_move (v := vI _) ?_
                          refine a_move (v := vI _) ?_
                          refine a_move (v := .c (.own _ _)) ?_
                          refine a_move (v := vI _) ?_
                          refine a_ixO ?_ ⟨hc24, hc40⟩ T2 Tryz.underlying27
                          refine a_ldE (v := vI _) ?_ (G2 hc24 hc40) T2
                          refine a_move (v := vI _) ?_
                          refine a_move (v := vI _) ?_
                          refine a_move (v := vI _) ?_
                          refine a_move (v := vI _) ?_
                          refine RA.nil (fun _ => by kernel_rfl) ?_
                          refine AG.region HM ?_
                          refine a_int (u := .int .i64 (wrap64 (x55 + 1))) ?_
                          refine a_move (v := vI _) ?_
                          refine RA.nil nofun ?_
                          exact AGr.canon (fun κ => cond (Nat.beq κ 220) 229 (cond (Nat.beq κ 221) 230 (cond (Nat.beq κ 222) 231 (cond (Nat.beq κ 223) 232 (cond (Nat.beq κ 224) 233 (cond (Nat.beq κ 225) 234 (κ))))))) (ih2 _ (by omega) _ ⟨by omega, _, _, _, _, _, _, _, _, _, _, _, _, _, _, _, _, _, _, H, rfl⟩) ⟨rfl, rfl, rfl, rfl, rfl, rfl, rfl, rfl, rfl, rfl, rfl, rfl, rfl, rfl, trivial⟩ ⟨rfl, rfl, rfl, rfl, rfl, rfl, trivial⟩ rfl
                         ·rw [if_neg hc42] at H
                          refine AG.no rfl (decide_eq_false hc42) ?_
                          refine AG.skip ?_
                          refine AG.region HM ?_
                          refine a_int (u := .int .i64 (wrap64 (x55 + 1))) ?_
                          refine a_move (v := vI _) ?_
                          refine RA.nil nofun ?_
                          exact AGr.canon (fun κ => cond (Nat.beq κ 220) 229 (cond (Nat.beq κ 221) 230 (cond (Nat.beq κ 222) 231 (cond (Nat.beq κ 223) 232 (cond (Nat.beq κ 224) 233 (cond (Nat.beq κ 225) 234 (κ))))))) (ih2 _ (by omega) _ ⟨by omega, _, _, _, _, _, _, _, _, _, _, _, _, _, _, _, _, _, _, H, rfl⟩) ⟨rfl, rfl, rfl, rfl, rfl, rfl, rfl, rfl, rfl, rfl, rfl, rfl, rfl, rfl, trivial⟩ ⟨rfl, rfl, rfl, rfl, rfl, rfl, trivial⟩ rfl
                       ·rw [if_neg hc40] at H
                        cases H
                     ·rw [if_neg hc33] at H
                      cases H
                    ·rw [if_neg hc32] at H
                     cases H
                   ·rw [if_neg hc31] at H
                    cases H
                  ·rw [if_neg hc28] at H
                   cases H
                 ·rw [if_neg hc27] at H
                  cases H
                ·rw [if_neg hc26] at H
                 cases H
               ·rw [if_neg hc25] at H
                cases H
              ·rw [if_neg hc24] at H
               cases H
             ·rw [if_neg hc23] at H
              refine AG.no rfl (decide_eq_false hc23) ?_
              refine AG.skip ?_
              refine AG.seq ?_
              refine AG.region HM ?_
              refine a_move (v := .c (.own _ _)) ?_
              refine a_move (v := vI _) ?_
              by_cases hc43 : 0 ≤ x19
              ·rw [if_pos hc43] at H
               by_cases hc44 : x19 < (x8.length : Int)
               ·rw [if_pos hc44] at H
                refine a_ixO ?_ ⟨hc43, hc44⟩ T2 Tryz.underlying27
                refine a_ldE (v := vI _) ?_ (G2 hc43 hc44) T2
                refine a_move (v := vI _) ?_
                refine a_int (u := .bool (decide ((rd2 x8 x19) > x18))) ?_
                refine a_move (v := vB _) ?_
                by_cases hc45 : (rd2 x8 x19) > x18
                ·rw [if_pos hc45] at H
                 refine RA.skip rfl rfl rfl rfl rfl (decide_eq_true hc45) (by decide) ?_
                 refine RA.skip rfl rfl rfl rfl rfl (decide_eq_true hc45) (by decide) ?_
                 refine RA.skip rfl rfl rfl rfl rfl (decide_eq_true hc45) (by decide) ?_
                 refine a_pick (b := true) (v := vB _) ?_ (decide_eq_true hc45)
                 refine RA.nil nofun ?_
                 refine AG.yes rfl rfl ?_
                 refine AG.region HM ?_
                 refine a_move (v := vI _) ?_
                 refine a_move (v := vI _) ?_
                 refine a_move (v := vI _) ?_
                 refine a_move (v := .c (.own _ _)) ?_
                 refine a_move (v := vI _) ?_
                 refine a_ixO ?_ ⟨hc43, hc44⟩ T2 Tryz.underlying27
                 refine a_ldE (v := vI _) ?_ (G2 hc43 hc44) T2
                 refine a_move (v := vI _) ?_
                 refine a_move (v := vI _) ?_
                 refine a_move (v := vI _) ?_
                 refine a_move (v := vI _) ?_
                 refine RA.nil (fun _ => by kernel_rfl) ?_
                 refine AG.region HM ?_
                 refine a_int (u := .int .i64 (wrap64 (x55 + 1))) ?_
                 refine a_move (v := vI _) ?_
                 refine RA.nil nofun ?_
                 exact AGr.canon (fun κ => cond (Nat.beq κ 220) 229 (cond (Nat.beq κ 221) 230 (cond (Nat.beq κ 222) 231 (cond (Nat.beq κ 223) 232 (cond (Nat.beq κ 224) 233 (cond (Nat.beq κ 225) 234 (κ))))))) (ih2 _ (by omega) _ ⟨by omega, _, _, _, _, _, _, _, _, _, _, _, _, _, _, _, _, _, _, H, rfl⟩) ⟨rfl, rfl, rfl, rfl, rfl, rfl, rfl, rfl, rfl, rfl, rfl, rfl, rfl, rfl, trivial⟩ ⟨rfl, rfl, rfl, rfl, rfl, rfl, trivial⟩ rfl
                ·rw [if_neg hc45] at H
                 refine a_move (v := vI _) ?_ (hg := Gs.yes rfl rfl rfl (decide_eq_false hc45))
                 refine a_move (v := vI _) ?_ (hg := Gs.yes rfl rfl rfl (decide_eq_false hc45))
                 refine a_int (u := .bool (decide (0 < x17))) ?_ (hg := Gs.yes rfl rfl rfl (decide_eq_false hc45))
                 refine a_pick (b := false) (v := vB _) ?_ (decide_eq_false hc45)
                 refine RA.nil nofun ?_
                 by_cases hc46 : 0 < x17
                 ·rw [if_pos hc46] at H
                  refine AG.yes rfl (decide_eq_true hc46) ?_
                  refine AG.region HM ?_
                  refine a_move (v := vI _) ?_
                  refine a_move (v := vI _) ?_
                  refine a_move (v := vI _) ?_
                  refine a_move (v := .c (.own _ _)) ?_
                  refine a_move (v := vI _) ?_
                  refine a_ixO ?_ ⟨hc43, hc44⟩ T2 Tryz.underlying27
                  refine a_ldE (v := vI _) ?_ (G2 hc43 hc44) T2
                  refine a_move (v := vI _) ?_
                  refine a_move (v := vI _) ?_
                  refine a_move (v := vI _) ?_
                  refine a_move (v := vI _) ?_
                  refine RA.nil (fun _ => by kernel_rfl) ?_
                  refine AG.region HM ?_
                  refine a_int (u := .int .i64 (wrap64 (x55 + 1))) ?_
                  refine a_move (v := vI _) ?_
                  refine RA.nil nofun ?_
                  exact AGr.canon (fun κ => cond (Nat.beq κ 220) 229 (cond (Nat.beq κ 221) 230 (cond (Nat.beq κ 222) 231 (cond (Nat.beq κ 223) 232 (cond (Nat.beq κ 224) 233 (cond (Nat.beq κ 225) 234 (κ))))))) (ih2 _ (by omega) _ ⟨by omega, _, _, _, _, _, _, _, _, _, _, _, _, _, _, _, _, _, _, H, rfl⟩) ⟨rfl, rfl, rfl, rfl, rfl, rfl, rfl, rfl, rfl, rfl, rfl, rfl, rfl, rfl, trivial⟩ ⟨rfl, rfl, rfl, rfl, rfl, rfl, trivial⟩ rfl
                 ·rw [if_neg hc46] at H
                  refine AG.no rfl (decide_eq_false hc46) ?_
                  refine AG.skip ?_
                  refine AG.region HM ?_
                  refine a_int (u := .int .i64 (wrap64 (x55 + 1))) ?_
                  refine a_move (v := vI _) ?_
                  refine RA.nil nofun ?_
                  exact AGr.canon (fun κ => cond (Nat.beq κ 220) 229 (cond (Nat.beq κ 221) 230 (cond (Nat.beq κ 222) 231 (cond (Nat.beq κ 223) 232 (cond (Nat.beq κ 224) 233 (cond (Nat.beq κ 225) 234 (κ))))))) (ih2 _ (by omega) _ ⟨by omega, _, _, _, _, _, _, _, _, _, _, _, _, _, _, _, _, _, _, H, rfl⟩) ⟨rfl, rfl, rfl, rfl, rfl, rfl, rfl, rfl, rfl, rfl, rfl, rfl, rfl, rfl, trivial⟩ ⟨rfl, rfl, rfl, rfl, rfl, rfl, trivial⟩ rfl
               ·rw [if_neg hc44] at H
                cases H
              ·rw [if_neg hc43] at H
               cases H
         ·rw [if_neg hc17] at H
          refine AG.no rfl (decide_eq_false hc17) ?_
          refine AG.exit ?_
          refine AG.seq ?_
          refine AG.region HM ?_
          refine a_move (v := .c (.own _ _)) ?_
          refine a_move (v := vI _) ?_
          refine a_lit (cs := [_]) (D := []) (css := ([x15]).map c2) 226 ?_ N27 T2
          by_cases hc47 : x11.length < 17592186044416
          ·rw [if_pos hc47] at H
           refine a_appO (css' := (x11 ++ [x15]).map c2) (n' := (x11 ++ [x15]).length) ?_ T2 (by simp [maxLen]; omega) (by simp; omega) Tryz.underlying27 (hc := by exact List.map_append.symm) (hn := by exact List.length_map _)
           refine a_move (v := .c (.own _ _)) ?_
           refine a_move (v := vI _) ?_
           refine a_lit (cs := [_]) (D := []) (css := ([x16]).map c2) 227 ?_ N27 T2
           by_cases hc49 : x12.length < 17592186044416
           ·rw [if_pos hc49] at H
            refine a_appO (css' := (x12 ++ [x16]).map c2) (n' := (x12 ++ [x16]).length) ?_ T2 (by simp [maxLen]; omega) (by simp; omega) Tryz.underlying27 (hc := by exact List.map_append.symm) (hn := by exact List.length_map _)
            refine a_move (v := .c (.own _ _)) ?_
            refine a_move (v := .c (.own _ _)) ?_
            refine RA.nil nofun ?_
            refine AG.seq ?_
            refine AG.region HM ?_
            refine a_move (v := vI _) ?_
            refine a_move (v := vI _) ?_
            refine a_int (u := .int .i64 (wrap64 (x13 + x17))) ?_
            refine a_move (v := vI _) ?_
            refine RA.nil nofun ?_
            refine AG.seq ?_
            refine AG.region HM ?_
            refine a_move (v := .c (.own _ _)) ?_
            refine a_move (v := vI _) ?_
            by_cases hc51 : 0 ≤ x15
            ·rw [if_pos hc51] at H
             by_cases hc52 : x15 < (x9.length : Int)
             ·rw [if_pos hc52] at H
              refine a_ixO ?_ ⟨hc51, hc52⟩ T4 Tryz.underlying61
              refine a_stF (css' := (x9.set (x15 : Int).toNat false).map c4) ?_ (flat_map (fun _ => rfl)) (G4 hc51 hc52) T4 (hcss := by exact set_map rfl)
              refine RA.nil nofun ?_
              refine AG.region HM ?_
              refine a_ldB (v := .agg [_, _, _, _]) ?_ T33
              refine a_move (v := vR _ _) ?_
              refine a_move (v := vI _) ?_
              by_cases hc54 : x15 < (x6.length : Int)
              ·rw [if_pos hc54] at H
               refine a_ixR (el := c27 (rd27 x6 x15)) ?_ ⟨hc51, hc54⟩ T27 Tryz.underlying46 (hel := R27 hc51 hc54)
               refine a_ldR (v := vR _ _) ?_ T27
               refine a_move (v := vI _) ?_
               obtain ⟨⟨t55, t56, t57, t58⟩, e59, H⟩ := bindO H
               refine a_call (v := .tup [.agg [.d (.v (.int .i64 t55)), .d (.v (.int .i64 t56))], .agg [.d (.v (.int .i64 t57)), .d (.v (.int .i64 t58))]]) (nk := []) (L := []) ?_ rfl (impl_cutEnds.ok e59) id (qg (qd (qd qn))) trivial trivial trivial rfl
               refine a_move (v := .tup [_, _]) ?_
               refine a_ext (v := .agg [_, _]) ?_
               refine a_ext (v := .agg [_, _]) ?_
               refine a_stB (cs' := [_, _]) ?_ T51
               refine RA.nil (fun _ => by kernel_rfl) ?_
               exact AGr.canon (fun κ => cond (Nat.beq κ 214) 220 (cond (Nat.beq κ 215) 221 (cond (Nat.beq κ 216) 222 (cond (Nat.beq κ 217) 223 (cond (Nat.beq κ 218) 224 (cond (Nat.beq κ 219) 225 (κ))))))) (ih1 _ (by omega) _ ⟨by omega, _, _, _, _, _, _, _, _, _, _, _, _, H, rfl⟩) ⟨rfl, rfl, rfl, (ownE rfl (by simp)), rfl, rfl, rfl, rfl, trivial⟩ ⟨rfl, rfl, rfl, rfl, rfl, rfl, trivial⟩ rfl
              ·rw [if_neg hc54] at H
               cases H
             ·rw [if_neg hc52] at H
              cases H
            ·rw [if_neg hc51] at H
             cases H
           ·rw [if_neg hc49] at H
            cases H
          ·rw [if_neg hc47] at H
           cases H
       ·rw [if_neg hc16] at H
        refine AG.no rfl (decide_eq_false hc16) ?_
        refine AG.exit ?_
        refine AG.seq ?_
        refine AG.region HM ?_
        refine a_move (v := .c (.own _ _)) ?_
        refine a_move (v := .c (.own _ _)) ?_
        refine a_move (v := vI _) ?_
        refine a_move (v := .c (.own _ _)) ?_
        refine a_move (v := .c (.own _ _)) ?_
        refine a_move (v := vI _) ?_
        refine a_move (v := vI _) ?_
        refine RA.nil nofun ?_
        refine AG.ret ?_
        simp only [Option.some.injEq, Prod.mk.injEq] at H
        obtain ⟨rfl, rfl, rfl, rfl⟩ := H
        exact RetP.mk (fun κ => cond (Nat.beq κ 100) 217 (cond (Nat.beq κ 101) 218 (κ))) ⟨rfl, rfl, rfl, rfl, trivial⟩ ⟨rfl, rfl, trivial⟩ rfl
   ·rw [if_neg hc8] at H
    cases H
  ·rw [if_neg hc7] at H
   cases H
 ·rw [if_neg hc4] at H
  refine AG.yes rfl (bne_iff_ne.2 hc4) ?_
  refine AG.seq ?_
  refine AG.region HM ?_
  refine a_move (v := vI _) ?_
  refine a_nilO (e := 2) 204 ?_ T2
  refine a_nilO (e := 2) 205 ?_ T2
  refine a_move (v := vI _) ?_
  refine a_move (v := vI _) ?_
  refine RA.nil nofun ?_
  refine AG.ret ?_
  simp only [Option.some.injEq, Prod.mk.injEq] at H
  obtain ⟨rfl, rfl, rfl, rfl⟩ := H
  exact RetP.mk (fun κ => cond (Nat.beq κ 100) 204 (cond (Nat.beq κ 101) 205 (κ))) ⟨(ownE rfl (by simp)), (ownE rfl (by simp)), rfl, rfl, trivial⟩ ⟨rfl, rfl, trivial⟩ rfl
/-! ### laws_eqInt64S: function 9 -/
def laws_eqInt64S.l0 : Nat → List Int → List Int → Int → Option (Bool)
 | 0, _, _, _ => none
 | k + 1, x0, x1, x5 => if x5 < (x0.length : Int) then (if 0 ≤ x5 then (if x5 < (x1.length : Int) then (if (rd2 x0 x5) = (rd2 x1 x5) then (laws_eqInt64S.l0 k x0 x1 (wrap64 (x5 + 1))) else (some false)) else (none)) else (none)) else (some true)
def laws_eqInt64S.f (k : Nat) (l0 : List Int) (l1 : List Int) : Option (Bool) := if (l0.length : Int) = (l1.length : Int) then (laws_eqInt64S.l0 k l0 l1 0) else (some false)
set_option maxRecDepth 100000 in
theorem laws_eqInt64S.ok {k : Nat} {l0 : List Int} {l1 : List Int} {r : Bool} (H : laws_eqInt64S.f k l0 l1 = some r) : OkF Tryz.prog 9 [vR 2 (l0.map c2), vR 2 (l1.map c2)] [] (.c (.d (.v (.bool r)))) [] := by
 unfold laws_eqInt64S.f at H
 refine OkF.of (N := 26) (rs := [4]) (avs := [.c (.d (.v (.bool r)))]) Tryz.func9 rfl rfl (fun _ _ => results_tmp rfl _ _ _) (by decide) rfl rfl rfl rfl (fun w0 S => ?_)
 refine AG.seq ?_
 refine AG.region HM ?_
 refine a_move (v := vB _) ?_
 refine RA.nil nofun ?_
 refine AG.seq ?_
 refine AG.seq ?_
 refine AG.region HM ?_
 refine a_move (v := vR _ _) ?_
 refine a_lenR ?_ Tryz.underlying27
 refine a_move (v := vR _ _) ?_
 refine a_lenR ?_ Tryz.underlying27
 refine a_int (u := .bool (((l0.length : Int) != (l1.length : Int)))) ?_
 refine RA.nil nofun ?_
 by_cases hc1 : (l0.length : Int) = (l1.length : Int)
 ·rw [if_pos hc1] at H
  refine AG.no rfl (bne_eq_false_iff_eq.2 hc1) ?_
  refine AG.skip ?_
  refine AG.seq ?_
  refine AG.seq ?_
  refine AG.region HM ?_
  refine a_move (v := vI _) ?_
  refine RA.nil nofun ?_
  refine AG.block ?_
  refine AG.loop ?_
  obtain ⟨K0, hK0, gK0⟩ : ∃ K, k ≤ K ∧ K ≤ k := ⟨k, Nat.le_refl k, Nat.le_refl k⟩
  refine AGr.canon id (AGr.loopI (n := k) (fun k s => k ≤ K0 ∧ ∃ (x0 : List Int) (x1 : List Int) (x5 : Int), laws_eqInt64S.l0 k x0 x1 x5 = some r ∧ s = St.of [(0, vR 2 (x0.map c2)), (1, vR 2 (x1.map c2)), (5, vI x5)] []) ⟨hK0, _, _, _, H, rfl⟩ ?_ ?_) ⟨rfl, rfl, rfl, trivial⟩ trivial rfl
  ·rintro _ ⟨_, _, _, _, H, _⟩
   cases H
  ·clear H hK0
   rintro k ih0 _ ⟨hK0, x0, x1, x5, H, rfl⟩
   unfold laws_eqInt64S.l0 at H
   refine AG.seq ?_
   refine AG.seq ?_
   refine AG.region HM ?_
   refine a_move (v := vI _) ?_
   refine a_move (v := vR _ _) ?_
   refine a_lenR ?_ Tryz.underlying27
   refine a_int (u := .bool (decide (x5 < (x0.length : Int)))) ?_
   refine RA.nil nofun ?_
   by_cases hc2 : x5 < (x0.length : Int)
   ·rw [if_pos hc2] at H
    refine AG.yes rfl (decide_eq_true hc2) ?_
    refine AG.skip ?_
    refine AG.seq ?_
    refine AG.block ?_
    refine AG.seq ?_
    refine AG.region HM ?_
    refine a_move (v := vR _ _) ?_
    refine a_move (v := vI _) ?_
    by_cases hc3 : 0 ≤ x5
    ·rw [if_pos hc3] at H
     refine a_ixR (el := c2 (rd2 x0 x5)) ?_ ⟨hc3, hc2⟩ T2 Tryz.underlying27 (hel := R2 hc3 hc2)
     refine a_ldR (v := vI _) ?_ T2
     refine a_move (v := vR _ _) ?_
     refine a_move (v := vI _) ?_
     by_cases hc4 : x5 < (x1.length : Int)
     ·rw [if_pos hc4] at H
      refine a_ixR (el := c2 (rd2 x1 x5)) ?_ ⟨hc3, hc4⟩ T2 Tryz.underlying27 (hel := R2 hc3 hc4)
      refine a_ldR (v := vI _) ?_ T2
      refine a_int (u := .bool (((rd2 x0 x5) != (rd2 x1 x5)))) ?_
      refine RA.nil (fun _ => by kernel_rfl) ?_
      by_cases hc5 : (rd2 x0 x5) = (rd2 x1 x5)
      ·rw [if_pos hc5] at H
       refine AG.no rfl (bne_eq_false_iff_eq.2 hc5) ?_
       refine AG.skip ?_
       refine AG.region HM ?_
       refine a_move (v := vI _) ?_
       refine a_int (u := .int .i64 (wrap64 (x5 + 1))) ?_
       refine a_move (v := vI _) ?_
       refine RA.nil nofun ?_
       exact AGr.canon id (ih0 _ (by omega) _ ⟨by omega, _, _, _, H, rfl⟩) ⟨rfl, rfl, rfl, trivial⟩ trivial rfl
      ·rw [if_neg hc5] at H
       refine AG.yes rfl (bne_iff_ne.2 hc5) ?_
       refine AG.seq ?_
       refine AG.region HM ?_
       refine a_move (v := vB _) ?_
       refine RA.nil nofun ?_
       refine AG.ret ?_
       obtain rfl := Option.some.inj H
       exact RetP.mk id ⟨rfl, trivial⟩ trivial rfl
     ·rw [if_neg hc4] at H
      cases H
    ·rw [if_neg hc3] at H
     cases H
   ·rw [if_neg hc2] at H
    refine AG.no rfl (decide_eq_false hc2) ?_
    refine AG.exit ?_
    refine AG.seq ?_
    refine AG.region HM ?_
    refine a_move (v := vB _) ?_
    refine RA.nil nofun ?_
    refine AG.ret ?_
    obtain rfl := Option.some.inj H
    exact RetP.mk id ⟨rfl, trivial⟩ trivial rfl
 ·rw [if_neg hc1] at H
  refine AG.yes rfl (bne_iff_ne.2 hc1) ?_
  refine AG.seq ?_
  refine AG.region HM ?_
  refine a_move (v := vB _) ?_
  refine RA.nil nofun ?_
  refine AG.ret ?_
  obtain rfl := Option.some.inj H
  exact RetP.mk id ⟨rfl, trivial⟩ trivial rfl
/-! ### laws_eqPoint: function 61 -/
def laws_eqPoint.f (a0_0 : Int) (a0_1 : Int) (a1_0 : Int) (a1_1 : Int) : Option (Bool) := if a0_0 = a1_0 then (if a0_1 = a1_1 then (some true) else (some false)) else (some false)
set_option maxRecDepth 100000 in
theorem laws_eqPoint.ok {a0_0 : Int} {a0_1 : Int} {a1_0 : Int} {a1_1 : Int} {r : Bool} (H : laws_eqPoint.f a0_0 a0_1 a1_0 a1_1 = some r) : OkF Tryz.prog 61 [.agg [.d (.v (.int .i64 a0_0)), .d (.v (.int .i64 a0_1))], .agg [.d (.v (.int .i64 a1_0)), .d (.v (.int .i64 a1_1))]] [] (.c (.d (.v (.bool r)))) [] := by
 unfold laws_eqPoint.f at H
 refine OkF.of (N := 15) (rs := [4]) (avs := [.c (.d (.v (.bool r)))]) Tryz.func61 rfl rfl (fun _ _ => results_tmp rfl _ _ _) (by decide) rfl rfl rfl rfl (fun w0 S => ?_)
 refine AG.seq ?_
 refine AG.region HM ?_
 refine a_box 200 ?_
 refine a_box 201 ?_
 refine a_move (v := vB _) ?_
 refine RA.nil nofun ?_
 refine AG.seq ?_
 refine AG.seq ?_
 refine AG.region HM ?_
 refine a_faB (q := 0) ?_ D51_0
 refine a_ldB (v := vI _) ?_ T2
 refine a_faB (q := 0) ?_ D51_0
 refine a_ldB (v := vI _) ?_ T2
 refine a_int (u := .bool ((a0_0 != a1_0))) ?_
 refine RA.nil nofun ?_
 by_cases hc1 : a0_0 = a1_0
 ·rw [if_pos hc1] at H
  refine AG.no rfl (bne_eq_false_iff_eq.2 hc1) ?_
  refine AG.skip ?_
  refine AG.seq ?_
  refine AG.seq ?_
  refine AG.region HM ?_
  refine a_faB (q := 1) ?_ D51_1
  refine a_ldB (v := vI _) ?_ T2
  refine a_faB (q := 1) ?_ D51_1
  refine a_ldB (v := vI _) ?_ T2
  refine a_int (u := .bool ((a0_1 != a1_1))) ?_
  refine RA.nil nofun ?_
  by_cases hc2 : a0_1 = a1_1
  ·rw [if_pos hc2] at H
   refine AG.no rfl (bne_eq_false_iff_eq.2 hc2) ?_
   refine AG.skip ?_
   refine AG.seq ?_
   refine AG.region HM ?_
   refine a_move (v := vB _) ?_
   refine RA.nil nofun ?_
   refine AG.ret ?_
   obtain rfl := Option.some.inj H
   exact RetP.mk id ⟨rfl, trivial⟩ trivial rfl
  ·rw [if_neg hc2] at H
   refine AG.yes rfl (bne_iff_ne.2 hc2) ?_
   refine AG.seq ?_
   refine AG.region HM ?_
   refine a_move (v := vB _) ?_
   refine RA.nil nofun ?_
   refine AG.ret ?_
   obtain rfl := Option.some.inj H
   exact RetP.mk id ⟨rfl, trivial⟩ trivial rfl
 ·rw [if_neg hc1] at H
  refine AG.yes rfl (bne_iff_ne.2 hc1) ?_
  refine AG.seq ?_
  refine AG.region HM ?_
  refine a_move (v := vB _) ?_
  refine RA.nil nofun ?_
  refine AG.ret ?_
  obtain rfl := Option.some.inj H
  exact RetP.mk id ⟨rfl, trivial⟩ trivial rfl
/-! ### laws_eqPointS: function 31 -/
def laws_eqPointS.l0 : Nat → List S50 → List S50 → Int → Option (Bool)
 | 0, _, _, _ => none
 | k + 1, x0, x1, x5 => if x5 < (x0.length : Int) then (if 0 ≤ x5 then (if x5 < (x1.length : Int) then ((laws_eqPoint.f ((rd50 x0 x5).f0) ((rd50 x0 x5).f1) ((rd50 x1 x5).f0) ((rd50 x1 x5).f1)).bind fun t5 => (if t5 = true then (laws_eqPointS.l0 k x0 x1 (wrap64 (x5 + 1))) else (some false))) else (none)) else (none)) else (some true)
def laws_eqPointS.f (k : Nat) (l0 : List S50) (l1 : List S50) : Option (Bool) := if (l0.length : Int) = (l1.length : Int) then (laws_eqPointS.l0 k l0 l1 0) else (some false)
set_option maxRecDepth 100000 in
theorem laws_eqPointS.ok {k : Nat} {l0 : List S50} {l1 : List S50} {r : Bool} (H : laws_eqPointS.f k l0 l1 = some r) : OkF Tryz.prog 31 [vR 51 (l0.map c50), vR 51 (l1.map c50)] [] (.c (.d (.v (.bool r)))) [] := by
 unfold laws_eqPointS.f at H
 refine OkF.of (N := 27) (rs := [4]) (avs := [.c (.d (.v (.bool r)))]) Tryz.func31 rfl rfl (fun _ _ => results_tmp rfl _ _ _) (by decide) rfl rfl rfl rfl (fun w0 S => ?_)
 refine AG.seq ?_
 refine AG.region HM ?_
 refine a_move (v := vB _) ?_
 refine RA.nil nofun ?_
 refine AG.seq ?_
 refine AG.seq ?_
 refine AG.region HM ?_
 refine a_move (v := vR _ _) ?_
 refine a_lenR ?_ Tryz.underlying30
 refine a_move (v := vR _ _) ?_
 refine a_lenR ?_ Tryz.underlying30
 refine a_int (u := .bool (((l0.length : Int) != (l1.length : Int)))) ?_
 refine RA.nil nofun ?_
 by_cases hc1 : (l0.length : Int) = (l1.length : Int)
 ·rw [if_pos hc1] at H
  refine AG.no rfl (bne_eq_false_iff_eq.2 hc1) ?_
  refine AG.skip ?_
  refine AG.seq ?_
  refine AG.seq ?_
  refine AG.region HM ?_
  refine a_move (v := vI _) ?_
  refine RA.nil nofun ?_
  refine AG.block ?_
  refine AG.loop ?_
  obtain ⟨K0, hK0, gK0⟩ : ∃ K, k ≤ K ∧ K ≤ k := ⟨k, Nat.le_refl k, Nat.le_refl k⟩
  refine AGr.canon id (AGr.loopI (n := k) (fun k s => k ≤ K0 ∧ ∃ (x0 : List S50) (x1 : List S50) (x5 : Int), laws_eqPointS.l0 k x0 x1 x5 = some r ∧ s = St.of [(0, vR 51 (x0.map c50)), (1, vR 51 (x1.map c50)), (5, vI x5)] []) ⟨hK0, _, _, _, H, rfl⟩ ?_ ?_) ⟨rfl, rfl, rfl, trivial⟩ trivial rfl
  ·rintro _ ⟨_, _, _, _, H, _⟩
   cases H
  ·clear H hK0
   rintro k ih0 _ ⟨hK0, x0, x1, x5, H, rfl⟩
   unfold laws_eqPointS.l0 at H
   refine AG.seq ?_
   refine AG.seq ?_
   refine AG.region HM ?_
   refine a_move (v := vI _) ?_
   refine a_move (v := vR _ _) ?_
   refine a_lenR ?_ Tryz.underlying30
   refine a_int (u := .bool (decide (x5 < (x0.length : Int)))) ?_
   refine RA.nil nofun ?_
   by_cases hc2 : x5 < (x0.length : Int)
   ·rw [if_pos hc2] at H
    refine AG.yes rfl (decide_eq_true hc2) ?_
    refine AG.skip ?_
    refine AG.seq ?_
    refine AG.block ?_
    refine AG.seq ?_
    refine AG.region HM ?_
    refine a_move (v := vR _ _) ?_
    refine a_move (v := vI _) ?_
    by_cases hc3 : 0 ≤ x5
    ·rw [if_pos hc3] at H
     refine a_ixR (el := c50 (rd50 x0 x5)) ?_ ⟨hc3, hc2⟩ T51 Tryz.underlying30 (hel := R50 hc3 hc2)
     refine a_ldR (v := .agg [_, _]) ?_ T51
     refine a_move (v := vR _ _) ?_
     refine a_move (v := vI _) ?_
     by_cases hc4 : x5 < (x1.length : Int)
     ·rw [if_pos hc4] at H
      refine a_ixR (el := c50 (rd50 x1 x5)) ?_ ⟨hc3, hc4⟩ T51 Tryz.underlying30 (hel := R50 hc3 hc4)
      refine a_ldR (v := .agg [_, _]) ?_ T51
      obtain ⟨t5, e6, H⟩ := bindO H
      refine a_call (v := vB t5) (nk := []) (L := []) ?_ rfl (laws_eqPoint.ok e6) id (qg (qg qn)) trivial trivial trivial rfl
      refine a_un (u := .bool (!t5)) ?_
      refine RA.nil (fun _ => by kernel_rfl) ?_
      by_cases hc7 : t5 = true
      ·rw [if_pos hc7] at H
       refine AG.no rfl (congrArg Bool.not hc7) ?_
       refine AG.skip ?_
       refine AG.region HM ?_
       refine a_move (v := vI _) ?_
       refine a_int (u := .int .i64 (wrap64 (x5 + 1))) ?_
       refine a_move (v := vI _) ?_
       refine RA.nil nofun ?_
       exact AGr.canon id (ih0 _ (by omega) _ ⟨by omega, _, _, _, H, rfl⟩) ⟨rfl, rfl, rfl, trivial⟩ trivial rfl
      ·rw [if_neg hc7] at H
       refine AG.yes rfl (congrArg Bool.not (Bool.eq_false_iff.2 hc7)) ?_
       refine AG.seq ?_
       refine AG.region HM ?_
       refine a_move (v := vB _) ?_
       refine RA.nil nofun ?_
       refine AG.ret ?_
       obtain rfl := Option.some.inj H
       exact RetP.mk id ⟨rfl, trivial⟩ trivial rfl
     ·rw [if_neg hc4] at H
      cases H
    ·rw [if_neg hc3] at H
     cases H
   ·rw [if_neg hc2] at H
    refine AG.no rfl (decide_eq_false hc2) ?_
    refine AG.exit ?_
    refine AG.seq ?_
    refine AG.region HM ?_
    refine a_move (v := vB _) ?_
    refine RA.nil nofun ?_
    refine AG.ret ?_
    obtain rfl := Option.some.inj H
    exact RetP.mk id ⟨rfl, trivial⟩ trivial rfl
 ·rw [if_neg hc1] at H
  refine AG.yes rfl (bne_iff_ne.2 hc1) ?_
  refine AG.seq ?_
  refine AG.region HM ?_
  refine a_move (v := vB _) ?_
  refine RA.nil nofun ?_
  refine AG.ret ?_
  obtain rfl := Option.some.inj H
  exact RetP.mk id ⟨rfl, trivial⟩ trivial rfl
/-! ### laws_eqFace: function 62 -/
def laws_eqFace.f (k : Nat) (a0_0 : ByteArray) (l0_1 : List Int) (a1_0 : ByteArray) (l1_1 : List Int) : Option (Bool) := if a0_0.toList = a1_0.toList then ((laws_eqInt64S.f k l0_1 l1_1).bind fun t2 => (if t2 = true then (some true) else (some false))) else (some false)
set_option maxRecDepth 100000 in
theorem laws_eqFace.ok {k : Nat} {a0_0 : ByteArray} {l0_1 : List Int} {a1_0 : ByteArray} {l1_1 : List Int} {r : Bool} (H : laws_eqFace.f k a0_0 l0_1 a1_0 l1_1 = some r) : OkF Tryz.prog 62 [.agg [.d (.v (.string a0_0)), .d (.row 2 (l0_1.map c2))], .agg [.d (.v (.string a1_0)), .d (.row 2 (l1_1.map c2))]] [] (.c (.d (.v (.bool r)))) [] := by
 unfold laws_eqFace.f at H
 refine OkF.of (N := 16) (rs := [4]) (avs := [.c (.d (.v (.bool r)))]) Tryz.func62 rfl rfl (fun _ _ => results_tmp rfl _ _ _) (by decide) rfl rfl rfl rfl (fun w0 S => ?_)
 refine AG.seq ?_
 refine AG.region HM ?_
 refine a_box 200 ?_
 refine a_box 201 ?_
 refine a_move (v := vB _) ?_
 refine RA.nil nofun ?_
 refine AG.seq ?_
 refine AG.seq ?_
 refine AG.region HM ?_
 refine a_faB (q := 0) ?_ D76_0
 refine a_ldB (v := vS _) ?_ T9
 refine a_faB (q := 0) ?_ D76_0
 refine a_ldB (v := vS _) ?_ T9
 refine a_bin (u := .bool (!(a0_0.toList == a1_0.toList))) ?_
 refine RA.nil nofun ?_
 by_cases hc1 : a0_0.toList = a1_0.toList
 ·rw [if_pos hc1] at H
  refine AG.no rfl (by rw [beq_iff_eq.2 hc1]; rfl) ?_
  refine AG.skip ?_
  refine AG.seq ?_
  refine AG.seq ?_
  refine AG.region HM ?_
  refine a_faB (q := 1) ?_ D76_1
  refine a_ldB (v := vR _ _) ?_ T27
  refine a_faB (q := 1) ?_ D76_1
  refine a_ldB (v := vR _ _) ?_ T27
  obtain ⟨t2, e3, H⟩ := bindO H
  refine a_call (v := vB t2) (nk := []) (L := []) ?_ rfl (laws_eqInt64S.ok e3) id (qd (qd qn)) trivial trivial trivial rfl
  refine a_un (u := .bool (!t2)) ?_
  refine RA.nil nofun ?_
  by_cases hc4 : t2 = true
  ·rw [if_pos hc4] at H
   refine AG.no rfl (congrArg Bool.not hc4) ?_
   refine AG.skip ?_
   refine AG.seq ?_
   refine AG.region HM ?_
   refine a_move (v := vB _) ?_
   refine RA.nil nofun ?_
   refine AG.ret ?_
   obtain rfl := Option.some.inj H
   exact RetP.mk id ⟨rfl, trivial⟩ trivial rfl
  ·rw [if_neg hc4] at H
   refine AG.yes rfl (congrArg Bool.not (Bool.eq_false_iff.2 hc4)) ?_
   refine AG.seq ?_
   refine AG.region HM ?_
   refine a_move (v := vB _) ?_
   refine RA.nil nofun ?_
   refine AG.ret ?_
   obtain rfl := Option.some.inj H
   exact RetP.mk id ⟨rfl, trivial⟩ trivial rfl
 ·rw [if_neg hc1] at H
  refine AG.yes rfl (by rw [beq_eq_false_iff_ne.2 hc1]; rfl) ?_
  refine AG.seq ?_
  refine AG.region HM ?_
  refine a_move (v := vB _) ?_
  refine RA.nil nofun ?_
  refine AG.ret ?_
  obtain rfl := Option.some.inj H
  exact RetP.mk id ⟨rfl, trivial⟩ trivial rfl
/-! ### laws_eqFaceS: function 32 -/
def laws_eqFaceS.l0 : Nat → List S72 → List S72 → Int → Option (Bool)
 | 0, _, _, _ => none
 | k + 1, x0, x1, x5 => if x5 < (x0.length : Int) then (if 0 ≤ x5 then (if x5 < (x1.length : Int) then ((laws_eqFace.f k ((rd72 x0 x5).f0) ((rd72 x0 x5).f1) ((rd72 x1 x5).f0) ((rd72 x1 x5).f1)).bind fun t5 => (if t5 = true then (laws_eqFaceS.l0 k x0 x1 (wrap64 (x5 + 1))) else (some false))) else (none)) else (none)) else (some true)
def laws_eqFaceS.f (k : Nat) (l0 : List S72) (l1 : List S72) : Option (Bool) := if (l0.length : Int) = (l1.length : Int) then (laws_eqFaceS.l0 k l0 l1 0) else (some false)
set_option maxRecDepth 100000 in
theorem laws_eqFaceS.ok {k : Nat} {l0 : List S72} {l1 : List S72} {r : Bool} (H : laws_eqFaceS.f k l0 l1 = some r) : OkF Tryz.prog 32 [vR 76 (l0.map c72), vR 76 (l1.map c72)] [] (.c (.d (.v (.bool r)))) [] := by
 unfold laws_eqFaceS.f at H
 refine OkF.of (N := 27) (rs := [4]) (avs := [.c (.d (.v (.bool r)))]) Tryz.func32 rfl rfl (fun _ _ => results_tmp rfl _ _ _) (by decide) rfl rfl rfl rfl (fun w0 S => ?_)
 refine AG.seq ?_
 refine AG.region HM ?_
 refine a_move (v := vB _) ?_
 refine RA.nil nofun ?_
 refine AG.seq ?_
 refine AG.seq ?_
 refine AG.region HM ?_
 refine a_move (v := vR _ _) ?_
 refine a_lenR ?_ Tryz.underlying31
 refine a_move (v := vR _ _) ?_
 refine a_lenR ?_ Tryz.underlying31
 refine a_int (u := .bool (((l0.length : Int) != (l1.length : Int)))) ?_
 refine RA.nil nofun ?_
 by_cases hc1 : (l0.length : Int) = (l1.length : Int)
 ·rw [if_pos hc1] at H
  refine AG.no rfl (bne_eq_false_iff_eq.2 hc1) ?_
  refine AG.skip ?_
  refine AG.seq ?_
  refine AG.seq ?_
  refine AG.region HM ?_
  refine a_move (v := vI _) ?_
  refine RA.nil nofun ?_
  refine AG.block ?_
  refine AG.loop ?_
  obtain ⟨K0, hK0, gK0⟩ : ∃ K, k ≤ K ∧ K ≤ k := ⟨k, Nat.le_refl k, Nat.le_refl k⟩
  refine AGr.canon id (AGr.loopI (n := k) (fun k s => k ≤ K0 ∧ ∃ (x0 : List S72) (x1 : List S72) (x5 : Int), laws_eqFaceS.l0 k x0 x1 x5 = some r ∧ s = St.of [(0, vR 76 (x0.map c72)), (1, vR 76 (x1.map c72)), (5, vI x5)] []) ⟨hK0, _, _, _, H, rfl⟩ ?_ ?_) ⟨rfl, rfl, rfl, trivial⟩ trivial rfl
  ·rintro _ ⟨_, _, _, _, H, _⟩
   cases H
  ·clear H hK0
   rintro k ih0 _ ⟨hK0, x0, x1, x5, H, rfl⟩
   unfold laws_eqFaceS.l0 at H
   refine AG.seq ?_
   refine AG.seq ?_
   refine AG.region HM ?_
   refine a_move (v := vI _) ?_
   refine a_move (v := vR _ _) ?_
   refine a_lenR ?_ Tryz.underlying31
   refine a_int (u := .bool (decide (x5 < (x0.length : Int)))) ?_
   refine RA.nil nofun ?_
   by_cases hc2 : x5 < (x0.length : Int)
   ·rw [if_pos hc2] at H
    refine AG.yes rfl (decide_eq_true hc2) ?_
    refine AG.skip ?_
    refine AG.seq ?_
    refine AG.block ?_
    refine AG.seq ?_
    refine AG.region HM ?_
    refine a_move (v := vR _ _) ?_
    refine a_move (v := vI _) ?_
    by_cases hc3 : 0 ≤ x5
    ·rw [if_pos hc3] at H
     refine a_ixR (el := c72 (rd72 x0 x5)) ?_ ⟨hc3, hc2⟩ T76 Tryz.underlying31 (hel := R72 hc3 hc2)
     refine a_ldR (v := .agg [_, _]) ?_ T76
     refine a_move (v := vR _ _) ?_
     refine a_move (v := vI _) ?_
     by_cases hc4 : x5 < (x1.length : Int)
     ·rw [if_pos hc4] at H
      refine a_ixR (el := c72 (rd72 x1 x5)) ?_ ⟨hc3, hc4⟩ T76 Tryz.underlying31 (hel := R72 hc3 hc4)
      refine a_ldR (v := .agg [_, _]) ?_ T76
      obtain ⟨t5, e6, H⟩ := bindO H
      refine a_call (v := vB t5) (nk := []) (L := []) ?_ rfl (laws_eqFace.ok e6) id (qg (qg qn)) trivial trivial trivial rfl
      refine a_un (u := .bool (!t5)) ?_
      refine RA.nil (fun _ => by kernel_rfl) ?_
      by_cases hc7 : t5 = true
      ·rw [if_pos hc7] at H
       refine AG.no rfl (congrArg Bool.not hc7) ?_
       refine AG.skip ?_
       refine AG.region HM ?_
       refine a_move (v := vI _) ?_
       refine a_int (u := .int .i64 (wrap64 (x5 + 1))) ?_
       refine a_move (v := vI _) ?_
       refine RA.nil nofun ?_
       exact AGr.canon id (ih0 _ (by omega) _ ⟨by omega, _, _, _, H, rfl⟩) ⟨rfl, rfl, rfl, trivial⟩ trivial rfl
      ·rw [if_neg hc7] at H
       refine AG.yes rfl (congrArg Bool.not (Bool.eq_false_iff.2 hc7)) ?_
       refine AG.seq ?_
       refine AG.region HM ?_
       refine a_move (v := vB _) ?_
       refine RA.nil nofun ?_
       refine AG.ret ?_
       obtain rfl := Option.some.inj H
       exact RetP.mk id ⟨rfl, trivial⟩ trivial rfl
     ·rw [if_neg hc4] at H
      cases H
    ·rw [if_neg hc3] at H
     cases H
   ·rw [if_neg hc2] at H
    refine AG.no rfl (decide_eq_false hc2) ?_
    refine AG.exit ?_
    refine AG.seq ?_
    refine AG.region HM ?_
    refine a_move (v := vB _) ?_
    refine RA.nil nofun ?_
    refine AG.ret ?_
    obtain rfl := Option.some.inj H
    exact RetP.mk id ⟨rfl, trivial⟩ trivial rfl
 ·rw [if_neg hc1] at H
  refine AG.yes rfl (bne_iff_ne.2 hc1) ?_
  refine AG.seq ?_
  refine AG.region HM ?_
  refine a_move (v := vB _) ?_
  refine RA.nil nofun ?_
  refine AG.ret ?_
  obtain rfl := Option.some.inj H
  exact RetP.mk id ⟨rfl, trivial⟩ trivial rfl
/-! ### laws_eqDrawing: function 10 -/
def laws_eqDrawing.f (k : Nat) (a0_0 : Int) (a0_1 : Int) (l0_2 : List S50) (l0_3 : List S72) (a1_0 : Int) (a1_1 : Int) (l1_2 : List S50) (l1_3 : List S72) : Option (Bool) := if a0_0 = a1_0 then (if a0_1 = a1_1 then ((laws_eqPointS.f k l0_2 l1_2).bind fun t3 => (if t3 = true then ((laws_eqFaceS.f k l0_3 l1_3).bind fun t6 => (if t6 = true then (some true) else (some false))) else (some false))) else (some false)) else (some false)
set_option maxRecDepth 100000 in
theorem laws_eqDrawing.ok {k : Nat} {a0_0 : Int} {a0_1 : Int} {l0_2 : List S50} {l0_3 : List S72} {a1_0 : Int} {a1_1 : Int} {l1_2 : List S50} {l1_3 : List S72} {r : Bool} (H : laws_eqDrawing.f k a0_0 a0_1 l0_2 l0_3 a1_0 a1_1 l1_2 l1_3 = some r) : OkF Tryz.prog 10 [.agg [.d (.v (.int .i64 a0_0)), .d (.v (.int .i64 a0_1)), .d (.row 51 (l0_2.map c50)), .d (.row 76 (l0_3.map c72))], .agg [.d (.v (.int .i64 a1_0)), .d (.v (.int .i64 a1_1)), .d (.row 51 (l1_2.map c50)), .d (.row 76 (l1_3.map c72))]] [] (.c (.d (.v (.bool r)))) [] := by
 unfold laws_eqDrawing.f at H
 refine OkF.of (N := 27) (rs := [4]) (avs := [.c (.d (.v (.bool r)))]) Tryz.func10 rfl rfl (fun _ _ => results_tmp rfl _ _ _) (by decide) rfl rfl rfl rfl (fun w0 S => ?_)
 refine AG.seq ?_
 refine AG.region HM ?_
 refine a_box 200 ?_
 refine a_box 201 ?_
 refine a_move (v := vB _) ?_
 refine RA.nil nofun ?_
 refine AG.seq ?_
 refine AG.seq ?_
 refine AG.region HM ?_
 refine a_faB (q := 0) ?_ D33_0
 refine a_ldB (v := vI _) ?_ T2
 refine a_faB (q := 0) ?_ D33_0
 refine a_ldB (v := vI _) ?_ T2
 refine a_int (u := .bool ((a0_0 != a1_0))) ?_
 refine RA.nil nofun ?_
 by_cases hc1 : a0_0 = a1_0
 ·rw [if_pos hc1] at H
  refine AG.no rfl (bne_eq_false_iff_eq.2 hc1) ?_
  refine AG.skip ?_
  refine AG.seq ?_
  refine AG.seq ?_
  refine AG.region HM ?_
  refine a_faB (q := 1) ?_ D33_1
  refine a_ldB (v := vI _) ?_ T2
  refine a_faB (q := 1) ?_ D33_1
  refine a_ldB (v := vI _) ?_ T2
  refine a_int (u := .bool ((a0_1 != a1_1))) ?_
  refine RA.nil nofun ?_
  by_cases hc2 : a0_1 = a1_1
  ·rw [if_pos hc2] at H
   refine AG.no rfl (bne_eq_false_iff_eq.2 hc2) ?_
   refine AG.skip ?_
   refine AG.seq ?_
   refine AG.seq ?_
   refine AG.region HM ?_
   refine a_faB (q := 2) ?_ D33_2
   refine a_ldB (v := vR _ _) ?_ T30
   refine a_faB (q := 2) ?_ D33_2
   refine a_ldB (v := vR _ _) ?_ T30
   obtain ⟨t3, e4, H⟩ := bindO H
   refine a_call (v := vB t3) (nk := []) (L := []) ?_ rfl (laws_eqPointS.ok e4) id (qd (qd qn)) trivial trivial trivial rfl
   refine a_un (u := .bool (!t3)) ?_
   refine RA.nil nofun ?_
   by_cases hc5 : t3 = true
   ·rw [if_pos hc5] at H
    refine AG.no rfl (congrArg Bool.not hc5) ?_
    refine AG.skip ?_
    refine AG.seq ?_
    refine AG.seq ?_
    refine AG.region HM ?_
    refine a_faB (q := 3) ?_ D33_3
    refine a_ldB (v := vR _ _) ?_ T31
    refine a_faB (q := 3) ?_ D33_3
    refine a_ldB (v := vR _ _) ?_ T31
    obtain ⟨t6, e7, H⟩ := bindO H
    refine a_call (v := vB t6) (nk := []) (L := []) ?_ rfl (laws_eqFaceS.ok e7) id (qd (qd qn)) trivial trivial trivial rfl
    refine a_un (u := .bool (!t6)) ?_
    refine RA.nil nofun ?_
    by_cases hc8 : t6 = true
    ·rw [if_pos hc8] at H
     refine AG.no rfl (congrArg Bool.not hc8) ?_
     refine AG.skip ?_
     refine AG.seq ?_
     refine AG.region HM ?_
     refine a_move (v := vB _) ?_
     refine RA.nil nofun ?_
     refine AG.ret ?_
     obtain rfl := Option.some.inj H
     exact RetP.mk id ⟨rfl, trivial⟩ trivial rfl
    ·rw [if_neg hc8] at H
     refine AG.yes rfl (congrArg Bool.not (Bool.eq_false_iff.2 hc8)) ?_
     refine AG.seq ?_
     refine AG.region HM ?_
     refine a_move (v := vB _) ?_
     refine RA.nil nofun ?_
     refine AG.ret ?_
     obtain rfl := Option.some.inj H
     exact RetP.mk id ⟨rfl, trivial⟩ trivial rfl
   ·rw [if_neg hc5] at H
    refine AG.yes rfl (congrArg Bool.not (Bool.eq_false_iff.2 hc5)) ?_
    refine AG.seq ?_
    refine AG.region HM ?_
    refine a_move (v := vB _) ?_
    refine RA.nil nofun ?_
    refine AG.ret ?_
    obtain rfl := Option.some.inj H
    exact RetP.mk id ⟨rfl, trivial⟩ trivial rfl
  ·rw [if_neg hc2] at H
   refine AG.yes rfl (bne_iff_ne.2 hc2) ?_
   refine AG.seq ?_
   refine AG.region HM ?_
   refine a_move (v := vB _) ?_
   refine RA.nil nofun ?_
   refine AG.ret ?_
   obtain rfl := Option.some.inj H
   exact RetP.mk id ⟨rfl, trivial⟩ trivial rfl
 ·rw [if_neg hc1] at H
  refine AG.yes rfl (bne_iff_ne.2 hc1) ?_
  refine AG.seq ?_
  refine AG.region HM ?_
  refine a_move (v := vB _) ?_
  refine RA.nil nofun ?_
  refine AG.ret ?_
  obtain rfl := Option.some.inj H
  exact RetP.mk id ⟨rfl, trivial⟩ trivial rfl
/-! ### laws_markPointS: function 33 -/
def laws_markPointS.l0 : Nat → List S50 → Int → Int → Option (Int × (List S50))
 | 0, _, _, _ => none
 | k + 1, x0, x1, x5 => if x5 < (x0.length : Int) then (if 0 ≤ x5 then ((some (x0.set (x5 : Int).toNat (⟨x1, (rd50 x0 x5).f1⟩ : S50) : List S50)).bind fun y3 => (laws_markPointS.l0 k (y3.set (x5 : Int).toNat (⟨(rd50 y3 x5).f0, wrap64 (x1 + 1)⟩ : S50)) (wrap64 ((wrap64 (x1 + 1)) + 1)) (wrap64 (x5 + 1)))) else (none)) else (some (x1, x0))
def laws_markPointS.f (k : Nat) (l0 : List S50) (a1 : Int) : Option (Int × (List S50)) := laws_markPointS.l0 k l0 a1 0
set_option maxRecDepth 100000 in
theorem laws_markPointS.ok {k : Nat} {l0 : List S50} {a1 : Int} {r0 : Int} {r1 : List S50} (H : laws_markPointS.f k l0 a1 = some (r0, r1)) : OkF Tryz.prog 33 [.c (.own 0 l0.length), vI a1] [(0, .row 51 (l0.map c50))] (.c (.d (.v (.int .i64 r0)))) [(0, .row 51 (r1.map c50))] := by
 unfold laws_markPointS.f at H
 refine OkF.of (N := 27) (rs := [4]) (avs := [.c (.d (.v (.int .i64 r0)))]) Tryz.func33 rfl rfl (fun _ _ => results_tmp rfl _ _ _) (by decide) rfl rfl rfl rfl (fun w0 S => ?_)
 refine AG.seq ?_
 refine AG.region HM ?_
 refine a_move (v := vI _) ?_
 refine RA.nil nofun ?_
 refine AG.seq ?_
 refine AG.seq ?_
 refine AG.region HM ?_
 refine a_move (v := vI _) ?_
 refine RA.nil nofun ?_
 refine AG.block ?_
 refine AG.loop ?_
 obtain ⟨K0, hK0, gK0⟩ : ∃ K, k ≤ K ∧ K ≤ k := ⟨k, Nat.le_refl k, Nat.le_refl k⟩
 refine AGr.canon id (AGr.loopI (n := k) (fun k s => k ≤ K0 ∧ ∃ (x0 : List S50) (x1 : Int) (x5 : Int), laws_markPointS.l0 k x0 x1 x5 = some (r0, r1) ∧ s = St.of [(0, .c (.own 0 x0.length)), (1, vI x1), (5, vI x5)] [(0, .row 51 (x0.map c50))]) ⟨hK0, _, _, _, H, rfl⟩ ?_ ?_) ⟨rfl, rfl, rfl, trivial⟩ ⟨rfl, trivial⟩ rfl
 ·rintro _ ⟨_, _, _, _, H, _⟩
  cases H
 ·clear H hK0
  rintro k ih0 _ ⟨hK0, x0, x1, x5, H, rfl⟩
  unfold laws_markPointS.l0 at H
  refine AG.seq ?_
  refine AG.seq ?_
  refine AG.region HM ?_
  refine a_move (v := vI _) ?_
  refine a_move (v := .c (.own _ _)) ?_
  refine a_lenO ?_ Tryz.underlying30
  refine a_int (u := .bool (decide (x5 < (x0.length : Int)))) ?_
  refine RA.nil nofun ?_
  by_cases hc1 : x5 < (x0.length : Int)
  ·rw [if_pos hc1] at H
   refine AG.yes rfl (decide_eq_true hc1) ?_
   refine AG.skip ?_
   refine AG.seq ?_
   refine AG.block ?_
   refine AG.seq ?_
   refine AG.region HM ?_
   refine a_move (v := .c (.own _ _)) ?_
   refine a_move (v := vI _) ?_
   refine a_move (v := vI _) ?_
   by_cases hc2 : 0 ≤ x5
   ·rw [if_pos hc2] at H
    refine a_ixO ?_ ⟨hc2, hc1⟩ T51 Tryz.underlying30
    refine a_faE (q := 0) ?_ D51_0
    obtain ⟨y3, ey3, H⟩ := bindO H
    have ey3 := Option.some.inj ey3
    refine a_stF (css' := y3.map c50) ?_ (flat_map (fun _ => rfl)) (G50 hc2 hc1) T2 (hcss := by rw [← ey3]; exact set_map rfl)
    refine RA.nil nofun ?_
    refine AG.seq ?_
    refine AG.region HM ?_
    refine a_move (v := vI _) ?_
    refine a_int (u := .int .i64 (wrap64 (x1 + 1))) ?_
    refine a_move (v := vI _) ?_
    refine RA.nil nofun ?_
    refine AG.seq ?_
    refine AG.region HM ?_
    refine a_move (v := .c (.own _ _)) ?_
    refine a_move (v := vI _) ?_
    refine a_move (v := vI _) ?_
    refine a_ixO ?_ ⟨hc2, hc1⟩ T51 Tryz.underlying30
    refine a_faE (q := 1) ?_ D51_1
    refine a_stF (css' := (y3.set (x5 : Int).toNat (⟨(rd50 y3 x5).f0, wrap64 (x1 + 1)⟩ : S50)).map c50) ?_ (flat_map (fun _ => rfl)) (G50 (l := y3) hc2 (by rw [← ey3]; simpa using hc1)) T2 (hcss := by exact set_map rfl)
    refine RA.nil nofun ?_
    refine AG.region HM ?_
    refine a_move (v := vI _) ?_
    refine a_int (u := .int .i64 (wrap64 ((wrap64 (x1 + 1)) + 1))) ?_
    refine a_move (v := vI _) ?_
    refine RA.nil nofun ?_
    refine AG.region HM ?_
    refine a_move (v := vI _) ?_
    refine a_int (u := .int .i64 (wrap64 (x5 + 1))) ?_
    refine a_move (v := vI _) ?_
    refine RA.nil nofun ?_
    exact AGr.canon id (ih0 _ (by omega) _ ⟨by omega, _, _, _, H, rfl⟩) ⟨(ownE rfl (by rw [← ey3]; simp)), rfl, rfl, trivial⟩ ⟨rfl, trivial⟩ rfl
   ·rw [if_neg hc2] at H
    cases H
  ·rw [if_neg hc1] at H
   refine AG.no rfl (decide_eq_false hc1) ?_
   refine AG.exit ?_
   refine AG.seq ?_
   refine AG.region HM ?_
   refine a_move (v := vI _) ?_
   refine a_move (v := vI _) ?_
   refine RA.nil nofun ?_
   refine AG.ret ?_
   simp only [Option.some.injEq, Prod.mk.injEq] at H
   obtain ⟨rfl, rfl⟩ := H
   exact RetP.mk (fun κ => cond (Nat.beq κ 0) 0 (κ)) ⟨rfl, trivial⟩ ⟨rfl, trivial⟩ rfl
/-! ### laws_markInt64S: function 12 -/
def laws_markInt64S.l0 : Nat → List Int → Int → Int → Option (Int × (List Int))
 | 0, _, _, _ => none
 | k + 1, x0, x1, x5 => if x5 < (x0.length : Int) then (if 0 ≤ x5 then (laws_markInt64S.l0 k (x0.set (x5 : Int).toNat x1) (wrap64 (x1 + 1)) (wrap64 (x5 + 1))) else (none)) else (some (x1, x0))
def laws_markInt64S.f (k : Nat) (l0 : List Int) (a1 : Int) : Option (Int × (List Int)) := laws_markInt64S.l0 k l0 a1 0
set_option maxRecDepth 100000 in
theorem laws_markInt64S.ok {k : Nat} {l0 : List Int} {a1 : Int} {r0 : Int} {r1 : List Int} (H : laws_markInt64S.f k l0 a1 = some (r0, r1)) : OkF Tryz.prog 12 [.c (.own 0 l0.length), vI a1] [(0, .row 2 (l0.map c2))] (.c (.d (.v (.int .i64 r0)))) [(0, .row 2 (r1.map c2))] := by
 unfold laws_markInt64S.f at H
 refine OkF.of (N := 19) (rs := [4]) (avs := [.c (.d (.v (.int .i64 r0)))]) Tryz.func12 rfl rfl (fun _ _ => results_tmp rfl _ _ _) (by decide) rfl rfl rfl rfl (fun w0 S => ?_)
 refine AG.seq ?_
 refine AG.region HM ?_
 refine a_move (v := vI _) ?_
 refine RA.nil nofun ?_
 refine AG.seq ?_
 refine AG.seq ?_
 refine AG.region HM ?_
 refine a_move (v := vI _) ?_
 refine RA.nil nofun ?_
 refine AG.block ?_
 refine AG.loop ?_
 obtain ⟨K0, hK0, gK0⟩ : ∃ K, k ≤ K ∧ K ≤ k := ⟨k, Nat.le_refl k, Nat.le_refl k⟩
 refine AGr.canon id (AGr.loopI (n := k) (fun k s => k ≤ K0 ∧ ∃ (x0 : List Int) (x1 : Int) (x5 : Int), laws_markInt64S.l0 k x0 x1 x5 = some (r0, r1) ∧ s = St.of [(0, .c (.own 0 x0.length)), (1, vI x1), (5, vI x5)] [(0, .row 2 (x0.map c2))]) ⟨hK0, _, _, _, H, rfl⟩ ?_ ?_) ⟨rfl, rfl, rfl, trivial⟩ ⟨rfl, trivial⟩ rfl
 ·rintro _ ⟨_, _, _, _, H, _⟩
  cases H
 ·clear H hK0
  rintro k ih0 _ ⟨hK0, x0, x1, x5, H, rfl⟩
  unfold laws_markInt64S.l0 at H
  refine AG.seq ?_
  refine AG.seq ?_
  refine AG.region HM ?_
  refine a_move (v := vI _) ?_
  refine a_move (v := .c (.own _ _)) ?_
  refine a_lenO ?_ Tryz.underlying27
  refine a_int (u := .bool (decide (x5 < (x0.length : Int)))) ?_
  refine RA.nil nofun ?_
  by_cases hc1 : x5 < (x0.length : Int)
  ·rw [if_pos hc1] at H
   refine AG.yes rfl (decide_eq_true hc1) ?_
   refine AG.skip ?_
   refine AG.seq ?_
   refine AG.block ?_
   refine AG.seq ?_
   refine AG.region HM ?_
   refine a_move (v := .c (.own _ _)) ?_
   refine a_move (v := vI _) ?_
   refine a_move (v := vI _) ?_
   by_cases hc2 : 0 ≤ x5
   ·rw [if_pos hc2] at H
    refine a_ixO ?_ ⟨hc2, hc1⟩ T2 Tryz.underlying27
    refine a_stF (css' := (x0.set (x5 : Int).toNat x1).map c2) ?_ (flat_map (fun _ => rfl)) (G2 hc2 hc1) T2 (hcss := by exact set_map rfl)
    refine RA.nil nofun ?_
    refine AG.region HM ?_
    refine a_move (v := vI _) ?_
    refine a_int (u := .int .i64 (wrap64 (x1 + 1))) ?_
    refine a_move (v := vI _) ?_
    refine RA.nil nofun ?_
    refine AG.region HM ?_
    refine a_move (v := vI _) ?_
    refine a_int (u := .int .i64 (wrap64 (x5 + 1))) ?_
    refine a_move (v := vI _) ?_
    refine RA.nil nofun ?_
    exact AGr.canon id (ih0 _ (by omega) _ ⟨by omega, _, _, _, H, rfl⟩) ⟨(ownE rfl (by simp)), rfl, rfl, trivial⟩ ⟨rfl, trivial⟩ rfl
   ·rw [if_neg hc2] at H
    cases H
  ·rw [if_neg hc1] at H
   refine AG.no rfl (decide_eq_false hc1) ?_
   refine AG.exit ?_
   refine AG.seq ?_
   refine AG.region HM ?_
   refine a_move (v := vI _) ?_
   refine a_move (v := vI _) ?_
   refine RA.nil nofun ?_
   refine AG.ret ?_
   simp only [Option.some.injEq, Prod.mk.injEq] at H
   obtain ⟨rfl, rfl⟩ := H
   exact RetP.mk (fun κ => cond (Nat.beq κ 0) 0 (κ)) ⟨rfl, trivial⟩ ⟨rfl, trivial⟩ rfl
/-! ### laws_markText: function 63 -/
def laws_markText.l0 : Nat → Int → ByteArray → Option (ByteArray)
 | 0, _, _ => none
 | k + 1, x0, x3 => if x0 > 0 then ((some ([(wrap64 (48 + (Int.tmod x0 10))) % 256] : List Int)).bind fun y3 => (if (bs y3).size + x3.size ≤ 9223372036854775807 then (laws_markText.l0 k (wrap64 (Int.tdiv x0 10)) ((bs y3) ++ x3)) else (none))) else (if (⟨#[109]⟩ : ByteArray).size + x3.size ≤ 9223372036854775807 then (some ((⟨#[109]⟩ : ByteArray) ++ x3)) else (none))
def laws_markText.f (k : Nat) (a0 : Int) : Option (ByteArray) := if a0 ≤ 0 then (some (⟨#[109, 48]⟩ : ByteArray)) else (laws_markText.l0 k a0 (⟨#[]⟩ : ByteArray))
set_option maxRecDepth 100000 in
theorem laws_markText.ok {k : Nat} {a0 : Int} {r : ByteArray} (H : laws_markText.f k a0 = some r) : OkF Tryz.prog 63 [vI a0] [] (.c (.d (.v (.string r)))) [] := by
 unfold laws_markText.f at H
 refine OkF.of (N := 20) (rs := [2]) (avs := [.c (.d (.v (.string r)))]) Tryz.func63 rfl rfl (fun _ _ => results_tmp rfl _ _ _) (by decide) rfl rfl rfl rfl (fun w0 S => ?_)
 refine AG.seq ?_
 refine AG.region HM ?_
 refine a_move (v := vS _) ?_
 refine RA.nil nofun ?_
 refine AG.seq ?_
 refine AG.seq ?_
 refine AG.region HM ?_
 refine a_move (v := vI _) ?_
 refine a_int (u := .bool (decide (a0 ≤ 0))) ?_
 refine RA.nil nofun ?_
 by_cases hc1 : a0 ≤ 0
 ·rw [if_pos hc1] at H
  refine AG.yes rfl (decide_eq_true hc1) ?_
  refine AG.seq ?_
  refine AG.region HM ?_
  refine a_move (v := vS _) ?_
  refine RA.nil nofun ?_
  refine AG.ret ?_
  obtain rfl := Option.some.inj H
  exact RetP.mk id ⟨rfl, trivial⟩ trivial rfl
 ·rw [if_neg hc1] at H
  refine AG.no rfl (decide_eq_false hc1) ?_
  refine AG.skip ?_
  refine AG.seq ?_
  refine AG.region HM ?_
  refine a_move (v := vS _) ?_
  refine RA.nil nofun ?_
  refine AG.seq ?_
  refine AG.block ?_
  refine AG.loop ?_
  obtain ⟨K0, hK0, gK0⟩ : ∃ K, k ≤ K ∧ K ≤ k := ⟨k, Nat.le_refl k, Nat.le_refl k⟩
  refine AGr.canon id (AGr.loopI (n := k) (fun k s => k ≤ K0 ∧ ∃ (x0 : Int) (x3 : ByteArray), laws_markText.l0 k x0 x3 = some r ∧ s = St.of [(0, vI x0), (3, vS x3)] []) ⟨hK0, _, _, H, rfl⟩ ?_ ?_) ⟨rfl, rfl, trivial⟩ trivial rfl
  ·rintro _ ⟨_, _, _, H, _⟩
   cases H
  ·clear H hK0
   rintro k ih0 _ ⟨hK0, x0, x3, H, rfl⟩
   unfold laws_markText.l0 at H
   refine AG.seq ?_
   refine AG.seq ?_
   refine AG.region HM ?_
   refine a_move (v := vI _) ?_
   refine a_int (u := .bool (decide (x0 > 0))) ?_
   refine RA.nil nofun ?_
   by_cases hc2 : x0 > 0
   ·rw [if_pos hc2] at H
    refine AG.yes rfl (decide_eq_true hc2) ?_
    refine AG.skip ?_
    refine AG.block ?_
    refine AG.seq ?_
    refine AG.region HM ?_
    refine a_move (v := vI _) ?_
    refine a_rem (r := Int.tmod x0 10) ?_ (show ¬ (10 : Int) = 0 from by decide)
    refine a_int (u := .int .i64 (wrap64 (48 + (Int.tmod x0 10)))) ?_
    refine a_conv (j := (wrap64 (48 + (Int.tmod x0 10))) % 256) ?_ Tryz.underlying3 Tryz.underlying5
    obtain ⟨y3, ey3, H⟩ := bindO H
    have ey3 := Option.some.inj ey3
    refine a_lit (cs := [_]) (D := []) (css := y3.map c5) 200 ?_ N113 T5 (hcss := by rw [← ey3]; rfl)
    refine a_b2s y3 ?_ Tryz.underlying113 Tryz.underlying5 Tryz.underlying9
    refine a_move (v := vS _) ?_
    by_cases hc4 : (bs y3).size + x3.size ≤ 9223372036854775807
    ·rw [if_pos hc4] at H
     refine a_bin (u := .string ((bs y3) ++ x3)) ?_ (hp := by exact hc4)
     refine a_move (v := vS _) ?_
     refine RA.nil nofun ?_
     refine AG.region HM ?_
     refine a_move (v := vI _) ?_
     refine a_quo (r := wrap64 (Int.tdiv x0 10)) ?_ (show ¬ (10 : Int) = 0 from by decide)
     refine a_move (v := vI _) ?_
     refine RA.nil nofun ?_
     exact AGr.canon id (ih0 _ (by omega) _ ⟨by omega, _, _, H, rfl⟩) ⟨rfl, rfl, trivial⟩ trivial rfl
    ·rw [if_neg hc4] at H
     cases H
   ·rw [if_neg hc2] at H
    refine AG.no rfl (decide_eq_false hc2) ?_
    refine AG.exit ?_
    refine AG.seq ?_
    refine AG.region HM ?_
    refine a_move (v := vS _) ?_
    by_cases hc5 : (⟨#[109]⟩ : ByteArray).size + x3.size ≤ 9223372036854775807
    ·rw [if_pos hc5] at H
     refine a_bin (u := .string ((⟨#[109]⟩ : ByteArray) ++ x3)) ?_ (hp := by exact hc5)
     refine a_move (v := vS _) ?_
     refine RA.nil nofun ?_
     refine AG.ret ?_
     obtain rfl := Option.some.inj H
     exact RetP.mk id ⟨rfl, trivial⟩ trivial rfl
    ·rw [if_neg hc5] at H
     cases H
/-! ### laws_markFaceS: function 34 -/
def laws_markFaceS.l0 : Nat → List S72 → Int → Int → Option (Int × (List S72))
 | 0, _, _, _ => none
 | k + 1, x0, x1, x5 => if x5 < (x0.length : Int) then ((laws_markText.f k x1).bind fun t2 => (if 0 ≤ x5 then ((some (x0.set (x5 : Int).toNat (⟨t2, (rd72 x0 x5).f1⟩ : S72) : List S72)).bind fun y5 => ((laws_markInt64S.f k ((rd72 y5 x5).f1) (wrap64 (x1 + 1))).bind fun bt6 => (laws_markFaceS.l0 k (y5.set (x5 : Int).toNat (⟨(rd72 y5 x5).f0, bt6.2⟩ : S72)) bt6.1 (wrap64 (x5 + 1))))) else (none))) else (some (x1, x0))
def laws_markFaceS.f (k : Nat) (l0 : List S72) (a1 : Int) : Option (Int × (List S72)) := laws_markFaceS.l0 k l0 a1 0
set_option maxRecDepth 100000 in
theorem laws_markFaceS.ok {k : Nat} {l0 : List S72} {a1 : Int} {r0 : Int} {r1 : List S72} (H : laws_markFaceS.f k l0 a1 = some (r0, r1)) : OkF Tryz.prog 34 [.c (.own 0 l0.length), vI a1] [(0, .row 76 (l0.map c72))] (.c (.d (.v (.int .i64 r0)))) [(0, .row 76 (r1.map c72))] := by
 unfold laws_markFaceS.f at H
 refine OkF.of (N := 28) (rs := [4]) (avs := [.c (.d (.v (.int .i64 r0)))]) Tryz.func34 rfl rfl (fun _ _ => results_tmp rfl _ _ _) (by decide) rfl rfl rfl rfl (fun w0 S => ?_)
 refine AG.seq ?_
 refine AG.region HM ?_
 refine a_move (v := vI _) ?_
 refine RA.nil nofun ?_
 refine AG.seq ?_
 refine AG.seq ?_
 refine AG.region HM ?_
 refine a_move (v := vI _) ?_
 refine RA.nil nofun ?_
 refine AG.block ?_
 refine AG.loop ?_
 obtain ⟨K0, hK0, gK0⟩ : ∃ K, k ≤ K ∧ K ≤ k := ⟨k, Nat.le_refl k, Nat.le_refl k⟩
 refine AGr.canon id (AGr.loopI (n := k) (fun k s => k ≤ K0 ∧ ∃ (x0 : List S72) (x1 : Int) (x5 : Int), laws_markFaceS.l0 k x0 x1 x5 = some (r0, r1) ∧ s = St.of [(0, .c (.own 0 x0.length)), (1, vI x1), (5, vI x5)] [(0, .row 76 (x0.map c72))]) ⟨hK0, _, _, _, H, rfl⟩ ?_ ?_) ⟨rfl, rfl, rfl, trivial⟩ ⟨rfl, trivial⟩ rfl
 ·rintro _ ⟨_, _, _, _, H, _⟩
  cases H
 ·clear H hK0
  rintro k ih0 _ ⟨hK0, x0, x1, x5, H, rfl⟩
  unfold laws_markFaceS.l0 at H
  refine AG.seq ?_
  refine AG.seq ?_
  refine AG.region HM ?_
  refine a_move (v := vI _) ?_
  refine a_move (v := .c (.own _ _)) ?_
  refine a_lenO ?_ Tryz.underlying31
  refine a_int (u := .bool (decide (x5 < (x0.length : Int)))) ?_
  refine RA.nil nofun ?_
  by_cases hc1 : x5 < (x0.length : Int)
  ·rw [if_pos hc1] at H
   refine AG.yes rfl (decide_eq_true hc1) ?_
   refine AG.skip ?_
   refine AG.seq ?_
   refine AG.block ?_
   refine AG.seq ?_
   refine AG.region HM ?_
   refine a_move (v := .c (.own _ _)) ?_
   refine a_move (v := vI _) ?_
   refine a_move (v := vI _) ?_
   obtain ⟨t2, e3, H⟩ := bindO H
   refine a_call (v := vS t2) (nk := []) (L := []) ?_ rfl (laws_markText.ok e3) id (qd qn) trivial trivial trivial rfl
   by_cases hc4 : 0 ≤ x5
   ·rw [if_pos hc4] at H
    refine a_ixO ?_ ⟨hc4, hc1⟩ T76 Tryz.underlying31
    refine a_faE (q := 0) ?_ D76_0
    obtain ⟨y5, ey5, H⟩ := bindO H
    have ey5 := Option.some.inj ey5
    refine a_stE (D := []) (css' := y5.map c72) ?_ (G72 hc4 hc1) T9 (hcss := by rw [← ey5]; exact set_map rfl)
    refine RA.nil nofun ?_
    refine AG.seq ?_
    refine AG.region HM ?_
    refine a_move (v := vI _) ?_
    refine a_int (u := .int .i64 (wrap64 (x1 + 1))) ?_
    refine a_move (v := vI _) ?_
    refine RA.nil nofun ?_
    refine AG.region HM ?_
    refine a_move (v := .c (.own _ _)) ?_
    refine a_move (v := vI _) ?_
    refine a_ixO ?_ ⟨hc4, hc1⟩ T76 Tryz.underlying31
    refine a_faE (q := 1) ?_ D76_1
    refine a_ldE (v := .c (.sub _ _ _ _)) ?_ (G72 (l := y5) hc4 (by rw [← ey5]; simpa using hc1)) T27
    refine a_move (v := vI _) ?_
    obtain ⟨⟨t6, t7⟩, e8, H⟩ := bindO H
    refine a_callU (κ := 0) (i := (x5 : Int).toNat) (j := 1) (μ := 0) (v := vI t6) (L := []) (css2 := (y5.set (x5 : Int).toNat (⟨(rd72 y5 x5).f0, t7⟩ : S72)).map c72) ?_ rfl (laws_markInt64S.ok e8) (uS (uD u0)) trivial (G72 (l := y5) hc4 (by rw [← ey5]; simpa using hc1)) rfl (by exact set_map2 rfl)
    refine a_move (v := vI _) ?_
    refine RA.nil nofun ?_
    refine AG.relen 0 (y5.set (x5 : Int).toNat (⟨(rd72 y5 x5).f0, t7⟩ : S72)).length ?_
    refine AG.region HM ?_
    refine a_move (v := vI _) ?_
    refine a_int (u := .int .i64 (wrap64 (x5 + 1))) ?_
    refine a_move (v := vI _) ?_
    refine RA.nil nofun ?_
    exact AGr.canon id (ih0 _ (by omega) _ ⟨by omega, _, _, _, H, rfl⟩) ⟨rfl, rfl, rfl, trivial⟩ ⟨rfl, trivial⟩ rfl
   ·rw [if_neg hc4] at H
    cases H
  ·rw [if_neg hc1] at H
   refine AG.no rfl (decide_eq_false hc1) ?_
   refine AG.exit ?_
   refine AG.seq ?_
   refine AG.region HM ?_
   refine a_move (v := vI _) ?_
   refine a_move (v := vI _) ?_
   refine RA.nil nofun ?_
   refine AG.ret ?_
   simp only [Option.some.injEq, Prod.mk.injEq] at H
   obtain ⟨rfl, rfl⟩ := H
   exact RetP.mk (fun κ => cond (Nat.beq κ 0) 0 (κ)) ⟨rfl, trivial⟩ ⟨rfl, trivial⟩ rfl
/-! ### laws_markDrawing: function 11 -/
def laws_markDrawing.f (k : Nat) (a0_0 : Int) (a0_1 : Int) (l0_2 : List S50) (l0_3 : List S72) (a1 : Int) : Option (Int × (List S50) × (List S72)) := (laws_markPointS.f k l0_2 a1).bind fun bt1 => ((laws_markFaceS.f k l0_3 bt1.1).bind fun bt4 => (some (bt4.1, bt1.2, bt4.2)))
set_option maxRecDepth 100000 in
theorem laws_markDrawing.ok {k : Nat} {a0_0 : Int} {a0_1 : Int} {l0_2 : List S50} {l0_3 : List S72} {a1 : Int} {r0 : Int} {r1 : List S50} {r2 : List S72} (H : laws_markDrawing.f k a0_0 a0_1 l0_2 l0_3 a1 = some (r0, r1, r2)) : OkF Tryz.prog 11 [.agg [.d (.v (.int .i64 a0_0)), .d (.v (.int .i64 a0_1)), .own 0 l0_2.length, .own 1 l0_3.length], vI a1] [(0, .row 51 (l0_2.map c50)), (1, .row 76 (l0_3.map c72))] (.c (.d (.v (.int .i64 r0)))) [(0, .row 51 (r1.map c50)), (1, .row 76 (r2.map c72))] := by
 unfold laws_markDrawing.f at H
 refine OkF.of (N := 14) (rs := [4]) (avs := [.c (.d (.v (.int .i64 r0)))]) Tryz.func11 rfl rfl (fun _ _ => results_tmp rfl _ _ _) (by decide) rfl rfl rfl rfl (fun w0 S => ?_)
 refine AG.seq ?_
 refine AG.region HM ?_
 refine a_box 200 ?_
 refine a_move (v := vI _) ?_
 refine RA.nil nofun ?_
 refine AG.seq ?_
 refine AG.region HM ?_
 refine a_faB (q := 2) ?_ D33_2
 refine a_ldB (v := .c (.own _ _)) ?_ T30
 refine a_move (v := vI _) ?_
 obtain ⟨⟨t1, t2⟩, e3, H⟩ := bindO H
 refine a_callM (v := vI t1) (nk := []) (L := []) (Mk := [(0, _)]) (ck := [(0, .row 51 (t2.map c50))]) ?_ rfl (laws_markPointS.ok e3) id id (mcO (mcD m0)) trivial ⟨rfl, trivial⟩ trivial ⟨rfl, trivial⟩ trivial ⟨rfl, trivial⟩ rfl rfl rfl
 refine a_move (v := vI _) ?_
 refine RA.nil nofun ?_
 refine AG.relen 0 t2.length ?_
 refine AG.seq ?_
 refine AG.region HM ?_
 refine a_faB (q := 3) ?_ D33_3
 refine a_ldB (v := .c (.own _ _)) ?_ T31
 refine a_move (v := vI _) ?_
 obtain ⟨⟨t4, t5⟩, e6, H⟩ := bindO H
 refine a_callM (v := vI t4) (nk := []) (L := []) (Mk := [(1, _)]) (ck := [(1, .row 76 (t5.map c72))]) ?_ rfl (laws_markFaceS.ok e6) (fun κ => cond (Nat.beq κ 0) 1 (κ)) (fun κ => cond (Nat.beq κ 1) 0 (κ)) (mcO (mcD m0)) trivial ⟨rfl, trivial⟩ trivial ⟨rfl, trivial⟩ trivial ⟨rfl, trivial⟩ rfl rfl rfl
 refine a_move (v := vI _) ?_
 refine RA.nil nofun ?_
 refine AG.relen 1 t5.length ?_
 refine AG.seq ?_
 refine AG.region HM ?_
 refine a_move (v := vI _) ?_
 refine a_move (v := vI _) ?_
 refine RA.nil nofun ?_
 refine AG.ret ?_
 simp only [Option.some.injEq, Prod.mk.injEq] at H
 obtain ⟨rfl, rfl, rfl⟩ := H
 exact RetP.mk (fun κ => cond (Nat.beq κ 0) 0 (cond (Nat.beq κ 1) 1 (κ))) ⟨rfl, trivial⟩ ⟨rfl, rfl, trivial⟩ rfl
/-! ### laws_heldInt64S: function 13 -/
def laws_heldInt64S.l0 : Nat → List Int → Int → Int → Option (Int)
 | 0, _, _, _ => none
 | k + 1, x0, x1, x5 => if x5 < (x0.length : Int) then (if 0 ≤ x5 then (if (rd2 x0 x5) = x1 then (laws_heldInt64S.l0 k x0 (wrap64 (x1 + 1)) (wrap64 (x5 + 1))) else (some (-1))) else (none)) else (some x1)
def laws_heldInt64S.f (k : Nat) (l0 : List Int) (a1 : Int) : Option (Int) := laws_heldInt64S.l0 k l0 a1 0
set_option maxRecDepth 100000 in
theorem laws_heldInt64S.ok {k : Nat} {l0 : List Int} {a1 : Int} {r : Int} (H : laws_heldInt64S.f k l0 a1 = some r) : OkF Tryz.prog 13 [vR 2 (l0.map c2), vI a1] [] (.c (.d (.v (.int .i64 r)))) [] := by
 unfold laws_heldInt64S.f at H
 refine OkF.of (N := 21) (rs := [4]) (avs := [.c (.d (.v (.int .i64 r)))]) Tryz.func13 rfl rfl (fun _ _ => results_tmp rfl _ _ _) (by decide) rfl rfl rfl rfl (fun w0 S => ?_)
 refine AG.seq ?_
 refine AG.region HM ?_
 refine a_move (v := vI _) ?_
 refine RA.nil nofun ?_
 refine AG.seq ?_
 refine AG.seq ?_
 refine AG.region HM ?_
 refine a_move (v := vI _) ?_
 refine RA.nil nofun ?_
 refine AG.block ?_
 refine AG.loop ?_
 obtain ⟨K0, hK0, gK0⟩ : ∃ K, k ≤ K ∧ K ≤ k := ⟨k, Nat.le_refl k, Nat.le_refl k⟩
 refine AGr.canon id (AGr.loopI (n := k) (fun k s => k ≤ K0 ∧ ∃ (x0 : List Int) (x1 : Int) (x5 : Int), laws_heldInt64S.l0 k x0 x1 x5 = some r ∧ s = St.of [(0, vR 2 (x0.map c2)), (1, vI x1), (5, vI x5)] []) ⟨hK0, _, _, _, H, rfl⟩ ?_ ?_) ⟨rfl, rfl, rfl, trivial⟩ trivial rfl
 ·rintro _ ⟨_, _, _, _, H, _⟩
  cases H
 ·clear H hK0
  rintro k ih0 _ ⟨hK0, x0, x1, x5, H, rfl⟩
  unfold laws_heldInt64S.l0 at H
  refine AG.seq ?_
  refine AG.seq ?_
  refine AG.region HM ?_
  refine a_move (v := vI _) ?_
  refine a_move (v := vR _ _) ?_
  refine a_lenR ?_ Tryz.underlying27
  refine a_int (u := .bool (decide (x5 < (x0.length : Int)))) ?_
  refine RA.nil nofun ?_
  by_cases hc1 : x5 < (x0.length : Int)
  ·rw [if_pos hc1] at H
   refine AG.yes rfl (decide_eq_true hc1) ?_
   refine AG.skip ?_
   refine AG.seq ?_
   refine AG.block ?_
   refine AG.seq ?_
   refine AG.seq ?_
   refine AG.region HM ?_
   refine a_move (v := vR _ _) ?_
   refine a_move (v := vI _) ?_
   by_cases hc2 : 0 ≤ x5
   ·rw [if_pos hc2] at H
    refine a_ixR (el := c2 (rd2 x0 x5)) ?_ ⟨hc2, hc1⟩ T2 Tryz.underlying27 (hel := R2 hc2 hc1)
    refine a_ldR (v := vI _) ?_ T2
    refine a_move (v := vI _) ?_
    refine a_int (u := .bool (((rd2 x0 x5) != x1))) ?_
    refine RA.nil nofun ?_
    by_cases hc3 : (rd2 x0 x5) = x1
    ·rw [if_pos hc3] at H
     refine AG.no rfl (bne_eq_false_iff_eq.2 hc3) ?_
     refine AG.skip ?_
     refine AG.region HM ?_
     refine a_move (v := vI _) ?_
     refine a_int (u := .int .i64 (wrap64 (x1 + 1))) ?_
     refine a_move (v := vI _) ?_
     refine RA.nil nofun ?_
     refine AG.region HM ?_
     refine a_move (v := vI _) ?_
     refine a_int (u := .int .i64 (wrap64 (x5 + 1))) ?_
     refine a_move (v := vI _) ?_
     refine RA.nil nofun ?_
     exact AGr.canon id (ih0 _ (by omega) _ ⟨by omega, _, _, _, H, rfl⟩) ⟨rfl, rfl, rfl, trivial⟩ trivial rfl
    ·rw [if_neg hc3] at H
     refine AG.yes rfl (bne_iff_ne.2 hc3) ?_
     refine AG.seq ?_
     refine AG.region HM ?_
     refine a_move (v := vI _) ?_
     refine RA.nil nofun ?_
     refine AG.ret ?_
     obtain rfl := Option.some.inj H
     exact RetP.mk id ⟨rfl, trivial⟩ trivial rfl
   ·rw [if_neg hc2] at H
    cases H
  ·rw [if_neg hc1] at H
   refine AG.no rfl (decide_eq_false hc1) ?_
   refine AG.exit ?_
   refine AG.seq ?_
   refine AG.region HM ?_
   refine a_move (v := vI _) ?_
   refine a_move (v := vI _) ?_
   refine RA.nil nofun ?_
   refine AG.ret ?_
   obtain rfl := Option.some.inj H
   exact RetP.mk id ⟨rfl, trivial⟩ trivial rfl
/-! ### laws_FnExactNearestOrder: function 3 -/
mutual
def laws_FnExactNearestOrder.j0 : Nat → Int → Int → List S50 → List S72 → List Int → List Int → Int → Int → Int → Int → List S50 → List S72 → List Int → List Int → Int → Int → Bool → Option (Bool)
 | 0, _, _, _, _, _, _, _, _, _, _, _, _, _, _, _, _, _ => none
 | k + 1, y213_0, y213_1, y213_2, y213_3, x4, x5, x6, x7, y216_0, y216_1, y216_2, y216_3, x9, x10, x11, x12, x61 => if x61 = true then (some false) else ((laws_toDrawing.f k y213_0 y213_1 y213_2 y213_3).bind fun bt32 => ((laws_eqDrawing.f k y216_0 y216_1 y216_2 y216_3 bt32.1 bt32.2.1 bt32.2.2.1 bt32.2.2.2).bind fun t37 => (if t37 = true then ((laws_markDrawing.f k y216_0 y216_1 y216_2 y216_3 1).bind fun bt40 => (if bt40.1 < 0 then (laws_FnExactNearestOrder.j1 k y213_0 y213_1 y213_2 y213_3 x4 x5 x6 x7 x9 x10 true) else ((laws_eqInt64S.f k x9 x4).bind fun t45 => (if t45 = true then ((laws_eqInt64S.f k x10 x5).bind fun t48 => (if t48 = true then (if x11 = x6 then (laws_FnExactNearestOrder.j1 k y213_0 y213_1 y213_2 y213_3 x4 x5 x6 x7 x9 x10 (x12 != x7)) else (laws_FnExactNearestOrder.j1 k y213_0 y213_1 y213_2 y213_3 x4 x5 x6 x7 x9 x10 true)) else (laws_FnExactNearestOrder.j1 k y213_0 y213_1 y213_2 y213_3 x4 x5 x6 x7 x9 x10 true))) else (laws_FnExactNearestOrder.j1 k y213_0 y213_1 y213_2 y213_3 x4 x5 x6 x7 x9 x10 true))))) else (some false))))
def laws_FnExactNearestOrder.j1 : Nat → Int → Int → List S50 → List S72 → List Int → List Int → Int → Int → List Int → List Int → Bool → Option (Bool)
 | 0, _, _, _, _, _, _, _, _, _, _, _ => none
 | k + 1, y227_0, y227_1, y227_2, y227_3, x4, x5, x6, x7, x9, x10, x93 => if x93 = true then (some false) else ((laws_markInt64S.f k x9 1).bind fun bt53 => ((laws_markInt64S.f k x10 bt53.1).bind fun bt56 => ((laws_heldInt64S.f k bt53.2 1).bind fun t59 => (if t59 < 0 then (some false) else ((laws_heldInt64S.f k bt56.2 t59).bind fun t62 => (if t62 < 0 then (some false) else (if t62 = bt56.1 then ((laws_toDrawing.f k y227_0 y227_1 y227_2 y227_3).bind fun bt66 => ((impl_NearestOrder.f k bt66.1 bt66.2.1 bt66.2.2.1 bt66.2.2.2).bind fun bt71 => ((laws_eqInt64S.f k bt71.1 x4).bind fun t76 => (if t76 = true then ((laws_eqInt64S.f k bt71.2.1 x5).bind fun t79 => (if t79 = true then (if bt71.2.2.1 = x6 then (laws_FnExactNearestOrder.j2 k bt53.2 bt56.2 bt56.1 (bt71.2.2.2 != x7)) else (laws_FnExactNearestOrder.j2 k bt53.2 bt56.2 bt56.1 true)) else (laws_FnExactNearestOrder.j2 k bt53.2 bt56.2 bt56.1 true))) else (laws_FnExactNearestOrder.j2 k bt53.2 bt56.2 bt56.1 true))))) else (some false))))))))
def laws_FnExactNearestOrder.j2 : Nat → List Int → List Int → Int → Bool → Option (Bool)
 | 0, _, _, _, _ => none
 | k + 1, x9, x10, x14, x140 => if x140 = true then (some false) else ((laws_heldInt64S.f k x9 1).bind fun t84 => (if t84 < 0 then (some false) else ((laws_heldInt64S.f k x10 t84).bind fun t87 => (if t87 < 0 then (some false) else (if t87 = x14 then (some true) else (some false))))))
end
def laws_FnExactNearestOrder.f (k : Nat) (a0_0 : Int) (a0_1 : Int) (l0_2 : List S50) (l0_3 : List S72) : Option (Bool) := (laws_szDrawing.f k a0_0 a0_1 l0_2 l0_3 1048576).bind fun t1 => (if t1 < 0 then (some true) else ((laws_toDrawing.f k a0_0 a0_1 l0_2 l0_3).bind fun bt4 => ((spec_NearestOrder.f k bt4.1 bt4.2.1 bt4.2.2.1 bt4.2.2.2).bind fun bt9 => ((laws_toDrawing.f k a0_0 a0_1 l0_2 l0_3).bind fun bt14 => ((impl_NearestOrder.f k bt14.1 bt14.2.1 bt14.2.2.1 bt14.2.2.2).bind fun bt19 => ((laws_eqInt64S.f k bt19.1 bt9.1).bind fun t24 => (if t24 = true then ((laws_eqInt64S.f k bt19.2.1 bt9.2.1).bind fun t27 => (if t27 = true then (if bt19.2.2.1 = bt9.2.2.1 then (laws_FnExactNearestOrder.j0 k a0_0 a0_1 l0_2 l0_3 bt9.1 bt9.2.1 bt9.2.2.1 bt9.2.2.2 bt14.1 bt14.2.1 bt14.2.2.1 bt14.2.2.2 bt19.1 bt19.2.1 bt19.2.2.1 bt19.2.2.2 (bt19.2.2.2 != bt9.2.2.2)) else (laws_FnExactNearestOrder.j0 k a0_0 a0_1 l0_2 l0_3 bt9.1 bt9.2.1 bt9.2.2.1 bt9.2.2.2 bt14.1 bt14.2.1 bt14.2.2.1 bt14.2.2.2 bt19.1 bt19.2.1 bt19.2.2.1 bt19.2.2.2 true)) else (laws_FnExactNearestOrder.j0 k a0_0 a0_1 l0_2 l0_3 bt9.1 bt9.2.1 bt9.2.2.1 bt9.2.2.2 bt14.1 bt14.2.1 bt14.2.2.1 bt14.2.2.2 bt19.1 bt19.2.1 bt19.2.2.1 bt19.2.2.2 true))) else (laws_FnExactNearestOrder.j0 k a0_0 a0_1 l0_2 l0_3 bt9.1 bt9.2.1 bt9.2.2.1 bt9.2.2.2 bt14.1 bt14.2.1 bt14.2.2.1 bt14.2.2.2 bt19.1 bt19.2.1 bt19.2.2.1 bt19.2.2.2 true))))))))
set_option maxRecDepth 100000 in
theorem laws_FnExactNearestOrder.ok {k : Nat} {a0_0 : Int} {a0_1 : Int} {l0_2 : List S50} {l0_3 : List S72} {r : Bool} (H : laws_FnExactNearestOrder.f k a0_0 a0_1 l0_2 l0_3 = some r) : OkF Tryz.prog 3 [.agg [.d (.v (.int .i64 a0_0)), .d (.v (.int .i64 a0_1)), .d (.row 84 (l0_2.map c50)), .d (.row 73 (l0_3.map c72))]] [] (.c (.d (.v (.bool r)))) [] := by
 unfold laws_FnExactNearestOrder.f at H
 refine OkF.of (N := 154) (rs := [2]) (avs := [.c (.d (.v (.bool r)))]) Tryz.func3 rfl rfl (fun _ _ => results_tmp rfl _ _ _) (by decide) rfl rfl rfl rfl (fun w0 S => ?_)
 refine AG.seq ?_
 refine AG.region HM ?_
 refine a_box 200 ?_
 refine a_move (v := vB _) ?_
 refine RA.nil nofun ?_
 refine AG.seq ?_
 refine AG.region HM ?_
 refine a_move (v := vI _) ?_
 refine RA.nil nofun ?_
 refine AG.seq ?_
 refine AG.region HM ?_
 refine a_ldB (v := .agg [_, _, _, _]) ?_ T25
 refine a_move (v := vI _) ?_
 obtain ⟨t1, e2, H⟩ := bindO H
 refine a_call (v := vI t1) (nk := []) (L := []) ?_ rfl (laws_szDrawing.ok e2) id (qg (qd qn)) trivial trivial trivial rfl
 refine a_move (v := vI _) ?_
 refine RA.nil nofun ?_
 refine AG.seq ?_
 refine AG.seq ?_
 refine AG.region HM ?_
 refine a_move (v := vI _) ?_
 refine a_int (u := .bool (decide (t1 < 0))) ?_
 refine RA.nil nofun ?_
 by_cases hc3 : t1 < 0
 ·rw [if_pos hc3] at H
  refine AG.yes rfl (decide_eq_true hc3) ?_
  refine AG.seq ?_
  refine AG.region HM ?_
  refine a_move (v := vB _) ?_
  refine RA.nil nofun ?_
  refine AG.ret ?_
  obtain rfl := Option.some.inj H
  exact RetP.mk id ⟨rfl, trivial⟩ trivial rfl
 ·rw [if_neg hc3] at H
  refine AG.no rfl (decide_eq_false hc3) ?_
  refine AG.skip ?_
  refine AG.seq ?_
  refine AG.region HM ?_
  refine a_ldB (v := .agg [_, _, _, _]) ?_ T25
  obtain ⟨⟨t4, t5, t6, t7⟩, e8, H⟩ := bindO H
  refine a_call (v := .agg [.d (.v (.int .i64 t4)), .d (.v (.int .i64 t5)), .own 202 t6.length, .own 203 t7.length]) (nk := [(202, .row 51 (t6.map c50)), (203, .row 76 (t7.map c72))]) (L := []) ?_ rfl (laws_toDrawing.ok e8) (fun κ => cond (Nat.beq κ 202) 100 (cond (Nat.beq κ 203) 101 (κ))) (qg qn) trivial ⟨rfl, rfl, trivial⟩ ⟨rfl, rfl, trivial⟩ rfl
  obtain ⟨⟨t9, t10, t11, t12⟩, e13, H⟩ := bindO H
  refine a_call (v := .tup [.c (.own 204 t9.length), .c (.own 205 t10.length), .c (.d (.v (.int .i64 t11))), .c (.d (.v (.int .i64 t12)))]) (nk := [(204, .row 2 (t9.map c2)), (205, .row 2 (t10.map c2))]) (L := [(202, _), (203, _)]) ?_ rfl (spec_NearestOrder.ok e13) (fun κ => cond (Nat.beq κ 204) 100 (cond (Nat.beq κ 205) 101 (κ))) (qm (eD (eD (eC rO (eC rO eN)))) qn) ⟨rfl, rfl, trivial⟩ ⟨rfl, rfl, trivial⟩ ⟨rfl, rfl, trivial⟩ rfl
  refine a_move (v := .tup [_, _, _, _]) ?_
  refine a_ext (v := .c (.own _ _)) ?_
  refine a_ext (v := .c (.own _ _)) ?_
  refine a_ext (v := vI _) ?_
  refine a_ext (v := vI _) ?_
  refine a_move (v := .c (.own _ _)) ?_
  refine a_move (v := .c (.own _ _)) ?_
  refine a_move (v := vI _) ?_
  refine a_move (v := vI _) ?_
  refine RA.nil nofun ?_
  refine AG.seq ?_
  refine AG.freeze 203 ?_
  refine AG.region HM ?_
  refine a_ldB (v := .agg [_, _, _, _]) ?_ T25
  obtain ⟨⟨t14, t15, t16, t17⟩, e18, H⟩ := bindO H
  refine a_call (v := .agg [.d (.v (.int .i64 t14)), .d (.v (.int .i64 t15)), .own 206 t16.length, .own 207 t17.length]) (nk := [(206, .row 51 (t16.map c50)), (207, .row 76 (t17.map c72))]) (L := []) ?_ rfl (laws_toDrawing.ok e18) (fun κ => cond (Nat.beq κ 206) 100 (cond (Nat.beq κ 207) 101 (κ))) (qg qn) trivial ⟨rfl, rfl, trivial⟩ ⟨rfl, rfl, trivial⟩ rfl
  refine a_alloc (cs := [_, _, _, _]) 208 ?_ T33
  refine a_stB (cs' := [_, _, _, _]) ?_ T33
  refine RA.nil nofun ?_
  refine AG.seq ?_
  refine AG.region HM ?_
  refine a_ldB (v := .agg [_, _, _, _]) ?_ T33
  obtain ⟨⟨t19, t20, t21, t22⟩, e23, H⟩ := bindO H
  refine a_call (v := .tup [.c (.own 209 t19.length), .c (.own 210 t20.length), .c (.d (.v (.int .i64 t21))), .c (.d (.v (.int .i64 t22)))]) (nk := [(209, .row 2 (t19.map c2)), (210, .row 2 (t20.map c2))]) (L := [(206, _), (207, _)]) ?_ rfl (impl_NearestOrder.ok e23) (fun κ => cond (Nat.beq κ 209) 100 (cond (Nat.beq κ 210) 101 (κ))) (qm (eD (eD (eC rO (eC rO eN)))) qn) ⟨rfl, rfl, trivial⟩ ⟨rfl, rfl, trivial⟩ ⟨rfl, rfl, trivial⟩ rfl
  refine a_move (v := .tup [_, _, _, _]) ?_
  refine a_ext (v := .c (.own _ _)) ?_
  refine a_ext (v := .c (.own _ _)) ?_
  refine a_ext (v := vI _) ?_
  refine a_ext (v := vI _) ?_
  refine a_move (v := .c (.own _ _)) ?_
  refine a_move (v := .c (.own _ _)) ?_
  refine a_move (v := vI _) ?_
  refine a_move (v := vI _) ?_
  refine RA.nil nofun ?_
  refine AG.seq ?_
  refine AG.seq ?_
  refine AG.joinR (fun s => ∃ q, q ≤ k ∧ ∃ (y213_0 : Int) (y213_1 : Int) (y213_2 : List S50) (y213_3 : List S72) (x4 : List Int) (x5 : List Int) (x6 : Int) (x7 : Int) (y216_0 : Int) (y216_1 : Int) (y216_2 : List S50) (y216_3 : List S72) (x9 : List Int) (x10 : List Int) (x11 : Int) (x12 : Int) (x61 : Bool), laws_FnExactNearestOrder.j0 q y213_0 y213_1 y213_2 y213_3 x4 x5 x6 x7 y216_0 y216_1 y216_2 y216_3 x9 x10 x11 x12 x61 = some r ∧ s = St.of [(1, .c (.ptr 213 0)), (4, .c (.own 214 x4.length)), (5, .c (.own 215 x5.length)), (6, vI x6), (7, vI x7), (8, .c (.ptr 216 0)), (9, .c (.own 219 x9.length)), (10, .c (.own 220 x10.length)), (11, vI x11), (12, vI x12), (61, vB x61)] [(213, .box 25 [.d (.v (.int .i64 y213_0)), .d (.v (.int .i64 y213_1)), .d (.row 84 (y213_2.map c50)), .d (.row 73 (y213_3.map c72))]), (214, .row 2 (x4.map c2)), (215, .row 2 (x5.map c2)), (216, .box 33 [.d (.v (.int .i64 y216_0)), .d (.v (.int .i64 y216_1)), .own 217 y216_2.length, .own 218 y216_3.length]), (217, .row 51 (y216_2.map c50)), (218, .row 76 (y216_3.map c72)), (219, .row 2 (x9.map c2)), (220, .row 2 (x10.map c2))]) ?_ ?_
  ·skip
   refine AG.region HM ?_
   refine a_move (v := .c (.own _ _)) ?_
   refine a_move (v := .c (.own _ _)) ?_
   obtain ⟨t24, e25, H⟩ := bindO H
   refine a_call (v := vB t24) (nk := []) (L := [(209, _), (204, _)]) ?_ rfl (laws_eqInt64S.ok e25) id (qc rO (qc rO qn)) ⟨rfl, rfl, trivial⟩ trivial trivial rfl
   refine a_un (u := .bool (!t24)) ?_
   refine a_move (v := vB _) ?_
   by_cases hc26 : t24 = true
   ·rw [if_pos hc26] at H
    refine a_move (v := .c (.own _ _)) ?_ (hg := Gs.yes rfl rfl rfl (congrArg Bool.not hc26))
    refine a_move (v := .c (.own _ _)) ?_ (hg := Gs.yes rfl rfl rfl (congrArg Bool.not hc26))
    obtain ⟨t27, e28, H⟩ := bindO H
    refine a_call (v := vB t27) (nk := []) (L := [(210, _), (205, _)]) ?_ rfl (laws_eqInt64S.ok e28) id (qc rO (qc rO qn)) ⟨rfl, rfl, trivial⟩ trivial trivial rfl (hg := Gs.yes rfl rfl rfl (congrArg Bool.not hc26))
    refine a_un (u := .bool (!t27)) ?_ (hg := Gs.yes rfl rfl rfl (congrArg Bool.not hc26))
    refine a_pick (b := false) (v := vB _) ?_ (congrArg Bool.not hc26)
    refine a_move (v := vB _) ?_
    by_cases hc29 : t27 = true
    ·rw [if_pos hc29] at H
     refine a_move (v := vI _) ?_ (hg := Gs.yes rfl rfl rfl (congrArg Bool.not hc29))
     refine a_move (v := vI _) ?_ (hg := Gs.yes rfl rfl rfl (congrArg Bool.not hc29))
     refine a_int (u := .bool ((t21 != t11))) ?_ (hg := Gs.yes rfl rfl rfl (congrArg Bool.not hc29))
     refine a_pick (b := false) (v := vB _) ?_ (congrArg Bool.not hc29)
     refine a_move (v := vB _) ?_
     by_cases hc30 : t21 = t11
     ·rw [if_pos hc30] at H
      refine a_move (v := vI _) ?_ (hg := Gs.yes rfl rfl rfl (bne_eq_false_iff_eq.2 hc30))
      refine a_move (v := vI _) ?_ (hg := Gs.yes rfl rfl rfl (bne_eq_false_iff_eq.2 hc30))
      refine a_int (u := .bool ((t22 != t12))) ?_ (hg := Gs.yes rfl rfl rfl (bne_eq_false_iff_eq.2 hc30))
      refine a_pick (b := false) (v := vB _) ?_ (bne_eq_false_iff_eq.2 hc30)
      refine RA.nil nofun ?_
      exact CanR.mk (fun κ => cond (Nat.beq κ 213) 200 (cond (Nat.beq κ 214) 204 (cond (Nat.beq κ 215) 205 (cond (Nat.beq κ 216) 208 (cond (Nat.beq κ 217) 206 (cond (Nat.beq κ 218) 207 (cond (Nat.beq κ 219) 209 (cond (Nat.beq κ 220) 210 (κ))))))))) ⟨_, (by omega), _, _, _, _, _, _, _, _, _, _, _, _, _, _, _, _, _, H, rfl⟩ ⟨rfl, rfl, rfl, rfl, rfl, rfl, rfl, rfl, rfl, rfl, rfl, trivial⟩ ⟨rfl, rfl, rfl, rfl, rfl, rfl, rfl, rfl, trivial⟩ rfl
     ·rw [if_neg hc30] at H
      refine RA.skip rfl rfl rfl rfl rfl (bne_iff_ne.2 hc30) (by decide) ?_
      refine RA.skip rfl rfl rfl rfl rfl (bne_iff_ne.2 hc30) (by decide) ?_
      refine RA.skip rfl rfl rfl rfl rfl (bne_iff_ne.2 hc30) (by decide) ?_
      refine a_pick (b := true) (v := vB _) ?_ (bne_iff_ne.2 hc30)
      refine RA.nil nofun ?_
      exact CanR.mk (fun κ => cond (Nat.beq κ 213) 200 (cond (Nat.beq κ 214) 204 (cond (Nat.beq κ 215) 205 (cond (Nat.beq κ 216) 208 (cond (Nat.beq κ 217) 206 (cond (Nat.beq κ 218) 207 (cond (Nat.beq κ 219) 209 (cond (Nat.beq κ 220) 210 (κ))))))))) ⟨_, (by omega), _, _, _, _, _, _, _, _, _, _, _, _, _, _, _, _, _, H, rfl⟩ ⟨rfl, rfl, rfl, rfl, rfl, rfl, rfl, rfl, rfl, rfl, rfl, trivial⟩ ⟨rfl, rfl, rfl, rfl, rfl, rfl, rfl, rfl, trivial⟩ rfl
    ·rw [if_neg hc29] at H
     refine RA.skip rfl rfl rfl rfl rfl (congrArg Bool.not (Bool.eq_false_iff.2 hc29)) (by decide) ?_
     refine RA.skip rfl rfl rfl rfl rfl (congrArg Bool.not (Bool.eq_false_iff.2 hc29)) (by decide) ?_
     refine RA.skip rfl rfl rfl rfl rfl (congrArg Bool.not (Bool.eq_false_iff.2 hc29)) (by decide) ?_
     refine a_pick (b := true) (v := vB _) ?_ (congrArg Bool.not (Bool.eq_false_iff.2 hc29))
     refine a_move (v := vB _) ?_
     refine RA.skip rfl rfl rfl rfl rfl rfl (by decide) ?_
     refine RA.skip rfl rfl rfl rfl rfl rfl (by decide) ?_
     refine RA.skip rfl rfl rfl rfl rfl rfl (by decide) ?_
     refine a_pick (b := true) (v := vB _) ?_ rfl
     refine RA.nil nofun ?_
     exact CanR.mk (fun κ => cond (Nat.beq κ 213) 200 (cond (Nat.beq κ 214) 204 (cond (Nat.beq κ 215) 205 (cond (Nat.beq κ 216) 208 (cond (Nat.beq κ 217) 206 (cond (Nat.beq κ 218) 207 (cond (Nat.beq κ 219) 209 (cond (Nat.beq κ 220) 210 (κ))))))))) ⟨_, (by omega), _, _, _, _, _, _, _, _, _, _, _, _, _, _, _, _, _, H, rfl⟩ ⟨rfl, rfl, rfl, rfl, rfl, rfl, rfl, rfl, rfl, rfl, rfl, trivial⟩ ⟨rfl, rfl, rfl, rfl, rfl, rfl, rfl, rfl, trivial⟩ rfl
   ·rw [if_neg hc26] at H
    refine RA.skip rfl rfl rfl rfl rfl (congrArg Bool.not (Bool.eq_false_iff.2 hc26)) (by decide) ?_
    refine RA.skip rfl rfl rfl rfl rfl (congrArg Bool.not (Bool.eq_false_iff.2 hc26)) (by decide) ?_
    refine RA.skip rfl rfl rfl rfl rfl (congrArg Bool.not (Bool.eq_false_iff.2 hc26)) (by decide) ?_
    refine RA.skip rfl rfl rfl rfl rfl (congrArg Bool.not (Bool.eq_false_iff.2 hc26)) (by decide) ?_
    refine a_pick (b := true) (v := vB _) ?_ (congrArg Bool.not (Bool.eq_false_iff.2 hc26))
    refine a_move (v := vB _) ?_
    refine RA.skip rfl rfl rfl rfl rfl rfl (by decide) ?_
    refine RA.skip rfl rfl rfl rfl rfl rfl (by decide) ?_
    refine RA.skip rfl rfl rfl rfl rfl rfl (by decide) ?_
    refine a_pick (b := true) (v := vB _) ?_ rfl
    refine a_move (v := vB _) ?_
    refine RA.skip rfl rfl rfl rfl rfl rfl (by decide) ?_
    refine RA.skip rfl rfl rfl rfl rfl rfl (by decide) ?_
    refine RA.skip rfl rfl rfl rfl rfl rfl (by decide) ?_
    refine a_pick (b := true) (v := vB _) ?_ rfl
    refine RA.nil nofun ?_
    exact CanR.mk (fun κ => cond (Nat.beq κ 213) 200 (cond (Nat.beq κ 214) 204 (cond (Nat.beq κ 215) 205 (cond (Nat.beq κ 216) 208 (cond (Nat.beq κ 217) 206 (cond (Nat.beq κ 218) 207 (cond (Nat.beq κ 219) 209 (cond (Nat.beq κ 220) 210 (κ))))))))) ⟨_, (by omega), _, _, _, _, _, _, _, _, _, _, _, _, _, _, _, _, _, H, rfl⟩ ⟨rfl, rfl, rfl, rfl, rfl, rfl, rfl, rfl, rfl, rfl, rfl, trivial⟩ ⟨rfl, rfl, rfl, rfl, rfl, rfl, rfl, rfl, trivial⟩ rfl
  ·clear H
   rintro _ ⟨k, hj0, y213_0, y213_1, y213_2, y213_3, x4, x5, x6, x7, y216_0, y216_1, y216_2, y216_3, x9, x10, x11, x12, x61, H, rfl⟩
   cases k with
   | zero => cases H
   | succ k =>
    rw [laws_FnExactNearestOrder.j0] at H
    by_cases hc31 : x61 = true
    ·rw [if_pos hc31] at H
     refine AG.yes rfl hc31 ?_
     refine AG.seq ?_
     refine AG.region HM ?_
     refine a_move (v := vB _) ?_
     refine RA.nil nofun ?_
     refine AG.ret ?_
     obtain rfl := Option.some.inj H
     exact RetP.mk id ⟨rfl, trivial⟩ trivial rfl
    ·rw [if_neg hc31] at H
     refine AG.no rfl (Bool.eq_false_iff.2 hc31) ?_
     refine AG.skip ?_
     refine AG.seq ?_
     refine AG.seq ?_
     refine AG.region HM ?_
     refine a_ldB (v := .agg [_, _, _, _]) ?_ T33
     refine a_ldB (v := .agg [_, _, _, _]) ?_ T25
     obtain ⟨⟨t32, t33, t34, t35⟩, e36, H⟩ := bindO H
     refine a_call (v := .agg [.d (.v (.int .i64 t32)), .d (.v (.int .i64 t33)), .own 221 t34.length, .own 222 t35.length]) (nk := [(221, .row 51 (t34.map c50)), (222, .row 76 (t35.map c72))]) (L := []) ?_ rfl (laws_toDrawing.ok e36) (fun κ => cond (Nat.beq κ 221) 100 (cond (Nat.beq κ 222) 101 (κ))) (qg qn) trivial ⟨rfl, rfl, trivial⟩ ⟨rfl, rfl, trivial⟩ rfl
     obtain ⟨t37, e38, H⟩ := bindO H
     refine a_call (v := vB t37) (nk := []) (L := [(217, _), (218, _), (221, _), (222, _)]) ?_ rfl (laws_eqDrawing.ok e38) id (qm (eD (eD (eC rO (eC rO eN)))) (qm (eD (eD (eC rO (eC rO eN)))) qn)) ⟨rfl, rfl, rfl, rfl, trivial⟩ trivial trivial rfl
     refine a_un (u := .bool (!t37)) ?_
     refine RA.nil (fun _ => by kernel_rfl) ?_
     by_cases hc39 : t37 = true
     ·rw [if_pos hc39] at H
      refine AG.no rfl (congrArg Bool.not hc39) ?_
      refine AG.skip ?_
      refine AG.seq ?_
      refine AG.freeze 222 ?_
      refine AG.region HM ?_
      refine a_move (v := vI _) ?_
      refine RA.nil nofun ?_
      refine AG.seq ?_
      refine AG.region HM ?_
      refine a_ldB (v := .agg [_, _, _, _]) ?_ T33
      refine a_move (v := vI _) ?_
      obtain ⟨⟨t40, t41, t42⟩, e43, H⟩ := bindO H
      refine a_callM (v := vI t40) (nk := []) (L := []) (Mk := [(217, _), (218, _)]) (ck := [(217, .row 51 (t41.map c50)), (218, .row 76 (t42.map c72))]) ?_ rfl (laws_markDrawing.ok e43) (fun κ => cond (Nat.beq κ 0) 217 (cond (Nat.beq κ 1) 218 (κ))) (fun κ => cond (Nat.beq κ 217) 0 (cond (Nat.beq κ 218) 1 (κ))) (mcA (kD (kD (kO (kO k0)))) (mcD m0)) trivial ⟨rfl, rfl, trivial⟩ trivial ⟨rfl, rfl, trivial⟩ trivial ⟨rfl, rfl, trivial⟩ rfl rfl rfl
      refine a_move (v := vI _) ?_
      refine RA.nil nofun ?_
      refine AG.relen 217 t41.length ?_
      refine AG.relen 218 t42.length ?_
      refine AG.seq ?_
      refine AG.seq ?_
      refine AG.joinR (fun s => ∃ q, q ≤ k ∧ ∃ (y227_0 : Int) (y227_1 : Int) (y227_2 : List S50) (y227_3 : List S72) (x4 : List Int) (x5 : List Int) (x6 : Int) (x7 : Int) (x9 : List Int) (x10 : List Int) (x93 : Bool), laws_FnExactNearestOrder.j1 q y227_0 y227_1 y227_2 y227_3 x4 x5 x6 x7 x9 x10 x93 = some r ∧ s = St.of [(1, .c (.ptr 227 0)), (4, .c (.own 228 x4.length)), (5, .c (.own 229 x5.length)), (6, vI x6), (7, vI x7), (9, .c (.own 230 x9.length)), (10, .c (.own 231 x10.length)), (93, vB x93)] [(227, .box 25 [.d (.v (.int .i64 y227_0)), .d (.v (.int .i64 y227_1)), .d (.row 84 (y227_2.map c50)), .d (.row 73 (y227_3.map c72))]), (228, .row 2 (x4.map c2)), (229, .row 2 (x5.map c2)), (230, .row 2 (x9.map c2)), (231, .row 2 (x10.map c2))]) ?_ ?_
      ·skip
       refine AG.region HM ?_
       refine a_move (v := vI _) ?_
       refine a_int (u := .bool (decide (t40 < 0))) ?_
       refine a_move (v := vB _) ?_
       by_cases hc44 : t40 < 0
       ·rw [if_pos hc44] at H
        refine RA.skip rfl rfl rfl rfl rfl (decide_eq_true hc44) (by decide) ?_
        refine RA.skip rfl rfl rfl rfl rfl (decide_eq_true hc44) (by decide) ?_
        refine RA.skip rfl rfl rfl rfl rfl (decide_eq_true hc44) (by decide) ?_
        refine RA.skip rfl rfl rfl rfl rfl (decide_eq_true hc44) (by decide) ?_
        refine a_pick (b := true) (v := vB _) ?_ (decide_eq_true hc44)
        refine a_move (v := vB _) ?_
        refine RA.skip rfl rfl rfl rfl rfl rfl (by decide) ?_
        refine RA.skip rfl rfl rfl rfl rfl rfl (by decide) ?_
        refine RA.skip rfl rfl rfl rfl rfl rfl (by decide) ?_
        refine RA.skip rfl rfl rfl rfl rfl rfl (by decide) ?_
        refine a_pick (b := true) (v := vB _) ?_ rfl
        refine a_move (v := vB _) ?_
        refine RA.skip rfl rfl rfl rfl rfl rfl (by decide) ?_
        refine RA.skip rfl rfl rfl rfl rfl rfl (by decide) ?_
        refine RA.skip rfl rfl rfl rfl rfl rfl (by decide) ?_
        refine a_pick (b := true) (v := vB _) ?_ rfl
        refine a_move (v := vB _) ?_
        refine RA.skip rfl rfl rfl rfl rfl rfl (by decide) ?_
        refine RA.skip rfl rfl rfl rfl rfl rfl (by decide) ?_
        refine RA.skip rfl rfl rfl rfl rfl rfl (by decide) ?_
        refine a_pick (b := true) (v := vB _) ?_ rfl
        refine RA.nil nofun ?_
        exact CanR.mk (fun κ => cond (Nat.beq κ 227) 213 (cond (Nat.beq κ 228) 214 (cond (Nat.beq κ 229) 215 (cond (Nat.beq κ 230) 219 (cond (Nat.beq κ 231) 220 (κ)))))) ⟨_, (by omega), _, _, _, _, _, _, _, _, _, _, _, H, rfl⟩ ⟨rfl, rfl, rfl, rfl, rfl, rfl, rfl, rfl, trivial⟩ ⟨rfl, rfl, rfl, rfl, rfl, trivial⟩ rfl
       ·rw [if_neg hc44] at H
        refine a_move (v := .c (.own _ _)) ?_ (hg := Gs.yes rfl rfl rfl (decide_eq_false hc44))
        refine a_move (v := .c (.own _ _)) ?_ (hg := Gs.yes rfl rfl rfl (decide_eq_false hc44))
        obtain ⟨t45, e46, H⟩ := bindO H
        refine a_call (v := vB t45) (nk := []) (L := [(219, _), (214, _)]) ?_ rfl (laws_eqInt64S.ok e46) id (qc rO (qc rO qn)) ⟨rfl, rfl, trivial⟩ trivial trivial rfl (hg := Gs.yes rfl rfl rfl (decide_eq_false hc44))
        refine a_un (u := .bool (!t45)) ?_ (hg := Gs.yes rfl rfl rfl (decide_eq_false hc44))
        refine a_pick (b := false) (v := vB _) ?_ (decide_eq_false hc44)
        refine a_move (v := vB _) ?_
        by_cases hc47 : t45 = true
        ·rw [if_pos hc47] at H
         refine a_move (v := .c (.own _ _)) ?_ (hg := Gs.yes rfl rfl rfl (congrArg Bool.not hc47))
         refine a_move (v := .c (.own _ _)) ?_ (hg := Gs.yes rfl rfl rfl (congrArg Bool.not hc47))
         obtain ⟨t48, e49, H⟩ := bindO H
         refine a_call (v := vB t48) (nk := []) (L := [(220, _), (215, _)]) ?_ rfl (laws_eqInt64S.ok e49) id (qc rO (qc rO qn)) ⟨rfl, rfl, trivial⟩ trivial trivial rfl (hg := Gs.yes rfl rfl rfl (congrArg Bool.not hc47))
         refine a_un (u := .bool (!t48)) ?_ (hg := Gs.yes rfl rfl rfl (congrArg Bool.not hc47))
         refine a_pick (b := false) (v := vB _) ?_ (congrArg Bool.not hc47)
         refine a_move (v := vB _) ?_
         by_cases hc50 : t48 = true
         ·rw [if_pos hc50] at H
          refine a_move (v := vI _) ?_ (hg := Gs.yes rfl rfl rfl (congrArg Bool.not hc50))
          refine a_move (v := vI _) ?_ (hg := Gs.yes rfl rfl rfl (congrArg Bool.not hc50))
          refine a_int (u := .bool ((x11 != x6))) ?_ (hg := Gs.yes rfl rfl rfl (congrArg Bool.not hc50))
          refine a_pick (b := false) (v := vB _) ?_ (congrArg Bool.not hc50)
          refine a_move (v := vB _) ?_
          by_cases hc51 : x11 = x6
          ·rw [if_pos hc51] at H
           refine a_move (v := vI _) ?_ (hg := Gs.yes rfl rfl rfl (bne_eq_false_iff_eq.2 hc51))
           refine a_move (v := vI _) ?_ (hg := Gs.yes rfl rfl rfl (bne_eq_false_iff_eq.2 hc51))
           refine a_int (u := .bool ((x12 != x7))) ?_ (hg := Gs.yes rfl rfl rfl (bne_eq_false_iff_eq.2 hc51))
           refine a_pick (b := false) (v := vB _) ?_ (bne_eq_false_iff_eq.2 hc51)
           refine RA.nil nofun ?_
           exact CanR.mk (fun κ => cond (Nat.beq κ 227) 213 (cond (Nat.beq κ 228) 214 (cond (Nat.beq κ 229) 215 (cond (Nat.beq κ 230) 219 (cond (Nat.beq κ 231) 220 (κ)))))) ⟨_, (by omega), _, _, _, _, _, _, _, _, _, _, _, H, rfl⟩ ⟨rfl, rfl, rfl, rfl, rfl, rfl, rfl, rfl, trivial⟩ ⟨rfl, rfl, rfl, rfl, rfl, trivial⟩ rfl
          ·rw [if_neg hc51] at H
           refine RA.skip rfl rfl rfl rfl rfl (bne_iff_ne.2 hc51) (by decide) ?_
           refine RA.skip rfl rfl rfl rfl rfl (bne_iff_ne.2 hc51) (by decide) ?_
           refine RA.skip rfl rfl rfl rfl rfl (bne_iff_ne.2 hc51) (by decide) ?_
           refine a_pick (b := true) (v := vB _) ?_ (bne_iff_ne.2 hc51)
           refine RA.nil nofun ?_
           exact CanR.mk (fun κ => cond (Nat.beq κ 227) 213 (cond (Nat.beq κ 228) 214 (cond (Nat.beq κ 229) 215 (cond (Nat.beq κ 230) 219 (cond (Nat.beq κ 231) 220 (κ)))))) ⟨_, (by omega), _, _, _, _, _, _, _, _, _, _, _, H, rfl⟩ ⟨rfl, rfl, rfl, rfl, rfl, rfl, rfl, rfl, trivial⟩ ⟨rfl, rfl, rfl, rfl, rfl, trivial⟩ rfl
         ·rw [if_neg hc50] at H
          refine RA.skip rfl rfl rfl rfl rfl (congrArg Bool.not (Bool.eq_false_iff.2 hc50)) (by decide) ?_
          refine RA.skip rfl rfl rfl rfl rfl (congrArg Bool.not (Bool.eq_false_iff.2 hc50)) (by decide) ?_
          refine RA.skip rfl rfl rfl rfl rfl (congrArg Bool.not (Bool.eq_false_iff.2 hc50)) (by decide) ?_
          refine a_pick (b := true) (v := vB _) ?_ (congrArg Bool.not (Bool.eq_false_iff.2 hc50))
          refine a_move (v := vB _) ?_
          refine RA.skip rfl rfl rfl rfl rfl rfl (by decide) ?_
          refine RA.skip rfl rfl rfl rfl rfl rfl (by decide) ?_
          refine RA.skip rfl rfl rfl rfl rfl rfl (by decide) ?_
          refine a_pick (b := true) (v := vB _) ?_ rfl
          refine RA.nil nofun ?_
          exact CanR.mk (fun κ => cond (Nat.beq κ 227) 213 (cond (Nat.beq κ 228) 214 (cond (Nat.beq κ 229) 215 (cond (Nat.beq κ 230) 219 (cond (Nat.beq κ 231) 220 (κ)))))) ⟨_, (by omega), _, _, _, _, _, _, _, _, _, _, _, H, rfl⟩ ⟨rfl, rfl, rfl, rfl, rfl, rfl, rfl, rfl, trivial⟩ ⟨rfl, rfl, rfl, rfl, rfl, trivial⟩ rfl
        ·rw [if_neg hc47] at H
         refine RA.skip rfl rfl rfl rfl rfl (congrArg Bool.not (Bool.eq_false_iff.2 hc47)) (by decide) ?_
         refine RA.skip rfl rfl rfl rfl rfl (congrArg Bool.not (Bool.eq_false_iff.2 hc47)) (by decide) ?_
         refine RA.skip rfl rfl rfl rfl rfl (congrArg Bool.not (Bool.eq_false_iff.2 hc47)) (by decide) ?_
         refine RA.skip rfl rfl rfl rfl rfl (congrArg Bool.not (Bool.eq_false_iff.2 hc47)) (by decide) ?_
         refine a_pick (b := true) (v := vB _) ?_ (congrArg Bool.not (Bool.eq_false_iff.2 hc47))
         refine a_move (v := vB _) ?_
         refine RA.skip rfl rfl rfl rfl rfl rfl (by decide) ?_
         refine RA.skip rfl rfl rfl rfl rfl rfl (by decide) ?_
         refine RA.skip rfl rfl rfl rfl rfl rfl (by decide) ?_
         refine a_pick (b := true) (v := vB _) ?_ rfl
         refine a_move (v := vB _) ?_
         refine RA.skip rfl rfl rfl rfl rfl rfl (by decide) ?_
         refine RA.skip rfl rfl rfl rfl rfl rfl (by decide) ?_
         refine RA.skip rfl rfl rfl rfl rfl rfl (by decide) ?_
         refine a_pick (b := true) (v := vB _) ?_ rfl
         refine RA.nil nofun ?_
         exact CanR.mk (fun κ => cond (Nat.beq κ 227) 213 (cond (Nat.beq κ 228) 214 (cond (Nat.beq κ 229) 215 (cond (Nat.beq κ 230) 219 (cond (Nat.beq κ 231) 220 (κ)))))) ⟨_, (by omega), _, _, _, _, _, _, _, _, _, _, _, H, rfl⟩ ⟨rfl, rfl, rfl, rfl, rfl, rfl, rfl, rfl, trivial⟩ ⟨rfl, rfl, rfl, rfl, rfl, trivial⟩ rfl
      ·clear H
       rintro _ ⟨k, hj1, y227_0, y227_1, y227_2, y227_3, x4, x5, x6, x7, x9, x10, x93, H, rfl⟩
       cases k with
       | zero => cases H
       | succ k =>
        rw [laws_FnExactNearestOrder.j1] at H
        by_cases hc52 : x93 = true
        ·rw [if_pos hc52] at H
         refine AG.yes rfl hc52 ?_
         refine AG.seq ?_
         refine AG.region HM ?_
         refine a_move (v := vB _) ?_
         refine RA.nil nofun ?_
         refine AG.ret ?_
         obtain rfl := Option.some.inj H
         exact RetP.mk id ⟨rfl, trivial⟩ trivial rfl
        ·rw [if_neg hc52] at H
         refine AG.no rfl (Bool.eq_false_iff.2 hc52) ?_
         refine AG.skip ?_
         refine AG.seq ?_
         refine AG.region HM ?_
         refine a_move (v := vI _) ?_
         refine RA.nil nofun ?_
         refine AG.seq ?_
         refine AG.region HM ?_
         refine a_move (v := .c (.own _ _)) ?_
         refine a_move (v := vI _) ?_
         obtain ⟨⟨t53, t54⟩, e55, H⟩ := bindO H
         refine a_callM (v := vI t53) (nk := []) (L := []) (Mk := [(230, _)]) (ck := [(230, .row 2 (t54.map c2))]) ?_ rfl (laws_markInt64S.ok e55) (fun κ => cond (Nat.beq κ 0) 230 (κ)) (fun κ => cond (Nat.beq κ 230) 0 (κ)) (mcO (mcD m0)) trivial ⟨rfl, trivial⟩ trivial ⟨rfl, trivial⟩ trivial ⟨rfl, trivial⟩ rfl rfl rfl
         refine a_move (v := vI _) ?_
         refine RA.nil nofun ?_
         refine AG.relen 230 t54.length ?_
         refine AG.seq ?_
         refine AG.region HM ?_
         refine a_move (v := .c (.own _ _)) ?_
         refine a_move (v := vI _) ?_
         obtain ⟨⟨t56, t57⟩, e58, H⟩ := bindO H
         refine a_callM (v := vI t56) (nk := []) (L := []) (Mk := [(231, _)]) (ck := [(231, .row 2 (t57.map c2))]) ?_ rfl (laws_markInt64S.ok e58) (fun κ => cond (Nat.beq κ 0) 231 (κ)) (fun κ => cond (Nat.beq κ 231) 0 (κ)) (mcO (mcD m0)) trivial ⟨rfl, trivial⟩ trivial ⟨rfl, trivial⟩ trivial ⟨rfl, trivial⟩ rfl rfl rfl
         refine a_move (v := vI _) ?_
         refine RA.nil nofun ?_
         refine AG.relen 231 t57.length ?_
         refine AG.seq ?_
         refine AG.region HM ?_
         refine a_move (v := vI _) ?_
         refine RA.nil nofun ?_
         refine AG.seq ?_
         refine AG.region HM ?_
         refine a_move (v := .c (.own _ _)) ?_
         refine a_move (v := vI _) ?_
         obtain ⟨t59, e60, H⟩ := bindO H
         refine a_call (v := vI t59) (nk := []) (L := [(230, _)]) ?_ rfl (laws_heldInt64S.ok e60) id (qc rO (qd qn)) ⟨rfl, trivial⟩ trivial trivial rfl
         refine a_move (v := vI _) ?_
         refine RA.nil nofun ?_
         refine AG.seq ?_
         refine AG.seq ?_
         refine AG.region HM ?_
         refine a_move (v := vI _) ?_
         refine a_int (u := .bool (decide (t59 < 0))) ?_
         refine RA.nil nofun ?_
         by_cases hc61 : t59 < 0
         ·rw [if_pos hc61] at H
          refine AG.yes rfl (decide_eq_true hc61) ?_
          refine AG.seq ?_
          refine AG.region HM ?_
          refine a_move (v := vB _) ?_
          refine RA.nil nofun ?_
          refine AG.ret ?_
          obtain rfl := Option.some.inj H
          exact RetP.mk id ⟨rfl, trivial⟩ trivial rfl
         ·rw [if_neg hc61] at H
          refine AG.no rfl (decide_eq_false hc61) ?_
          refine AG.skip ?_
          refine AG.seq ?_
          refine AG.region HM ?_
          refine a_move (v := .c (.own _ _)) ?_
          refine a_move (v := vI _) ?_
          obtain ⟨t62, e63, H⟩ := bindO H
          refine a_call (v := vI t62) (nk := []) (L := [(231, _)]) ?_ rfl (laws_heldInt64S.ok e63) id (qc rO (qd qn)) ⟨rfl, trivial⟩ trivial trivial rfl
          refine a_move (v := vI _) ?_
          refine RA.nil nofun ?_
          refine AG.seq ?_
          refine AG.seq ?_
          refine AG.region HM ?_
          refine a_move (v := vI _) ?_
          refine a_int (u := .bool (decide (t62 < 0))) ?_
          refine RA.nil nofun ?_
          by_cases hc64 : t62 < 0
          ·rw [if_pos hc64] at H
           refine AG.yes rfl (decide_eq_true hc64) ?_
           refine AG.seq ?_
           refine AG.region HM ?_
           refine a_move (v := vB _) ?_
           refine RA.nil nofun ?_
           refine AG.ret ?_
           obtain rfl := Option.some.inj H
           exact RetP.mk id ⟨rfl, trivial⟩ trivial rfl
          ·rw [if_neg hc64] at H
           refine AG.no rfl (decide_eq_false hc64) ?_
           refine AG.skip ?_
           refine AG.seq ?_
           refine AG.seq ?_
           refine AG.region HM ?_
           refine a_move (v := vI _) ?_
           refine a_move (v := vI _) ?_
           refine a_int (u := .bool ((t62 != t56))) ?_
           refine RA.nil nofun ?_
           by_cases hc65 : t62 = t56
           ·rw [if_pos hc65] at H
            refine AG.no rfl (bne_eq_false_iff_eq.2 hc65) ?_
            refine AG.skip ?_
            refine AG.seq ?_
            refine AG.region HM ?_
            refine a_ldB (v := .agg [_, _, _, _]) ?_ T25
            obtain ⟨⟨t66, t67, t68, t69⟩, e70, H⟩ := bindO H
            refine a_call (v := .agg [.d (.v (.int .i64 t66)), .d (.v (.int .i64 t67)), .own 236 t68.length, .own 237 t69.length]) (nk := [(236, .row 51 (t68.map c50)), (237, .row 76 (t69.map c72))]) (L := []) ?_ rfl (laws_toDrawing.ok e70) (fun κ => cond (Nat.beq κ 236) 100 (cond (Nat.beq κ 237) 101 (κ))) (qg qn) trivial ⟨rfl, rfl, trivial⟩ ⟨rfl, rfl, trivial⟩ rfl
            obtain ⟨⟨t71, t72, t73, t74⟩, e75, H⟩ := bindO H
            refine a_call (v := .tup [.c (.own 238 t71.length), .c (.own 239 t72.length), .c (.d (.v (.int .i64 t73))), .c (.d (.v (.int .i64 t74)))]) (nk := [(238, .row 2 (t71.map c2)), (239, .row 2 (t72.map c2))]) (L := [(236, _), (237, _)]) ?_ rfl (impl_NearestOrder.ok e75) (fun κ => cond (Nat.beq κ 238) 100 (cond (Nat.beq κ 239) 101 (κ))) (qm (eD (eD (eC rO (eC rO eN)))) qn) ⟨rfl, rfl, trivial⟩ ⟨rfl, rfl, trivial⟩ ⟨rfl, rfl, trivial⟩ rfl
            refine a_move (v := .tup [_, _, _, _]) ?_
            refine a_ext (v := .c (.own _ _)) ?_
            refine a_ext (v := .c (.own _ _)) ?_
            refine a_ext (v := vI _) ?_
            refine a_ext (v := vI _) ?_
            refine a_move (v := .c (.own _ _)) ?_
            refine a_move (v := .c (.own _ _)) ?_
            refine a_move (v := vI _) ?_
            refine a_move (v := vI _) ?_
            refine RA.nil nofun ?_
            refine AG.seq ?_
            refine AG.seq ?_
            refine AG.freeze 237 ?_
            refine AG.joinR (fun s => ∃ q, q ≤ k ∧ ∃ (x9 : List Int) (x10 : List Int) (x14 : Int) (x140 : Bool), laws_FnExactNearestOrder.j2 q x9 x10 x14 x140 = some r ∧ s = St.of [(9, .c (.own 242 x9.length)), (10, .c (.own 243 x10.length)), (14, vI x14), (140, vB x140)] [(242, .row 2 (x9.map c2)), (243, .row 2 (x10.map c2))]) ?_ ?_
            ·skip
             refine AG.region HM ?_
             refine a_move (v := .c (.own _ _)) ?_
             refine a_move (v := .c (.own _ _)) ?_
             obtain ⟨t76, e77, H⟩ := bindO H
             refine a_call (v := vB t76) (nk := []) (L := [(238, _), (228, _)]) ?_ rfl (laws_eqInt64S.ok e77) id (qc rO (qc rO qn)) ⟨rfl, rfl, trivial⟩ trivial trivial rfl
             refine a_un (u := .bool (!t76)) ?_
             refine a_move (v := vB _) ?_
             by_cases hc78 : t76 = true
             ·rw [if_pos hc78] at H
              refine a_move (v := .c (.own _ _)) ?_ (hg := Gs.yes rfl rfl rfl (congrArg Bool.not hc78))
              refine a_move (v := .c (.own _ _)) ?_ (hg := Gs.yes rfl rfl rfl (congrArg Bool.not hc78))
              obtain ⟨t79, e80, H⟩ := bindO H
              refine a_call (v := vB t79) (nk := []) (L := [(239, _), (229, _)]) ?_ rfl (laws_eqInt64S.ok e80) id (qc rO (qc rO qn)) ⟨rfl, rfl, trivial⟩ trivial trivial rfl (hg := Gs.yes rfl rfl rfl (congrArg Bool.not hc78))
              refine a_un (u := .bool (!t79)) ?_ (hg := Gs.yes rfl rfl rfl (congrArg Bool.not hc78))
              refine a_pick (b := false) (v := vB _) ?_ (congrArg Bool.not hc78)
              refine a_move (v := vB _) ?_
              by_cases hc81 : t79 = true
              ·rw [if_pos hc81] at H
               refine a_move (v := vI _) ?_ (hg := Gs.yes rfl rfl rfl (congrArg Bool.not hc81))
               refine a_move (v := vI _) ?_ (hg := Gs.yes rfl rfl rfl (congrArg Bool.not hc81))
               refine a_int (u := .bool ((t73 != x6))) ?_ (hg := Gs.yes rfl rfl rfl (congrArg Bool.not hc81))
               refine a_pick (b := false) (v := vB _) ?_ (congrArg Bool.not hc81)
               refine a_move (v := vB _) ?_
               by_cases hc82 : t73 = x6
               ·rw [if_pos hc82] at H
                refine a_move (v := vI _) ?_ (hg := Gs.yes rfl rfl rfl (bne_eq_false_iff_eq.2 hc82))
                refine a_move (v := vI _) ?_ (hg := Gs.yes rfl rfl rfl (bne_eq_false_iff_eq.2 hc82))
                refine a_int (u := .bool ((t74 != x7))) ?_ (hg := Gs.yes rfl rfl rfl (bne_eq_false_iff_eq.2 hc82))
                refine a_pick (b := false) (v := vB _) ?_ (bne_eq_false_iff_eq.2 hc82)
                refine RA.nil nofun ?_
                exact CanR.mk (fun κ => cond (Nat.beq κ 242) 230 (cond (Nat.beq κ 243) 231 (κ))) ⟨_, (by omega), _, _, _, _, H, rfl⟩ ⟨rfl, rfl, rfl, rfl, trivial⟩ ⟨rfl, rfl, trivial⟩ rfl
               ·rw [if_neg hc82] at H
                refine RA.skip rfl rfl rfl rfl rfl (bne_iff_ne.2 hc82) (by decide) ?_
                refine RA.skip rfl rfl rfl rfl rfl (bne_iff_ne.2 hc82) (by decide) ?_
                refine RA.skip rfl rfl rfl rfl rfl (bne_iff_ne.2 hc82) (by decide) ?_
                refine a_pick (b := true) (v := vB _) ?_ (bne_iff_ne.2 hc82)
                refine RA.nil nofun ?_
                exact CanR.mk (fun κ => cond (Nat.beq κ 242) 230 (cond (Nat.beq κ 243) 231 (κ))) ⟨_, (by omega), _, _, _, _, H, rfl⟩ ⟨rfl, rfl, rfl, rfl, trivial⟩ ⟨rfl, rfl, trivial⟩ rfl
              ·rw [if_neg hc81] at H
               refine RA.skip rfl rfl rfl rfl rfl (congrArg Bool.not (Bool.eq_false_iff.2 hc81)) (by decide) ?_
               refine RA.skip rfl rfl rfl rfl rfl (congrArg Bool.not (Bool.eq_false_iff.2 hc81)) (by decide) ?_
               refine RA.skip rfl rfl rfl rfl rfl (congrArg Bool.not (Bool.eq_false_iff.2 hc81)) (by decide) ?_
               refine a_pick (b := true) (v := vB _) ?_ (congrArg Bool.not (Bool.eq_false_iff.2 hc81))
               refine a_move (v := vB _) ?_
               refine RA.skip rfl rfl rfl rfl rfl rfl (by decide) ?_
               refine RA.skip rfl rfl rfl rfl rfl rfl (by decide) ?_
               refine RA.skip rfl rfl rfl rfl rfl rfl (by decide) ?_
               refine a_pick (b := true) (v := vB _) ?_ rfl
               refine RA.nil nofun ?_
               exact CanR.mk (fun κ => cond (Nat.beq κ 242) 230 (cond (Nat.beq κ 243) 231 (κ))) ⟨_, (by omega), _, _, _, _, H, rfl⟩ ⟨rfl, rfl, rfl, rfl, trivial⟩ ⟨rfl, rfl, trivial⟩ rfl
             ·rw [if_neg hc78] at H
              refine RA.skip rfl rfl rfl rfl rfl (congrArg Bool.not (Bool.eq_false_iff.2 hc78)) (by decide) ?_
              refine RA.skip rfl rfl rfl rfl rfl (congrArg Bool.not (Bool.eq_false_iff.2 hc78)) (by decide) ?_
              refine RA.skip rfl rfl rfl rfl rfl (congrArg Bool.not (Bool.eq_false_iff.2 hc78)) (by decide) ?_
              refine RA.skip rfl rfl rfl rfl rfl (congrArg Bool.not (Bool.eq_false_iff.2 hc78)) (by decide) ?_
              refine a_pick (b := true) (v := vB _) ?_ (congrArg Bool.not (Bool.eq_false_iff.2 hc78))
              refine a_move (v := vB _) ?_
              refine RA.skip rfl rfl rfl rfl rfl rfl (by decide) ?_
              refine RA.skip rfl rfl rfl rfl rfl rfl (by decide) ?_
              refine RA.skip rfl rfl rfl rfl rfl rfl (by decide) ?_
              refine a_pick (b := true) (v := vB _) ?_ rfl
              refine a_move (v := vB _) ?_
              refine RA.skip rfl rfl rfl rfl rfl rfl (by decide) ?_
              refine RA.skip rfl rfl rfl rfl rfl rfl (by decide) ?_
              refine RA.skip rfl rfl rfl rfl rfl rfl (by decide) ?_
              refine a_pick (b := true) (v := vB _) ?_ rfl
              refine RA.nil nofun ?_
              exact CanR.mk (fun κ => cond (Nat.beq κ 242) 230 (cond (Nat.beq κ 243) 231 (κ))) ⟨_, (by omega), _, _, _, _, H, rfl⟩ ⟨rfl, rfl, rfl, rfl, trivial⟩ ⟨rfl, rfl, trivial⟩ rfl
            ·clear H
             rintro _ ⟨k, hj2, x9, x10, x14, x140, H, rfl⟩
             cases k with
             | zero => cases H
             | succ k =>
              rw [laws_FnExactNearestOrder.j2] at H
              by_cases hc83 : x140 = true
              ·rw [if_pos hc83] at H
               refine AG.yes rfl hc83 ?_
               refine AG.seq ?_
               refine AG.region HM ?_
               refine a_move (v := vB _) ?_
               refine RA.nil nofun ?_
               refine AG.ret ?_
               obtain rfl := Option.some.inj H
               exact RetP.mk id ⟨rfl, trivial⟩ trivial rfl
              ·rw [if_neg hc83] at H
               refine AG.no rfl (Bool.eq_false_iff.2 hc83) ?_
               refine AG.skip ?_
               refine AG.seq ?_
               refine AG.region HM ?_
               refine a_move (v := vI _) ?_
               refine RA.nil nofun ?_
               refine AG.seq ?_
               refine AG.region HM ?_
               refine a_move (v := .c (.own _ _)) ?_
               refine a_move (v := vI _) ?_
               obtain ⟨t84, e85, H⟩ := bindO H
               refine a_call (v := vI t84) (nk := []) (L := [(242, _)]) ?_ rfl (laws_heldInt64S.ok e85) id (qc rO (qd qn)) ⟨rfl, trivial⟩ trivial trivial rfl
               refine a_move (v := vI _) ?_
               refine RA.nil nofun ?_
               refine AG.seq ?_
               refine AG.seq ?_
               refine AG.region HM ?_
               refine a_move (v := vI _) ?_
               refine a_int (u := .bool (decide (t84 < 0))) ?_
               refine RA.nil nofun ?_
               by_cases hc86 : t84 < 0
               ·rw [if_pos hc86] at H
                refine AG.yes rfl (decide_eq_true hc86) ?_
                refine AG.seq ?_
                refine AG.region HM ?_
                refine a_move (v := vB _) ?_
                refine RA.nil nofun ?_
                refine AG.ret ?_
                obtain rfl := Option.some.inj H
                exact RetP.mk id ⟨rfl, trivial⟩ trivial rfl
               ·rw [if_neg hc86] at H
                refine AG.no rfl (decide_eq_false hc86) ?_
                refine AG.skip ?_
                refine AG.seq ?_
                refine AG.region HM ?_
                refine a_move (v := .c (.own _ _)) ?_
                refine a_move (v := vI _) ?_
                obtain ⟨t87, e88, H⟩ := bindO H
                refine a_call (v := vI t87) (nk := []) (L := [(243, _)]) ?_ rfl (laws_heldInt64S.ok e88) id (qc rO (qd qn)) ⟨rfl, trivial⟩ trivial trivial rfl
                refine a_move (v := vI _) ?_
                refine RA.nil nofun ?_
                refine AG.seq ?_
                refine AG.seq ?_
                refine AG.region HM ?_
                refine a_move (v := vI _) ?_
                refine a_int (u := .bool (decide (t87 < 0))) ?_
                refine RA.nil nofun ?_
                by_cases hc89 : t87 < 0
                ·rw [if_pos hc89] at H
                 refine AG.yes rfl (decide_eq_true hc89) ?_
                 refine AG.seq ?_
                 refine AG.region HM ?_
                 refine a_move (v := vB _) ?_
                 refine RA.nil nofun ?_
                 refine AG.ret ?_
                 obtain rfl := Option.some.inj H
                 exact RetP.mk id ⟨rfl, trivial⟩ trivial rfl
                ·rw [if_neg hc89] at H
                 refine AG.no rfl (decide_eq_false hc89) ?_
                 refine AG.skip ?_
                 refine AG.seq ?_
                 refine AG.seq ?_
                 refine AG.region HM ?_
                 refine a_move (v := vI _) ?_
                 refine a_move (v := vI _) ?_
                 refine a_int (u := .bool ((t87 != x14))) ?_
                 refine RA.nil nofun ?_
                 by_cases hc90 : t87 = x14
                 ·rw [if_pos hc90] at H
                  refine AG.no rfl (bne_eq_false_iff_eq.2 hc90) ?_
                  refine AG.skip ?_
                  refine AG.seq ?_
                  refine AG.region HM ?_
                  refine a_move (v := vB _) ?_
                  refine RA.nil nofun ?_
                  refine AG.ret ?_
                  obtain rfl := Option.some.inj H
                  exact RetP.mk id ⟨rfl, trivial⟩ trivial rfl
                 ·rw [if_neg hc90] at H
                  refine AG.yes rfl (bne_iff_ne.2 hc90) ?_
                  refine AG.seq ?_
                  refine AG.region HM ?_
                  refine a_move (v := vB _) ?_
                  refine RA.nil nofun ?_
                  refine AG.ret ?_
                  obtain rfl := Option.some.inj H
                  exact RetP.mk id ⟨rfl, trivial⟩ trivial rfl
           ·rw [if_neg hc65] at H
            refine AG.yes rfl (bne_iff_ne.2 hc65) ?_
            refine AG.seq ?_
            refine AG.region HM ?_
            refine a_move (v := vB _) ?_
            refine RA.nil nofun ?_
            refine AG.ret ?_
            obtain rfl := Option.some.inj H
            exact RetP.mk id ⟨rfl, trivial⟩ trivial rfl
     ·rw [if_neg hc39] at H
      refine AG.yes rfl (congrArg Bool.not (Bool.eq_false_iff.2 hc39)) ?_
      refine AG.seq ?_
      refine AG.freeze 222 ?_
      refine AG.region HM ?_
      refine a_move (v := vB _) ?_
      refine RA.nil nofun ?_
      refine AG.ret ?_
      obtain rfl := Option.some.inj H
      exact RetP.mk id ⟨rfl, trivial⟩ trivial rfl
def B50 (x : S50) : Prop := (Lit.int .i64 x.f0).wf = true ∧ (Lit.int .i64 x.f1).wf = true
def B72 (x : S72) : Prop := x.f0.size ≤ maxLen ∧ (x.f1.length ≤ maxLen ∧ ∀ x_ ∈ x.f1, (Lit.int .i64 x_).wf = true)
def B24 (x : S24) : Prop := (Lit.int .i64 x.f0).wf = true ∧ (Lit.int .i64 x.f1).wf = true ∧ (x.f2.length ≤ maxLen ∧ ∀ x_ ∈ x.f2, B50 x_) ∧ (x.f3.length ≤ maxLen ∧ ∀ x_ ∈ x.f3, B72 x_)
/-- The one plain statement of laws_FnExactNearestOrder. -/
def laws_FnExactNearestOrder.Pure : Prop := ∀ (a0_0 : Int) (a0_1 : Int) (l0_2 : List S50) (l0_3 : List S72), B24 (⟨a0_0, a0_1, l0_2, l0_3⟩ : S24) → ∃ k, laws_FnExactNearestOrder.f k a0_0 a0_1 l0_2 l0_3 = some true
end Go.Proofs.YtanbgmnhbncapaaGreat.PFnExactNearestOrder

/- What each function that the law FnExactIsInnerFirst reaches comes to, and the proof that its walk comes to it; laid by a program of this session. No condition. -/
import Derived.Test.YtanbgmnhbncapaaPFnExactIsInnerFirstx1
import Derived.KernelRfl
import Derived.OwnWalk
import Derived.Test.YtanbgmnhbncapaaProg
set_option linter.unusedVariables false
set_option linter.unusedSimpArgs false
namespace Go.Proofs.Ytanbgmnhbncapaa.PFnExactIsInnerFirst
open Go Go.RowKit Go.Proofs.YtanbgmnhbncapaaM Go.Proofs Go.Proofs.Ytanbgmnhbncapaa.SortP
/-! ### impl_neighbours: function 101 -/
mutual
def impl_neighbours.l0 : Nat → List (List S88) → List S91 → Int → Int → Option ((List (List Int)))
  | 0, _, _, _, _ => none
  | k + 1, y204_0, x11, x12, x13 => if x13 < x12 then (if 0 ≤ x13 then (if x13 < (x11.length : Int) then ((impl_ringEdges.f k ((rd91 x11 x13).f1)).bind fun t5 => (if y204_0.length < 5864062014805 then (impl_neighbours.l0 k (y204_0 ++ [t5]) x11 x12 (wrap64 (x13 + 1))) else (none))) else (none)) else (none)) else (if 0 ≤ (y204_0.length : Int) then (if ((y204_0.length : Int) : Int).toNat ≤ 11728124029610 then (impl_neighbours.l1 k y204_0 (List.replicate (((y204_0.length : Int) : Int).toNat) []) (y204_0.length : Int) 0) else (none)) else (none))
def impl_neighbours.l1 : Nat → List (List S88) → List (List Int) → Int → Int → Option ((List (List Int)))
  | 0, _, _, _, _ => none
  | k + 1, y210_0, x6, x28, x29 => if x29 < x28 then (impl_neighbours.l2 k y210_0 x6 x29 x28 x29 (y210_0.length : Int) 0) else (some x6)
def impl_neighbours.l2 : Nat → List (List S88) → List (List Int) → Int → Int → Int → Int → Int → Option ((List (List Int)))
  | 0, _, _, _, _, _, _, _ => none
  | k + 1, y213_0, x6, x7, x28, x29, x33, x34 => if x34 < x33 then (if x7 = x34 then (impl_neighbours.l2 k y213_0 x6 x7 x28 x29 x33 (wrap64 (x34 + 1))) else (if 0 ≤ x7 then (if x7 < (y213_0.length : Int) then ((slices_ContainsFunc_2_int64_2_int64__impl_neighbours_1.f k (rd87 y213_0 x7) y213_0 x34).bind fun t17 => (if t17 = true then (if x7 < (x6.length : Int) then (if (rd38 x6 x7).length < 17592186044416 then (impl_neighbours.l2 k y213_0 (x6.set (x7 : Int).toNat ((rd38 x6 x7) ++ [x34])) x7 x28 x29 x33 (wrap64 (x34 + 1))) else (none)) else (none)) else (impl_neighbours.l2 k y213_0 x6 x7 x28 x29 x33 (wrap64 (x34 + 1))))) else (none)) else (none))) else (impl_neighbours.l1 k y213_0 x6 x28 (wrap64 (x29 + 1)))
end
def impl_neighbours.f (k : Nat) (a0_0 : Int) (a0_1 : Int) (l0_2 : List S60) (l0_3 : List S91) : Option ((List (List Int))) := impl_neighbours.l0 k (([] : List (List S88)) : List (List S88)) l0_3 (l0_3.length : Int) 0
set_option maxRecDepth 100000 in
theorem impl_neighbours.ok {k : Nat} {a0_0 : Int} {a0_1 : Int} {l0_2 : List S60} {l0_3 : List S91} {r : List (List Int)} (H : impl_neighbours.f k a0_0 a0_1 l0_2 l0_3 = some r) : OkF Try.prog 101 [.agg [.d (.v (.int .i64 a0_0)), .d (.v (.int .i64 a0_1)), .d (.row 61 (l0_2.map c60)), .d (.row 96 (l0_3.map c91))]] [] (.c (.own 100 r.length)) [(100, .row 38 (r.map c38))] := by
  unfold impl_neighbours.f at H
  refine OkF.of (N := 61) (rs := [2]) (avs := [.c (.own 100 r.length)]) Try.func101 rfl rfl (fun _ _ => results_tmp rfl _ _ _) (by decide) rfl rfl rfl rfl (fun w0 S => ?_)
  refine AG.seq ?_
  refine AG.region HM ?_
  refine a_box 200 ?_
  refine a_nilO (e := 38) 201 ?_ T38
  refine RA.nil nofun ?_
  refine AG.seq ?_
  refine AG.region HM ?_
  refine a_lit (cs := []) (D := []) (css := (([] : List (List S88)) : List (List S88)).map c87) 202 ?_ N128 T87 (hcss := by rfl)
  refine a_alloc (cs := [_]) 203 ?_ T128
  refine a_stB (cs' := [_]) ?_ T128
  refine RA.nil nofun ?_
  refine AG.seq ?_
  refine AG.seq ?_
  refine AG.region HM ?_
  refine a_faB (q := 3) ?_ D32_3
  refine a_ldB (v := vR _ _) ?_ T30
  refine a_lenR ?_ Try.underlying30
  refine a_move (v := vI _) ?_
  refine RA.nil nofun ?_
  refine AG.block ?_
  refine AG.loop ?_
  obtain ⟨K0, hK0, gK0⟩ : ∃ K, k ≤ K ∧ K ≤ k := ⟨k, Nat.le_refl k, Nat.le_refl k⟩
  refine AGr.canon (fun κ => cond (Nat.beq κ 204) 203 (cond (Nat.beq κ 205) 202 (κ))) (AGr.loopI (n := k) (fun k s => k ≤ K0 ∧ ∃ (y204_0 : List (List S88)) (x11 : List S91) (x12 : Int) (x13 : Int), impl_neighbours.l0 k y204_0 x11 x12 x13 = some r ∧ s = St.of [(3, .c (.ptr 204 0)), (11, vR 96 (x11.map c91)), (12, vI x12), (13, vI x13)] [(204, .box 128 [.own 205 y204_0.length]), (205, .row 87 (y204_0.map c87))]) ⟨hK0, _, _, _, _, H, rfl⟩ ?_ ?_) ⟨rfl, rfl, rfl, rfl, trivial⟩ ⟨rfl, rfl, trivial⟩ rfl
  · rintro _ ⟨_, _, _, _, _, H, _⟩
    cases H
  · clear H hK0
    rintro k ih0 _ ⟨hK0, y204_0, x11, x12, x13, H, rfl⟩
    unfold impl_neighbours.l0 at H
    refine AG.seq ?_
    refine AG.region HM ?_
    refine a_int (u := .bool (decide (x13 < x12))) ?_
    refine RA.nil nofun ?_
    refine AG.seq ?_
    by_cases hc2 : x13 < x12
    · rw [if_pos hc2] at H
      refine AG.yes rfl (decide_eq_true hc2) ?_
      refine AG.skip ?_
      refine AG.seq ?_
      refine AG.block ?_
      refine AG.seq ?_
      refine AG.region HM ?_
      by_cases hc3 : 0 ≤ x13
      · rw [if_pos hc3] at H
        by_cases hc4 : x13 < (x11.length : Int)
        · rw [if_pos hc4] at H
          refine a_ixR (el := c91 (rd91 x11 x13)) ?_ ⟨hc3, hc4⟩ T96 Try.underlying30 (hel := R91 hc3 hc4)
          refine a_ldR (v := .agg [_, _]) ?_ T96
          refine a_alloc (cs := [_, _]) 206 ?_ T96
          refine a_stB (cs' := [_, _]) ?_ T96
          refine RA.nil nofun ?_
          refine AG.region HM ?_
          refine a_ldB (v := .c (.own _ _)) ?_ T128
          refine a_faB (q := 1) ?_ D96_1
          refine a_ldB (v := vR _ _) ?_ T38
          obtain ⟨t5, e6, H⟩ := bindO H
          refine a_call (v := .c (.own 207 t5.length)) (nk := [(207, .row 88 (t5.map c88))]) (L := []) ?_ rfl (impl_ringEdges.ok e6) (fun κ => cond (Nat.beq κ 207) 100 (κ)) (qd qn) trivial ⟨rfl, trivial⟩ ⟨rfl, trivial⟩ rfl
          refine a_lit (cs := [_]) (D := [207]) (css := ([t5]).map c87) 208 ?_ N128 T87
          by_cases hc7 : y204_0.length < 5864062014805
          · rw [if_pos hc7] at H
            refine a_appO (css' := (y204_0 ++ [t5]).map c87) (n' := (y204_0 ++ [t5]).length) ?_ T87 (by simp [maxLen]; omega) (by simp; omega) Try.underlying128 (hc := by exact List.map_append.symm) (hn := by exact List.length_map _)
            refine a_stB (cs' := [_]) ?_ T128
            refine RA.nil (fun _ => by kernel_rfl) ?_
            refine AG.region HM ?_
            refine a_int (u := .int .i64 (wrap64 (x13 + 1))) ?_
            refine a_move (v := vI _) ?_
            refine RA.nil nofun ?_
            exact AGr.canon id (ih0 _ (by omega) _ ⟨by omega, _, _, _, _, H, rfl⟩) ⟨rfl, rfl, rfl, rfl, trivial⟩ ⟨rfl, rfl, trivial⟩ rfl
          · rw [if_neg hc7] at H
            cases H
        · rw [if_neg hc4] at H
          cases H
      · rw [if_neg hc3] at H
        cases H
    · rw [if_neg hc2] at H
      refine AG.no rfl (decide_eq_false hc2) ?_
      refine AG.exit ?_
      refine AG.seq ?_
      refine AG.region HM ?_
      refine a_ldB (v := .c (.own _ _)) ?_ T128
      refine a_lenO ?_ Try.underlying128
      by_cases hc9 : 0 ≤ (y204_0.length : Int)
      · rw [if_pos hc9] at H
        by_cases hc10 : ((y204_0.length : Int) : Int).toNat ≤ 11728124029610
        · rw [if_pos hc10] at H
          refine a_make (n := (y204_0.length : Int)) (css := (List.replicate (((y204_0.length : Int) : Int).toNat) []).map c38) 209 ?_ N56 T38 (zR T2 zN) hc9 (by omega) (by omega) (hcss := by exact rep_map rfl)
          refine a_move (v := .c (.own _ _)) ?_
          refine RA.nil nofun ?_
          refine AG.seq ?_
          refine AG.seq ?_
          refine AG.region HM ?_
          refine a_ldB (v := .c (.own _ _)) ?_ T128
          refine a_lenO ?_ Try.underlying128
          refine a_move (v := vI _) ?_
          refine RA.nil nofun ?_
          refine AG.block ?_
          refine AG.loop ?_
          obtain ⟨K1, hK1, gK1⟩ : ∃ K, k ≤ K ∧ K ≤ k := ⟨k, Nat.le_refl k, Nat.le_refl k⟩
          refine AGr.canon (fun κ => cond (Nat.beq κ 210) 204 (cond (Nat.beq κ 211) 205 (cond (Nat.beq κ 212) 209 (κ)))) (AGr.loopI (n := k) (fun k s => k ≤ K1 ∧ ∃ (y210_0 : List (List S88)) (x6 : List (List Int)) (x28 : Int) (x29 : Int), impl_neighbours.l1 k y210_0 x6 x28 x29 = some r ∧ s = St.of [(3, .c (.ptr 210 0)), (6, .c (.own 212 x6.length)), (28, vI x28), (29, vI x29)] [(210, .box 128 [.own 211 y210_0.length]), (211, .row 87 (y210_0.map c87)), (212, .row 38 (x6.map c38))]) ⟨hK1, _, _, _, _, H, rfl⟩ ?_ ?_) ⟨rfl, (ownE rfl (by simp)), rfl, rfl, trivial⟩ ⟨rfl, rfl, rfl, trivial⟩ rfl
          · rintro _ ⟨_, _, _, _, _, H, _⟩
            cases H
          · clear H hK1
            rintro k ih1 _ ⟨hK1, y210_0, x6, x28, x29, H, rfl⟩
            unfold impl_neighbours.l1 at H
            refine AG.seq ?_
            refine AG.region HM ?_
            refine a_int (u := .bool (decide (x29 < x28))) ?_
            refine RA.nil nofun ?_
            refine AG.seq ?_
            by_cases hc12 : x29 < x28
            · rw [if_pos hc12] at H
              refine AG.yes rfl (decide_eq_true hc12) ?_
              refine AG.skip ?_
              refine AG.seq ?_
              refine AG.block ?_
              refine AG.seq ?_
              refine AG.region HM ?_
              refine a_move (v := vI _) ?_
              refine a_move (v := vI _) ?_
              refine RA.nil nofun ?_
              refine AG.seq ?_
              refine AG.region HM ?_
              refine a_ldB (v := .c (.own _ _)) ?_ T128
              refine a_lenO ?_ Try.underlying128
              refine a_move (v := vI _) ?_
              refine RA.nil nofun ?_
              refine AG.block ?_
              refine AG.loop ?_
              obtain ⟨K2, hK2, gK2⟩ : ∃ K, k ≤ K ∧ K ≤ k := ⟨k, Nat.le_refl k, Nat.le_refl k⟩
              refine AGr.canon (fun κ => cond (Nat.beq κ 213) 210 (cond (Nat.beq κ 214) 211 (cond (Nat.beq κ 215) 212 (κ)))) (AGr.loopI (n := k) (fun k s => k ≤ K2 ∧ ∃ (y213_0 : List (List S88)) (x6 : List (List Int)) (x7 : Int) (x28 : Int) (x29 : Int) (x33 : Int) (x34 : Int), impl_neighbours.l2 k y213_0 x6 x7 x28 x29 x33 x34 = some r ∧ s = St.of [(3, .c (.ptr 213 0)), (6, .c (.own 215 x6.length)), (7, vI x7), (28, vI x28), (29, vI x29), (33, vI x33), (34, vI x34)] [(213, .box 128 [.own 214 y213_0.length]), (214, .row 87 (y213_0.map c87)), (215, .row 38 (x6.map c38))]) ⟨hK2, _, _, _, _, _, _, _, H, rfl⟩ ?_ ?_) ⟨rfl, rfl, rfl, rfl, rfl, rfl, rfl, trivial⟩ ⟨rfl, rfl, rfl, trivial⟩ rfl
              · rintro _ ⟨_, _, _, _, _, _, _, _, H, _⟩
                cases H
              · clear H hK2
                rintro k ih2 _ ⟨hK2, y213_0, x6, x7, x28, x29, x33, x34, H, rfl⟩
                unfold impl_neighbours.l2 at H
                refine AG.seq ?_
                refine AG.region HM ?_
                refine a_int (u := .bool (decide (x34 < x33))) ?_
                refine RA.nil nofun ?_
                refine AG.seq ?_
                by_cases hc13 : x34 < x33
                · rw [if_pos hc13] at H
                  refine AG.yes rfl (decide_eq_true hc13) ?_
                  refine AG.skip ?_
                  refine AG.seq ?_
                  refine AG.block ?_
                  refine AG.seq ?_
                  refine AG.region HM ?_
                  refine a_move (v := vI _) ?_
                  refine a_alloc (cs := [_]) 216 ?_ T3
                  refine a_stB (cs' := [_]) ?_ T3
                  refine RA.nil nofun ?_
                  refine AG.seq ?_
                  refine AG.region HM ?_
                  refine a_move (v := vI _) ?_
                  refine a_ldB (v := vI _) ?_ T3
                  refine a_int (u := .bool ((x7 != x34))) ?_
                  refine a_move (v := vB _) ?_
                  by_cases hc14 : x7 = x34
                  · rw [if_pos hc14] at H
                    refine RA.skip rfl rfl rfl rfl rfl (bne_eq_false_iff_eq.2 hc14) (by decide) ?_
                    refine RA.skip rfl rfl rfl rfl rfl (bne_eq_false_iff_eq.2 hc14) (by decide) ?_
                    refine RA.skip rfl rfl rfl rfl rfl (bne_eq_false_iff_eq.2 hc14) (by decide) ?_
                    refine RA.skip rfl rfl rfl rfl rfl (bne_eq_false_iff_eq.2 hc14) (by decide) ?_
                    refine RA.skip rfl rfl rfl rfl rfl (bne_eq_false_iff_eq.2 hc14) (by decide) ?_
                    refine RA.skip rfl rfl rfl rfl rfl (bne_eq_false_iff_eq.2 hc14) (by decide) ?_
                    refine a_pick (b := false) (v := vB _) ?_ (bne_eq_false_iff_eq.2 hc14)
                    refine RA.nil nofun ?_
                    refine AG.no rfl rfl ?_
                    refine AG.skip ?_
                    refine AG.region HM ?_
                    refine a_int (u := .int .i64 (wrap64 (x34 + 1))) ?_
                    refine a_move (v := vI _) ?_
                    refine RA.nil nofun ?_
                    exact AGr.canon id (ih2 _ (by omega) _ ⟨by omega, _, _, _, _, _, _, _, H, rfl⟩) ⟨rfl, rfl, rfl, rfl, rfl, rfl, rfl, trivial⟩ ⟨rfl, rfl, rfl, trivial⟩ rfl
                  · rw [if_neg hc14] at H
                    refine a_ldB (v := .c (.own _ _)) ?_ T128 (hg := Gs.yes rfl rfl rfl (bne_iff_ne.2 hc14))
                    refine a_move (v := vI _) ?_ (hg := Gs.yes rfl rfl rfl (bne_iff_ne.2 hc14))
                    by_cases hc15 : 0 ≤ x7
                    · rw [if_pos hc15] at H
                      by_cases hc16 : x7 < (y213_0.length : Int)
                      · rw [if_pos hc16] at H
                        refine a_ixO ?_ ⟨hc15, hc16⟩ T87 Try.underlying128 (hg := Gs.yes rfl rfl rfl (bne_iff_ne.2 hc14))
                        refine a_ldE (v := .c (.sub _ _ _ _)) ?_ (G87 hc15 hc16) T87 (hg := Gs.yes rfl rfl rfl (bne_iff_ne.2 hc14))
                        refine a_fnc (ks := [213, 216]) ?_ (hg := Gs.yes rfl rfl rfl (bne_iff_ne.2 hc14))
                        obtain ⟨t17, e18, H⟩ := bindO H
                        refine a_call (v := vB t17) (nk := []) (L := [(214, _), (213, _), (216, _)]) ?_ rfl (slices_ContainsFunc_2_int64_2_int64__impl_neighbours_1.ok e18) id (qc (rU (G87 hc15 hc16)) (qc (rF2 (rP (κ := 213) (off := 0) (cs := [.own 214 y213_0.length]) (pC rO p0)) (rP (pD p0))) qn)) ⟨rfl, rfl, rfl, trivial⟩ trivial trivial rfl (hg := Gs.yes rfl rfl rfl (bne_iff_ne.2 hc14))
                        refine a_pick (b := true) (v := vB _) ?_ (bne_iff_ne.2 hc14)
                        refine RA.nil nofun ?_
                        by_cases hc19 : t17 = true
                        · rw [if_pos hc19] at H
                          refine AG.yes rfl hc19 ?_
                          refine AG.region HM ?_
                          refine a_move (v := .c (.own _ _)) ?_
                          refine a_move (v := vI _) ?_
                          refine a_move (v := .c (.own _ _)) ?_
                          refine a_move (v := vI _) ?_
                          by_cases hc20 : x7 < (x6.length : Int)
                          · rw [if_pos hc20] at H
                            refine a_ixO ?_ ⟨hc15, hc20⟩ T38 Try.underlying56
                            refine a_ldE (v := .c (.sub _ _ _ _)) ?_ (G38 hc15 hc20) T38
                            refine a_ldB (v := vI _) ?_ T3
                            refine a_lit (cs := [_]) (D := []) (css := ([x34]).map c2) 218 ?_ N38 T2
                            by_cases hc21 : (rd38 x6 x7).length < 17592186044416
                            · rw [if_pos hc21] at H
                              refine a_appU (css' := ((rd38 x6 x7) ++ [x34]).map c2) (n' := ((rd38 x6 x7) ++ [x34]).length) (cssH := (x6.map c38).set (x7 : Int).toNat ((c38 (rd38 x6 x7)).set 0 .any)) 219 ?_ (G38 hc15 hc20) T2 (by simp [maxLen]; omega) (by simp; omega) (flat_map (fun _ => rfl)) Try.underlying38 (by exact List.map_append.symm) (by exact List.length_map _)
                              refine a_ixO ?_ ⟨hc15, hc20⟩ T38 Try.underlying56
                              refine a_stE (D := [219]) (css' := (x6.set (x7 : Int).toNat ((rd38 x6 x7) ++ [x34])).map c38) ?_ (hole_at (G38 hc15 hc20)) T38 (hcss := by exact hole_map rfl)
                              refine RA.nil (fun _ => by kernel_rfl) ?_
                              refine AG.region HM ?_
                              refine a_int (u := .int .i64 (wrap64 (x34 + 1))) ?_
                              refine a_move (v := vI _) ?_
                              refine RA.nil nofun ?_
                              exact AGr.canon id (ih2 _ (by omega) _ ⟨by omega, _, _, _, _, _, _, _, H, rfl⟩) ⟨rfl, (ownE rfl (by simp)), rfl, rfl, rfl, rfl, rfl, trivial⟩ ⟨rfl, rfl, rfl, trivial⟩ rfl
                            · rw [if_neg hc21] at H
                              cases H
                          · rw [if_neg hc20] at H
                            cases H
                        · rw [if_neg hc19] at H
                          refine AG.no rfl (Bool.eq_false_iff.2 hc19) ?_
                          refine AG.skip ?_
                          refine AG.region HM ?_
                          refine a_int (u := .int .i64 (wrap64 (x34 + 1))) ?_
                          refine a_move (v := vI _) ?_
                          refine RA.nil nofun ?_
                          exact AGr.canon id (ih2 _ (by omega) _ ⟨by omega, _, _, _, _, _, _, _, H, rfl⟩) ⟨rfl, rfl, rfl, rfl, rfl, rfl, rfl, trivial⟩ ⟨rfl, rfl, rfl, trivial⟩ rfl
                      · rw [if_neg hc16] at H
                        cases H
                    · rw [if_neg hc15] at H
                      cases H
                · rw [if_neg hc13] at H
                  refine AG.no rfl (decide_eq_false hc13) ?_
                  refine AG.exit ?_
                  refine AG.region HM ?_
                  refine a_int (u := .int .i64 (wrap64 (x29 + 1))) ?_
                  refine a_move (v := vI _) ?_
                  refine RA.nil nofun ?_
                  exact AGr.canon (fun κ => cond (Nat.beq κ 210) 213 (cond (Nat.beq κ 211) 214 (cond (Nat.beq κ 212) 215 (κ)))) (ih1 _ (by omega) _ ⟨by omega, _, _, _, _, H, rfl⟩) ⟨rfl, rfl, rfl, rfl, trivial⟩ ⟨rfl, rfl, rfl, trivial⟩ rfl
            · rw [if_neg hc12] at H
              refine AG.no rfl (decide_eq_false hc12) ?_
              refine AG.exit ?_
              refine AG.seq ?_
              refine AG.region HM ?_
              refine a_move (v := .c (.own _ _)) ?_
              refine a_move (v := .c (.own _ _)) ?_
              refine RA.nil nofun ?_
              refine AG.ret ?_
              obtain rfl := Option.some.inj H
              exact RetP.mk (fun κ => cond (Nat.beq κ 100) 212 (κ)) ⟨rfl, trivial⟩ ⟨rfl, trivial⟩ rfl
        · rw [if_neg hc10] at H
          cases H
      · rw [if_neg hc9] at H
        cases H
/-! ### impl_faceDepths: function 67 -/
mutual
def impl_faceDepths.l0 : Nat → Int → Int → List S60 → List S91 → List Int → List Int → Int → Int → Option ((List Int))
  | 0, _, _, _, _, _, _, _, _ => none
  | k + 1, y204_0, y204_1, y204_2, y204_3, x3, x4, x20, x21 => if x21 < x20 then (if 0 ≤ x21 then (if x21 < (x3.length : Int) then (impl_faceDepths.l0 k y204_0 y204_1 y204_2 y204_3 (x3.set (x21 : Int).toNat 24) x4 x20 (wrap64 (x21 + 1))) else (none)) else (none)) else ((impl_edgeFaces.f k y204_0 y204_1 y204_2 y204_3).bind fun bt9 => (impl_faceDepths.l1 k y204_0 y204_1 y204_2 y204_3 x3 x4 bt9.2 (bt9.2.length : Int) 0))
def impl_faceDepths.l1 : Nat → Int → Int → List S60 → List S91 → List Int → List Int → List (List Int) → Int → Int → Option ((List Int))
  | 0, _, _, _, _, _, _, _, _, _ => none
  | k + 1, y209_0, y209_1, y209_2, y209_3, x3, x4, x33, x34, x35 => if x35 < x34 then (if 0 ≤ x35 then (if x35 < (x33.length : Int) then (if ((rd38 x33 x35).length : Int) = 1 then (if 0 < ((rd38 x33 x35).length : Int) then (if 0 ≤ (rd2 (rd38 x33 x35) 0) then (if (rd2 (rd38 x33 x35) 0) < (x3.length : Int) then (if (rd2 x3 (rd2 (rd38 x33 x35) 0)) > 0 then (if x4.length < 17592186044416 then (impl_faceDepths.l1 k y209_0 y209_1 y209_2 y209_3 (x3.set ((rd2 (rd38 x33 x35) 0) : Int).toNat 0) (x4 ++ [(rd2 (rd38 x33 x35) 0)]) x33 x34 (wrap64 (x35 + 1))) else (none)) else (impl_faceDepths.l1 k y209_0 y209_1 y209_2 y209_3 x3 x4 x33 x34 (wrap64 (x35 + 1)))) else (none)) else (none)) else (none)) else (impl_faceDepths.l1 k y209_0 y209_1 y209_2 y209_3 x3 x4 x33 x34 (wrap64 (x35 + 1)))) else (none)) else (none)) else ((impl_neighbours.f k y209_0 y209_1 y209_2 y209_3).bind fun t23 => (impl_faceDepths.l2 k x3 x4 t23 0))
def impl_faceDepths.l2 : Nat → List Int → List Int → List (List Int) → Int → Option ((List Int))
  | 0, _, _, _, _ => none
  | k + 1, x3, x4, x10, x11 => if x11 < (x4.length : Int) then (if 0 ≤ x11 then (if 0 ≤ (rd2 x4 x11) then (if (rd2 x4 x11) < (x10.length : Int) then (impl_faceDepths.l3 k x3 x4 x10 x11 (rd38 x10 (rd2 x4 x11)) ((rd38 x10 (rd2 x4 x11)).length : Int) 0) else (none)) else (none)) else (none)) else (some x3)
def impl_faceDepths.l3 : Nat → List Int → List Int → List (List Int) → Int → List Int → Int → Int → Option ((List Int))
  | 0, _, _, _, _, _, _, _ => none
  | k + 1, x3, x4, x10, x11, x77, x78, x79 => if x79 < x78 then (if 0 ≤ x79 then (if x79 < (x77.length : Int) then (if 0 ≤ (rd2 x77 x79) then (if (rd2 x77 x79) < (x3.length : Int) then (if (rd2 x3 (rd2 x77 x79)) = 24 then (if 0 ≤ x11 then (if x11 < (x4.length : Int) then (if 0 ≤ (rd2 x4 x11) then (if (rd2 x4 x11) < (x3.length : Int) then (if x4.length < 17592186044416 then (impl_faceDepths.l3 k (x3.set ((rd2 x77 x79) : Int).toNat (wrap64 ((rd2 x3 (rd2 x4 x11)) + 1))) (x4 ++ [(rd2 x77 x79)]) x10 x11 x77 x78 (wrap64 (x79 + 1))) else (none)) else (none)) else (none)) else (none)) else (none)) else (impl_faceDepths.l3 k x3 x4 x10 x11 x77 x78 (wrap64 (x79 + 1)))) else (none)) else (none)) else (none)) else (none)) else (impl_faceDepths.l2 k x3 x4 x10 (wrap64 (x11 + 1)))
end
def impl_faceDepths.f (k : Nat) (a0_0 : Int) (a0_1 : Int) (l0_2 : List S60) (l0_3 : List S91) : Option ((List Int)) := if 0 ≤ (l0_3.length : Int) then (if ((l0_3.length : Int) : Int).toNat ≤ 35184372088832 then (impl_faceDepths.l0 k a0_0 a0_1 l0_2 l0_3 (List.replicate (((l0_3.length : Int) : Int).toNat) 0) (([] : List Int) : List Int) (((l0_3.length : Int) : Int).toNat : Int) 0) else (none)) else (none)
set_option maxRecDepth 100000 in
theorem impl_faceDepths.ok {k : Nat} {a0_0 : Int} {a0_1 : Int} {l0_2 : List S60} {l0_3 : List S91} {r : List Int} (H : impl_faceDepths.f k a0_0 a0_1 l0_2 l0_3 = some r) : OkF Try.prog 67 [.agg [.d (.v (.int .i64 a0_0)), .d (.v (.int .i64 a0_1)), .d (.row 61 (l0_2.map c60)), .d (.row 96 (l0_3.map c91))]] [] (.c (.own 100 r.length)) [(100, .row 2 (r.map c2))] := by
  unfold impl_faceDepths.f at H
  refine OkF.of (N := 105) (rs := [2]) (avs := [.c (.own 100 r.length)]) Try.func67 rfl rfl (fun _ _ => results_tmp rfl _ _ _) (by decide) rfl rfl rfl rfl (fun w0 S => ?_)
  refine AG.seq ?_
  refine AG.region HM ?_
  refine a_box 200 ?_
  refine a_nilO (e := 2) 201 ?_ T2
  refine RA.nil nofun ?_
  refine AG.seq ?_
  refine AG.region HM ?_
  refine a_faB (q := 3) ?_ D32_3
  refine a_ldB (v := vR _ _) ?_ T30
  refine a_lenR ?_ Try.underlying30
  by_cases hc1 : 0 ≤ (l0_3.length : Int)
  · rw [if_pos hc1] at H
    by_cases hc2 : ((l0_3.length : Int) : Int).toNat ≤ 35184372088832
    · rw [if_pos hc2] at H
      refine a_make (n := (l0_3.length : Int)) (css := (List.replicate (((l0_3.length : Int) : Int).toNat) 0).map c2) 202 ?_ N38 T2 (zV zN) hc1 (by omega) (by omega) (hcss := by exact rep_map rfl)
      refine a_lit (cs := []) (D := []) (css := (([] : List Int) : List Int).map c2) 203 ?_ N38 T2 (hcss := by rfl)
      refine a_move (v := .c (.own _ _)) ?_
      refine a_move (v := .c (.own _ _)) ?_
      refine RA.nil nofun ?_
      refine AG.seq ?_
      refine AG.seq ?_
      refine AG.region HM ?_
      refine a_move (v := .c (.own _ _)) ?_
      refine a_lenO ?_ Try.underlying38
      refine a_move (v := vI _) ?_
      refine RA.nil nofun ?_
      refine AG.block ?_
      refine AG.loop ?_
      obtain ⟨K0, hK0, gK0⟩ : ∃ K, k ≤ K ∧ K ≤ k := ⟨k, Nat.le_refl k, Nat.le_refl k⟩
      refine AGr.canon (fun κ => cond (Nat.beq κ 204) 200 (cond (Nat.beq κ 205) 202 (cond (Nat.beq κ 206) 203 (κ)))) (AGr.loopI (n := k) (fun k s => k ≤ K0 ∧ ∃ (y204_0 : Int) (y204_1 : Int) (y204_2 : List S60) (y204_3 : List S91) (x3 : List Int) (x4 : List Int) (x20 : Int) (x21 : Int), impl_faceDepths.l0 k y204_0 y204_1 y204_2 y204_3 x3 x4 x20 x21 = some r ∧ s = St.of [(1, .c (.ptr 204 0)), (3, .c (.own 205 x3.length)), (4, .c (.own 206 x4.length)), (20, vI x20), (21, vI x21)] [(204, .box 32 [.d (.v (.int .i64 y204_0)), .d (.v (.int .i64 y204_1)), .d (.row 61 (y204_2.map c60)), .d (.row 96 (y204_3.map c91))]), (205, .row 2 (x3.map c2)), (206, .row 2 (x4.map c2))]) ⟨hK0, _, _, _, _, _, _, _, _, H, rfl⟩ ?_ ?_) ⟨rfl, (ownE rfl (by simp)), (ownE rfl (by simp)), rfl, rfl, trivial⟩ ⟨rfl, rfl, rfl, trivial⟩ rfl
      · rintro _ ⟨_, _, _, _, _, _, _, _, _, H, _⟩
        cases H
      · clear H hK0
        rintro k ih0 _ ⟨hK0, y204_0, y204_1, y204_2, y204_3, x3, x4, x20, x21, H, rfl⟩
        unfold impl_faceDepths.l0 at H
        refine AG.seq ?_
        refine AG.region HM ?_
        refine a_int (u := .bool (decide (x21 < x20))) ?_
        refine RA.nil nofun ?_
        refine AG.seq ?_
        by_cases hc5 : x21 < x20
        · rw [if_pos hc5] at H
          refine AG.yes rfl (decide_eq_true hc5) ?_
          refine AG.skip ?_
          refine AG.seq ?_
          refine AG.block ?_
          refine AG.seq ?_
          refine AG.region HM ?_
          refine a_move (v := vI _) ?_
          refine a_move (v := vI _) ?_
          refine RA.nil nofun ?_
          refine AG.region HM ?_
          refine a_move (v := .c (.own _ _)) ?_
          refine a_move (v := vI _) ?_
          by_cases hc6 : 0 ≤ x21
          · rw [if_pos hc6] at H
            by_cases hc7 : x21 < (x3.length : Int)
            · rw [if_pos hc7] at H
              refine a_ixO ?_ ⟨hc6, hc7⟩ T2 Try.underlying38
              refine a_stF (css' := (x3.set (x21 : Int).toNat 24).map c2) ?_ (flat_map (fun _ => rfl)) (G2 hc6 hc7) T2 (hcss := by exact set_map rfl)
              refine RA.nil nofun ?_
              refine AG.region HM ?_
              refine a_int (u := .int .i64 (wrap64 (x21 + 1))) ?_
              refine a_move (v := vI _) ?_
              refine RA.nil nofun ?_
              exact AGr.canon id (ih0 _ (by omega) _ ⟨by omega, _, _, _, _, _, _, _, _, H, rfl⟩) ⟨rfl, (ownE rfl (by simp)), rfl, rfl, rfl, trivial⟩ ⟨rfl, rfl, rfl, trivial⟩ rfl
            · rw [if_neg hc7] at H
              cases H
          · rw [if_neg hc6] at H
            cases H
        · rw [if_neg hc5] at H
          refine AG.no rfl (decide_eq_false hc5) ?_
          refine AG.exit ?_
          refine AG.seq ?_
          refine AG.region HM ?_
          refine a_ldB (v := .agg [_, _, _, _]) ?_ T32
          obtain ⟨⟨t9, t10⟩, e11, H⟩ := bindO H
          refine a_call (v := .tup [.c (.own 207 t9.length), .c (.own 208 t10.length)]) (nk := [(207, .row 38 (t9.map c38)), (208, .row 38 (t10.map c38))]) (L := []) ?_ rfl (impl_edgeFaces.ok e11) (fun κ => cond (Nat.beq κ 207) 100 (cond (Nat.beq κ 208) 101 (κ))) (qg qn) trivial ⟨rfl, rfl, trivial⟩ ⟨rfl, rfl, trivial⟩ rfl
          refine a_move (v := .tup [_, _]) ?_
          refine a_ext (v := .c (.own _ _)) ?_
          refine a_ext (v := .c (.own _ _)) ?_
          refine a_move (v := .c (.own _ _)) ?_
          refine a_move (v := .c (.own _ _)) ?_
          refine RA.nil nofun ?_
          refine AG.seq ?_
          refine AG.seq ?_
          refine AG.freeze 207 ?_
          refine AG.freeze 208 ?_
          refine AG.region HM ?_
          refine a_move (v := vR _ _) ?_
          refine a_lenR ?_ Try.underlying56
          refine a_move (v := vI _) ?_
          refine RA.nil nofun ?_
          refine AG.block ?_
          refine AG.loop ?_
          obtain ⟨K1, hK1, gK1⟩ : ∃ K, k ≤ K ∧ K ≤ k := ⟨k, Nat.le_refl k, Nat.le_refl k⟩
          refine AGr.canon (fun κ => cond (Nat.beq κ 209) 204 (cond (Nat.beq κ 210) 205 (cond (Nat.beq κ 211) 206 (κ)))) (AGr.loopI (n := k) (fun k s => k ≤ K1 ∧ ∃ (y209_0 : Int) (y209_1 : Int) (y209_2 : List S60) (y209_3 : List S91) (x3 : List Int) (x4 : List Int) (x33 : List (List Int)) (x34 : Int) (x35 : Int), impl_faceDepths.l1 k y209_0 y209_1 y209_2 y209_3 x3 x4 x33 x34 x35 = some r ∧ s = St.of [(1, .c (.ptr 209 0)), (3, .c (.own 210 x3.length)), (4, .c (.own 211 x4.length)), (33, vR 38 (x33.map c38)), (34, vI x34), (35, vI x35)] [(209, .box 32 [.d (.v (.int .i64 y209_0)), .d (.v (.int .i64 y209_1)), .d (.row 61 (y209_2.map c60)), .d (.row 96 (y209_3.map c91))]), (210, .row 2 (x3.map c2)), (211, .row 2 (x4.map c2))]) ⟨hK1, _, _, _, _, _, _, _, _, _, H, rfl⟩ ?_ ?_) ⟨rfl, rfl, rfl, rfl, rfl, rfl, trivial⟩ ⟨rfl, rfl, rfl, trivial⟩ rfl
          · rintro _ ⟨_, _, _, _, _, _, _, _, _, _, H, _⟩
            cases H
          · clear H hK1
            rintro k ih1 _ ⟨hK1, y209_0, y209_1, y209_2, y209_3, x3, x4, x33, x34, x35, H, rfl⟩
            unfold impl_faceDepths.l1 at H
            refine AG.seq ?_
            refine AG.region HM ?_
            refine a_int (u := .bool (decide (x35 < x34))) ?_
            refine RA.nil nofun ?_
            refine AG.seq ?_
            by_cases hc12 : x35 < x34
            · rw [if_pos hc12] at H
              refine AG.yes rfl (decide_eq_true hc12) ?_
              refine AG.skip ?_
              refine AG.seq ?_
              refine AG.block ?_
              refine AG.seq ?_
              refine AG.region HM ?_
              by_cases hc13 : 0 ≤ x35
              · rw [if_pos hc13] at H
                by_cases hc14 : x35 < (x33.length : Int)
                · rw [if_pos hc14] at H
                  refine a_ixR (el := c38 (rd38 x33 x35)) ?_ ⟨hc13, hc14⟩ T38 Try.underlying56 (hel := R38 hc13 hc14)
                  refine a_ldR (v := vR _ _) ?_ T38
                  refine a_move (v := vR _ _) ?_
                  refine RA.nil nofun ?_
                  refine AG.seq ?_
                  refine AG.region HM ?_
                  refine a_move (v := vR _ _) ?_
                  refine a_lenR ?_ Try.underlying38
                  refine a_int (u := .bool ((((rd38 x33 x35).length : Int) == 1))) ?_
                  refine a_move (v := vB _) ?_
                  by_cases hc15 : ((rd38 x33 x35).length : Int) = 1
                  · rw [if_pos hc15] at H
                    refine a_move (v := .c (.own _ _)) ?_ (hg := Gs.yes rfl rfl rfl (beq_iff_eq.2 hc15))
                    refine a_move (v := vR _ _) ?_ (hg := Gs.yes rfl rfl rfl (beq_iff_eq.2 hc15))
                    by_cases hc16 : 0 < ((rd38 x33 x35).length : Int)
                    · rw [if_pos hc16] at H
                      refine a_ixR (el := c2 (rd2 (rd38 x33 x35) 0)) ?_ ⟨(by decide), hc16⟩ T2 Try.underlying38 (hel := R2 (by decide) hc16) (hg := Gs.yes rfl rfl rfl (beq_iff_eq.2 hc15))
                      refine a_ldR (v := vI _) ?_ T2 (hg := Gs.yes rfl rfl rfl (beq_iff_eq.2 hc15))
                      by_cases hc17 : 0 ≤ (rd2 (rd38 x33 x35) 0)
                      · rw [if_pos hc17] at H
                        by_cases hc18 : (rd2 (rd38 x33 x35) 0) < (x3.length : Int)
                        · rw [if_pos hc18] at H
                          refine a_ixO ?_ ⟨hc17, hc18⟩ T2 Try.underlying38 (hg := Gs.yes rfl rfl rfl (beq_iff_eq.2 hc15))
                          refine a_ldE (v := vI _) ?_ (G2 hc17 hc18) T2 (hg := Gs.yes rfl rfl rfl (beq_iff_eq.2 hc15))
                          refine a_int (u := .bool (decide ((rd2 x3 (rd2 (rd38 x33 x35) 0)) > 0))) ?_ (hg := Gs.yes rfl rfl rfl (beq_iff_eq.2 hc15))
                          refine a_pick (b := true) (v := vB _) ?_ (beq_iff_eq.2 hc15)
                          refine RA.nil nofun ?_
                          by_cases hc19 : (rd2 x3 (rd2 (rd38 x33 x35) 0)) > 0
                          · rw [if_pos hc19] at H
                            refine AG.yes rfl (decide_eq_true hc19) ?_
                            refine AG.seq ?_
                            refine AG.region HM ?_
                            refine a_move (v := .c (.own _ _)) ?_
                            refine a_move (v := vR _ _) ?_
                            refine a_ixR (el := c2 (rd2 (rd38 x33 x35) 0)) ?_ ⟨(by decide), hc16⟩ T2 Try.underlying38 (hel := R2 (by decide) hc16)
                            refine a_ldR (v := vI _) ?_ T2
                            refine a_ixO ?_ ⟨hc17, hc18⟩ T2 Try.underlying38
                            refine a_stF (css' := (x3.set ((rd2 (rd38 x33 x35) 0) : Int).toNat 0).map c2) ?_ (flat_map (fun _ => rfl)) (G2 hc17 hc18) T2 (hcss := by exact set_map rfl)
                            refine RA.nil nofun ?_
                            refine AG.region HM ?_
                            refine a_move (v := .c (.own _ _)) ?_
                            refine a_move (v := vR _ _) ?_
                            refine a_ixR (el := c2 (rd2 (rd38 x33 x35) 0)) ?_ ⟨(by decide), hc16⟩ T2 Try.underlying38 (hel := R2 (by decide) hc16)
                            refine a_ldR (v := vI _) ?_ T2
                            refine a_lit (cs := [_]) (D := []) (css := ([(rd2 (rd38 x33 x35) 0)]).map c2) 212 ?_ N38 T2
                            by_cases hc21 : x4.length < 17592186044416
                            · rw [if_pos hc21] at H
                              refine a_appO (css' := (x4 ++ [(rd2 (rd38 x33 x35) 0)]).map c2) (n' := (x4 ++ [(rd2 (rd38 x33 x35) 0)]).length) ?_ T2 (by simp [maxLen]; omega) (by simp; omega) Try.underlying38 (hc := by exact List.map_append.symm) (hn := by exact List.length_map _)
                              refine a_move (v := .c (.own _ _)) ?_
                              refine RA.nil nofun ?_
                              refine AG.region HM ?_
                              refine a_int (u := .int .i64 (wrap64 (x35 + 1))) ?_
                              refine a_move (v := vI _) ?_
                              refine RA.nil nofun ?_
                              exact AGr.canon id (ih1 _ (by omega) _ ⟨by omega, _, _, _, _, _, _, _, _, _, H, rfl⟩) ⟨rfl, (ownE rfl (by simp)), rfl, rfl, rfl, rfl, trivial⟩ ⟨rfl, rfl, rfl, trivial⟩ rfl
                            · rw [if_neg hc21] at H
                              cases H
                          · rw [if_neg hc19] at H
                            refine AG.no rfl (decide_eq_false hc19) ?_
                            refine AG.skip ?_
                            refine AG.region HM ?_
                            refine a_int (u := .int .i64 (wrap64 (x35 + 1))) ?_
                            refine a_move (v := vI _) ?_
                            refine RA.nil nofun ?_
                            exact AGr.canon id (ih1 _ (by omega) _ ⟨by omega, _, _, _, _, _, _, _, _, _, H, rfl⟩) ⟨rfl, rfl, rfl, rfl, rfl, rfl, trivial⟩ ⟨rfl, rfl, rfl, trivial⟩ rfl
                        · rw [if_neg hc18] at H
                          cases H
                      · rw [if_neg hc17] at H
                        cases H
                    · rw [if_neg hc16] at H
                      cases H
                  · rw [if_neg hc15] at H
                    refine RA.skip rfl rfl rfl rfl rfl (beq_eq_false_iff_ne.2 hc15) (by decide) ?_
                    refine RA.skip rfl rfl rfl rfl rfl (beq_eq_false_iff_ne.2 hc15) (by decide) ?_
                    refine RA.skip rfl rfl rfl rfl rfl (beq_eq_false_iff_ne.2 hc15) (by decide) ?_
                    refine RA.skip rfl rfl rfl rfl rfl (beq_eq_false_iff_ne.2 hc15) (by decide) ?_
                    refine RA.skip rfl rfl rfl rfl rfl (beq_eq_false_iff_ne.2 hc15) (by decide) ?_
                    refine RA.skip rfl rfl rfl rfl rfl (beq_eq_false_iff_ne.2 hc15) (by decide) ?_
                    refine RA.skip rfl rfl rfl rfl rfl (beq_eq_false_iff_ne.2 hc15) (by decide) ?_
                    refine a_pick (b := false) (v := vB _) ?_ (beq_eq_false_iff_ne.2 hc15)
                    refine RA.nil nofun ?_
                    refine AG.no rfl rfl ?_
                    refine AG.skip ?_
                    refine AG.region HM ?_
                    refine a_int (u := .int .i64 (wrap64 (x35 + 1))) ?_
                    refine a_move (v := vI _) ?_
                    refine RA.nil nofun ?_
                    exact AGr.canon id (ih1 _ (by omega) _ ⟨by omega, _, _, _, _, _, _, _, _, _, H, rfl⟩) ⟨rfl, rfl, rfl, rfl, rfl, rfl, trivial⟩ ⟨rfl, rfl, rfl, trivial⟩ rfl
                · rw [if_neg hc14] at H
                  cases H
              · rw [if_neg hc13] at H
                cases H
            · rw [if_neg hc12] at H
              refine AG.no rfl (decide_eq_false hc12) ?_
              refine AG.exit ?_
              refine AG.seq ?_
              refine AG.region HM ?_
              refine a_ldB (v := .agg [_, _, _, _]) ?_ T32
              obtain ⟨t23, et23, H⟩ := bindO H
              refine a_callF (L := []) ?_ rfl (impl_neighbours.ok et23) (qg qn) trivial
              refine a_move (v := vR _ _) ?_
              refine RA.nil nofun ?_
              refine AG.seq ?_
              refine AG.seq ?_
              refine AG.region HM ?_
              refine a_move (v := vI _) ?_
              refine RA.nil nofun ?_
              refine AG.block ?_
              refine AG.loop ?_
              obtain ⟨K2, hK2, gK2⟩ : ∃ K, k ≤ K ∧ K ≤ k := ⟨k, Nat.le_refl k, Nat.le_refl k⟩
              refine AGr.canon (fun κ => cond (Nat.beq κ 213) 210 (cond (Nat.beq κ 214) 211 (κ))) (AGr.loopI (n := k) (fun k s => k ≤ K2 ∧ ∃ (x3 : List Int) (x4 : List Int) (x10 : List (List Int)) (x11 : Int), impl_faceDepths.l2 k x3 x4 x10 x11 = some r ∧ s = St.of [(3, .c (.own 213 x3.length)), (4, .c (.own 214 x4.length)), (10, vR 38 (x10.map c38)), (11, vI x11)] [(213, .row 2 (x3.map c2)), (214, .row 2 (x4.map c2))]) ⟨hK2, _, _, _, _, H, rfl⟩ ?_ ?_) ⟨rfl, rfl, rfl, rfl, trivial⟩ ⟨rfl, rfl, trivial⟩ rfl
              · rintro _ ⟨_, _, _, _, _, H, _⟩
                cases H
              · clear H hK2
                rintro k ih2 _ ⟨hK2, x3, x4, x10, x11, H, rfl⟩
                unfold impl_faceDepths.l2 at H
                refine AG.seq ?_
                refine AG.seq ?_
                refine AG.region HM ?_
                refine a_move (v := vI _) ?_
                refine a_move (v := .c (.own _ _)) ?_
                refine a_lenO ?_ Try.underlying38
                refine a_int (u := .bool (decide (x11 < (x4.length : Int)))) ?_
                refine RA.nil nofun ?_
                by_cases hc24 : x11 < (x4.length : Int)
                · rw [if_pos hc24] at H
                  refine AG.yes rfl (decide_eq_true hc24) ?_
                  refine AG.skip ?_
                  refine AG.seq ?_
                  refine AG.block ?_
                  refine AG.seq ?_
                  refine AG.region HM ?_
                  refine a_move (v := vR _ _) ?_
                  refine a_move (v := .c (.own _ _)) ?_
                  refine a_move (v := vI _) ?_
                  by_cases hc25 : 0 ≤ x11
                  · rw [if_pos hc25] at H
                    refine a_ixO ?_ ⟨hc25, hc24⟩ T2 Try.underlying38
                    refine a_ldE (v := vI _) ?_ (G2 hc25 hc24) T2
                    by_cases hc26 : 0 ≤ (rd2 x4 x11)
                    · rw [if_pos hc26] at H
                      by_cases hc27 : (rd2 x4 x11) < (x10.length : Int)
                      · rw [if_pos hc27] at H
                        refine a_ixR (el := c38 (rd38 x10 (rd2 x4 x11))) ?_ ⟨hc26, hc27⟩ T38 Try.underlying56 (hel := R38 hc26 hc27)
                        refine a_ldR (v := vR _ _) ?_ T38
                        refine a_lenR ?_ Try.underlying38
                        refine a_move (v := vI _) ?_
                        refine RA.nil nofun ?_
                        refine AG.block ?_
                        refine AG.loop ?_
                        obtain ⟨K3, hK3, gK3⟩ : ∃ K, k ≤ K ∧ K ≤ k := ⟨k, Nat.le_refl k, Nat.le_refl k⟩
                        refine AGr.canon (fun κ => cond (Nat.beq κ 215) 213 (cond (Nat.beq κ 216) 214 (κ))) (AGr.loopI (n := k) (fun k s => k ≤ K3 ∧ ∃ (x3 : List Int) (x4 : List Int) (x10 : List (List Int)) (x11 : Int) (x77 : List Int) (x78 : Int) (x79 : Int), impl_faceDepths.l3 k x3 x4 x10 x11 x77 x78 x79 = some r ∧ s = St.of [(3, .c (.own 215 x3.length)), (4, .c (.own 216 x4.length)), (10, vR 38 (x10.map c38)), (11, vI x11), (77, vR 2 (x77.map c2)), (78, vI x78), (79, vI x79)] [(215, .row 2 (x3.map c2)), (216, .row 2 (x4.map c2))]) ⟨hK3, _, _, _, _, _, _, _, H, rfl⟩ ?_ ?_) ⟨rfl, rfl, rfl, rfl, rfl, rfl, rfl, trivial⟩ ⟨rfl, rfl, trivial⟩ rfl
                        · rintro _ ⟨_, _, _, _, _, _, _, _, H, _⟩
                          cases H
                        · clear H hK3
                          rintro k ih3 _ ⟨hK3, x3, x4, x10, x11, x77, x78, x79, H, rfl⟩
                          unfold impl_faceDepths.l3 at H
                          refine AG.seq ?_
                          refine AG.region HM ?_
                          refine a_int (u := .bool (decide (x79 < x78))) ?_
                          refine RA.nil nofun ?_
                          refine AG.seq ?_
                          by_cases hc28 : x79 < x78
                          · rw [if_pos hc28] at H
                            refine AG.yes rfl (decide_eq_true hc28) ?_
                            refine AG.skip ?_
                            refine AG.seq ?_
                            refine AG.block ?_
                            refine AG.seq ?_
                            refine AG.region HM ?_
                            by_cases hc29 : 0 ≤ x79
                            · rw [if_pos hc29] at H
                              by_cases hc30 : x79 < (x77.length : Int)
                              · rw [if_pos hc30] at H
                                refine a_ixR (el := c2 (rd2 x77 x79)) ?_ ⟨hc29, hc30⟩ T2 Try.underlying38 (hel := R2 hc29 hc30)
                                refine a_ldR (v := vI _) ?_ T2
                                refine a_move (v := vI _) ?_
                                refine RA.nil nofun ?_
                                refine AG.seq ?_
                                refine AG.region HM ?_
                                refine a_move (v := .c (.own _ _)) ?_
                                refine a_move (v := vI _) ?_
                                by_cases hc31 : 0 ≤ (rd2 x77 x79)
                                · rw [if_pos hc31] at H
                                  by_cases hc32 : (rd2 x77 x79) < (x3.length : Int)
                                  · rw [if_pos hc32] at H
                                    refine a_ixO ?_ ⟨hc31, hc32⟩ T2 Try.underlying38
                                    refine a_ldE (v := vI _) ?_ (G2 hc31 hc32) T2
                                    refine a_int (u := .bool (((rd2 x3 (rd2 x77 x79)) == 24))) ?_
                                    refine RA.nil nofun ?_
                                    by_cases hc33 : (rd2 x3 (rd2 x77 x79)) = 24
                                    · rw [if_pos hc33] at H
                                      refine AG.yes rfl (beq_iff_eq.2 hc33) ?_
                                      refine AG.seq ?_
                                      refine AG.region HM ?_
                                      refine a_move (v := .c (.own _ _)) ?_
                                      refine a_move (v := vI _) ?_
                                      refine a_move (v := .c (.own _ _)) ?_
                                      refine a_move (v := .c (.own _ _)) ?_
                                      refine a_move (v := vI _) ?_
                                      by_cases hc34 : 0 ≤ x11
                                      · rw [if_pos hc34] at H
                                        by_cases hc35 : x11 < (x4.length : Int)
                                        · rw [if_pos hc35] at H
                                          refine a_ixO ?_ ⟨hc34, hc35⟩ T2 Try.underlying38
                                          refine a_ldE (v := vI _) ?_ (G2 hc34 hc35) T2
                                          by_cases hc36 : 0 ≤ (rd2 x4 x11)
                                          · rw [if_pos hc36] at H
                                            by_cases hc37 : (rd2 x4 x11) < (x3.length : Int)
                                            · rw [if_pos hc37] at H
                                              refine a_ixO ?_ ⟨hc36, hc37⟩ T2 Try.underlying38
                                              refine a_ldE (v := vI _) ?_ (G2 hc36 hc37) T2
                                              refine a_int (u := .int .i64 (wrap64 ((rd2 x3 (rd2 x4 x11)) + 1))) ?_
                                              refine a_ixO ?_ ⟨hc31, hc32⟩ T2 Try.underlying38
                                              refine a_stF (css' := (x3.set ((rd2 x77 x79) : Int).toNat (wrap64 ((rd2 x3 (rd2 x4 x11)) + 1))).map c2) ?_ (flat_map (fun _ => rfl)) (G2 hc31 hc32) T2 (hcss := by exact set_map rfl)
                                              refine RA.nil nofun ?_
                                              refine AG.region HM ?_
                                              refine a_move (v := .c (.own _ _)) ?_
                                              refine a_move (v := vI _) ?_
                                              refine a_lit (cs := [_]) (D := []) (css := ([(rd2 x77 x79)]).map c2) 217 ?_ N38 T2
                                              by_cases hc39 : x4.length < 17592186044416
                                              · rw [if_pos hc39] at H
                                                refine a_appO (css' := (x4 ++ [(rd2 x77 x79)]).map c2) (n' := (x4 ++ [(rd2 x77 x79)]).length) ?_ T2 (by simp [maxLen]; omega) (by simp; omega) Try.underlying38 (hc := by exact List.map_append.symm) (hn := by exact List.length_map _)
                                                refine a_move (v := .c (.own _ _)) ?_
                                                refine RA.nil nofun ?_
                                                refine AG.region HM ?_
                                                refine a_int (u := .int .i64 (wrap64 (x79 + 1))) ?_
                                                refine a_move (v := vI _) ?_
                                                refine RA.nil nofun ?_
                                                exact AGr.canon id (ih3 _ (by omega) _ ⟨by omega, _, _, _, _, _, _, _, H, rfl⟩) ⟨(ownE rfl (by simp)), rfl, rfl, rfl, rfl, rfl, rfl, trivial⟩ ⟨rfl, rfl, trivial⟩ rfl
                                              · rw [if_neg hc39] at H
                                                cases H
                                            · rw [if_neg hc37] at H
                                              cases H
                                          · rw [if_neg hc36] at H
                                            cases H
                                        · rw [if_neg hc35] at H
                                          cases H
                                      · rw [if_neg hc34] at H
                                        cases H
                                    · rw [if_neg hc33] at H
                                      refine AG.no rfl (beq_eq_false_iff_ne.2 hc33) ?_
                                      refine AG.skip ?_
                                      refine AG.region HM ?_
                                      refine a_int (u := .int .i64 (wrap64 (x79 + 1))) ?_
                                      refine a_move (v := vI _) ?_
                                      refine RA.nil nofun ?_
                                      exact AGr.canon id (ih3 _ (by omega) _ ⟨by omega, _, _, _, _, _, _, _, H, rfl⟩) ⟨rfl, rfl, rfl, rfl, rfl, rfl, rfl, trivial⟩ ⟨rfl, rfl, trivial⟩ rfl
                                  · rw [if_neg hc32] at H
                                    cases H
                                · rw [if_neg hc31] at H
                                  cases H
                              · rw [if_neg hc30] at H
                                cases H
                            · rw [if_neg hc29] at H
                              cases H
                          · rw [if_neg hc28] at H
                            refine AG.no rfl (decide_eq_false hc28) ?_
                            refine AG.exit ?_
                            refine AG.region HM ?_
                            refine a_move (v := vI _) ?_
                            refine a_int (u := .int .i64 (wrap64 (x11 + 1))) ?_
                            refine a_move (v := vI _) ?_
                            refine RA.nil nofun ?_
                            exact AGr.canon (fun κ => cond (Nat.beq κ 213) 215 (cond (Nat.beq κ 214) 216 (κ))) (ih2 _ (by omega) _ ⟨by omega, _, _, _, _, H, rfl⟩) ⟨rfl, rfl, rfl, rfl, trivial⟩ ⟨rfl, rfl, trivial⟩ rfl
                      · rw [if_neg hc27] at H
                        cases H
                    · rw [if_neg hc26] at H
                      cases H
                  · rw [if_neg hc25] at H
                    cases H
                · rw [if_neg hc24] at H
                  refine AG.no rfl (decide_eq_false hc24) ?_
                  refine AG.exit ?_
                  refine AG.seq ?_
                  refine AG.region HM ?_
                  refine a_move (v := .c (.own _ _)) ?_
                  refine a_move (v := .c (.own _ _)) ?_
                  refine RA.nil nofun ?_
                  refine AG.ret ?_
                  obtain rfl := Option.some.inj H
                  exact RetP.mk (fun κ => cond (Nat.beq κ 100) 213 (κ)) ⟨rfl, trivial⟩ ⟨rfl, trivial⟩ rfl
    · rw [if_neg hc2] at H
      cases H
  · rw [if_neg hc1] at H
    cases H
/-! ### impl_edgeDepths: function 69 -/
mutual
def impl_edgeDepths.l0 : Nat → List Int → List Int → List (List Int) → Int → Int → Option ((List Int))
  | 0, _, _, _, _, _ => none
  | k + 1, x3, x4, x20, x21, x22 => if x22 < x21 then (if 0 ≤ x22 then (if x22 < (x20.length : Int) then (if ((rd38 x20 x22).length : Int) > 1 then (impl_edgeDepths.l1 k x3 x4 24 x20 x21 x22 (rd38 x20 x22) ((rd38 x20 x22).length : Int) 0) else (if x4.length < 17592186044416 then (impl_edgeDepths.l0 k x3 (x4 ++ [0]) x20 x21 (wrap64 (x22 + 1))) else (none))) else (none)) else (none)) else (some x4)
def impl_edgeDepths.l1 : Nat → List Int → List Int → Int → List (List Int) → Int → Int → List Int → Int → Int → Option ((List Int))
  | 0, _, _, _, _, _, _, _, _, _ => none
  | k + 1, x3, x4, x9, x20, x21, x22, x29, x30, x31 => if x31 < x30 then (if 0 ≤ x31 then (if x31 < (x29.length : Int) then (if 0 ≤ (rd2 x29 x31) then (if (rd2 x29 x31) < (x3.length : Int) then (impl_edgeDepths.l1 k x3 x4 (mn x9 (rd2 x3 (rd2 x29 x31))) x20 x21 x22 x29 x30 (wrap64 (x31 + 1))) else (none)) else (none)) else (none)) else (none)) else (if x4.length < 17592186044416 then (impl_edgeDepths.l0 k x3 (x4 ++ [wrap64 (x9 + 1)]) x20 x21 (wrap64 (x22 + 1))) else (none))
end
def impl_edgeDepths.f (k : Nat) (a0_0 : Int) (a0_1 : Int) (l0_2 : List S60) (l0_3 : List S91) : Option ((List Int)) := (impl_faceDepths.f k a0_0 a0_1 l0_2 l0_3).bind fun t1 => ((impl_edgeFaces.f k a0_0 a0_1 l0_2 l0_3).bind fun bt4 => (impl_edgeDepths.l0 k t1 (([] : List Int) : List Int) bt4.2 (bt4.2.length : Int) 0))
set_option maxRecDepth 100000 in
theorem impl_edgeDepths.ok {k : Nat} {a0_0 : Int} {a0_1 : Int} {l0_2 : List S60} {l0_3 : List S91} {r : List Int} (H : impl_edgeDepths.f k a0_0 a0_1 l0_2 l0_3 = some r) : OkF Try.prog 69 [.agg [.d (.v (.int .i64 a0_0)), .d (.v (.int .i64 a0_1)), .d (.row 61 (l0_2.map c60)), .d (.row 96 (l0_3.map c91))]] [] (.c (.own 100 r.length)) [(100, .row 2 (r.map c2))] := by
  unfold impl_edgeDepths.f at H
  refine OkF.of (N := 50) (rs := [2]) (avs := [.c (.own 100 r.length)]) Try.func69 rfl rfl (fun _ _ => results_tmp rfl _ _ _) (by decide) rfl rfl rfl rfl (fun w0 S => ?_)
  refine AG.seq ?_
  refine AG.region HM ?_
  refine a_box 200 ?_
  refine a_nilO (e := 2) 201 ?_ T2
  refine RA.nil nofun ?_
  refine AG.seq ?_
  refine AG.region HM ?_
  refine a_ldB (v := .agg [_, _, _, _]) ?_ T32
  obtain ⟨t1, e2, H⟩ := bindO H
  refine a_call (v := .c (.own 202 t1.length)) (nk := [(202, .row 2 (t1.map c2))]) (L := []) ?_ rfl (impl_faceDepths.ok e2) (fun κ => cond (Nat.beq κ 202) 100 (κ)) (qg qn) trivial ⟨rfl, trivial⟩ ⟨rfl, trivial⟩ rfl
  refine a_lit (cs := []) (D := []) (css := (([] : List Int) : List Int).map c2) 203 ?_ N38 T2 (hcss := by rfl)
  refine a_move (v := .c (.own _ _)) ?_
  refine a_move (v := .c (.own _ _)) ?_
  refine RA.nil nofun ?_
  refine AG.seq ?_
  refine AG.region HM ?_
  refine a_ldB (v := .agg [_, _, _, _]) ?_ T32
  obtain ⟨⟨t4, t5⟩, e6, H⟩ := bindO H
  refine a_call (v := .tup [.c (.own 204 t4.length), .c (.own 205 t5.length)]) (nk := [(204, .row 38 (t4.map c38)), (205, .row 38 (t5.map c38))]) (L := []) ?_ rfl (impl_edgeFaces.ok e6) (fun κ => cond (Nat.beq κ 204) 100 (cond (Nat.beq κ 205) 101 (κ))) (qg qn) trivial ⟨rfl, rfl, trivial⟩ ⟨rfl, rfl, trivial⟩ rfl
  refine a_move (v := .tup [_, _]) ?_
  refine a_ext (v := .c (.own _ _)) ?_
  refine a_ext (v := .c (.own _ _)) ?_
  refine a_move (v := .c (.own _ _)) ?_
  refine a_move (v := .c (.own _ _)) ?_
  refine RA.nil nofun ?_
  refine AG.seq ?_
  refine AG.seq ?_
  refine AG.freeze 204 ?_
  refine AG.freeze 205 ?_
  refine AG.region HM ?_
  refine a_move (v := vR _ _) ?_
  refine a_lenR ?_ Try.underlying56
  refine a_move (v := vI _) ?_
  refine RA.nil nofun ?_
  refine AG.block ?_
  refine AG.loop ?_
  obtain ⟨K0, hK0, gK0⟩ : ∃ K, k ≤ K ∧ K ≤ k := ⟨k, Nat.le_refl k, Nat.le_refl k⟩
  refine AGr.canon (fun κ => cond (Nat.beq κ 206) 202 (cond (Nat.beq κ 207) 203 (κ))) (AGr.loopI (n := k) (fun k s => k ≤ K0 ∧ ∃ (x3 : List Int) (x4 : List Int) (x20 : List (List Int)) (x21 : Int) (x22 : Int), impl_edgeDepths.l0 k x3 x4 x20 x21 x22 = some r ∧ s = St.of [(3, .c (.own 206 x3.length)), (4, .c (.own 207 x4.length)), (20, vR 38 (x20.map c38)), (21, vI x21), (22, vI x22)] [(206, .row 2 (x3.map c2)), (207, .row 2 (x4.map c2))]) ⟨hK0, _, _, _, _, _, H, rfl⟩ ?_ ?_) ⟨rfl, (ownE rfl (by simp)), rfl, rfl, rfl, trivial⟩ ⟨rfl, rfl, trivial⟩ rfl
  · rintro _ ⟨_, _, _, _, _, _, H, _⟩
    cases H
  · clear H hK0
    rintro k ih0 _ ⟨hK0, x3, x4, x20, x21, x22, H, rfl⟩
    unfold impl_edgeDepths.l0 at H
    refine AG.seq ?_
    refine AG.region HM ?_
    refine a_int (u := .bool (decide (x22 < x21))) ?_
    refine RA.nil nofun ?_
    refine AG.seq ?_
    by_cases hc7 : x22 < x21
    · rw [if_pos hc7] at H
      refine AG.yes rfl (decide_eq_true hc7) ?_
      refine AG.skip ?_
      refine AG.seq ?_
      refine AG.block ?_
      refine AG.seq ?_
      refine AG.region HM ?_
      by_cases hc8 : 0 ≤ x22
      · rw [if_pos hc8] at H
        by_cases hc9 : x22 < (x20.length : Int)
        · rw [if_pos hc9] at H
          refine a_ixR (el := c38 (rd38 x20 x22)) ?_ ⟨hc8, hc9⟩ T38 Try.underlying56 (hel := R38 hc8 hc9)
          refine a_ldR (v := vR _ _) ?_ T38
          refine a_move (v := vR _ _) ?_
          refine RA.nil nofun ?_
          refine AG.seq ?_
          refine AG.region HM ?_
          refine a_move (v := vI _) ?_
          refine RA.nil nofun ?_
          refine AG.seq ?_
          refine AG.seq ?_
          refine AG.region HM ?_
          refine a_move (v := vR _ _) ?_
          refine a_lenR ?_ Try.underlying38
          refine a_int (u := .bool (decide (((rd38 x20 x22).length : Int) > 1))) ?_
          refine RA.nil nofun ?_
          by_cases hc10 : ((rd38 x20 x22).length : Int) > 1
          · rw [if_pos hc10] at H
            refine AG.yes rfl (decide_eq_true hc10) ?_
            refine AG.seq ?_
            refine AG.region HM ?_
            refine a_move (v := vI _) ?_
            refine RA.nil nofun ?_
            refine AG.seq ?_
            refine AG.seq ?_
            refine AG.region HM ?_
            refine a_move (v := vR _ _) ?_
            refine a_lenR ?_ Try.underlying38
            refine a_move (v := vI _) ?_
            refine RA.nil nofun ?_
            refine AG.block ?_
            refine AG.loop ?_
            obtain ⟨K1, hK1, gK1⟩ : ∃ K, k ≤ K ∧ K ≤ k := ⟨k, Nat.le_refl k, Nat.le_refl k⟩
            refine AGr.canon (fun κ => cond (Nat.beq κ 208) 206 (cond (Nat.beq κ 209) 207 (κ))) (AGr.loopI (n := k) (fun k s => k ≤ K1 ∧ ∃ (x3 : List Int) (x4 : List Int) (x9 : Int) (x20 : List (List Int)) (x21 : Int) (x22 : Int) (x29 : List Int) (x30 : Int) (x31 : Int), impl_edgeDepths.l1 k x3 x4 x9 x20 x21 x22 x29 x30 x31 = some r ∧ s = St.of [(3, .c (.own 208 x3.length)), (4, .c (.own 209 x4.length)), (9, vI x9), (20, vR 38 (x20.map c38)), (21, vI x21), (22, vI x22), (29, vR 2 (x29.map c2)), (30, vI x30), (31, vI x31)] [(208, .row 2 (x3.map c2)), (209, .row 2 (x4.map c2))]) ⟨hK1, _, _, _, _, _, _, _, _, _, H, rfl⟩ ?_ ?_) ⟨rfl, rfl, rfl, rfl, rfl, rfl, rfl, rfl, rfl, trivial⟩ ⟨rfl, rfl, trivial⟩ rfl
            · rintro _ ⟨_, _, _, _, _, _, _, _, _, _, H, _⟩
              cases H
            · clear H hK1
              rintro k ih1 _ ⟨hK1, x3, x4, x9, x20, x21, x22, x29, x30, x31, H, rfl⟩
              unfold impl_edgeDepths.l1 at H
              refine AG.seq ?_
              refine AG.region HM ?_
              refine a_int (u := .bool (decide (x31 < x30))) ?_
              refine RA.nil nofun ?_
              refine AG.seq ?_
              by_cases hc11 : x31 < x30
              · rw [if_pos hc11] at H
                refine AG.yes rfl (decide_eq_true hc11) ?_
                refine AG.skip ?_
                refine AG.seq ?_
                refine AG.block ?_
                refine AG.seq ?_
                refine AG.region HM ?_
                by_cases hc12 : 0 ≤ x31
                · rw [if_pos hc12] at H
                  by_cases hc13 : x31 < (x29.length : Int)
                  · rw [if_pos hc13] at H
                    refine a_ixR (el := c2 (rd2 x29 x31)) ?_ ⟨hc12, hc13⟩ T2 Try.underlying38 (hel := R2 hc12 hc13)
                    refine a_ldR (v := vI _) ?_ T2
                    refine a_move (v := vI _) ?_
                    refine RA.nil nofun ?_
                    refine AG.region HM ?_
                    refine a_move (v := vI _) ?_
                    refine a_move (v := .c (.own _ _)) ?_
                    refine a_move (v := vI _) ?_
                    by_cases hc14 : 0 ≤ (rd2 x29 x31)
                    · rw [if_pos hc14] at H
                      by_cases hc15 : (rd2 x29 x31) < (x3.length : Int)
                      · rw [if_pos hc15] at H
                        refine a_ixO ?_ ⟨hc14, hc15⟩ T2 Try.underlying38
                        refine a_ldE (v := vI _) ?_ (G2 hc14 hc15) T2
                        refine a_minmax (mx := false) (r := mn x9 (rd2 x3 (rd2 x29 x31))) ?_
                        refine a_move (v := vI _) ?_
                        refine RA.nil nofun ?_
                        refine AG.region HM ?_
                        refine a_int (u := .int .i64 (wrap64 (x31 + 1))) ?_
                        refine a_move (v := vI _) ?_
                        refine RA.nil nofun ?_
                        exact AGr.canon id (ih1 _ (by omega) _ ⟨by omega, _, _, _, _, _, _, _, _, _, H, rfl⟩) ⟨rfl, rfl, rfl, rfl, rfl, rfl, rfl, rfl, rfl, trivial⟩ ⟨rfl, rfl, trivial⟩ rfl
                      · rw [if_neg hc15] at H
                        cases H
                    · rw [if_neg hc14] at H
                      cases H
                  · rw [if_neg hc13] at H
                    cases H
                · rw [if_neg hc12] at H
                  cases H
              · rw [if_neg hc11] at H
                refine AG.no rfl (decide_eq_false hc11) ?_
                refine AG.exit ?_
                refine AG.region HM ?_
                refine a_move (v := vI _) ?_
                refine a_int (u := .int .i64 (wrap64 (x9 + 1))) ?_
                refine a_move (v := vI _) ?_
                refine RA.nil nofun ?_
                refine AG.region HM ?_
                refine a_move (v := .c (.own _ _)) ?_
                refine a_move (v := vI _) ?_
                refine a_lit (cs := [_]) (D := []) (css := ([wrap64 (x9 + 1)]).map c2) 210 ?_ N38 T2
                by_cases hc16 : x4.length < 17592186044416
                · rw [if_pos hc16] at H
                  refine a_appO (css' := (x4 ++ [wrap64 (x9 + 1)]).map c2) (n' := (x4 ++ [wrap64 (x9 + 1)]).length) ?_ T2 (by simp [maxLen]; omega) (by simp; omega) Try.underlying38 (hc := by exact List.map_append.symm) (hn := by exact List.length_map _)
                  refine a_move (v := .c (.own _ _)) ?_
                  refine RA.nil nofun ?_
                  refine AG.region HM ?_
                  refine a_int (u := .int .i64 (wrap64 (x22 + 1))) ?_
                  refine a_move (v := vI _) ?_
                  refine RA.nil nofun ?_
                  exact AGr.canon (fun κ => cond (Nat.beq κ 206) 208 (cond (Nat.beq κ 207) 209 (κ))) (ih0 _ (by omega) _ ⟨by omega, _, _, _, _, _, H, rfl⟩) ⟨rfl, rfl, rfl, rfl, rfl, trivial⟩ ⟨rfl, rfl, trivial⟩ rfl
                · rw [if_neg hc16] at H
                  cases H
          · rw [if_neg hc10] at H
            refine AG.no rfl (decide_eq_false hc10) ?_
            refine AG.skip ?_
            refine AG.region HM ?_
            refine a_move (v := .c (.own _ _)) ?_
            refine a_move (v := vI _) ?_
            refine a_lit (cs := [_]) (D := []) (css := ([0]).map c2) 210 ?_ N38 T2
            by_cases hc18 : x4.length < 17592186044416
            · rw [if_pos hc18] at H
              refine a_appO (css' := (x4 ++ [0]).map c2) (n' := (x4 ++ [0]).length) ?_ T2 (by simp [maxLen]; omega) (by simp; omega) Try.underlying38 (hc := by exact List.map_append.symm) (hn := by exact List.length_map _)
              refine a_move (v := .c (.own _ _)) ?_
              refine RA.nil nofun ?_
              refine AG.region HM ?_
              refine a_int (u := .int .i64 (wrap64 (x22 + 1))) ?_
              refine a_move (v := vI _) ?_
              refine RA.nil nofun ?_
              exact AGr.canon id (ih0 _ (by omega) _ ⟨by omega, _, _, _, _, _, H, rfl⟩) ⟨rfl, rfl, rfl, rfl, rfl, trivial⟩ ⟨rfl, rfl, trivial⟩ rfl
            · rw [if_neg hc18] at H
              cases H
        · rw [if_neg hc9] at H
          cases H
      · rw [if_neg hc8] at H
        cases H
    · rw [if_neg hc7] at H
      refine AG.no rfl (decide_eq_false hc7) ?_
      refine AG.exit ?_
      refine AG.seq ?_
      refine AG.region HM ?_
      refine a_move (v := .c (.own _ _)) ?_
      refine a_move (v := .c (.own _ _)) ?_
      refine RA.nil nofun ?_
      refine AG.ret ?_
      obtain rfl := Option.some.inj H
      exact RetP.mk (fun κ => cond (Nat.beq κ 100) 207 (κ)) ⟨rfl, trivial⟩ ⟨rfl, trivial⟩ rfl
/-! ### impl_IsInnerFirst: function 33 -/
def impl_IsInnerFirst.l0 : Nat → List Int → List Int → Int → Option (Bool)
  | 0, _, _, _ => none
  | k + 1, x1, x5, x6 => if x6 < (x1.length : Int) then (if 0 ≤ (wrap64 (x6 - 1)) then (if (wrap64 (x6 - 1)) < (x1.length : Int) then (if 0 ≤ (rd2 x1 (wrap64 (x6 - 1))) then (if (rd2 x1 (wrap64 (x6 - 1))) < (x5.length : Int) then (if 0 ≤ x6 then (if 0 ≤ (rd2 x1 x6) then (if (rd2 x1 x6) < (x5.length : Int) then (if (rd2 x5 (rd2 x1 (wrap64 (x6 - 1)))) < (rd2 x5 (rd2 x1 x6)) then (some false) else (impl_IsInnerFirst.l0 k x1 x5 (wrap64 (x6 + 1)))) else (none)) else (none)) else (none)) else (none)) else (none)) else (none)) else (none)) else (some true)
def impl_IsInnerFirst.f (k : Nat) (a0_0 : Int) (a0_1 : Int) (l0_2 : List S60) (l0_3 : List S91) (l1 : List Int) : Option (Bool) := (impl_ValidDrawing.f k a0_0 a0_1 l0_2 l0_3).bind fun t1 => (if t1 = true then ((impl_edgeDepths.f k a0_0 a0_1 l0_2 l0_3).bind fun t4 => ((impl_isOrder.f k l1 (t4.length : Int)).bind fun t6 => (if t6 = true then (impl_IsInnerFirst.l0 k l1 t4 1) else (some false)))) else (some false))
set_option maxRecDepth 100000 in
theorem impl_IsInnerFirst.ok {k : Nat} {a0_0 : Int} {a0_1 : Int} {l0_2 : List S60} {l0_3 : List S91} {l1 : List Int} {r : Bool} (H : impl_IsInnerFirst.f k a0_0 a0_1 l0_2 l0_3 l1 = some r) : OkF Try.prog 33 [.agg [.d (.v (.int .i64 a0_0)), .d (.v (.int .i64 a0_1)), .d (.row 61 (l0_2.map c60)), .d (.row 96 (l0_3.map c91))], vR 2 (l1.map c2)] [] (.c (.d (.v (.bool r)))) [] := by
  unfold impl_IsInnerFirst.f at H
  refine OkF.of (N := 39) (rs := [4]) (avs := [.c (.d (.v (.bool r)))]) Try.func33 rfl rfl (fun _ _ => results_tmp rfl _ _ _) (by decide) rfl rfl rfl rfl (fun w0 S => ?_)
  refine AG.seq ?_
  refine AG.region HM ?_
  refine a_box 200 ?_
  refine a_move (v := vB _) ?_
  refine RA.nil nofun ?_
  refine AG.seq ?_
  refine AG.seq ?_
  refine AG.region HM ?_
  refine a_ldB (v := .agg [_, _, _, _]) ?_ T32
  obtain ⟨t1, e2, H⟩ := bindO H
  refine a_call (v := vB t1) (nk := []) (L := []) ?_ rfl (impl_ValidDrawing.ok e2) id (qg qn) trivial trivial trivial rfl
  refine a_un (u := .bool (!t1)) ?_
  refine RA.nil nofun ?_
  by_cases hc3 : t1 = true
  · rw [if_pos hc3] at H
    refine AG.no rfl (congrArg Bool.not hc3) ?_
    refine AG.skip ?_
    refine AG.seq ?_
    refine AG.region HM ?_
    refine a_ldB (v := .agg [_, _, _, _]) ?_ T32
    obtain ⟨t4, e5, H⟩ := bindO H
    refine a_call (v := .c (.own 202 t4.length)) (nk := [(202, .row 2 (t4.map c2))]) (L := []) ?_ rfl (impl_edgeDepths.ok e5) (fun κ => cond (Nat.beq κ 202) 100 (κ)) (qg qn) trivial ⟨rfl, trivial⟩ ⟨rfl, trivial⟩ rfl
    refine a_move (v := .c (.own _ _)) ?_
    refine RA.nil nofun ?_
    refine AG.seq ?_
    refine AG.seq ?_
    refine AG.region HM ?_
    refine a_move (v := vR _ _) ?_
    refine a_move (v := .c (.own _ _)) ?_
    refine a_lenO ?_ Try.underlying38
    obtain ⟨t6, e7, H⟩ := bindO H
    refine a_call (v := vB t6) (nk := []) (L := []) ?_ rfl (impl_isOrder.ok e7) id (qd (qd qn)) trivial trivial trivial rfl
    refine a_un (u := .bool (!t6)) ?_
    refine RA.nil nofun ?_
    by_cases hc8 : t6 = true
    · rw [if_pos hc8] at H
      refine AG.no rfl (congrArg Bool.not hc8) ?_
      refine AG.skip ?_
      refine AG.seq ?_
      refine AG.seq ?_
      refine AG.region HM ?_
      refine a_move (v := vI _) ?_
      refine RA.nil nofun ?_
      refine AG.block ?_
      refine AG.loop ?_
      obtain ⟨K0, hK0, gK0⟩ : ∃ K, k ≤ K ∧ K ≤ k := ⟨k, Nat.le_refl k, Nat.le_refl k⟩
      refine AGr.canon (fun κ => cond (Nat.beq κ 204) 202 (κ)) (AGr.loopI (n := k) (fun k s => k ≤ K0 ∧ ∃ (x1 : List Int) (x5 : List Int) (x6 : Int), impl_IsInnerFirst.l0 k x1 x5 x6 = some r ∧ s = St.of [(1, vR 2 (x1.map c2)), (5, .c (.own 204 x5.length)), (6, vI x6)] [(204, .row 2 (x5.map c2))]) ⟨hK0, _, _, _, H, rfl⟩ ?_ ?_) ⟨rfl, rfl, rfl, trivial⟩ ⟨rfl, trivial⟩ rfl
      · rintro _ ⟨_, _, _, _, H, _⟩
        cases H
      · clear H hK0
        rintro k ih0 _ ⟨hK0, x1, x5, x6, H, rfl⟩
        unfold impl_IsInnerFirst.l0 at H
        refine AG.seq ?_
        refine AG.seq ?_
        refine AG.region HM ?_
        refine a_move (v := vI _) ?_
        refine a_move (v := vR _ _) ?_
        refine a_lenR ?_ Try.underlying38
        refine a_int (u := .bool (decide (x6 < (x1.length : Int)))) ?_
        refine RA.nil nofun ?_
        by_cases hc9 : x6 < (x1.length : Int)
        · rw [if_pos hc9] at H
          refine AG.yes rfl (decide_eq_true hc9) ?_
          refine AG.skip ?_
          refine AG.seq ?_
          refine AG.block ?_
          refine AG.seq ?_
          refine AG.region HM ?_
          refine a_move (v := .c (.own _ _)) ?_
          refine a_move (v := vR _ _) ?_
          refine a_move (v := vI _) ?_
          refine a_int (u := .int .i64 (wrap64 (x6 - 1))) ?_
          by_cases hc10 : 0 ≤ (wrap64 (x6 - 1))
          · rw [if_pos hc10] at H
            by_cases hc11 : (wrap64 (x6 - 1)) < (x1.length : Int)
            · rw [if_pos hc11] at H
              refine a_ixR (el := c2 (rd2 x1 (wrap64 (x6 - 1)))) ?_ ⟨hc10, hc11⟩ T2 Try.underlying38 (hel := R2 hc10 hc11)
              refine a_ldR (v := vI _) ?_ T2
              by_cases hc12 : 0 ≤ (rd2 x1 (wrap64 (x6 - 1)))
              · rw [if_pos hc12] at H
                by_cases hc13 : (rd2 x1 (wrap64 (x6 - 1))) < (x5.length : Int)
                · rw [if_pos hc13] at H
                  refine a_ixO ?_ ⟨hc12, hc13⟩ T2 Try.underlying38
                  refine a_ldE (v := vI _) ?_ (G2 hc12 hc13) T2
                  refine a_move (v := .c (.own _ _)) ?_
                  refine a_move (v := vR _ _) ?_
                  refine a_move (v := vI _) ?_
                  by_cases hc14 : 0 ≤ x6
                  · rw [if_pos hc14] at H
                    refine a_ixR (el := c2 (rd2 x1 x6)) ?_ ⟨hc14, hc9⟩ T2 Try.underlying38 (hel := R2 hc14 hc9)
                    refine a_ldR (v := vI _) ?_ T2
                    by_cases hc15 : 0 ≤ (rd2 x1 x6)
                    · rw [if_pos hc15] at H
                      by_cases hc16 : (rd2 x1 x6) < (x5.length : Int)
                      · rw [if_pos hc16] at H
                        refine a_ixO ?_ ⟨hc15, hc16⟩ T2 Try.underlying38
                        refine a_ldE (v := vI _) ?_ (G2 hc15 hc16) T2
                        refine a_int (u := .bool (decide ((rd2 x5 (rd2 x1 (wrap64 (x6 - 1)))) < (rd2 x5 (rd2 x1 x6))))) ?_
                        refine RA.nil (fun _ => by kernel_rfl) ?_
                        by_cases hc17 : (rd2 x5 (rd2 x1 (wrap64 (x6 - 1)))) < (rd2 x5 (rd2 x1 x6))
                        · rw [if_pos hc17] at H
                          refine AG.yes rfl (decide_eq_true hc17) ?_
                          refine AG.seq ?_
                          refine AG.region HM ?_
                          refine a_move (v := vB _) ?_
                          refine RA.nil nofun ?_
                          refine AG.ret ?_
                          obtain rfl := Option.some.inj H
                          exact RetP.mk id ⟨rfl, trivial⟩ trivial rfl
                        · rw [if_neg hc17] at H
                          refine AG.no rfl (decide_eq_false hc17) ?_
                          refine AG.skip ?_
                          refine AG.region HM ?_
                          refine a_move (v := vI _) ?_
                          refine a_int (u := .int .i64 (wrap64 (x6 + 1))) ?_
                          refine a_move (v := vI _) ?_
                          refine RA.nil nofun ?_
                          exact AGr.canon id (ih0 _ (by omega) _ ⟨by omega, _, _, _, H, rfl⟩) ⟨rfl, rfl, rfl, trivial⟩ ⟨rfl, trivial⟩ rfl
                      · rw [if_neg hc16] at H
                        cases H
                    · rw [if_neg hc15] at H
                      cases H
                  · rw [if_neg hc14] at H
                    cases H
                · rw [if_neg hc13] at H
                  cases H
              · rw [if_neg hc12] at H
                cases H
            · rw [if_neg hc11] at H
              cases H
          · rw [if_neg hc10] at H
            cases H
        · rw [if_neg hc9] at H
          refine AG.no rfl (decide_eq_false hc9) ?_
          refine AG.exit ?_
          refine AG.seq ?_
          refine AG.region HM ?_
          refine a_move (v := vB _) ?_
          refine RA.nil nofun ?_
          refine AG.ret ?_
          obtain rfl := Option.some.inj H
          exact RetP.mk id ⟨rfl, trivial⟩ trivial rfl
    · rw [if_neg hc8] at H
      refine AG.yes rfl (congrArg Bool.not (Bool.eq_false_iff.2 hc8)) ?_
      refine AG.seq ?_
      refine AG.region HM ?_
      refine a_move (v := vB _) ?_
      refine RA.nil nofun ?_
      refine AG.ret ?_
      obtain rfl := Option.some.inj H
      exact RetP.mk id ⟨rfl, trivial⟩ trivial rfl
  · rw [if_neg hc3] at H
    refine AG.yes rfl (congrArg Bool.not (Bool.eq_false_iff.2 hc3)) ?_
    refine AG.seq ?_
    refine AG.region HM ?_
    refine a_move (v := vB _) ?_
    refine RA.nil nofun ?_
    refine AG.ret ?_
    obtain rfl := Option.some.inj H
    exact RetP.mk id ⟨rfl, trivial⟩ trivial rfl
/-! ### laws_FnExactIsInnerFirst: function 9 -/
def laws_FnExactIsInnerFirst.f (k : Nat) (a0_0 : Int) (a0_1 : Int) (l0_2 : List S60) (l0_3 : List S91) (l1 : List Int) : Option (Bool) := if (l1.length : Int) > 1048576 then (some true) else ((laws_szDrawing.f k a0_0 a0_1 l0_2 l0_3 1048576).bind fun t2 => (if t2 < 0 then (some true) else ((laws_toDrawing.f k a0_0 a0_1 l0_2 l0_3).bind fun bt5 => ((laws_toInt64S.f k l1).bind fun t10 => ((spec_IsInnerFirst.f k bt5.1 bt5.2.1 bt5.2.2.1 bt5.2.2.2 t10).bind fun t12 => ((laws_toDrawing.f k a0_0 a0_1 l0_2 l0_3).bind fun bt14 => ((laws_toInt64S.f k l1).bind fun t19 => ((impl_IsInnerFirst.f k bt14.1 bt14.2.1 bt14.2.2.1 bt14.2.2.2 t19).bind fun t21 => (if (t21 == t12) = true then ((laws_toDrawing.f k a0_0 a0_1 l0_2 l0_3).bind fun bt24 => ((laws_eqDrawing.f k bt14.1 bt14.2.1 bt14.2.2.1 bt14.2.2.2 bt24.1 bt24.2.1 bt24.2.2.1 bt24.2.2.2).bind fun t29 => (if t29 = true then ((laws_toInt64S.f k l1).bind fun t32 => ((laws_eqInt64S.f k t19 t32).bind fun t34 => (if t34 = true then (some true) else (some false)))) else (some false)))) else (some false))))))))))
set_option maxRecDepth 100000 in
theorem laws_FnExactIsInnerFirst.ok {k : Nat} {a0_0 : Int} {a0_1 : Int} {l0_2 : List S60} {l0_3 : List S91} {l1 : List Int} {r : Bool} (H : laws_FnExactIsInnerFirst.f k a0_0 a0_1 l0_2 l0_3 l1 = some r) : OkF Try.prog 9 [.agg [.d (.v (.int .i64 a0_0)), .d (.v (.int .i64 a0_1)), .d (.row 95 (l0_2.map c60)), .d (.row 92 (l0_3.map c91))], vR 2 (l1.map c2)] [] (.c (.d (.v (.bool r)))) [] := by
  unfold laws_FnExactIsInnerFirst.f at H
  refine OkF.of (N := 43) (rs := [4]) (avs := [.c (.d (.v (.bool r)))]) Try.func9 rfl rfl (fun _ _ => results_tmp rfl _ _ _) (by decide) rfl rfl rfl rfl (fun w0 S => ?_)
  refine AG.seq ?_
  refine AG.region HM ?_
  refine a_box 200 ?_
  refine a_move (v := vB _) ?_
  refine RA.nil nofun ?_
  refine AG.seq ?_
  refine AG.seq ?_
  refine AG.region HM ?_
  refine a_move (v := vR _ _) ?_
  refine a_lenR ?_ Try.underlying38
  refine a_int (u := .bool (decide ((l1.length : Int) > 1048576))) ?_
  refine RA.nil nofun ?_
  by_cases hc1 : (l1.length : Int) > 1048576
  · rw [if_pos hc1] at H
    refine AG.yes rfl (decide_eq_true hc1) ?_
    refine AG.seq ?_
    refine AG.region HM ?_
    refine a_move (v := vB _) ?_
    refine RA.nil nofun ?_
    refine AG.ret ?_
    obtain rfl := Option.some.inj H
    exact RetP.mk id ⟨rfl, trivial⟩ trivial rfl
  · rw [if_neg hc1] at H
    refine AG.no rfl (decide_eq_false hc1) ?_
    refine AG.skip ?_
    refine AG.seq ?_
    refine AG.region HM ?_
    refine a_move (v := vI _) ?_
    refine RA.nil nofun ?_
    refine AG.seq ?_
    refine AG.region HM ?_
    refine a_ldB (v := .agg [_, _, _, _]) ?_ T25
    refine a_move (v := vI _) ?_
    obtain ⟨t2, e3, H⟩ := bindO H
    refine a_call (v := vI t2) (nk := []) (L := []) ?_ rfl (laws_szDrawing.ok e3) id (qg (qd qn)) trivial trivial trivial rfl
    refine a_move (v := vI _) ?_
    refine RA.nil nofun ?_
    refine AG.seq ?_
    refine AG.seq ?_
    refine AG.region HM ?_
    refine a_move (v := vI _) ?_
    refine a_int (u := .bool (decide (t2 < 0))) ?_
    refine RA.nil nofun ?_
    by_cases hc4 : t2 < 0
    · rw [if_pos hc4] at H
      refine AG.yes rfl (decide_eq_true hc4) ?_
      refine AG.seq ?_
      refine AG.region HM ?_
      refine a_move (v := vB _) ?_
      refine RA.nil nofun ?_
      refine AG.ret ?_
      obtain rfl := Option.some.inj H
      exact RetP.mk id ⟨rfl, trivial⟩ trivial rfl
    · rw [if_neg hc4] at H
      refine AG.no rfl (decide_eq_false hc4) ?_
      refine AG.skip ?_
      refine AG.seq ?_
      refine AG.region HM ?_
      refine a_ldB (v := .agg [_, _, _, _]) ?_ T25
      obtain ⟨⟨t5, t6, t7, t8⟩, e9, H⟩ := bindO H
      refine a_call (v := .agg [.d (.v (.int .i64 t5)), .d (.v (.int .i64 t6)), .own 202 t7.length, .own 203 t8.length]) (nk := [(202, .row 61 (t7.map c60)), (203, .row 96 (t8.map c91))]) (L := []) ?_ rfl (laws_toDrawing.ok e9) (fun κ => cond (Nat.beq κ 202) 100 (cond (Nat.beq κ 203) 101 (κ))) (qg qn) trivial ⟨rfl, rfl, trivial⟩ ⟨rfl, rfl, trivial⟩ rfl
      refine a_move (v := vR _ _) ?_
      obtain ⟨t10, e11, H⟩ := bindO H
      refine a_call (v := .c (.own 204 t10.length)) (nk := [(204, .row 2 (t10.map c2))]) (L := []) ?_ rfl (laws_toInt64S.ok e11) (fun κ => cond (Nat.beq κ 204) 100 (κ)) (qd qn) trivial ⟨rfl, trivial⟩ ⟨rfl, trivial⟩ rfl
      obtain ⟨t12, e13, H⟩ := bindO H
      refine a_call (v := vB t12) (nk := []) (L := [(202, _), (203, _), (204, _)]) ?_ rfl (spec_IsInnerFirst.ok e13) id (qm (eD (eD (eC rO (eC rO eN)))) (qc rO qn)) ⟨rfl, rfl, rfl, trivial⟩ trivial trivial rfl
      refine a_move (v := vB _) ?_
      refine RA.nil nofun ?_
      refine AG.seq ?_
      refine AG.freeze 203 ?_
      refine AG.region HM ?_
      refine a_ldB (v := .agg [_, _, _, _]) ?_ T25
      obtain ⟨⟨t14, t15, t16, t17⟩, e18, H⟩ := bindO H
      refine a_call (v := .agg [.d (.v (.int .i64 t14)), .d (.v (.int .i64 t15)), .own 206 t16.length, .own 207 t17.length]) (nk := [(206, .row 61 (t16.map c60)), (207, .row 96 (t17.map c91))]) (L := []) ?_ rfl (laws_toDrawing.ok e18) (fun κ => cond (Nat.beq κ 206) 100 (cond (Nat.beq κ 207) 101 (κ))) (qg qn) trivial ⟨rfl, rfl, trivial⟩ ⟨rfl, rfl, trivial⟩ rfl
      refine a_alloc (cs := [_, _, _, _]) 208 ?_ T32
      refine a_stB (cs' := [_, _, _, _]) ?_ T32
      refine RA.nil nofun ?_
      refine AG.seq ?_
      refine AG.freeze 207 ?_
      refine AG.region HM ?_
      refine a_move (v := vR _ _) ?_
      obtain ⟨t19, e20, H⟩ := bindO H
      refine a_call (v := .c (.own 209 t19.length)) (nk := [(209, .row 2 (t19.map c2))]) (L := []) ?_ rfl (laws_toInt64S.ok e20) (fun κ => cond (Nat.beq κ 209) 100 (κ)) (qd qn) trivial ⟨rfl, trivial⟩ ⟨rfl, trivial⟩ rfl
      refine a_move (v := .c (.own _ _)) ?_
      refine RA.nil nofun ?_
      refine AG.seq ?_
      refine AG.region HM ?_
      refine a_ldB (v := .agg [_, _, _, _]) ?_ T32
      refine a_move (v := .c (.own _ _)) ?_
      obtain ⟨t21, e22, H⟩ := bindO H
      refine a_call (v := vB t21) (nk := []) (L := [(206, _), (209, _)]) ?_ rfl (impl_IsInnerFirst.ok e22) id (qm (eD (eD (eC rO (eD eN)))) (qc rO qn)) ⟨rfl, rfl, trivial⟩ trivial trivial rfl
      refine a_move (v := vB _) ?_
      refine RA.nil nofun ?_
      refine AG.seq ?_
      refine AG.seq ?_
      refine AG.region HM ?_
      refine a_move (v := vB _) ?_
      refine a_move (v := vB _) ?_
      refine a_binB (p := t21) (q := t12) (b := (!(t21 == t12))) ?_ Try.underlying4 (.inr ⟨rfl, rfl⟩)
      refine RA.nil nofun ?_
      by_cases hc23 : (t21 == t12) = true
      · rw [if_pos hc23] at H
        refine AG.no rfl (by rw [show (t21 == t12) = true from hc23]; rfl) ?_
        refine AG.skip ?_
        refine AG.seq ?_
        refine AG.seq ?_
        refine AG.region HM ?_
        refine a_ldB (v := .agg [_, _, _, _]) ?_ T32
        refine a_ldB (v := .agg [_, _, _, _]) ?_ T25
        obtain ⟨⟨t24, t25, t26, t27⟩, e28, H⟩ := bindO H
        refine a_call (v := .agg [.d (.v (.int .i64 t24)), .d (.v (.int .i64 t25)), .own 211 t26.length, .own 212 t27.length]) (nk := [(211, .row 61 (t26.map c60)), (212, .row 96 (t27.map c91))]) (L := []) ?_ rfl (laws_toDrawing.ok e28) (fun κ => cond (Nat.beq κ 211) 100 (cond (Nat.beq κ 212) 101 (κ))) (qg qn) trivial ⟨rfl, rfl, trivial⟩ ⟨rfl, rfl, trivial⟩ rfl
        obtain ⟨t29, e30, H⟩ := bindO H
        refine a_call (v := vB t29) (nk := []) (L := [(206, _), (211, _), (212, _)]) ?_ rfl (laws_eqDrawing.ok e30) id (qm (eD (eD (eC rO (eD eN)))) (qm (eD (eD (eC rO (eC rO eN)))) qn)) ⟨rfl, rfl, rfl, trivial⟩ trivial trivial rfl
        refine a_un (u := .bool (!t29)) ?_
        refine RA.nil (fun _ => by kernel_rfl) ?_
        by_cases hc31 : t29 = true
        · rw [if_pos hc31] at H
          refine AG.no rfl (congrArg Bool.not hc31) ?_
          refine AG.skip ?_
          refine AG.seq ?_
          refine AG.seq ?_
          refine AG.freeze 212 ?_
          refine AG.region HM ?_
          refine a_move (v := .c (.own _ _)) ?_
          refine a_move (v := vR _ _) ?_
          obtain ⟨t32, e33, H⟩ := bindO H
          refine a_call (v := .c (.own 214 t32.length)) (nk := [(214, .row 2 (t32.map c2))]) (L := []) ?_ rfl (laws_toInt64S.ok e33) (fun κ => cond (Nat.beq κ 214) 100 (κ)) (qd qn) trivial ⟨rfl, trivial⟩ ⟨rfl, trivial⟩ rfl
          obtain ⟨t34, e35, H⟩ := bindO H
          refine a_call (v := vB t34) (nk := []) (L := [(209, _), (214, _)]) ?_ rfl (laws_eqInt64S.ok e35) id (qc rO (qc rO qn)) ⟨rfl, rfl, trivial⟩ trivial trivial rfl
          refine a_un (u := .bool (!t34)) ?_
          refine RA.nil nofun ?_
          by_cases hc36 : t34 = true
          · rw [if_pos hc36] at H
            refine AG.no rfl (congrArg Bool.not hc36) ?_
            refine AG.skip ?_
            refine AG.seq ?_
            refine AG.region HM ?_
            refine a_move (v := vB _) ?_
            refine RA.nil nofun ?_
            refine AG.ret ?_
            obtain rfl := Option.some.inj H
            exact RetP.mk id ⟨rfl, trivial⟩ trivial rfl
          · rw [if_neg hc36] at H
            refine AG.yes rfl (congrArg Bool.not (Bool.eq_false_iff.2 hc36)) ?_
            refine AG.seq ?_
            refine AG.region HM ?_
            refine a_move (v := vB _) ?_
            refine RA.nil nofun ?_
            refine AG.ret ?_
            obtain rfl := Option.some.inj H
            exact RetP.mk id ⟨rfl, trivial⟩ trivial rfl
        · rw [if_neg hc31] at H
          refine AG.yes rfl (congrArg Bool.not (Bool.eq_false_iff.2 hc31)) ?_
          refine AG.seq ?_
          refine AG.freeze 212 ?_
          refine AG.region HM ?_
          refine a_move (v := vB _) ?_
          refine RA.nil nofun ?_
          refine AG.ret ?_
          obtain rfl := Option.some.inj H
          exact RetP.mk id ⟨rfl, trivial⟩ trivial rfl
      · rw [if_neg hc23] at H
        refine AG.yes rfl (by rw [Bool.eq_false_iff.2 hc23]; rfl) ?_
        refine AG.seq ?_
        refine AG.region HM ?_
        refine a_move (v := vB _) ?_
        refine RA.nil nofun ?_
        refine AG.ret ?_
        obtain rfl := Option.some.inj H
        exact RetP.mk id ⟨rfl, trivial⟩ trivial rfl
def B60 (x : S60) : Prop := (Lit.int .i64 x.f0).wf = true ∧ (Lit.int .i64 x.f1).wf = true
def B91 (x : S91) : Prop := x.f0.size ≤ maxLen ∧ (x.f1.length ≤ maxLen ∧ ∀ x_ ∈ x.f1, (Lit.int .i64 x_).wf = true)
def B24 (x : S24) : Prop := (Lit.int .i64 x.f0).wf = true ∧ (Lit.int .i64 x.f1).wf = true ∧ (x.f2.length ≤ maxLen ∧ ∀ x_ ∈ x.f2, B60 x_) ∧ (x.f3.length ≤ maxLen ∧ ∀ x_ ∈ x.f3, B91 x_)
/-- The one plain statement of laws_FnExactIsInnerFirst. -/
def laws_FnExactIsInnerFirst.Pure : Prop := ∀ (a0_0 : Int) (a0_1 : Int) (l0_2 : List S60) (l0_3 : List S91) (l1 : List Int), B24 (⟨a0_0, a0_1, l0_2, l0_3⟩ : S24) → (l1.length ≤ maxLen ∧ ∀ x_ ∈ l1, (Lit.int .i64 x_).wf = true) → ∃ k, laws_FnExactIsInnerFirst.f k a0_0 a0_1 l0_2 l0_3 l1 = some true
end Go.Proofs.Ytanbgmnhbncapaa.PFnExactIsInnerFirst
